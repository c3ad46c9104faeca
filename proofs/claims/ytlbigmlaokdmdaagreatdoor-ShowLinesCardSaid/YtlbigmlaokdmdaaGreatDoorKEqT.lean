/- The kit's EqualTree in general, EqualStrings and CopyTree; the statements' Few. The statement's own 'reads' and 'awake' of chapter 10. -/
import Derived.Test.YtlbigmlaokdmdaaGreatDoorKNdG
import Derived.Test.YtlbigmlaokdmdaaGreatDoorKAddrP
import Derived.Test.YtlbigmlaokdmdaaGreatDoorKOut
import Derived.Test.YtlbigmlaokdmdaaGreatDoorKForB
import Derived.Test.YtlbigmlaokdmdaaGreatDoorKTxt
namespace Go.Proofs.YtlbigmlaokdmdaaGreatDoor
open Go.RowKit
attribute [local go_sem high] eq_node
open Classical in
noncomputable def eqA (t u : List NdA) : Bool:=decide (t = u)
open Classical in
theorem eqA_yes (t : List NdA) : eqA t t = true:=decide_eq_true rfl
open Classical in
theorem eqA_no {t u : List NdA} (h : t ≠ u) : eqA t u = false:=decide_eq_false h
open Classical in
theorem eqA_iff (t u : List NdA) : eqA t u = true ↔ t = u:=decide_eq_true_iff
theorem cells_below {w0 w : World} {b o : Nat} {l : List Value} (hb : Below w0.heap.size w0 w) (hlt : b < w0.heap.size) (h : ∀ j v,l[j]? = some v → w0.cell? ⟨b,o + j,none⟩ = some v) : b < w.heap.size ∧ cellsFrom w b o 0 l :=
 ⟨Nat.lt_of_lt_of_le hlt hb.size,cells_of l fun j v hj => (hb.cell hlt).trans (h j v hj)⟩
theorem rows_at {w : World} {a : Option Addr} {s : Nat} {l : List (List Value)} (h : RowsAt w a s l) {i : Nat} {r : List Value} (hi : l[i]? = some r) : ∃ b o,a = some ⟨b,o,none⟩ ∧ b < w.heap.size ∧ ∀ j v,r[j]? = some v → w.cell? ⟨b,o + i * s + j,none⟩ = some v:=by
 obtain ⟨b,o,h1,h2,h3⟩:=h (by intro e; rw [e] at hi; cases hi)
 exact ⟨b,o,h1,h2,fun j v hj => by rw [Nat.add_assoc]; exact h3 i r hi j v hj⟩
set_option maxRecDepth 100000 in
set_option maxHeartbeats 4000000 in
theorem equal_treeA (t u : List NdA) (a b : Option Addr) (c d : Nat) (w : World) (ht : t.length ≤ 1000) (hu : u.length ≤ 1000) (ha : RowsAt w a 11 (t.map aRow)) (hb : RowsAt w b 11 (u.map aRow)) :
  Calls Tryz.prog 16 #[.slice a t.length c,.slice b u.length d] w fun e w' => e = .returned (.bool (eqA t u)) ∧ Below w.heap.size w w':=by
 have HA:=keep ha
 have HB:=keep hb
 clear ha hb
 obtain ⟨V,hV⟩ : ∃ V,eqA t u = V:=⟨_,rfl⟩
 rw [hV]
 have HV:=keep hV
 clear hV
 obtain ⟨n,hn⟩ : ∃ n,t.length = n:=⟨_,rfl⟩
 obtain ⟨m,hm⟩ : ∃ m,u.length = m:=⟨_,rfl⟩
 rw [hn,hm]
 have HN:=keep hn
 have HM:=keep hm
 rw [hn] at ht
 rw [hm] at hu
 clear hn hm
 by_cases hnm : n = m
 rotate_left
 ·have hne : ((n : Int) != (m : Int)) = true:=by simp; omega
  have HE:=keep (show V = false from HV.out.symm.trans (eqA_no (by rintro rfl; exact hnm (HN.out.symm.trans HM.out))))
  clear hnm
  go_enter Tryz.func16,Tryz.ntmps16
  go_wp2_with fail
  go_ret
  exact ⟨by rw [HE.out]; rfl,Below.refl _ _⟩
 subst hnm
 go_enter Tryz.func16,Tryz.ntmps16
 go_wp2_with fail
 go_loopw [5] (fun i wr => ∃ k : Nat,k ≤ n ∧ i = .int .i64 (k : Int) ∧ Keep (t.take k = u.take k) ∧ Hid (Below w.heap.size w wr)) (fun i _ => n - (intOf i).toNat)
 case atStart => exact ⟨0,Nat.zero_le _,rfl,keep rfl,Below.refl _ _⟩
 case round =>
  obtain ⟨k,hk,rfl,HEQ,H2⟩:=hrel
  obtain ⟨wp,rfl⟩ : ∃ wp : World,wp = wr:=⟨_,rfl⟩
  by_cases hlt : (k : Int) < n
  ·have hil : k < t.length:=by rw [HN.out]; omega
   have hil2 : k < u.length:=by rw [HM.out]; omega
   obtain ⟨x,hx⟩ : ∃ x,t[k] = x:=⟨_,rfl⟩
   obtain ⟨y,hy⟩ : ∃ y,u[k] = y:=⟨_,rfl⟩
   have HST:=keep (show x = y → t.take (k + 1) = u.take (k + 1) from fun e => by rw [List.take_succ_eq_append_getElem hil,List.take_succ_eq_append_getElem hil2,HEQ.out,hx,hy,e])
   have HNE:=keep (show x ≠ y → V = false from fun e => HV.out.symm.trans (eqA_no (by rintro rfl; exact e (hx.symm.trans hy))))
   obtain ⟨b1,o1,ha1,hB1,hc1⟩:=rows_at HA.out (i:=k) (r:=aRow x) (by rw [List.getElem?_map,List.getElem?_eq_getElem hil,hx]; rfl)
   obtain ⟨b2,o2,hb2,hB2,hc2⟩:=rows_at HB.out (i:=k) (r:=aRow y) (by rw [List.getElem?_map,List.getElem?_eq_getElem hil2,hy]; rfl)
   subst ha1 hb2
   have q1:=cells_below H2.out hB1 hc1
   have q2:=cells_below H2.out hB2 hc2
   clear hil hil2 hx hy hc1 hc2
   obtain ⟨xk,xvk,xvn,xvt,⟨xr1,xr2,xr3,xr4⟩,xop,xfn,xn⟩:=x
   obtain ⟨yk,yvk,yvn,yvt,⟨yr1,yr2,yr3,yr4⟩,yop,yfn,yn⟩:=y
   obtain ⟨q,hq⟩ : ∃ q,eq11 xk xvk xvn xr1 xr2 xr3 xr4 xop xfn xn yk yvk yvn yr1 yr2 yr3 yr4 yop yfn yn xvt yvt = q:=⟨_,rfl⟩
   have HQ:=keep hq
   have H3 : Hid (Ok w [kCells b1 (o1 + k * 11) [.int .u8 xk,.int .u8 xvk,.int .i64 xvn,.string ⟨xvt.toArray⟩,.int .i64 xr1,.int .i64 xr2,.int .i64 xr3,.int .i64 xr4,.int .i64 xop,.int .u8 xfn,.int .i64 xn],kCells b2 (o2 + k * 11) [.int .u8 yk,.int .u8 yvk,.int .i64 yvn,.string ⟨yvt.toArray⟩,.int .i64 yr1,.int .i64 yr2,.int .i64 yr3,.int .i64 yr4,.int .i64 yop,.int .u8 yfn,.int .i64 yn]] wp):=Lib.hid (((⟨H2.out,fun _ h => absurd h (by simp)⟩ : Ok w [] wp).add (kCells b2 (o2 + k * 11) [.int .u8 yk,.int .u8 yvk,.int .i64 yvn,.string ⟨yvt.toArray⟩,.int .i64 yr1,.int .i64 yr2,.int .i64 yr3,.int .i64 yr4,.int .i64 yop,.int .u8 yfn,.int .i64 yn]) q2).add (kCells b1 (o1 + k * 11) [.int .u8 xk,.int .u8 xvk,.int .i64 xvn,.string ⟨xvt.toArray⟩,.int .i64 xr1,.int .i64 xr2,.int .i64 xr3,.int .i64 xr4,.int .i64 xop,.int .u8 xfn,.int .i64 xn]) q1)
   clear H2 q1 q2
   cases q
   ·have HE:=keep (HNE.out fun e => by
     injection e with e1 e2 e3 e4 e5 e6 e7 e8
     injection e5 with f1 f2 f3 f4
     have:=(eq11_iff xk xvk xvn xr1 xr2 xr3 xr4 xop xfn xn yk yvk yvn yr1 yr2 yr3 yr4 yop yfn yn xvt yvt).2 ⟨by omega,by omega,e3,e4,f1,f2,f3,f4,e6,by omega,e8⟩
     rw [HQ.out] at this; cases this)
    go_upto_region 6 with fail
    refine wp_region_held_drew (S:=fun W => Ok w [kCells b1 (o1 + k * 11) [.int .u8 xk,.int .u8 xvk,.int .i64 xvn,.string ⟨xvt.toArray⟩,.int .i64 xr1,.int .i64 xr2,.int .i64 xr3,.int .i64 xr4,.int .i64 xop,.int .u8 xfn,.int .i64 xn],kCells b2 (o2 + k * 11) [.int .u8 yk,.int .u8 yvk,.int .i64 yvn,.string ⟨yvt.toArray⟩,.int .i64 yr1,.int .i64 yr2,.int .i64 yr3,.int .i64 yr4,.int .i64 yop,.int .u8 yfn,.int .i64 yn]] W) (by kernel_rfl) H3.out.drew (fun hHeld => ?_)
    refine wtg (i:=0) (v:=?a1) rfl ?b1 (by assumption) ?c1
    case b1 => (intro w hSw; have F:=Ok.sees hSw; clear hSw; simp only [sees,kCells,cellsFrom,Nat.add_zero,Nat.reduceAdd] at F; go_simp; try with_reducible rfl)
    try simp only [Act.put,wp1,wp2,wp3,wp4,wp6]
    refine wtg (i:=1) (v:=?a3) rfl ?b3 (by assumption) ?c3
    case b3 => (intro w hSw; have F:=Ok.sees hSw; clear hSw; simp only [sees,kCells,cellsFrom,Nat.add_zero,Nat.reduceAdd] at F; go_simp; try with_reducible rfl)
    try simp only [Act.put,wp1,wp2,wp3,wp4,wp5,wp6]
    refine wtg (i:=2) (v:=?a5) rfl ?b5 (by assumption) ?c5
    case b5 => (intro w hSw; have F:=Ok.sees hSw; clear hSw; simp only [sees,kCells,cellsFrom,Nat.add_zero,Nat.reduceAdd] at F; go_simp; try with_reducible rfl)
    try simp only [Act.put,wp1,wp2,wp3,wp4,wp5,wp6]
    refine wtg (i:=3) (v:=?a7) rfl ?b7 (by assumption) ?c7
    case b7 => (intro w hSw; have F:=Ok.sees hSw; clear hSw; simp only [sees,kCells,cellsFrom,Nat.add_zero,Nat.reduceAdd] at F; go_simp; try with_reducible rfl)
    try simp only [Act.put,wp1,wp2,wp3,wp4,wp5,wp6]
    refine wtg (i:=4) (v:=?a9) rfl ?b9 (by assumption) ?c9
    case b9 => (intro w hSw; have F:=Ok.sees hSw; clear hSw; simp only [sees,kCells,cellsFrom,Nat.add_zero,Nat.reduceAdd] at F; go_simp; try with_reducible rfl)
    try simp only [Act.put,wp1,wp2,wp3,wp4,wp5,wp6]
    refine wtg (i:=5) (v:=?a11) rfl ?b11 (by assumption) ?c11
    case b11 => (intro w hSw; have F:=Ok.sees hSw; clear hSw; simp only [sees,kCells,cellsFrom,Nat.add_zero,Nat.reduceAdd] at F; go_simp; try with_reducible rfl)
    try simp only [Act.put,wp1,wp2,wp3,wp4,wp5,wp6]
    refine wtg (i:=6) (v:=?a13) rfl ?b13 (by assumption) ?c13
    case b13 => (intro w hSw; have F:=Ok.sees hSw; clear hSw; simp only [sees,kCells,cellsFrom,Nat.add_zero,Nat.reduceAdd] at F; go_simp; try with_reducible rfl)
    try simp only [Act.put,wp1,wp2,wp3,wp4,wp5,wp6]
    refine wtg (i:=7) (v:=?a15) rfl ?b15 (by assumption) ?c15
    case b15 => (intro w hSw; have F:=Ok.sees hSw; clear hSw; simp only [sees,kCells,cellsFrom,Nat.add_zero,Nat.reduceAdd] at F; go_simp; try with_reducible rfl)
    try simp only [Act.put,wp1,wp2,wp3,wp4,wp5,wp6]
    refine wtg (i:=8) (v:=?a17) rfl ?b17 (by assumption) ?c17
    case b17 => (intro w hSw; have F:=Ok.sees hSw; clear hSw; simp only [sees,kCells,cellsFrom,Nat.add_zero,Nat.reduceAdd] at F; go_simp; try with_reducible rfl)
    try simp only [Act.put,wp1,wp2,wp3,wp4,wp5,wp6]
    refine wpAnyH_done (by kernel_rfl) ?_ _
    clear H3
    have H2:=Lib.hid hHeld
    clear hHeld
    go_wp2_with fail
    go_ret
    exact ⟨by rw [HE.out]; rfl,H2.out.bel⟩
   ·have HEE:=keep (HST.out (by
     obtain ⟨e1,e2,e3,e4,f1,f2,f3,f4,e6,e7,e8⟩:=(eq11_iff ..).1 HQ.out
     have e1 : xk = yk:=by omega
     have e2 : xvk = yvk:=by omega
     have e7 : xfn = yfn:=by omega
     rw [e1,e2,e3,e4,f1,f2,f3,f4,e6,e7,e8]))
    go_upto_region 6 with fail
    refine wp_region_held_drew (S:=fun W => Ok w [kCells b1 (o1 + k * 11) [.int .u8 xk,.int .u8 xvk,.int .i64 xvn,.string ⟨xvt.toArray⟩,.int .i64 xr1,.int .i64 xr2,.int .i64 xr3,.int .i64 xr4,.int .i64 xop,.int .u8 xfn,.int .i64 xn],kCells b2 (o2 + k * 11) [.int .u8 yk,.int .u8 yvk,.int .i64 yvn,.string ⟨yvt.toArray⟩,.int .i64 yr1,.int .i64 yr2,.int .i64 yr3,.int .i64 yr4,.int .i64 yop,.int .u8 yfn,.int .i64 yn]] W) (by kernel_rfl) H3.out.drew (fun hHeld => ?_)
    refine wtg (i:=0) (v:=?a19) rfl ?b19 (by assumption) ?c19
    case b19 => (intro w hSw; have F:=Ok.sees hSw; clear hSw; simp only [sees,kCells,cellsFrom,Nat.add_zero,Nat.reduceAdd] at F; go_simp; try with_reducible rfl)
    try simp only [Act.put,wp1,wp2,wp3,wp4,wp6]
    refine wtg (i:=1) (v:=?a21) rfl ?b21 (by assumption) ?c21
    case b21 => (intro w hSw; have F:=Ok.sees hSw; clear hSw; simp only [sees,kCells,cellsFrom,Nat.add_zero,Nat.reduceAdd] at F; go_simp; try with_reducible rfl)
    try simp only [Act.put,wp1,wp2,wp3,wp4,wp5,wp6]
    refine wtg (i:=2) (v:=?a23) rfl ?b23 (by assumption) ?c23
    case b23 => (intro w hSw; have F:=Ok.sees hSw; clear hSw; simp only [sees,kCells,cellsFrom,Nat.add_zero,Nat.reduceAdd] at F; go_simp; try with_reducible rfl)
    try simp only [Act.put,wp1,wp2,wp3,wp4,wp5,wp6]
    refine wtg (i:=3) (v:=?a25) rfl ?b25 (by assumption) ?c25
    case b25 => (intro w hSw; have F:=Ok.sees hSw; clear hSw; simp only [sees,kCells,cellsFrom,Nat.add_zero,Nat.reduceAdd] at F; go_simp; try with_reducible rfl)
    try simp only [Act.put,wp1,wp2,wp3,wp4,wp5,wp6]
    refine wtg (i:=4) (v:=?a27) rfl ?b27 (by assumption) ?c27
    case b27 => (intro w hSw; have F:=Ok.sees hSw; clear hSw; simp only [sees,kCells,cellsFrom,Nat.add_zero,Nat.reduceAdd] at F; go_simp; try with_reducible rfl)
    try simp only [Act.put,wp1,wp2,wp3,wp4,wp5,wp6]
    refine wtg (i:=5) (v:=?a29) rfl ?b29 (by assumption) ?c29
    case b29 => (intro w hSw; have F:=Ok.sees hSw; clear hSw; simp only [sees,kCells,cellsFrom,Nat.add_zero,Nat.reduceAdd] at F; go_simp; try with_reducible rfl)
    try simp only [Act.put,wp1,wp2,wp3,wp4,wp5,wp6]
    refine wtg (i:=6) (v:=?a31) rfl ?b31 (by assumption) ?c31
    case b31 => (intro w hSw; have F:=Ok.sees hSw; clear hSw; simp only [sees,kCells,cellsFrom,Nat.add_zero,Nat.reduceAdd] at F; go_simp; try with_reducible rfl)
    try simp only [Act.put,wp1,wp2,wp3,wp4,wp5,wp6]
    refine wtg (i:=7) (v:=?a33) rfl ?b33 (by assumption) ?c33
    case b33 => (intro w hSw; have F:=Ok.sees hSw; clear hSw; simp only [sees,kCells,cellsFrom,Nat.add_zero,Nat.reduceAdd] at F; go_simp; try with_reducible rfl)
    try simp only [Act.put,wp1,wp2,wp3,wp4,wp5,wp6]
    refine wtg (i:=8) (v:=?a35) rfl ?b35 (by assumption) ?c35
    case b35 => (intro w hSw; have F:=Ok.sees hSw; clear hSw; simp only [sees,kCells,cellsFrom,Nat.add_zero,Nat.reduceAdd] at F; go_simp; try with_reducible rfl)
    try simp only [Act.put,wp1,wp2,wp3,wp4,wp5,wp6]
    refine wpAnyH_done (by kernel_rfl) ?_ _
    clear H3
    have H2:=Lib.hid hHeld
    clear hHeld
    go_wp2_with fail
    go_roundw
    case rel => exact ⟨k + 1,by omega,by go_num,HEE,H2.out.bel⟩
    case measure => simp [intOf]; omega
  ·obtain rfl : n = k:=by omega
   have HE:=keep (show V = true by
    have h9:=HEQ.out
    rw [List.take_of_length_le (by rw [HN.out]; exact Nat.le_refl _),List.take_of_length_le (by rw [HM.out]; exact Nat.le_refl _)] at h9
    rw [← HV.out,h9]; exact eqA_yes _)
   go_wp2_with fail
   go_ret
   exact ⟨by rw [HE.out]; rfl,H2.out⟩
def strR (l : List (List UInt8)) : List (List Value):=l.map fun x => [.string (byt x)]
theorem strs_flat (l : List (List UInt8)) : strsV l = l.flatMap fun x => [.string (byt x)]:=by
 unfold strsV
 induction l with
 | nil => rfl
 | cons x l ih => rw [List.map_cons,List.flatMap_cons,ih]; rfl
theorem strs_own {w : World} {base : Nat} {v : Value} {l : List (List UInt8)} (h : w.ownsRow base 9 1 v l.length (strsV l)) : ∃ a c,v = .slice a l.length c ∧ l.length ≤ c ∧ RowsAt w a 1 (strR l):=by
 rw [strs_flat] at h
 obtain ⟨a,c,h1,h2,-,h4⟩:=rows_own (fun x => [Value.string (byt x)]) (fun _ => rfl) h rfl
 exact ⟨a,c,h1,h2,h4⟩
set_option maxRecDepth 100000 in
set_option maxHeartbeats 4000000 in
theorem equal_strs (l : List (List UInt8)) (a b : Option Addr) (c d : Nat) (w : World) (hl : l.length ≤ 100000) (ha : RowsAt w a 1 (strR l)) (hb : RowsAt w b 1 (strR l)) :
  Calls Tryz.prog 15 #[.slice a l.length c,.slice b l.length d] w fun e w' => e = .returned (.bool true) ∧ Below w.heap.size w w':=by
 have HA:=keep ha
 have HB:=keep hb
 clear ha hb
 obtain ⟨n,hn⟩ : ∃ n,l.length = n:=⟨_,rfl⟩
 rw [hn] at hl ⊢
 have HN:=keep hn
 clear hn
 go_enter Tryz.func15,Tryz.ntmps15
 go_wp2_with fail
 go_loopw [5] (fun i wr => ∃ k : Nat,k ≤ n ∧ i = .int .i64 (k : Int) ∧ Hid (Below w.heap.size w wr)) (fun i _ => n - (intOf i).toNat)
 case atStart => exact ⟨0,Nat.zero_le _,rfl,Below.refl _ _⟩
 case round =>
  obtain ⟨k,hk,rfl,H2⟩:=hrel
  obtain ⟨wp,rfl⟩ : ∃ wp : World,wp = wr:=⟨_,rfl⟩
  by_cases hlt : (k : Int) < n
  ·have hil : k < l.length:=by rw [HN.out]; omega
   obtain ⟨X,hX⟩ : ∃ X,byt l[k] = X:=⟨_,rfl⟩
   obtain ⟨b1,o1,ha1,hB1,hc1⟩:=rows_at HA.out (i:=k) (r:=[.string X]) (by unfold strR; rw [List.getElem?_map,List.getElem?_eq_getElem hil,← hX]; rfl)
   obtain ⟨b2,o2,hb2,hB2,hc2⟩:=rows_at HB.out (i:=k) (r:=[.string X]) (by unfold strR; rw [List.getElem?_map,List.getElem?_eq_getElem hil,← hX]; rfl)
   subst ha1 hb2
   have q1:=cells_below H2.out hB1 hc1
   have q2:=cells_below H2.out hB2 hc2
   simp only [Nat.mul_one] at q1 q2
   clear hil hX hc1 hc2
   have H3 : Hid (Ok w [kCells b1 (o1 + k) [.string X],kCells b2 (o2 + k) [.string X]] wp):=Lib.hid (((⟨H2.out,fun _ h => absurd h (by simp)⟩ : Ok w [] wp).add (kCells b2 (o2 + k) [.string X]) q2).add (kCells b1 (o1 + k) [.string X]) q1)
   clear H2 q1 q2
   go_upto_region 6 with fail
   refine wp_region_held_drew (S:=fun W => Ok w [kCells b1 (o1 + k) [.string X],kCells b2 (o2 + k) [.string X]] W) (by kernel_rfl) H3.out.drew (fun hHeld => ?_)
   refine wtg (i:=0) (v:=?a37) rfl ?b37 (by assumption) ?c37
   case b37 => (intro w hSw; have F:=Ok.sees hSw; clear hSw; simp only [sees,kCells,cellsFrom,Nat.add_zero] at F; go_simp; try with_reducible rfl)
   try simp only [Act.put,wp1,wp2,wp3,wp4,wp6]
   refine wtg (i:=1) (v:=?a39) rfl ?b39 (by assumption) ?c39
   case b39 => (intro w hSw; have F:=Ok.sees hSw; clear hSw; simp only [sees,kCells,cellsFrom,Nat.add_zero] at F; go_simp; try with_reducible rfl)
   try simp only [Act.put,wp1,wp2,wp3,wp4,wp5,wp6]
   refine wtg (i:=2) (v:=?a41) rfl ?b41 (by assumption) ?c41
   case b41 => (intro w hSw; have F:=Ok.sees hSw; clear hSw; simp only [sees,kCells,cellsFrom,Nat.add_zero] at F; go_simp; try with_reducible rfl)
   try simp only [Act.put,wp1,wp2,wp3,wp4,wp5,wp6]
   refine wtg (i:=3) (v:=?a43) rfl ?b43 (by assumption) ?c43
   case b43 => (intro w hSw; have F:=Ok.sees hSw; clear hSw; simp only [sees,kCells,cellsFrom,Nat.add_zero] at F; go_simp; try with_reducible rfl)
   try simp only [Act.put,wp1,wp2,wp3,wp4,wp5,wp6]
   refine wtg (i:=4) (v:=?a45) rfl ?b45 (by assumption) ?c45
   case b45 => (intro w hSw; have F:=Ok.sees hSw; clear hSw; simp only [sees,kCells,cellsFrom,Nat.add_zero] at F; go_simp; try with_reducible rfl)
   try simp only [Act.put,wp1,wp2,wp3,wp4,wp5,wp6]
   refine wtg (i:=5) (v:=?a47) rfl ?b47 (by assumption) ?c47
   case b47 => (intro w hSw; have F:=Ok.sees hSw; clear hSw; simp only [sees,kCells,cellsFrom,Nat.add_zero] at F; go_simp; try with_reducible rfl)
   try simp only [Act.put,wp1,wp2,wp3,wp4,wp5,wp6]
   refine wtg (i:=6) (v:=?a49) rfl ?b49 (by assumption) ?c49
   case b49 => (intro w hSw; have F:=Ok.sees hSw; clear hSw; simp only [sees,kCells,cellsFrom,Nat.add_zero] at F; go_simp; try with_reducible rfl)
   try simp only [Act.put,wp1,wp2,wp3,wp4,wp5,wp6]
   refine wtg (i:=7) (v:=?a51) rfl ?b51 (by assumption) ?c51
   case b51 => (intro w hSw; have F:=Ok.sees hSw; clear hSw; simp only [sees,kCells,cellsFrom,Nat.add_zero] at F; go_simp; try with_reducible rfl)
   try simp only [Act.put,wp1,wp2,wp3,wp4,wp5,wp6]
   refine wtg (i:=8) (v:=?a53) rfl ?b53 (by assumption) ?c53
   case b53 => (intro w hSw; have F:=Ok.sees hSw; clear hSw; simp only [sees,kCells,cellsFrom,Nat.add_zero] at F; go_simp; try with_reducible rfl)
   try simp only [Act.put,wp1,wp2,wp3,wp4,wp5,wp6]
   refine wpAnyH_done (by kernel_rfl) ?_ _
   clear H3
   have H2:=Lib.hid hHeld
   clear hHeld
   go_wp2_with fail
   go_roundw
   case rel => exact ⟨k + 1,by omega,by go_num,H2.out.bel⟩
   case measure => simp [intOf]; omega
  ·obtain rfl : n = k:=by omega
   go_wp2_with fail
   go_ret
   exact ⟨rfl,H2.out⟩
end Go.Proofs.YtlbigmlaokdmdaaGreatDoor
namespace Go.Proofs.YtlbigmlaokdmdaaGreatDoor
open Go.RowKit
theorem show_parsed {L : List UInt8} {t : List Nd} {a : Int} (h : formS L = (t,a,0)) (hl : (showT t).length ≤ 256) : showF (t.map Nd.any) = (showT t,0):=by
 obtain ⟨-,hc,-⟩:=form_good h
 rw [showF_ok hc (by rw [map_any]; omega),map_any]
set_option maxRecDepth 100000 in
set_option maxHeartbeats 4000000 in
theorem law_reads (s want : ByteArray) (t : List Nd) (w : World) (hs : s.size ≤ 1000) (hf : formS s.data.toList = (t,0,0)) (hl : (showT t).length ≤ 256) (hx : (⟨(showT t).toArray⟩ : ByteArray) = want) (he : WEnv w) :
  Calls Tryz.prog 32 #[.string s,.string want] w fun e w' => e = .returned (.bool true) ∧ Below w.heap.size w w':=by
 have HF:=keep hf
 have HS:=keep (show showF (t.map Nd.any) = (showT t,0) from show_parsed hf hl)
 have HX:=keep hx
 have HE:=keep he
 obtain ⟨-,hck,hsz,-⟩:=form_good hf
 have HSZ:=keep hsz
 have HLN:=keep (show (t.map Nd.any).length = t.length from List.length_map ..)
 clear hf hx he hck hsz hl
 go_enter Tryz.func32,Tryz.ntmps32
 go_wp2_with fail
 refine (parse_Formula s _ (by omega) HE.out.1).mono ?_
 rintro e w1 ⟨v,rfl,hown,hb⟩
 rw [HF.out] at hown ⊢
 simp only [] at hown ⊢
 obtain ⟨a,c,rfl⟩:=own_len hown
 obtain ⟨-,hrow⟩:=rows_get hown
 have HR:=keep hrow
 have HB:=Lib.hid hb
 clear hown hrow hb HF
 go_wp2_with fail
 rw [← HLN.out]
 refine (show_Formula (t.map Nd.any) a c w1 HSZ.out ⟨by rw [any_rows]; exact HR.out,HE.out.below HB.out⟩).mono ?_
 rintro e w2 ⟨rfl,hb⟩
 rw [HS.out]
 simp only []
 rw [HX.out]
 have HB2:=Lib.hid (HB.out.trans (hb.mono HB.out.size))
 clear hb HB HR HS HX HSZ HLN
 go_wp2_with fail
 go_ret
 exact ⟨by simp,HB2.out⟩
theorem rd_form0 : formS [40,32,49,43,50,32,41,42,51] = ([ndNum 10000,ndNum 20000,ndBin 1,ndNum 30000,ndBin 3],0,0):=by kernel_rfl
theorem rd_text0 : showT [ndNum 10000,ndNum 20000,ndBin 1,ndNum 30000,ndBin 3] = [40,49,43,50,41,42,51]:=by kernel_rfl
theorem rd_0 (w : World) (he : WEnv w) : Calls Tryz.prog 32 #[.string ⟨#[40,32,49,43,50,32,41,42,51]⟩,.string ⟨#[40,49,43,50,41,42,51]⟩] w fun e w' => e = .returned (.bool true) ∧ Below w.heap.size w w' :=
 law_reads ⟨#[40,32,49,43,50,32,41,42,51]⟩ ⟨#[40,49,43,50,41,42,51]⟩ _ w (by decide) rd_form0 (by rw [rd_text0]; decide) (by rw [rd_text0]) he
theorem rd_form1 : formS [49,45,40,50,45,51,41] = ([ndNum 10000,ndNum 20000,ndNum 30000,ndBin 2,ndBin 2],0,0):=by kernel_rfl
theorem rd_text1 : showT [ndNum 10000,ndNum 20000,ndNum 30000,ndBin 2,ndBin 2] = [49,45,40,50,45,51,41]:=by kernel_rfl
theorem rd_1 (w : World) (he : WEnv w) : Calls Tryz.prog 32 #[.string ⟨#[49,45,40,50,45,51,41]⟩,.string ⟨#[49,45,40,50,45,51,41]⟩] w fun e w' => e = .returned (.bool true) ∧ Below w.heap.size w w' :=
 law_reads ⟨#[49,45,40,50,45,51,41]⟩ ⟨#[49,45,40,50,45,51,41]⟩ _ w (by decide) rd_form1 (by rw [rd_text1]; decide) (by rw [rd_text1]) he
theorem rd_form2 : formS [40,49,45,50,41,45,51] = ([ndNum 10000,ndNum 20000,ndBin 2,ndNum 30000,ndBin 2],0,0):=by kernel_rfl
theorem rd_text2 : showT [ndNum 10000,ndNum 20000,ndBin 2,ndNum 30000,ndBin 2] = [49,45,50,45,51]:=by kernel_rfl
theorem rd_2 (w : World) (he : WEnv w) : Calls Tryz.prog 32 #[.string ⟨#[40,49,45,50,41,45,51]⟩,.string ⟨#[49,45,50,45,51]⟩] w fun e w' => e = .returned (.bool true) ∧ Below w.heap.size w w' :=
 law_reads ⟨#[40,49,45,50,41,45,51]⟩ ⟨#[49,45,50,45,51]⟩ _ w (by decide) rd_form2 (by rw [rd_text2]; decide) (by rw [rd_text2]) he
theorem rd_form3 : formS [40,45,50,41,94,50] = ([ndNum 20000,ndNeg,ndNum 20000,ndBin 5],0,0):=by kernel_rfl
theorem rd_text3 : showT [ndNum 20000,ndNeg,ndNum 20000,ndBin 5] = [40,45,50,41,94,50]:=by kernel_rfl
theorem rd_3 (w : World) (he : WEnv w) : Calls Tryz.prog 32 #[.string ⟨#[40,45,50,41,94,50]⟩,.string ⟨#[40,45,50,41,94,50]⟩] w fun e w' => e = .returned (.bool true) ∧ Below w.heap.size w w' :=
 law_reads ⟨#[40,45,50,41,94,50]⟩ ⟨#[40,45,50,41,94,50]⟩ _ w (by decide) rd_form3 (by rw [rd_text3]; decide) (by rw [rd_text3]) he
theorem rd_form4 : formS [45,40,50,94,50,41] = ([ndNum 20000,ndNum 20000,ndBin 5,ndNeg],0,0):=by kernel_rfl
theorem rd_text4 : showT [ndNum 20000,ndNum 20000,ndBin 5,ndNeg] = [45,50,94,50]:=by kernel_rfl
theorem rd_4 (w : World) (he : WEnv w) : Calls Tryz.prog 32 #[.string ⟨#[45,40,50,94,50,41]⟩,.string ⟨#[45,50,94,50]⟩] w fun e w' => e = .returned (.bool true) ∧ Below w.heap.size w w' :=
 law_reads ⟨#[45,40,50,94,50,41]⟩ ⟨#[45,50,94,50]⟩ _ w (by decide) rd_form4 (by rw [rd_text4]; decide) (by rw [rd_text4]) he
theorem rd_form5 : formS [50,94,40,51,94,50,41] = ([ndNum 20000,ndNum 30000,ndNum 20000,ndBin 5,ndBin 5],0,0):=by kernel_rfl
theorem rd_text5 : showT [ndNum 20000,ndNum 30000,ndNum 20000,ndBin 5,ndBin 5] = [50,94,51,94,50]:=by kernel_rfl
theorem rd_5 (w : World) (he : WEnv w) : Calls Tryz.prog 32 #[.string ⟨#[50,94,40,51,94,50,41]⟩,.string ⟨#[50,94,51,94,50]⟩] w fun e w' => e = .returned (.bool true) ∧ Below w.heap.size w w' :=
 law_reads ⟨#[50,94,40,51,94,50,41]⟩ ⟨#[50,94,51,94,50]⟩ _ w (by decide) rd_form5 (by rw [rd_text5]; decide) (by rw [rd_text5]) he
theorem rd_form6 : formS [40,50,94,51,41,94,50] = ([ndNum 20000,ndNum 30000,ndBin 5,ndNum 20000,ndBin 5],0,0):=by kernel_rfl
theorem rd_text6 : showT [ndNum 20000,ndNum 30000,ndBin 5,ndNum 20000,ndBin 5] = [40,50,94,51,41,94,50]:=by kernel_rfl
theorem rd_6 (w : World) (he : WEnv w) : Calls Tryz.prog 32 #[.string ⟨#[40,50,94,51,41,94,50]⟩,.string ⟨#[40,50,94,51,41,94,50]⟩] w fun e w' => e = .returned (.bool true) ∧ Below w.heap.size w w' :=
 law_reads ⟨#[40,50,94,51,41,94,50]⟩ ⟨#[40,50,94,51,41,94,50]⟩ _ w (by decide) rd_form6 (by rw [rd_text6]; decide) (by rw [rd_text6]) he
theorem rd_form7 : formS [40,53,37,41,94,50] = ([ndNum 50000,ndPct,ndNum 20000,ndBin 5],0,0):=by kernel_rfl
theorem rd_text7 : showT [ndNum 50000,ndPct,ndNum 20000,ndBin 5] = [53,37,94,50]:=by kernel_rfl
theorem rd_7 (w : World) (he : WEnv w) : Calls Tryz.prog 32 #[.string ⟨#[40,53,37,41,94,50]⟩,.string ⟨#[53,37,94,50]⟩] w fun e w' => e = .returned (.bool true) ∧ Below w.heap.size w w' :=
 law_reads ⟨#[40,53,37,41,94,50]⟩ ⟨#[53,37,94,50]⟩ _ w (by decide) rd_form7 (by rw [rd_text7]; decide) (by rw [rd_text7]) he
theorem rd_form8 : formS [40,45,53,41,37] = ([ndNum 50000,ndNeg,ndPct],0,0):=by kernel_rfl
theorem rd_text8 : showT [ndNum 50000,ndNeg,ndPct] = [40,45,53,41,37]:=by kernel_rfl
theorem rd_8 (w : World) (he : WEnv w) : Calls Tryz.prog 32 #[.string ⟨#[40,45,53,41,37]⟩,.string ⟨#[40,45,53,41,37]⟩] w fun e w' => e = .returned (.bool true) ∧ Below w.heap.size w w' :=
 law_reads ⟨#[40,45,53,41,37]⟩ ⟨#[40,45,53,41,37]⟩ _ w (by decide) rd_form8 (by rw [rd_text8]; decide) (by rw [rd_text8]) he
theorem rd_form9 : formS [115,117,109,40,97,49,58,98,50,44,34,97,34,41] = ([ndRange ⟨1,1,2,2⟩,(⟨1,3,0,[97],R4.zero,0,0,0⟩ : Nd),(⟨7,0,0,[],R4.zero,0,9,2⟩ : Nd)],0,0):=by kernel_rfl
theorem rd_text9 : showT [ndRange ⟨1,1,2,2⟩,(⟨1,3,0,[97],R4.zero,0,0,0⟩ : Nd),(⟨7,0,0,[],R4.zero,0,9,2⟩ : Nd)] = [83,85,77,40,65,49,58,66,50,44,34,97,34,41]:=by kernel_rfl
theorem rd_9 (w : World) (he : WEnv w) : Calls Tryz.prog 32 #[.string ⟨#[115,117,109,40,97,49,58,98,50,44,34,97,34,41]⟩,.string ⟨#[83,85,77,40,65,49,58,66,50,44,34,97,34,41]⟩] w fun e w' => e = .returned (.bool true) ∧ Below w.heap.size w w' :=
 law_reads ⟨#[115,117,109,40,97,49,58,98,50,44,34,97,34,41]⟩ ⟨#[83,85,77,40,65,49,58,66,50,44,34,97,34,41]⟩ _ w (by decide) rd_form9 (by rw [rd_text9]; decide) (by rw [rd_text9]) he
def awT : List Nd:=[ndRange ⟨1,1,2,2⟩,ndNum 50000,(⟨7,0,0,[],R4.zero,0,9,2⟩ : Nd),ndNum 20000,ndBin 3]
def awL : List (List UInt8):=[[42],[32,32,83,85,77],[32,32,32,32,65,49,58,66,50],[32,32,32,32,53],[32,32,50]]
theorem aw_form : formS [83,85,77,40,65,49,58,66,50,44,53,41,42,50] = (awT,0,0):=by kernel_rfl
theorem aw_lines : (outS awT).map lineO = awL:=by kernel_rfl
theorem aw_ol : olS (awT.map Nd.any) = awL:=by
 obtain ⟨-,hc,-⟩:=form_good aw_form
 rw [olS_ok hc,map_any,aw_lines]
theorem lit_na : litS 4 4 [] = ([35,78,47,65],0):=by
 rw [lit_yes (.inr (.inr (.inr ⟨rfl,by decide,rfl⟩)))]
 kernel_rfl
theorem lit_none : litS 0 0 [] = ([],2):=lit_no (by rintro (⟨h,-⟩ | ⟨h,-⟩ | ⟨h,-⟩ | ⟨h,-⟩) <;> cases h)
theorem strs_blk {w : World} {b : Nat} {t : TypeId} (l : List (List UInt8)) (h : Blk w b t (strsV l).toArray) : RowsAt w (some ⟨b,0,none⟩) 1 (strR l):=by
 intro _
 refine ⟨b,0,rfl,h.lt,fun i r hi j v hj => ?_⟩
 unfold strR at hi
 rw [List.getElem?_map] at hi
 obtain ⟨x,hx,rfl⟩:=Option.map_eq_some_iff.1 hi
 have hj0 : j = 0:=by
  rcases j with - | j
  ·rfl
  ·cases hj
 subst hj0
 simp only [List.getElem?_cons_zero,Option.some.injEq] at hj
 subst hj
 rw [h.cell]
 simp only [List.getElem?_toArray,Nat.zero_add,Nat.mul_one,Nat.add_zero]
 unfold strsV
 rw [List.getElem?_map,hx]
 rfl
set_option maxRecDepth 100000 in
set_option maxHeartbeats 8000000 in
theorem law_awake10 (w : World) (he : WEnv w) :
  Calls Tryz.prog 17 #[] w fun e w' => e = .returned (.bool true) ∧ Below w.heap.size w w':=by
 have HE:=keep he
 obtain ⟨-,hck,hsz,-⟩:=form_good aw_form
 have HSZ:=keep hsz
 have HCK:=keep hck
 have HOL:=keep aw_ol
 clear he hck hsz
 go_enter Tryz.func17,Tryz.ntmps17
 go_wp2_with fail
 refine (parse_Formula _ _ (by decide) HE.out.1).mono ?_
 rintro e w1 ⟨v,rfl,hown,hb⟩
 rw [show formS (({ data:=#[83,85,77,40,65,49,58,66,50,44,53,41,42,50] } : ByteArray).data.toList) = _ from aw_form] at hown ⊢
 simp only [] at hown ⊢
 obtain ⟨a,c,rfl⟩:=own_len hown
 obtain ⟨-,hrow⟩:=rows_get hown
 have HR:=keep hrow
 have H1:=Lib.hid ((Ok.start w).below hb)
 clear hown hrow hb
 go_wp2_with fail
 refine (show_Outline (awT.map Nd.any) a c w1 HSZ.out ⟨by rw [any_rows]; exact HR.out,HE.out.below H1.out.bel⟩).mono ?_
 rintro e w2 ⟨v,rfl,hown,hb⟩
 rw [HCK.out]
 rw [HOL.out] at hown
 obtain ⟨a2,c2,rfl,-,hrow⟩:=strs_own hown
 have H2:=Lib.hid (H1.out.below hb)
 have HRL:=keep hrow
 have G2:=Lib.hid (Ok.start w2)
 clear hown hrow hb HR H1
 go_wp2_with fail
 refine (show_Literal 4 4 [] (by decide) (by decide) w2 (HE.out.below H2.out.bel)).mono ?_
 rintro e w3 ⟨rfl,hb⟩
 rw [lit_na]
 have H3:=Lib.hid (H2.out.below hb)
 have G3:=Lib.hid (G2.out.below hb)
 clear H2 G2 hb
 go_wp2_with fail
 refine (show_Literal 0 0 [] (by decide) (by decide) w3 (HE.out.below H3.out.bel)).mono ?_
 rintro e w4 ⟨rfl,hb⟩
 rw [lit_none]
 have H4:=Lib.hid (H3.out.below hb)
 have G4:=Lib.hid (G3.out.below hb)
 clear H3 G3 hb
 go_wp2_with fail
 refine (rd_0 w4 (HE.out.below H4.out.bel)).mono ?_
 rintro e w5 ⟨rfl,hb⟩
 have H5:=Lib.hid (H4.out.below hb)
 have G5:=Lib.hid (G4.out.below hb)
 clear H4 G4 hb
 go_wp2_with fail
 refine (rd_1 w5 (HE.out.below H5.out.bel)).mono ?_
 rintro e w6 ⟨rfl,hb⟩
 have H6:=Lib.hid (H5.out.below hb)
 have G6:=Lib.hid (G5.out.below hb)
 clear H5 G5 hb
 go_wp2_with fail
 refine (rd_2 w6 (HE.out.below H6.out.bel)).mono ?_
 rintro e w7 ⟨rfl,hb⟩
 have H7:=Lib.hid (H6.out.below hb)
 have G7:=Lib.hid (G6.out.below hb)
 clear H6 G6 hb
 go_wp2_with fail
 refine (rd_3 w7 (HE.out.below H7.out.bel)).mono ?_
 rintro e w8 ⟨rfl,hb⟩
 have H8:=Lib.hid (H7.out.below hb)
 have G8:=Lib.hid (G7.out.below hb)
 clear H7 G7 hb
 go_wp2_with fail
 refine (rd_4 w8 (HE.out.below H8.out.bel)).mono ?_
 rintro e w9 ⟨rfl,hb⟩
 have H9:=Lib.hid (H8.out.below hb)
 have G9:=Lib.hid (G8.out.below hb)
 clear H8 G8 hb
 go_wp2_with fail
 refine (rd_5 w9 (HE.out.below H9.out.bel)).mono ?_
 rintro e w10 ⟨rfl,hb⟩
 have H10:=Lib.hid (H9.out.below hb)
 have G10:=Lib.hid (G9.out.below hb)
 clear H9 G9 hb
 go_wp2_with fail
 refine (rd_6 w10 (HE.out.below H10.out.bel)).mono ?_
 rintro e w11 ⟨rfl,hb⟩
 have H11:=Lib.hid (H10.out.below hb)
 have G11:=Lib.hid (G10.out.below hb)
 clear H10 G10 hb
 go_wp2_with fail
 refine (rd_7 w11 (HE.out.below H11.out.bel)).mono ?_
 rintro e w12 ⟨rfl,hb⟩
 have H12:=Lib.hid (H11.out.below hb)
 have G12:=Lib.hid (G11.out.below hb)
 clear H11 G11 hb
 go_wp2_with fail
 refine (rd_8 w12 (HE.out.below H12.out.bel)).mono ?_
 rintro e w13 ⟨rfl,hb⟩
 have H13:=Lib.hid (H12.out.below hb)
 have G13:=Lib.hid (G12.out.below hb)
 clear H12 G12 hb
 go_wp2_with fail
 refine (rd_9 w13 (HE.out.below H13.out.bel)).mono ?_
 rintro e w14 ⟨rfl,hb⟩
 have H14:=Lib.hid (H13.out.below hb)
 have G14:=Lib.hid (G13.out.below hb)
 clear H13 G13 hb
 go_wp2_with fail
 have hblk:=Blk.new w14 9 #[.string ⟨#[42]⟩,.string ⟨#[32,32,83,85,77]⟩,.string ⟨#[32,32,32,32,65,49,58,66,50]⟩,.string ⟨#[32,32,32,32,53]⟩,.string ⟨#[32,32,50]⟩]
 have H15:=Lib.hid (H14.out.alloc_obj (.cells #[.string ⟨#[42]⟩,.string ⟨#[32,32,83,85,77]⟩,.string ⟨#[32,32,32,32,65,49,58,66,50]⟩,.string ⟨#[32,32,32,32,53]⟩,.string ⟨#[32,32,50]⟩] 9))
 have G15:=Lib.hid (G14.out.alloc_obj (.cells #[.string ⟨#[42]⟩,.string ⟨#[32,32,83,85,77]⟩,.string ⟨#[32,32,32,32,65,49,58,66,50]⟩,.string ⟨#[32,32,32,32,53]⟩,.string ⟨#[32,32,50]⟩] 9))
 generalize (w14.alloc (.cells #[.string ⟨#[42]⟩,.string ⟨#[32,32,83,85,77]⟩,.string ⟨#[32,32,32,32,65,49,58,66,50]⟩,.string ⟨#[32,32,32,32,53]⟩,.string ⟨#[32,32,50]⟩] 9)) = W15 at hblk H15 G15 ⊢
 have hr2:=strs_blk awL (show Blk W15 w14.heap.size 9 (strsV awL).toArray from hblk)
 refine (equal_strs awL a2 (some ⟨w14.heap.size,0,none⟩) c2 5 W15 (by decide) (HRL.out.below G15.out.bel) hr2).mono ?_
 rintro e w16 ⟨rfl,hb⟩
 have H16:=Lib.hid (H15.out.below hb)
 clear H15 G15 H14 G14 hb hr2 hblk HRL HOL
 go_wp2_with fail
 go_ret
 exact ⟨rfl,H16.out.bel⟩
end Go.Proofs.YtlbigmlaokdmdaaGreatDoor
