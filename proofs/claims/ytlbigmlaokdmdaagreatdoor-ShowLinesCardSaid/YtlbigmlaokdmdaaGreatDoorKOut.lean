/- show.outline and show.Outline. show.Outline, of any nodes. Plain: what the parser hands back is a tree that is shown. -/
import Derived.Test.YtlbigmlaokdmdaaGreatDoorKTxv
import Derived.Test.YtlbigmlaokdmdaaGreatDoorKAddrP
import Derived.Test.YtlbigmlaokdmdaaGreatDoorKAddrW3
import Derived.Test.YtlbigmlaokdmdaaGreatDoorKGiv
import Derived.Test.YtlbigmlaokdmdaaGreatDoorKShT
namespace Go.Proofs.YtlbigmlaokdmdaaGreatDoor
open Go.RowKit
def linesAt (t : List Nd) (i lvl : Nat) : List (List UInt8):=(olAt t i).map fun x => lineO (x.1 + lvl,x.2)
theorem lines_eq {t : List Nd} {i : Nat} {n : Nd} (h : t[i]? = some n) (lvl : Nat) : linesAt t i lvl = lineO (lvl,ownO n) :: (kidsS t i).flatMap fun j => linesAt t j (lvl + 1):=by
 unfold linesAt
 rw [ol_eq h]
 unfold comO
 rw [List.map_cons,Nat.zero_add]
 congr 1
 induction kidsS t i with
 | nil => rfl
 | cons k ks ih =>
  rw [List.map_cons,List.flatMap_cons,List.map_append,List.flatMap_cons,← ih]
  congr 1
  unfold downO
  rw [List.map_map]
  apply List.map_congr_left
  intro x _
  show lineO (x.1 + 1 + lvl,x.2) = lineO (x.1 + (lvl + 1),x.2)
  rw [show x.1 + 1 + lvl = x.1 + (lvl + 1) by omega]
def lnK (t : List Nd) (i lvl : Nat) (L : List (List UInt8)) (n : Nd) (m : Nat) : List (List UInt8):=(L ++ [lineO (lvl,ownO n)]) ++ ((kidsS t i).take m).flatMap fun j => linesAt t j (lvl + 1)
theorem lnK_succ {t : List Nd} {i lvl : Nat} {L : List (List UInt8)} {n : Nd} {m : Nat} (h : m < (kidsS t i).length) : lnK t i lvl L n (m + 1) = lnK t i lvl L n m ++ linesAt t ((kidsS t i)[m]) (lvl + 1):=by
 unfold lnK
 rw [List.take_succ_eq_append_getElem h,List.flatMap_append,List.append_assoc,List.append_assoc,List.append_assoc]
 simp
theorem lnK_all {t : List Nd} {i lvl : Nat} {L : List (List UInt8)} {n : Nd} (h : t[i]? = some n) : lnK t i lvl L n (kidsS t i).length = L ++ linesAt t i lvl:=by
 unfold lnK
 rw [List.take_length,lines_eq h]
 simp
theorem flat_take {α β : Type} (f : α → List β) : ∀ (l : List α) (m : Nat),((l.take m).flatMap f).length ≤ (l.flatMap f).length
 | [],m => by simp
 | x :: l,0 => by simp
 | x :: l,m + 1 => by
  have:=flat_take f l m
  rw [List.take_succ_cons,List.flatMap_cons,List.flatMap_cons,List.length_append,List.length_append]
  omega
theorem lnK_le {t : List Nd} {i lvl : Nat} {L : List (List UInt8)} {n : Nd} (h : t[i]? = some n) (m : Nat) : (lnK t i lvl L n m).length ≤ L.length + (linesAt t i lvl).length:=by
 rw [lines_eq h]
 unfold lnK
 rw [List.length_append,List.length_append,List.length_cons]
 have:=flat_take (fun j => linesAt t j (lvl + 1)) (kidsS t i) m
 simp only [List.length_cons,List.length_nil]
 omega
theorem rep_two (k : Nat) : Lib.repeatL [32,32] k = List.replicate (2 * k) 32:=by
 induction k with
 | zero => rfl
 | succ k ih =>
  rw [show 2 * (k + 1) = 2 + 2 * k by omega,← List.replicate_append_replicate,← ih]
  rfl
theorem kids_small {t : List Nd} (hc : TChk t) {i : Nat} {n : Nd} (hn : t[i]? = some n) : (kidsS t i).length ≤ 16:=by
 rw [hc.kids i n hn]
 rcases (hc.good n (List.mem_of_getElem? hn)).1 with ⟨_,_,_,rfl,_⟩ | ⟨_,rfl,_⟩ | ⟨_,rfl,_⟩ | rfl | rfl | ⟨_,rfl,_⟩ | ⟨fn,k,rfl,_,_,_,h4⟩
 ·exact Nat.zero_le _
 ·exact Nat.zero_le _
 ·exact Nat.zero_le _
 ·exact (by decide : (1 : Nat) ≤ 16)
 ·exact (by decide : (1 : Nat) ≤ 16)
 ·exact (by decide : (2 : Nat) ≤ 16)
 ·have : (arS fn).2 ≤ 16:=by unfold arS; (repeat' split) <;> decide
  show k ≤ 16
  omega
def OutAt (t : List Nd) (tb tz tc i : Nat) : Prop:=∀ (w0 w : World) (ps : List Pers) (v : Value) (L : List (List UInt8)) (lvl : Nat),TIn t tb tz w0 → OkRow w0 ps 9 1 v L.length (strsV L) w → lvl + i ≤ 1000 → L.length + (linesAt t i lvl).length ≤ 100000 →
 Calls Tryz.prog 30 #[.slice (some ⟨tb,tz,none⟩) t.length tc,.int .i64 (i : Nat),.int .i64 (lvl : Nat),v] w fun e w' => ∃ v',e = .returned v' ∧ OkRow w0 ps 9 1 v' (L ++ linesAt t i lvl).length (strsV (L ++ linesAt t i lvl)) w'
set_option maxRecDepth 100000 in
set_option maxHeartbeats 8000000 in
theorem out_at (t : List Nd) (tb tz tc i : Nat) (hc : TChk t) (hi : i < t.length) (IH : ∀ j,j < i → OutAt t tb tz tc j) : OutAt t tb tz tc i:=by
 intro w0 w ps v L lvl hin hrow hlv hll
 obtain ⟨n,hn⟩ : ∃ n,t[i]? = some n:=⟨_,List.getElem?_eq_getElem hi⟩
 have hg:=hc.good n (List.mem_of_getElem? hn)
 have hin2:=hin.below (below_step (Below.refl _ _) (hrow.ok.bel.mono (Nat.le_refl _)))
 obtain ⟨h1,h2⟩:=hin.node hn
 have h3 : tb < w.heap.size:=Nat.lt_of_lt_of_le h1 hrow.ok.bel.size
 have HSTEP:=keep (fun m (h : m < (kidsS t i).length) => lnK_succ (lvl:=lvl) (L:=L) (n:=n) h)
 have HLE:=keep (fun m => lnK_le (L:=L) (lvl:=lvl) hn m)
 have HALL:=keep (lnK_all (L:=L) (lvl:=lvl) hn)
 have HLT:=keep (fun m (h : m < (kidsS t i).length) => kids_lt t i _ (List.getElem_mem h))
 have HONE:=keep (show strsV (lnK t i lvl L n 0) = strsV L ++ [.string (byt (lineO (lvl,ownO n)))] ∧ (lnK t i lvl L n 0).length = L.length + 1 by
  unfold lnK
  rw [List.take_zero,List.flatMap_nil,List.append_nil,strsV_snoc,List.length_append]
  exact ⟨rfl,rfl⟩)
 have hos:=own_len_ hg.1 hg.2
 have HOWN:=keep (fun (W : World) (h : WEnv W) => show_own n hg.1 hg.2 W h)
 have HKID:=keep (fun (W : World) (h : TIn t tb tz W) => kids_at hc (tc:=tc) hi h)
 have hcw : cellsFrom w tb (tz + i * 11) 0 (ndRow n):=by
  have : (kCells tb (tz + i * 11) (ndRow n)).p w:=(kCells tb (tz + i * 11) (ndRow n)).st w0 w none (by simp [kCells]) (only_of_below hrow.ok.bel none) ⟨h1,h2⟩
  exact this.2
 have hLL:=hll
 obtain ⟨K,hK⟩ : ∃ K,L.length + (linesAt t i lvl).length = K:=⟨_,rfl⟩
 rw [hK] at HLE hLL
 obtain ⟨LK,hLK⟩ : ∃ LK : Nat → List (List UInt8),lnK t i lvl L n = LK:=⟨_,rfl⟩
 rw [hLK] at HSTEP HLE HALL HONE
 have hl0:=HLE.out 0
 rw [HONE.out.2] at hl0
 have HLL2:=keep (fun m (h : m < (kidsS t i).length) => show (LK m).length + (linesAt t ((kidsS t i)[m]) (lvl + 1)).length ≤ 100000 by
  have h8:=HLE.out (m + 1)
  rw [HSTEP.out m h,List.length_append] at h8
  omega)
 rw [← HALL.out]
 have HIH:=keep IH
 have HIN:=keep hin
 obtain ⟨X,hX⟩ : ∃ X : ByteArray,byt (lineO (lvl,ownO n)) = X:=⟨_,rfl⟩
 rw [hX] at HONE
 obtain ⟨RP,hRP⟩ : ∃ RP : ByteArray,⟨(Lib.repeatL [32,32] lvl).toArray⟩ = RP:=⟨_,rfl⟩
 obtain ⟨O,hO⟩ : ∃ O : ByteArray,⟨(ownO n).toArray⟩ = O:=⟨_,rfl⟩
 have zO : O.size ≤ 1000000:=by rw [← hO]; show (ownO n).toArray.size ≤ _; rw [List.size_toArray]; omega
 have zR : RP.size ≤ 1000000:=by rw [← hRP,rep_two]; show (List.replicate (2 * lvl) (32 : UInt8)).toArray.size ≤ _; simp; omega
 have HX:=keep (show X = RP ++ O by
  rw [← hX,← hRP,← hO,rep_two]
  show byt (List.replicate (2 * lvl) 32 ++ ownO n) = _
  rw [bytes_append]
  rfl)
 have HREP:=keep (fun W : World => by
  have:=Tryz.strings_Repeat ⟨#[32,32]⟩ lvl W (by omega) (by show 2 * lvl ≤ _; omega)
  rw [show (⟨#[32,32]⟩ : ByteArray).data.toList = [32,32] from rfl,hRP] at this
  exact this)
 simp only [hO] at HOWN
 have HR0:=Lib.hid (hrow.add (kCells tb (tz + i * 11) (ndRow n)) ⟨h3,hcw⟩ (by
  show some tb ≠ v.ownBlock
  intro e
  have:=(hrow.own.lt tb e.symm).1
  omega))
 obtain ⟨P,hP⟩ : ∃ P : Ending → World → Prop,(fun (e : Ending) (w' : World) => ∃ v',e = .returned v' ∧ OkRow w0 ps 9 1 v' (LK (kidsS t i).length).length (strsV (LK (kidsS t i).length)) w') = P:=⟨_,rfl⟩
 rw [hP]
 have HPP:=keep hP
 clear hP
 obtain ⟨tl,htl⟩ : ∃ tl,t.length = tl:=⟨_,rfl⟩
 have hki : (i : Int) < (tl : Int):=by omega
 rw [htl] at HKID ⊢
 have HTL:=keep htl
 obtain ⟨kn,hkn⟩ : ∃ kn,(kidsS t i).length = kn:=⟨_,rfl⟩
 have HKN:=keep hkn
 have hkb : kn ≤ 16:=by rw [← hkn]; exact kids_small hc hn
 have hw1 : IntKind.i64.wrap ((lvl : Int) + 1) = ((lvl + 1 : Nat) : Int):=by rw [Go.IntWalk.i64_in _ (by omega)]; omega
 obtain ⟨i0,hi,hz0,hz1,hz2⟩:=info_parts info_str7
 obtain ⟨nk,vk,vn,vt,⟨r1,r2,r3,r4⟩,op,fn,nn⟩:=n
 clear hLK hX hRP hO htl hkn h1 h2 h3 hcw hn hg hin hin2 hrow hos hc hK IH hll
 have HR1 : Hid (OkRow w0 (kCells tb (tz + i * 11) [.int .u8 nk,.int .u8 vk,.int .i64 vn,.string ⟨vt.toArray⟩,.int .i64 r1,.int .i64 r2,.int .i64 r3,.int .i64 r4,.int .i64 op,.int .u8 fn,.int .i64 nn] :: ps) 9 1 v L.length (strsV L) w):=HR0
 clear HR0
 go_enter Tryz.func30,Tryz.ntmps30
 go_upto_region 1 with fail
 have HRD:=Lib.hid HR1.out.drew
 have HB9:=keep HRD.out.ok.bel.size
 generalize hWd : w.drew = Wd at HRD HB9
 refine wp_region_held_drew (S:=fun W => Ok w0 (kCells tb (tz + i * 11) [.int .u8 nk,.int .u8 vk,.int .i64 vn,.string ⟨vt.toArray⟩,.int .i64 r1,.int .i64 r2,.int .i64 r3,.int .i64 r4,.int .i64 op,.int .u8 fn,.int .i64 nn] :: ps) W) (by kernel_rfl) (by rw [hWd]; exact HRD.out.ok) (fun hHeld => ?_)
 rw [hWd] at hHeld ⊢
 clear hWd HR1
 refine wtg (i:=0) (v:=?a1) rfl ?b1 (by assumption) ?c1
 case b1 => (intro w hSw; have F:=Ok.sees hSw; clear hSw; simp only [sees,kCells,cellsFrom,Nat.add_zero,Nat.reduceAdd] at F; go_simp; (try rw [if_neg (by omega)]); try with_reducible rfl)
 try simp only [Act.put,wp1,wp2,wp3,wp4,wp6]
 refine wtg (i:=1) (v:=?a3) rfl ?b3 (by assumption) ?c3
 case b3 => (intro w hSw; have F:=Ok.sees hSw; clear hSw; simp only [sees,kCells,cellsFrom,Nat.add_zero,Nat.reduceAdd] at F; go_simp; (try rw [if_neg (by omega)]); try with_reducible rfl)
 try simp only [Act.put,wp1,wp2,wp3,wp4,wp5,wp6]
 refine wtg (i:=3) (v:=?a5) rfl ?b5 (by assumption) ?c5
 case b5 => (intro w hSw; have F:=Ok.sees hSw; clear hSw; simp only [sees,kCells,cellsFrom,Nat.add_zero,Nat.reduceAdd] at F; go_simp; (try rw [if_neg (by omega)]); try with_reducible rfl)
 try simp only [Act.put,wp1,wp2,wp3,wp4,wp5,wp6]
 refine wtg (i:=4) (v:=?a7) rfl ?b7 (by assumption) ?c7
 case b7 => (intro w hSw; have F:=Ok.sees hSw; clear hSw; simp only [sees,kCells,cellsFrom,Nat.add_zero,Nat.reduceAdd] at F; go_simp; (try rw [if_neg (by omega)]); try with_reducible rfl)
 try simp only [Act.put,wp1,wp2,wp3,wp4,wp5,wp6]
 refine wtg (i:=5) (v:=?a9) rfl ?b9 (by assumption) ?c9
 case b9 => (intro w hSw; have F:=Ok.sees hSw; clear hSw; simp only [sees,kCells,cellsFrom,Nat.add_zero,Nat.reduceAdd] at F; go_simp; (try rw [if_neg (by omega)]); try with_reducible rfl)
 try simp only [Act.put,wp1,wp2,wp3,wp4,wp5,wp6]
 refine wtg (i:=6) (v:=?a11) rfl ?b11 (by assumption) ?c11
 case b11 => (intro w hSw; have F:=Ok.sees hSw; clear hSw; simp only [sees,kCells,cellsFrom,Nat.add_zero,Nat.reduceAdd] at F; go_simp; (try rw [if_neg (by omega)]); try with_reducible rfl)
 try simp only [Act.put,wp1,wp2,wp3,wp4,wp5,wp6]
 refine wpAnyH_ready (rs:=[2]) (by kernel_rfl) (by simp) ?_
 refine AllReadyH.cons rfl (fun K hK => ?_) AllReadyH.nil
 go_simp
 refine (HREP.out _).mono ?_
 rintro e w1 ⟨rfl,hb2⟩
 go_wp2_with fail
 have H3:=Lib.hid (HRD.out.below hb2)
 clear hb2 HRD
 refine hK.out _ _ H3.out.ok (fun hHeld => ?_)
 clear hK K
 try simp only [Act.put,wp1,wp2,wp3,wp4,wp5,wp6]
 refine wpAnyH_ready (rs:=[7]) (by kernel_rfl) (by simp) ?_
 refine AllReadyH.cons rfl (fun K hK => ?_) AllReadyH.nil
 go_simp
 refine (HOWN.out _ ((HIN.out.below (Below.mono hHeld.bel (Nat.le_refl _))).env)).mono ?_
 rintro e w4 ⟨rfl,hb5⟩
 go_wp2_with fail
 have H6:=Lib.hid (H3.out.below hb5)
 clear hb5 H3
 refine hK.out _ _ H6.out.ok (fun hHeld => ?_)
 clear hK K
 try simp only [Act.put,wp1,wp2,wp3,wp4,wp5,wp6]
 refine wtg (i:=8) (v:=?a15) rfl ?b15 (by assumption) ?c15
 case b15 => (intro w hSw; have F:=Ok.sees hSw; clear hSw; simp only [sees,kCells,cellsFrom,Nat.add_zero,Nat.reduceAdd] at F; go_simp; (try rw [if_neg (by omega)]); try with_reducible rfl)
 try simp only [Act.put,wp1,wp2,wp3,wp4,wp5,wp6]
 refine wpAnyH_ready (rs:=[9]) (by kernel_rfl) (by simp) ?_
 refine AllReadyH.cons rfl (fun K hK => ?_) AllReadyH.nil
 go_simp
 have HO1:=Lib.hid (H6.out.alloc_obj (.cells #[.string (RP ++ O)] 9))
 refine hK.out _ _ HO1.out.ok (fun hHeld => ?_)
 clear hK K
 try simp only [Act.put,wp1,wp2,wp3,wp4,wp5,wp6]
 refine wpAnyH_ready (rs:=[10]) (by kernel_rfl) (by simp) ?_
 refine AllReadyH.cons rfl (fun K hK => ?_) AllReadyH.nil
 refine step_append_lies _ (by rfl) _ _ _ (by rfl) w0.heap.size 9 i0 _ 1 16 Tryz.underlying27 hi hz0 hz1 hz2 rfl (by omega) _ _ _ (by rfl) HO1.out.own ⟨w4.heap.size,0,none⟩ 1 1 [.string (RP ++ O)] (by rfl) (by rfl) (World.news_of_block (cs:=#[.string (RP ++ O)]) (t:=9) (fr:=(0,0)) (heap_alloc_new _ _)) (by intro u hu; simp at hu; rcases hu with rfl; rfl) (by omega) (by unfold maxLen; omega) (by omega) (by have:=HB9.out; have:=H6.out.ok.bel.size; simp; omega) (w4.heap.size + 1) (by simp) ?_
 intro g3 cap3 w3 hown3 hgrow3 hat3 hlt3
 have HO3:=Lib.hid (HO1.out.appended hown3 hgrow3 (by rw [World.size_alloc]; exact hat3))
 clear hown3 hgrow3 hat3 HO1
 refine hK.out _ _ HO3.out.ok (fun hHeld => ?_)
 clear hK K
 try simp only [Act.put,wp1,wp2,wp3,wp4,wp5,wp6]
 refine wtg (i:=11) (v:=?a19) rfl ?b19 (by assumption) ?c19
 case b19 => (intro w hSw; have F:=Ok.sees hSw; clear hSw; simp only [sees,kCells,cellsFrom,Nat.add_zero,Nat.reduceAdd] at F; go_simp; (try rw [if_neg (by omega)]); try with_reducible rfl)
 try simp only [Act.put,wp1,wp2,wp3,wp4,wp5,wp6]
 refine wpAnyH_done (by kernel_rfl) ?_ _
 clear hHeld
 have HO4:=Lib.hid (show OkRow w0 ps 9 1 (.slice (some ⟨g3,0,none⟩) (L.length + 1) cap3) (L.length + 1) (strsV (LK 0)) w3 by rw [HONE.out.1,HX.out]; exact HO3.out.tail)
 clear HO3
 go_wp2_with fail
 refine (HKID.out _ (HIN.out.below (Below.mono HO4.out.ok.bel (Nat.le_refl _)))).mono ?_
 rintro e w5 ⟨kv,rfl,hrow,hb⟩
 obtain ⟨ka,kc,hkv⟩:=own_len hrow
 rw [HKN.out] at hkv
 subst hkv
 have HR5:=Lib.hid ((HO4.out.below hb).add (kRow w3.heap.size 3 1 (.slice ka kn kc) (kidsS t i).length ((kidsS t i).map fun x => .int .i64 (x : Nat))) hrow (by
  show (Value.slice ka kn kc).ownBlock = none ∨ (Value.slice ka kn kc).ownBlock ≠ _
  cases h9 : (Value.slice ka kn kc).ownBlock with
  | none => exact .inl rfl
  | some q9 =>
   refine .inr ?_
   have h8:=(hrow.lt q9 h9).1
   have h7:=(HO4.out.own.lt g3 rfl).2
   show some q9 ≠ some g3
   simp only [ne_eq,Option.some.injEq]
   omega))
 clear hb hrow HO4
 rw [← HONE.out.2] at HR5
 go_wp2_with fail
 go_loopw [3,32] (fun lv iv wr => ∃ m : Nat,m ≤ kn ∧ iv = .int .i64 (m : Int) ∧ Hid (OkRow w0 (kRow w3.heap.size 3 1 (.slice ka kn kc) (kidsS t i).length ((kidsS t i).map fun x => .int .i64 (x : Nat)) :: ps) 9 1 lv (LK m).length (strsV (LK m)) wr)) (fun _ iv _ => kn - (intOf iv).toNat)
 case atStart => exact ⟨0,Nat.zero_le _,rfl,by rw [HONE.out.2] at HR5 ⊢; exact HR5⟩
 case round =>
  clear HR5
  obtain ⟨m,hmk,rfl,HRW⟩:=hrel
  obtain ⟨wq,rfl⟩ : ∃ wq : World,wq = wr:=⟨_,rfl⟩
  by_cases hlm : (m : Int) < (kn : Int)
  ·have hml : m < (kidsS t i).length:=by rw [HKN.out]; omega
   have HML:=keep hml
   have hrw : wq.ownsRow w3.heap.size 3 1 (.slice ka kn kc) (kidsS t i).length ((kidsS t i).map fun x => .int .i64 (x : Nat)):=HRW.out.ok.get (kRow w3.heap.size 3 1 (.slice ka kn kc) (kidsS t i).length ((kidsS t i).map fun x => .int .i64 (x : Nat))) (by simp)
   have hcell:=@World.ownsRow.cells _ _ _ _ _ _ _ hrw
   have hlt9:=hrw.lt
   rcases hrw.2 with ⟨h9,h0⟩ | ⟨g,cap,cur,h9,-⟩
   ·omega
   simp only [Value.slice.injEq] at h9
   obtain ⟨rfl,-,rfl⟩:=h9
   obtain ⟨j,hj⟩ : ∃ j,(kidsS t i)[m]'hml = j:=⟨_,rfl⟩
   have hkc:=hcell rfl m (.int .i64 (j : Nat)) (by rw [List.getElem?_map,List.getElem?_eq_getElem hml,hj]; rfl)
   rw [show (⟨g,0,none⟩ : Addr).add m = ⟨g,0 + m,none⟩ by unfold Addr.add; split <;> simp_all,Nat.zero_add] at hkc
   have hglt:=(hlt9 g rfl).2
   have hji:=HLT.out m hml
   have hl2:=HLL2.out m hml
   have hst2:=HSTEP.out m hml
   rw [hj] at hji hl2 hst2
   have hih:=HIH.out j hji w0 wq _ _ (LK m) (lvl + 1) HIN.out HRW.out (by omega) hl2
   rw [HTL.out,← hst2] at hih
   have HI:=keep hih
   clear hih hl2 hst2 hrw hcell hlt9 hj hji hml HRW
   go_wp2_with fail
   refine HI.out.mono ?_
   rintro e w8 ⟨v9,rfl,hrow9⟩
   have HR9:=Lib.hid hrow9
   clear hrow9 hkc hglt
   go_wp2_with fail
   go_roundw
   case rel => exact ⟨m + 1,by omega,by go_num,HR9⟩
   case measure => simp [intOf]; omega
  ·obtain rfl : kn = m:=by omega
   go_wp2_with fail
   first
    | go_ret
    | skip
   rw [← HPP.out]
   refine ⟨_,rfl,?_⟩
   rw [HKN.out]
   exact HRW.out.tail
theorem show_outline (t : List Nd) (tb tz tc : Nat) (hc : TChk t) : ∀ i,i < t.length → OutAt t tb tz tc i:=by
 intro i
 induction i using Nat.strongRecOn with
 | _ i ih => exact fun hi => out_at t tb tz tc i hc hi fun j hj => ih j hj (by omega)
end Go.Proofs.YtlbigmlaokdmdaaGreatDoor
namespace Go.Proofs.YtlbigmlaokdmdaaGreatDoor
open Go.RowKit
noncomputable def olS (t : List NdA) : List (List UInt8):=if checkA t ≠ 0 then [] else (outS (t.map NdA.nd)).map lineO
theorem olS_bad {t : List NdA} (h : checkA t ≠ 0) : olS t = []:=if_pos h
theorem olS_ok {t : List NdA} (h : checkA t = 0) : olS t = (outS (t.map NdA.nd)).map lineO:=if_neg (by rw [h]; decide)
def LnOut (t : List NdA) (w : World) (e : Ending) (w' : World) : Prop :=
 ∃ v,e = .returned (.tuple #[v,.int .i64 (checkA t)]) ∧ w'.ownsRow w.heap.size 9 1 v (olS t).length (strsV (olS t)) ∧ Below w.heap.size w w'
theorem nd_of_good {n : Nd} (h : goodNd n) (hn : n.vn ≤ 9223372036854775807) : NdC n:=by
 rcases h with ⟨vk,vn,vt,rfl,hv⟩ | ⟨⟨a,b,c,d⟩,rfl,hck,h1,h2⟩ | ⟨r,rfl,hck,hne⟩ | rfl | rfl | ⟨op,rfl,h1,h2⟩ | ⟨fn,k,rfl,h1,h2,h3,h4⟩
 ·have hn : vn ≤ 9223372036854775807:=hn
  rcases hv with ⟨rfl,h0,rfl⟩ | ⟨rfl,h0,rfl⟩ | ⟨rfl,rfl,hl,hp⟩ | ⟨rfl,⟨h1,h5⟩,rfl⟩
  ·exact .num vn h0 hn
  ·rcases h0 with rfl | rfl
   ·exact .no
   ·exact .yes
  ·exact .text vt hp
  ·obtain ⟨c,rfl⟩ : ∃ c : Nat,vn = (c : Int):=⟨vn.toNat,by omega⟩
   exact .err c (by omega) (by omega)
 ·have e : (⟨a,b,c,d⟩ : R4) = ⟨a,b,a,b⟩:=by
   have h1 : a = c:=h1
   have h2 : b = d:=h2
   rw [← h1,← h2]
  rw [e]
  unfold checkB at hck
  simp only [Bool.and_eq_true] at hck
  exact .ref a b hck.1.1.1
 ·exact .rng r hck hne
 ·exact .neg
 ·exact .pct
 ·exact .bin op h1 h2
 ·exact .call fn k h1 h2 h3 h4
theorem TChk.ndc {t : List Nd} (h : TChk t) : ∀ n ∈ t,NdC n:=fun n hn => nd_of_good (h.good n hn).1 (h.good n hn).2
theorem checkS_of {t : List NdA} (h : checkA t = 0) : checkS (t.map NdA.nd) = 0:=(checkA_zero h).2.1
set_option maxRecDepth 100000 in
set_option maxHeartbeats 4000000 in
theorem show_Outline (t : List NdA) (ta : Option Addr) (tc : Nat) (w : World) (hs : ASz t) (hin : AIn t ta w) :
  Calls Tryz.prog 13 #[.slice ta t.length tc] w (LnOut t w):=by
 have HCK:=keep (tree_CheckA t ta tc w hin.rows hs.len hs.txt)
 obtain ⟨P,hP⟩ : ∃ P : Ending → World → Prop,LnOut t w = P:=⟨_,rfl⟩
 rw [hP]
 have HPP:=keep hP
 clear hP
 obtain ⟨tl,htl⟩ : ∃ tl,t.length = tl:=⟨_,rfl⟩
 rw [htl] at HCK ⊢
 by_cases hc : checkA t = 0
 ·obtain ⟨he,hk,h0,p,hw,-⟩:=tchk_of hc hs.num
  obtain ⟨tb,tz,rfl,htin⟩:=hin.tin hc hs
  have hpos : 0 < t.length:=List.length_pos_iff.2 h0
  have hne : t.map NdA.nd ≠ []:=by simpa using h0
  have hol : linesAt (t.map NdA.nd) (tl - 1) 0 = olS t:=by
   have:=(tree_roots hw hne).2.2.2
   rw [List.length_map,htl] at this
   rw [olS_ok hc,this]
   rfl
  have hlen : (olS t).length ≤ 256:=by
   rw [olS_ok hc,List.length_map,(out_lines _ hk.ndc (checkS_of hc)).1]
   exact hk.len
  have hkl:=hk.len
  rw [List.length_map] at hkl
  have HOL : Keep (∀ w2,TIn (t.map NdA.nd) tb tz w2 → Calls Tryz.prog 30 #[.slice (some ⟨tb,tz,none⟩) tl tc,.int .i64 ((tl - 1 : Nat) : Int),.int .i64 0,.slice none 0 0] w2 fun e w' => ∃ v',e = .returned v' ∧ OkRow w2 [] 9 1 v' (olS t).length (strsV (olS t)) w'):=keep (fun w2 h => by
   have:=show_outline (t.map NdA.nd) tb tz tc hk (tl - 1) (by rw [List.length_map]; omega) w2 w2 [] (.slice none 0 0) [] 0 h (OkRow.start (Ok.start w2) 9 1) (by omega) (by rw [hol]; show 0 + (olS t).length ≤ _; omega)
   rw [hol,List.length_map,htl,List.nil_append] at this
   exact this)
  have HIN:=keep htin
  have HCZ:=keep hc
  rw [hc] at HCK
  have hp1 : 0 < tl:=by omega
  obtain ⟨l1,hl1⟩ : ∃ l1,tl - 1 = l1:=⟨_,rfl⟩
  rw [hl1] at HOL
  have hi1 : IntKind.i64.wrap ((tl : Int) - 1) = (l1 : Int):=by rw [Go.IntWalk.i64_in _ (by omega)]; omega
  clear hlen hol hw hne hpos h0 he hk hin htin hc hs
  go_enter Tryz.func13,Tryz.ntmps13
  go_wp2_with fail
  refine HCK.out.mono ?_
  rintro e w1 ⟨rfl,hb⟩
  have HB:=Lib.hid hb
  have HI2:=keep (HIN.out.below hb)
  clear hb
  go_wp2_with fail
  refine (HOL.out w1 HI2.out).mono ?_
  rintro e w2 ⟨v,rfl,hrow⟩
  have HB2:=Lib.hid (below_step HB.out hrow.ok.bel)
  have HRW:=keep (hrow.own.mono HB.out.size)
  clear hrow
  go_wp2_with fail
  rw [← HPP.out]
  exact ⟨v,by rw [HCZ.out]; rfl,HRW.out,HB2.out⟩
 ·obtain ⟨c,hcc⟩ : ∃ c,checkA t = c:=⟨_,rfl⟩
  have HCZ:=keep hcc
  have HBAD:=keep (olS_bad hc)
  rw [hcc] at HCK hc
  have hcb : (c != 0) = true:=by simpa using hc
  clear hcc hc hin hs htl
  go_enter Tryz.func13,Tryz.ntmps13
  go_wp2_with fail
  refine HCK.out.mono ?_
  rintro e w1 ⟨rfl,hb⟩
  have HB:=Lib.hid hb
  clear hb
  go_wp2_with fail
  rw [← HPP.out]
  exact ⟨.slice none 0 0,by rw [HCZ.out]; rfl,by rw [HBAD.out]; exact World.ownsRow_nil _ _ _ _,HB.out⟩
end Go.Proofs.YtlbigmlaokdmdaaGreatDoor
namespace Go.Proofs.YtlbigmlaokdmdaaGreatDoor
open Go.RowKit
def MAX : Int:=9223372036854775807
theorem nums_app {ns ms : List Nd} (h : ∀ y ∈ ns,y.vn ≤ MAX) (g : ∀ y ∈ ms,y.vn ≤ MAX) : ∀ y ∈ ns ++ ms,y.vn ≤ MAX:=by
 intro y hy
 rcases List.mem_append.1 hy with hy | hy
 ·exact h y hy
 ·exact g y hy
theorem nums_cons {ms : List Nd} {x : Nd} (hx : x.vn ≤ MAX) (g : ∀ y ∈ ms,y.vn ≤ MAX) : ∀ y ∈ x :: ms,y.vn ≤ MAX:=by
 intro y hy
 rcases List.mem_cons.1 hy with rfl | hy
 ·exact hx
 ·exact g y hy
theorem nums_snoc {ns : List Nd} {x : Nd} (h : ∀ y ∈ ns,y.vn ≤ MAX) (hx : x.vn ≤ MAX) : ∀ y ∈ ns ++ [x],y.vn ≤ MAX:=nums_app h (nums_cons hx (by simp))
theorem zero_max {x : Nd} (h : x.vn = 0) : x.vn ≤ MAX:=by rw [h]; decide
theorem Pk.nums {m : Md} {ts u : List Tk} {ns : List Nd} {n : Nat} (h : Pk m ts u ns n) : (∀ t ∈ ts,t.num ≤ MAX) → ∀ x ∈ ns,x.vn ≤ MAX:=by
 induction h with
 | lv5 _ _ ih => intro hg; exact ih hg
 | lv hk h _ ih1 ih2 => intro hg; exact nums_app (ih1 hg) (ih2 fun t ht => hg t (h.sub t ht))
 | nil => intro _; simp
 | stop => intro _; simp
 | op h8 hk h _ ih1 ih2 => intro hg; exact nums_app (ih1 fun t ht => hg t (by simp [ht])) (nums_cons (zero_max rfl) (ih2 fun t ht => hg t (by simp [h.sub t ht])))
 | neg _ _ _ ih => intro hg; exact nums_snoc (ih fun t ht => hg t (by simp [ht])) (zero_max rfl)
 | bare _ _ _ ih => intro hg; exact ih hg
 | pow _ h _ _ _ ih1 ih2 => intro hg; exact nums_app (ih1 hg) (nums_snoc (ih2 fun t ht => hg t (h.sub t (by simp [ht]))) (zero_max rfl))
 | pc _ ih =>
  intro hg
  refine nums_app (ih hg) fun y hy => ?_
  rw [(List.mem_replicate.1 hy).2]
  exact zero_max rfl
 | @val t l h1 h4 => intro hg; exact nums_cons (by have:=hg t (by simp); show (if t.kind = 2 then 0 else t.num) ≤ MAX; split <;> first | decide | exact this) (by simp)
 | ref h5 => intro hg; exact nums_cons (zero_max rfl) (by simp)
 | par _ _ _ ih => intro hg; exact ih fun t ht => hg t (by simp [ht])
 | call h7 hf ho h hc h1 h2 hd ih => intro hg; exact nums_snoc (ih fun t ht => hg t (by simp [ht])) (zero_max rfl)
 | argE _ _ _ ih => intro hg; exact ih hg
 | argC _ h _ _ ih1 ih2 => intro hg; exact nums_app (ih1 hg) (ih2 fun t ht => hg t (h.sub t (by simp [ht])))
 | rngE h6 => intro hg; exact nums_cons (zero_max rfl) (by simp)
 | rngC h6 _ _ _ ih => intro hg; exact nums_cons (zero_max rfl) (ih fun t ht => hg t (by simp [ht]))
theorem form_good {L : List UInt8} {t : List Nd} {a : Int} (h : formS L = (t,a,0)) : a = 0 ∧ checkA (t.map Nd.any) = 0 ∧ ASz (t.map Nd.any) ∧ (∀ n ∈ t,NdC n) ∧ checkS t = 0 ∧ ∃ ts n,tokensS L = (ts,0,0) ∧ Pk (.lv 1) ts [] t n:=by
 rcases form_cases L with ⟨a',e',h',he,-,-⟩ | ⟨ts,ns,n,h',ht,hp,hc⟩
 ·rw [h] at h'
  exact absurd (Prod.mk.inj (Prod.mk.inj h').2).2.symm he
 ·rw [h] at h'
  obtain ⟨rfl,h2⟩:=Prod.mk.inj h'
  obtain ⟨rfl,-⟩:=Prod.mk.inj h2
  obtain ⟨-,-,-,hlex⟩:=tokens_ok ht
  have hnum:=hp.nums fun t ht => (hlex.nums t ht).2
  have hgood:=hp.good (by simp only [okM]) (tokens_good ht)
  have hck : checkA (t.map Nd.any) = 0:=by rw [checkA_any hgood]; exact hc
  obtain ⟨-,-,-,hlen,-⟩:=checkA_zero hck
  have hndc : ∀ n ∈ t,NdC n:=fun n hn => nd_of_good (hgood n hn) (hnum n hn)
  refine ⟨rfl,hck,⟨by omega,?_,?_⟩,hndc,hc,ts,n,ht,hp⟩
  ·intro x hx
   obtain ⟨y,hy,rfl⟩:=List.mem_map.1 hx
   have:=good_text (hgood y hy)
   show y.vt.length ≤ _
   omega
  ·intro x hx
   obtain ⟨y,hy,rfl⟩:=List.mem_map.1 hx
   exact hnum y hy
end Go.Proofs.YtlbigmlaokdmdaaGreatDoor
