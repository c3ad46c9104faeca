/- show.outline and show.Outline. show.Outline, of any nodes. The kit's EqualTree in general, EqualStrings and CopyTree; the statements' Few. -/
import Derived.Test.YtnbemkiplnanlaaGreatDoorMTxv
import Derived.Test.YtnbemkiplnanlaaGreatDoorMIterV
import Derived.Test.YtnbemkiplnanlaaGreatDoorMNdG
import Derived.Test.YtnbemkiplnanlaaGreatDoorMForB
namespace Go.Proofs.YtnbemkiplnanlaaGreatDoor
set_option maxRecDepth 100000
set_option maxHeartbeats 8000000
open Go.RowKit
def linesAt (t : List Nd) (i lvl : Nat) : List (List UInt8):=(olAt t i).map fun x => lineO (x.1 + lvl,x.2)
theorem lines_eq {t : List Nd} {i : Nat} {n : Nd} (h : t[i]? = some n) (lvl : Nat) : linesAt t i lvl = lineO (lvl,ownO n) :: (kidsS t i).flatMap fun j => linesAt t j (lvl + 1):=by
 unfold linesAt
 rw [ol_eq h]
 unfold comO
 rw [List.map_cons,Nat.zero_add]
 congr 1
 induction kidsS t i with
 | nil => rfl
 | cons k ks ih =>
  rw [List.map_cons,List.flatMap_cons,List.map_append,List.flatMap_cons,← ih]
  congr 1
  unfold downO
  rw [List.map_map]
  apply List.map_congr_left
  intro x _
  show lineO (x.1 + 1 + lvl,x.2) = lineO (x.1 + (lvl + 1),x.2)
  rw [show x.1 + 1 + lvl = x.1 + (lvl + 1) by omega]
def lnK (t : List Nd) (i lvl : Nat) (L : List (List UInt8)) (n : Nd) (m : Nat) : List (List UInt8):=(L ++ [lineO (lvl,ownO n)]) ++ ((kidsS t i).take m).flatMap fun j => linesAt t j (lvl + 1)
theorem lnK_succ {t : List Nd} {i lvl : Nat} {L : List (List UInt8)} {n : Nd} {m : Nat} (h : m < (kidsS t i).length) : lnK t i lvl L n (m + 1) = lnK t i lvl L n m ++ linesAt t ((kidsS t i)[m]) (lvl + 1):=by
 unfold lnK
 rw [List.take_succ_eq_append_getElem h,List.flatMap_append,List.append_assoc,List.append_assoc,List.append_assoc]
 simp
theorem lnK_all {t : List Nd} {i lvl : Nat} {L : List (List UInt8)} {n : Nd} (h : t[i]? = some n) : lnK t i lvl L n (kidsS t i).length = L ++ linesAt t i lvl:=by
 unfold lnK
 rw [List.take_length,lines_eq h]
 simp
theorem flat_take {α β : Type} (f : α → List β) : ∀ (l : List α) (m : Nat),((l.take m).flatMap f).length ≤ (l.flatMap f).length
 | [],m => by simp
 | x :: l,0 => by simp
 | x :: l,m + 1 => by
  have:=flat_take f l m
  rw [List.take_succ_cons,List.flatMap_cons,List.flatMap_cons,List.length_append,List.length_append]
  omega
theorem lnK_le {t : List Nd} {i lvl : Nat} {L : List (List UInt8)} {n : Nd} (h : t[i]? = some n) (m : Nat) : (lnK t i lvl L n m).length ≤ L.length + (linesAt t i lvl).length:=by
 rw [lines_eq h]
 unfold lnK
 rw [List.length_append,List.length_append,List.length_cons]
 have:=flat_take (fun j => linesAt t j (lvl + 1)) (kidsS t i) m
 simp only [List.length_cons,List.length_nil]
 omega
theorem rep_two (k : Nat) : Lib.repeatL [32,32] k = List.replicate (2 * k) 32:=by
 induction k with
 | zero => rfl
 | succ k ih =>
  rw [show 2 * (k + 1) = 2 + 2 * k by omega,← List.replicate_append_replicate,← ih]
  rfl
theorem kids_small {t : List Nd} (hc : TChk t) {i : Nat} {n : Nd} (hn : t[i]? = some n) : (kidsS t i).length ≤ 16:=by
 rw [hc.kids i n hn]
 rcases (hc.good n (List.mem_of_getElem? hn)).1 with ⟨_,_,_,rfl,_⟩ | ⟨_,rfl,_⟩ | ⟨_,rfl,_⟩ | rfl | rfl | ⟨_,rfl,_⟩ | ⟨fn,k,rfl,_,_,_,h4⟩
 ·exact Nat.zero_le _
 ·exact Nat.zero_le _
 ·exact Nat.zero_le _
 ·exact (by decide : (1 : Nat) ≤ 16)
 ·exact (by decide : (1 : Nat) ≤ 16)
 ·exact (by decide : (2 : Nat) ≤ 16)
 ·have : (arS fn).2 ≤ 16:=by unfold arS; (repeat' split) <;> decide
  show k ≤ 16
  omega
def OutAt (t : List Nd) (tb tz tc i : Nat) : Prop:=∀ (w0 w : World) (ps : List Pers) (v : Value) (L : List (List UInt8)) (lvl : Nat),TIn t tb tz w0 → OkRow w0 ps 9 1 v L.length (strsV L) w → lvl + i ≤ 1000 → L.length + (linesAt t i lvl).length ≤ 100000 →
 Calls Tryz.prog 48 #[.slice (some ⟨tb,tz,none⟩) t.length tc,.int .i64 (i : Nat),.int .i64 (lvl : Nat),v] w fun e w' => ∃ v',e = .returned v' ∧ OkRow w0 ps 9 1 v' (L ++ linesAt t i lvl).length (strsV (L ++ linesAt t i lvl)) w'
theorem out_at (t : List Nd) (tb tz tc i : Nat) (hc : TChk t) (hi : i < t.length) (IH : ∀ j,j < i → OutAt t tb tz tc j) : OutAt t tb tz tc i:=by
 intro w0 w ps v L lvl hin hrow hlv hll
 obtain ⟨n,hn⟩ : ∃ n,t[i]? = some n:=⟨_,List.getElem?_eq_getElem hi⟩
 have hg:=hc.good n (List.mem_of_getElem? hn)
 have hin2:=hin.below (below_step (Below.refl _ _) (hrow.ok.bel.mono (Nat.le_refl _)))
 obtain ⟨h1,h2⟩:=hin.node hn
 have h3 : tb < w.heap.size:=Nat.lt_of_lt_of_le h1 hrow.ok.bel.size
 have HSTEP:=keep (fun m (h : m < (kidsS t i).length) => lnK_succ (lvl:=lvl) (L:=L) (n:=n) h)
 have HLE:=keep (fun m => lnK_le (L:=L) (lvl:=lvl) hn m)
 have HALL:=keep (lnK_all (L:=L) (lvl:=lvl) hn)
 have HLT:=keep (fun m (h : m < (kidsS t i).length) => kids_lt t i _ (List.getElem_mem h))
 have HONE:=keep (show strsV (lnK t i lvl L n 0) = strsV L ++ [.string (byt (lineO (lvl,ownO n)))] ∧ (lnK t i lvl L n 0).length = L.length + 1 by
  unfold lnK
  rw [List.take_zero,List.flatMap_nil,List.append_nil,strsV_snoc,List.length_append]
  exact ⟨rfl,rfl⟩)
 have hos:=own_len_ hg.1 hg.2
 have HOWN:=keep (fun (W : World) (h : WEnv W) => show_own n hg.1 hg.2 W h)
 have HKID:=keep (fun (W : World) (h : TIn t tb tz W) => kids_at hc (tc:=tc) hi h)
 have hcw : cellsFrom w tb (tz + i * 11) 0 (ndRow n):=by
  have : (kCells tb (tz + i * 11) (ndRow n)).p w:=(kCells tb (tz + i * 11) (ndRow n)).st w0 w none (by simp [kCells]) (only_of_below hrow.ok.bel none) ⟨h1,h2⟩
  exact this.2
 have hLL:=hll
 obtain ⟨K,hK⟩ : ∃ K,L.length + (linesAt t i lvl).length = K:=⟨_,rfl⟩
 rw [hK] at HLE hLL
 obtain ⟨LK,hLK⟩ : ∃ LK : Nat → List (List UInt8),lnK t i lvl L n = LK:=⟨_,rfl⟩
 rw [hLK] at HSTEP HLE HALL HONE
 have hl0:=HLE.out 0
 rw [HONE.out.2] at hl0
 have HLL2:=keep (fun m (h : m < (kidsS t i).length) => show (LK m).length + (linesAt t ((kidsS t i)[m]) (lvl + 1)).length ≤ 100000 by
  have h8:=HLE.out (m + 1)
  rw [HSTEP.out m h,List.length_append] at h8
  omega)
 rw [← HALL.out]
 have HIH:=keep IH
 have HIN:=keep hin
 obtain ⟨X,hX⟩ : ∃ X : ByteArray,byt (lineO (lvl,ownO n)) = X:=⟨_,rfl⟩
 rw [hX] at HONE
 obtain ⟨RP,hRP⟩ : ∃ RP : ByteArray,⟨(Lib.repeatL [32,32] lvl).toArray⟩ = RP:=⟨_,rfl⟩
 obtain ⟨O,hO⟩ : ∃ O : ByteArray,⟨(ownO n).toArray⟩ = O:=⟨_,rfl⟩
 have zO : O.size ≤ 1000000:=by rw [← hO]; show (ownO n).toArray.size ≤ _; rw [List.size_toArray]; omega
 have zR : RP.size ≤ 1000000:=by rw [← hRP,rep_two]; show (List.replicate (2 * lvl) (32 : UInt8)).toArray.size ≤ _; simp; omega
 have HX:=keep (show X = RP ++ O by
  rw [← hX,← hRP,← hO,rep_two]
  show byt (List.replicate (2 * lvl) 32 ++ ownO n) = _
  rw [bytes_append]
  rfl)
 have HREP:=keep (fun W : World => by
  have:=Tryz.strings_Repeat ⟨#[32,32]⟩ lvl W (by omega) (by show 2 * lvl ≤ _; omega)
  rw [show (⟨#[32,32]⟩ : ByteArray).data.toList = [32,32] from rfl,hRP] at this
  exact this)
 simp only [hO] at HOWN
 have HR0:=Lib.hid (hrow.add (kCells tb (tz + i * 11) (ndRow n)) ⟨h3,hcw⟩ (by
  show some tb ≠ v.ownBlock
  intro e
  have:=(hrow.own.lt tb e.symm).1
  omega))
 obtain ⟨P,hP⟩ : ∃ P : Ending → World → Prop,(fun (e : Ending) (w' : World) => ∃ v',e = .returned v' ∧ OkRow w0 ps 9 1 v' (LK (kidsS t i).length).length (strsV (LK (kidsS t i).length)) w') = P:=⟨_,rfl⟩
 rw [hP]
 have HPP:=keep hP
 clear hP
 obtain ⟨tl,htl⟩ : ∃ tl,t.length = tl:=⟨_,rfl⟩
 have hki : (i : Int) < (tl : Int):=by omega
 rw [htl] at HKID ⊢
 have HTL:=keep htl
 obtain ⟨kn,hkn⟩ : ∃ kn,(kidsS t i).length = kn:=⟨_,rfl⟩
 have HKN:=keep hkn
 have hkb : kn ≤ 16:=by rw [← hkn]; exact kids_small hc hn
 have hw1 : IntKind.i64.wrap ((lvl : Int) + 1) = ((lvl + 1 : Nat) : Int):=by rw [Go.IntWalk.i64_in _ (by omega)]; omega
 obtain ⟨i0,hi,hz0,hz1,hz2⟩:=info_parts info_str7
 obtain ⟨nk,vk,vn,vt,⟨r1,r2,r3,r4⟩,op,fn,nn⟩:=n
 clear hLK hX hRP hO htl hkn h1 h2 h3 hcw hn hg hin hin2 hrow hos hc hK IH hll
 have HR1 : Hid (OkRow w0 (kCells tb (tz + i * 11) [.int .u8 nk,.int .u8 vk,.int .i64 vn,.string ⟨vt.toArray⟩,.int .i64 r1,.int .i64 r2,.int .i64 r3,.int .i64 r4,.int .i64 op,.int .u8 fn,.int .i64 nn] :: ps) 9 1 v L.length (strsV L) w):=HR0
 clear HR0
 go_enter Tryz.func48,Tryz.ntmps48
 go_upto_region 1 with fail
 have HRD:=Lib.hid HR1.out.drew
 have HB9:=keep HRD.out.ok.bel.size
 generalize hWd : w.drew = Wd at HRD HB9
 refine wp_region_held_drew (S:=fun W => Ok w0 (kCells tb (tz + i * 11) [.int .u8 nk,.int .u8 vk,.int .i64 vn,.string ⟨vt.toArray⟩,.int .i64 r1,.int .i64 r2,.int .i64 r3,.int .i64 r4,.int .i64 op,.int .u8 fn,.int .i64 nn] :: ps) W) (by kernel_rfl) (by rw [hWd]; exact HRD.out.ok) (fun hHeld => ?_)
 rw [hWd] at hHeld ⊢
 clear hWd HR1
 refine wt4 (i:=0) rfl (by assumption) ?_
 refine wt4 (i:=1) rfl (by assumption) ?_
 refine wt4 (i:=3) rfl (by assumption) ?_
 refine wt4 (i:=4) rfl (by assumption) ?_
 refine wt4 (i:=5) rfl (by assumption) ?_
 refine wt4 (i:=6) rfl (by assumption) ?_
 refine wal (i:=2) rfl (fun K hK => ?_)
 go_simp
 refine (HREP.out _).mono ?_
 rintro e w1 ⟨rfl,hb2⟩
 go_wp2_with fail
 have H3:=Lib.hid (HRD.out.below hb2)
 clear hb2 HRD
 refine hK.out _ _ H3.out.ok (fun hHeld => ?_)
 clear hK K
 try simp only [Act.put,wp1,wp2,wp3,wp4,wp5,wp6]
 refine wal (i:=7) rfl (fun K hK => ?_)
 go_simp
 refine (HOWN.out _ ((HIN.out.below (Below.mono hHeld.bel (Nat.le_refl _))).env)).mono ?_
 rintro e w4 ⟨rfl,hb5⟩
 go_wp2_with fail
 have H6:=Lib.hid (H3.out.below hb5)
 clear hb5 H3
 refine hK.out _ _ H6.out.ok (fun hHeld => ?_)
 clear hK K
 try simp only [Act.put,wp1,wp2,wp3,wp4,wp5,wp6]
 refine wt4 (i:=8) rfl (by assumption) ?_
 refine wal (i:=9) rfl (fun K hK => ?_)
 go_simp
 have HO1:=Lib.hid (H6.out.alloc_obj (.cells #[.string (RP ++ O)] 9))
 refine hK.out _ _ HO1.out.ok (fun hHeld => ?_)
 clear hK K
 try simp only [Act.put,wp1,wp2,wp3,wp4,wp5,wp6]
 refine wal (i:=10) rfl (fun K hK => ?_)
 refine step_append_lies _ (by rfl) _ _ _ (by rfl) w0.heap.size 9 i0 _ 1 16 Tryz.underlying27 hi hz0 hz1 hz2 rfl (by omega) _ _ _ (by rfl) HO1.out.own ⟨w4.heap.size,0,none⟩ 1 1 [.string (RP ++ O)] (by rfl) (by rfl) (World.news_of_block (cs:=#[.string (RP ++ O)]) (t:=9) (fr:=(0,0)) (heap_alloc_new _ _)) (by intro u hu; simp at hu; rcases hu with rfl; rfl) (by omega) (by unfold maxLen; omega) (by omega) (by have:=HB9.out; have:=H6.out.ok.bel.size; simp; omega) (w4.heap.size + 1) (by simp) ?_
 intro g3 cap3 w3 hown3 hgrow3 hat3 hlt3
 have HO3:=Lib.hid (HO1.out.appended hown3 hgrow3 (by rw [World.size_alloc]; exact hat3))
 clear hown3 hgrow3 hat3 HO1
 refine hK.out _ _ HO3.out.ok (fun hHeld => ?_)
 clear hK K
 try simp only [Act.put,wp1,wp2,wp3,wp4,wp5,wp6]
 refine wt4 (i:=11) rfl (by assumption) ?_
 refine wpAnyH_done (by kernel_rfl) ?_ _
 clear hHeld
 have HO4:=Lib.hid (show OkRow w0 ps 9 1 (.slice (some ⟨g3,0,none⟩) (L.length + 1) cap3) (L.length + 1) (strsV (LK 0)) w3 by rw [HONE.out.1,HX.out]; exact HO3.out.tail)
 clear HO3
 go_wp2_with fail
 refine (HKID.out _ (HIN.out.below (Below.mono HO4.out.ok.bel (Nat.le_refl _)))).mono ?_
 rintro e w5 ⟨kv,rfl,hrow,hb⟩
 obtain ⟨ka,kc,hkv⟩:=own_len hrow
 rw [HKN.out] at hkv
 subst hkv
 have HR5:=Lib.hid ((HO4.out.below hb).add (kRow w3.heap.size 3 1 (.slice ka kn kc) (kidsS t i).length ((kidsS t i).map fun x => .int .i64 (x : Nat))) hrow (by
  show (Value.slice ka kn kc).ownBlock = none ∨ (Value.slice ka kn kc).ownBlock ≠ _
  cases h9 : (Value.slice ka kn kc).ownBlock with
  | none => exact .inl rfl
  | some q9 =>
   refine .inr ?_
   have h8:=(hrow.lt q9 h9).1
   have h7:=(HO4.out.own.lt g3 rfl).2
   show some q9 ≠ some g3
   simp only [ne_eq,Option.some.injEq]
   omega))
 clear hb hrow HO4
 rw [← HONE.out.2] at HR5
 go_wp2_with fail
 go_loopw [3,32] (fun lv iv wr => ∃ m : Nat,m ≤ kn ∧ iv = .int .i64 (m : Int) ∧ Hid (OkRow w0 (kRow w3.heap.size 3 1 (.slice ka kn kc) (kidsS t i).length ((kidsS t i).map fun x => .int .i64 (x : Nat)) :: ps) 9 1 lv (LK m).length (strsV (LK m)) wr)) (fun _ iv _ => kn - (intOf iv).toNat)
 case atStart => exact ⟨0,Nat.zero_le _,rfl,by rw [HONE.out.2] at HR5 ⊢; exact HR5⟩
 case round =>
  clear HR5
  obtain ⟨m,hmk,rfl,HRW⟩:=hrel
  obtain ⟨wq,rfl⟩ : ∃ wq : World,wq = wr:=⟨_,rfl⟩
  by_cases hlm : (m : Int) < (kn : Int)
  ·have hml : m < (kidsS t i).length:=by rw [HKN.out]; omega
   have HML:=keep hml
   have hrw : wq.ownsRow w3.heap.size 3 1 (.slice ka kn kc) (kidsS t i).length ((kidsS t i).map fun x => .int .i64 (x : Nat)):=HRW.out.ok.get (kRow w3.heap.size 3 1 (.slice ka kn kc) (kidsS t i).length ((kidsS t i).map fun x => .int .i64 (x : Nat))) (by simp)
   have hcell:=@World.ownsRow.cells _ _ _ _ _ _ _ hrw
   have hlt9:=hrw.lt
   rcases hrw.2 with ⟨h9,h0⟩ | ⟨g,cap,cur,h9,-⟩
   ·omega
   simp only [Value.slice.injEq] at h9
   obtain ⟨rfl,-,rfl⟩:=h9
   obtain ⟨j,hj⟩ : ∃ j,(kidsS t i)[m]'hml = j:=⟨_,rfl⟩
   have hkc:=hcell rfl m (.int .i64 (j : Nat)) (by rw [List.getElem?_map,List.getElem?_eq_getElem hml,hj]; rfl)
   rw [show (⟨g,0,none⟩ : Addr).add m = ⟨g,0 + m,none⟩ by unfold Addr.add; split <;> simp_all,Nat.zero_add] at hkc
   have hglt:=(hlt9 g rfl).2
   have hji:=HLT.out m hml
   have hl2:=HLL2.out m hml
   have hst2:=HSTEP.out m hml
   rw [hj] at hji hl2 hst2
   have hih:=HIH.out j hji w0 wq _ _ (LK m) (lvl + 1) HIN.out HRW.out (by omega) hl2
   rw [HTL.out,← hst2] at hih
   have HI:=keep hih
   clear hih hl2 hst2 hrw hcell hlt9 hj hji hml HRW
   go_wp2_with fail
   refine HI.out.mono ?_
   rintro e w8 ⟨v9,rfl,hrow9⟩
   have HR9:=Lib.hid hrow9
   clear hrow9 hkc hglt
   go_wp2_with fail
   go_roundw
   case rel => exact ⟨m + 1,by omega,by go_num,HR9⟩
   case measure => simp [intOf]; omega
  ·obtain rfl : kn = m:=by omega
   go_wp2_with fail
   first
    | go_ret
    | skip
   rw [← HPP.out]
   refine ⟨_,rfl,?_⟩
   rw [HKN.out]
   exact HRW.out.tail
theorem show_outline (t : List Nd) (tb tz tc : Nat) (hc : TChk t) : ∀ i,i < t.length → OutAt t tb tz tc i:=by
 intro i
 induction i using Nat.strongRecOn with
 | _ i ih => exact fun hi => out_at t tb tz tc i hc hi fun j hj => ih j hj (by omega)
end Go.Proofs.YtnbemkiplnanlaaGreatDoor
namespace Go.Proofs.YtnbemkiplnanlaaGreatDoor
set_option maxRecDepth 100000
set_option maxHeartbeats 4000000
open Go.RowKit
noncomputable def olS (t : List NdA) : List (List UInt8):=if checkA t ≠ 0 then [] else (outS (t.map NdA.nd)).map lineO
theorem olS_bad {t : List NdA} (h : checkA t ≠ 0) : olS t = []:=if_pos h
theorem olS_ok {t : List NdA} (h : checkA t = 0) : olS t = (outS (t.map NdA.nd)).map lineO:=if_neg (by rw [h]; decide)
def LnOut (t : List NdA) (w : World) (e : Ending) (w' : World) : Prop :=
 ∃ v,e = .returned (.tuple #[v,.int .i64 (checkA t)]) ∧ w'.ownsRow w.heap.size 9 1 v (olS t).length (strsV (olS t)) ∧ Below w.heap.size w w'
theorem nd_of_good {n : Nd} (h : goodNd n) (hn : n.vn ≤ 9223372036854775807) : NdC n:=by
 rcases h with ⟨vk,vn,vt,rfl,hv⟩ | ⟨⟨a,b,c,d⟩,rfl,hck,h1,h2⟩ | ⟨r,rfl,hck,hne⟩ | rfl | rfl | ⟨op,rfl,h1,h2⟩ | ⟨fn,k,rfl,h1,h2,h3,h4⟩
 ·have hn : vn ≤ 9223372036854775807:=hn
  rcases hv with ⟨rfl,h0,rfl⟩ | ⟨rfl,h0,rfl⟩ | ⟨rfl,rfl,hl,hp⟩ | ⟨rfl,⟨h1,h5⟩,rfl⟩
  ·exact .num vn h0 hn
  ·rcases h0 with rfl | rfl
   ·exact .no
   ·exact .yes
  ·exact .text vt hp
  ·obtain ⟨c,rfl⟩ : ∃ c : Nat,vn = (c : Int):=⟨vn.toNat,by omega⟩
   exact .err c (by omega) (by omega)
 ·have e : (⟨a,b,c,d⟩ : R4) = ⟨a,b,a,b⟩:=by
   have h1 : a = c:=h1
   have h2 : b = d:=h2
   rw [← h1,← h2]
  rw [e]
  unfold checkB at hck
  simp only [Bool.and_eq_true] at hck
  exact .ref a b hck.1.1.1
 ·exact .rng r hck hne
 ·exact .neg
 ·exact .pct
 ·exact .bin op h1 h2
 ·exact .call fn k h1 h2 h3 h4
theorem TChk.ndc {t : List Nd} (h : TChk t) : ∀ n ∈ t,NdC n:=fun n hn => nd_of_good (h.good n hn).1 (h.good n hn).2
theorem checkS_of {t : List NdA} (h : checkA t = 0) : checkS (t.map NdA.nd) = 0:=(checkA_zero h).2.1
theorem show_Outline (t : List NdA) (ta : Option Addr) (tc : Nat) (w : World) (hs : ASz t) (hin : AIn t ta w) :
  Calls Tryz.prog 17 #[.slice ta t.length tc] w (LnOut t w):=by
 have HCK:=keep (tree_CheckA t ta tc w hin.rows hs.len hs.txt)
 obtain ⟨P,hP⟩ : ∃ P : Ending → World → Prop,LnOut t w = P:=⟨_,rfl⟩
 rw [hP]
 have HPP:=keep hP
 clear hP
 obtain ⟨tl,htl⟩ : ∃ tl,t.length = tl:=⟨_,rfl⟩
 rw [htl] at HCK ⊢
 by_cases hc : checkA t = 0
 ·obtain ⟨he,hk,h0,p,hw,-⟩:=tchk_of hc hs.num
  obtain ⟨tb,tz,rfl,htin⟩:=hin.tin hc hs
  have hpos : 0 < t.length:=List.length_pos_iff.2 h0
  have hne : t.map NdA.nd ≠ []:=by simpa using h0
  have hol : linesAt (t.map NdA.nd) (tl - 1) 0 = olS t:=by
   have:=(tree_roots hw hne).2.2.2
   rw [List.length_map,htl] at this
   rw [olS_ok hc,this]
   rfl
  have hlen : (olS t).length ≤ 256:=by
   rw [olS_ok hc,List.length_map,(out_lines _ hk.ndc (checkS_of hc)).1]
   exact hk.len
  have hkl:=hk.len
  rw [List.length_map] at hkl
  have HOL : Keep (∀ w2,TIn (t.map NdA.nd) tb tz w2 → Calls Tryz.prog 48 #[.slice (some ⟨tb,tz,none⟩) tl tc,.int .i64 ((tl - 1 : Nat) : Int),.int .i64 0,.slice none 0 0] w2 fun e w' => ∃ v',e = .returned v' ∧ OkRow w2 [] 9 1 v' (olS t).length (strsV (olS t)) w'):=keep (fun w2 h => by
   have:=show_outline (t.map NdA.nd) tb tz tc hk (tl - 1) (by rw [List.length_map]; omega) w2 w2 [] (.slice none 0 0) [] 0 h (OkRow.start (Ok.start w2) 9 1) (by omega) (by rw [hol]; show 0 + (olS t).length ≤ _; omega)
   rw [hol,List.length_map,htl,List.nil_append] at this
   exact this)
  have HIN:=keep htin
  have HCZ:=keep hc
  rw [hc] at HCK
  have hp1 : 0 < tl:=by omega
  obtain ⟨l1,hl1⟩ : ∃ l1,tl - 1 = l1:=⟨_,rfl⟩
  rw [hl1] at HOL
  have hi1 : IntKind.i64.wrap ((tl : Int) - 1) = (l1 : Int):=by rw [Go.IntWalk.i64_in _ (by omega)]; omega
  clear hlen hol hw hne hpos h0 he hk hin htin hc hs
  go_enter Tryz.func17,Tryz.ntmps17
  go_wp2_with fail
  refine HCK.out.mono ?_
  rintro e w1 ⟨rfl,hb⟩
  have HB:=Lib.hid hb
  have HI2:=keep (HIN.out.below hb)
  clear hb
  go_wp2_with fail
  refine (HOL.out w1 HI2.out).mono ?_
  rintro e w2 ⟨v,rfl,hrow⟩
  have HB2:=Lib.hid (below_step HB.out hrow.ok.bel)
  have HRW:=keep (hrow.own.mono HB.out.size)
  clear hrow
  go_wp2_with fail
  rw [← HPP.out]
  exact ⟨v,by rw [HCZ.out]; rfl,HRW.out,HB2.out⟩
 ·obtain ⟨c,hcc⟩ : ∃ c,checkA t = c:=⟨_,rfl⟩
  have HCZ:=keep hcc
  have HBAD:=keep (olS_bad hc)
  rw [hcc] at HCK hc
  have hcb : (c != 0) = true:=by simpa using hc
  clear hcc hc hin hs htl
  go_enter Tryz.func17,Tryz.ntmps17
  go_wp2_with fail
  refine HCK.out.mono ?_
  rintro e w1 ⟨rfl,hb⟩
  have HB:=Lib.hid hb
  clear hb
  go_wp2_with fail
  rw [← HPP.out]
  exact ⟨.slice none 0 0,by rw [HCZ.out]; rfl,by rw [HBAD.out]; exact World.ownsRow_nil _ _ _ _,HB.out⟩
end Go.Proofs.YtnbemkiplnanlaaGreatDoor
namespace Go.Proofs.YtnbemkiplnanlaaGreatDoor
set_option maxRecDepth 100000
set_option maxHeartbeats 4000000
open Go.RowKit
attribute [local go_sem high] eq_node
open Classical in
noncomputable def eqA (t u : List NdA) : Bool:=decide (t = u)
open Classical in
theorem eqA_yes (t : List NdA) : eqA t t = true:=decide_eq_true rfl
open Classical in
theorem eqA_no {t u : List NdA} (h : t ≠ u) : eqA t u = false:=decide_eq_false h
theorem cells_below {w0 w : World} {b o : Nat} {l : List Value} (hb : Below w0.heap.size w0 w) (hlt : b < w0.heap.size) (h : ∀ j v,l[j]? = some v → w0.cell? ⟨b,o + j,none⟩ = some v) : b < w.heap.size ∧ cellsFrom w b o 0 l :=
 ⟨Nat.lt_of_lt_of_le hlt hb.size,cells_of l fun j v hj => (hb.cell hlt).trans (h j v hj)⟩
theorem rows_at {w : World} {a : Option Addr} {s : Nat} {l : List (List Value)} (h : RowsAt w a s l) {i : Nat} {r : List Value} (hi : l[i]? = some r) : ∃ b o,a = some ⟨b,o,none⟩ ∧ b < w.heap.size ∧ ∀ j v,r[j]? = some v → w.cell? ⟨b,o + i * s + j,none⟩ = some v:=by
 obtain ⟨b,o,h1,h2,h3⟩:=h (by intro e; rw [e] at hi; cases hi)
 exact ⟨b,o,h1,h2,fun j v hj => by rw [Nat.add_assoc]; exact h3 i r hi j v hj⟩
theorem equal_treeA (t u : List NdA) (a b : Option Addr) (c d : Nat) (w : World) (ht : t.length ≤ 1000) (hu : u.length ≤ 1000) (ha : RowsAt w a 11 (t.map aRow)) (hb : RowsAt w b 11 (u.map aRow)) :
  Calls Tryz.prog 20 #[.slice a t.length c,.slice b u.length d] w fun e w' => e = .returned (.bool (eqA t u)) ∧ Below w.heap.size w w':=by
 have HA:=keep ha
 have HB:=keep hb
 clear ha hb
 obtain ⟨V,hV⟩ : ∃ V,eqA t u = V:=⟨_,rfl⟩
 rw [hV]
 have HV:=keep hV
 clear hV
 obtain ⟨n,hn⟩ : ∃ n,t.length = n:=⟨_,rfl⟩
 obtain ⟨m,hm⟩ : ∃ m,u.length = m:=⟨_,rfl⟩
 rw [hn,hm]
 have HN:=keep hn
 have HM:=keep hm
 rw [hn] at ht
 rw [hm] at hu
 clear hn hm
 by_cases hnm : n = m
 rotate_left
 ·have hne : ((n : Int) != (m : Int)) = true:=by simp; omega
  have HE:=keep (show V = false from HV.out.symm.trans (eqA_no (by rintro rfl; exact hnm (HN.out.symm.trans HM.out))))
  clear hnm
  go_enter Tryz.func20,Tryz.ntmps20
  go_wp2_with fail
  go_ret
  exact ⟨by rw [HE.out]; rfl,Below.refl _ _⟩
 subst hnm
 go_enter Tryz.func20,Tryz.ntmps20
 go_wp2_with fail
 go_loopw [5] (fun i wr => ∃ k : Nat,k ≤ n ∧ i = .int .i64 (k : Int) ∧ Keep (t.take k = u.take k) ∧ Hid (Below w.heap.size w wr)) (fun i _ => n - (intOf i).toNat)
 case atStart => exact ⟨0,Nat.zero_le _,rfl,keep rfl,Below.refl _ _⟩
 case round =>
  obtain ⟨k,hk,rfl,HEQ,H2⟩:=hrel
  obtain ⟨wp,rfl⟩ : ∃ wp : World,wp = wr:=⟨_,rfl⟩
  by_cases hlt : (k : Int) < n
  ·have hil : k < t.length:=by rw [HN.out]; omega
   have hil2 : k < u.length:=by rw [HM.out]; omega
   obtain ⟨x,hx⟩ : ∃ x,t[k] = x:=⟨_,rfl⟩
   obtain ⟨y,hy⟩ : ∃ y,u[k] = y:=⟨_,rfl⟩
   have HST:=keep (show x = y → t.take (k + 1) = u.take (k + 1) from fun e => by rw [List.take_succ_eq_append_getElem hil,List.take_succ_eq_append_getElem hil2,HEQ.out,hx,hy,e])
   have HNE:=keep (show x ≠ y → V = false from fun e => HV.out.symm.trans (eqA_no (by rintro rfl; exact e (hx.symm.trans hy))))
   obtain ⟨b1,o1,ha1,hB1,hc1⟩:=rows_at HA.out (i:=k) (r:=aRow x) (by rw [List.getElem?_map,List.getElem?_eq_getElem hil,hx]; rfl)
   obtain ⟨b2,o2,hb2,hB2,hc2⟩:=rows_at HB.out (i:=k) (r:=aRow y) (by rw [List.getElem?_map,List.getElem?_eq_getElem hil2,hy]; rfl)
   subst ha1 hb2
   have q1:=cells_below H2.out hB1 hc1
   have q2:=cells_below H2.out hB2 hc2
   clear hil hil2 hx hy hc1 hc2
   obtain ⟨xk,xvk,xvn,xvt,⟨xr1,xr2,xr3,xr4⟩,xop,xfn,xn⟩:=x
   obtain ⟨yk,yvk,yvn,yvt,⟨yr1,yr2,yr3,yr4⟩,yop,yfn,yn⟩:=y
   obtain ⟨q,hq⟩ : ∃ q,eq11 xk xvk xvn xr1 xr2 xr3 xr4 xop xfn xn yk yvk yvn yr1 yr2 yr3 yr4 yop yfn yn xvt yvt = q:=⟨_,rfl⟩
   have HQ:=keep hq
   have H3 : Hid (Ok w [kCells b1 (o1 + k * 11) [.int .u8 xk,.int .u8 xvk,.int .i64 xvn,.string ⟨xvt.toArray⟩,.int .i64 xr1,.int .i64 xr2,.int .i64 xr3,.int .i64 xr4,.int .i64 xop,.int .u8 xfn,.int .i64 xn],kCells b2 (o2 + k * 11) [.int .u8 yk,.int .u8 yvk,.int .i64 yvn,.string ⟨yvt.toArray⟩,.int .i64 yr1,.int .i64 yr2,.int .i64 yr3,.int .i64 yr4,.int .i64 yop,.int .u8 yfn,.int .i64 yn]] wp):=Lib.hid (((⟨H2.out,fun _ h => absurd h (by simp)⟩ : Ok w [] wp).add (kCells b2 (o2 + k * 11) [.int .u8 yk,.int .u8 yvk,.int .i64 yvn,.string ⟨yvt.toArray⟩,.int .i64 yr1,.int .i64 yr2,.int .i64 yr3,.int .i64 yr4,.int .i64 yop,.int .u8 yfn,.int .i64 yn]) q2).add (kCells b1 (o1 + k * 11) [.int .u8 xk,.int .u8 xvk,.int .i64 xvn,.string ⟨xvt.toArray⟩,.int .i64 xr1,.int .i64 xr2,.int .i64 xr3,.int .i64 xr4,.int .i64 xop,.int .u8 xfn,.int .i64 xn]) q1)
   clear H2 q1 q2
   cases q
   ·have HE:=keep (HNE.out fun e => by
     injection e with e1 e2 e3 e4 e5 e6 e7 e8
     injection e5 with f1 f2 f3 f4
     have:=(eq11_iff xk xvk xvn xr1 xr2 xr3 xr4 xop xfn xn yk yvk yvn yr1 yr2 yr3 yr4 yop yfn yn xvt yvt).2 ⟨by omega,by omega,e3,e4,f1,f2,f3,f4,e6,by omega,e8⟩
     rw [HQ.out] at this; cases this)
    go_upto_region 6 with fail
    refine wp_region_held_drew (S:=fun W => Ok w [kCells b1 (o1 + k * 11) [.int .u8 xk,.int .u8 xvk,.int .i64 xvn,.string ⟨xvt.toArray⟩,.int .i64 xr1,.int .i64 xr2,.int .i64 xr3,.int .i64 xr4,.int .i64 xop,.int .u8 xfn,.int .i64 xn],kCells b2 (o2 + k * 11) [.int .u8 yk,.int .u8 yvk,.int .i64 yvn,.string ⟨yvt.toArray⟩,.int .i64 yr1,.int .i64 yr2,.int .i64 yr3,.int .i64 yr4,.int .i64 yop,.int .u8 yfn,.int .i64 yn]] W) (by kernel_rfl) H3.out.drew (fun hHeld => ?_)
    refine wt3 (i:=0) rfl (by assumption) ?_
    refine wt3 (i:=1) rfl (by assumption) ?_
    refine wt3 (i:=2) rfl (by assumption) ?_
    refine wt3 (i:=3) rfl (by assumption) ?_
    refine wt3 (i:=4) rfl (by assumption) ?_
    refine wt3 (i:=5) rfl (by assumption) ?_
    refine wt3 (i:=6) rfl (by assumption) ?_
    refine wt3 (i:=7) rfl (by assumption) ?_
    refine wt3 (i:=8) rfl (by assumption) ?_
    refine wpAnyH_done (by kernel_rfl) ?_ _
    clear H3
    have H2:=Lib.hid hHeld
    clear hHeld
    go_wp2_with fail
    go_ret
    exact ⟨by rw [HE.out]; rfl,H2.out.bel⟩
   ·have HEE:=keep (HST.out (by
     obtain ⟨e1,e2,e3,e4,f1,f2,f3,f4,e6,e7,e8⟩:=(eq11_iff ..).1 HQ.out
     have e1 : xk = yk:=by omega
     have e2 : xvk = yvk:=by omega
     have e7 : xfn = yfn:=by omega
     rw [e1,e2,e3,e4,f1,f2,f3,f4,e6,e7,e8]))
    go_upto_region 6 with fail
    refine wp_region_held_drew (S:=fun W => Ok w [kCells b1 (o1 + k * 11) [.int .u8 xk,.int .u8 xvk,.int .i64 xvn,.string ⟨xvt.toArray⟩,.int .i64 xr1,.int .i64 xr2,.int .i64 xr3,.int .i64 xr4,.int .i64 xop,.int .u8 xfn,.int .i64 xn],kCells b2 (o2 + k * 11) [.int .u8 yk,.int .u8 yvk,.int .i64 yvn,.string ⟨yvt.toArray⟩,.int .i64 yr1,.int .i64 yr2,.int .i64 yr3,.int .i64 yr4,.int .i64 yop,.int .u8 yfn,.int .i64 yn]] W) (by kernel_rfl) H3.out.drew (fun hHeld => ?_)
    refine wt3 (i:=0) rfl (by assumption) ?_
    refine wt3 (i:=1) rfl (by assumption) ?_
    refine wt3 (i:=2) rfl (by assumption) ?_
    refine wt3 (i:=3) rfl (by assumption) ?_
    refine wt3 (i:=4) rfl (by assumption) ?_
    refine wt3 (i:=5) rfl (by assumption) ?_
    refine wt3 (i:=6) rfl (by assumption) ?_
    refine wt3 (i:=7) rfl (by assumption) ?_
    refine wt3 (i:=8) rfl (by assumption) ?_
    refine wpAnyH_done (by kernel_rfl) ?_ _
    clear H3
    have H2:=Lib.hid hHeld
    clear hHeld
    go_wp2_with fail
    go_roundw
    case rel => exact ⟨k + 1,by omega,by go_num,HEE,H2.out.bel⟩
    case measure => simp [intOf]; omega
  ·obtain rfl : n = k:=by omega
   have HE:=keep (show V = true by
    have h9:=HEQ.out
    rw [List.take_of_length_le (by rw [HN.out]; exact Nat.le_refl _),List.take_of_length_le (by rw [HM.out]; exact Nat.le_refl _)] at h9
    rw [← HV.out,h9]; exact eqA_yes _)
   go_wp2_with fail
   go_ret
   exact ⟨by rw [HE.out]; rfl,H2.out⟩
def strR (l : List (List UInt8)) : List (List Value):=l.map fun x => [.string (byt x)]
theorem strs_flat (l : List (List UInt8)) : strsV l = l.flatMap fun x => [.string (byt x)]:=by
 unfold strsV
 induction l with
 | nil => rfl
 | cons x l ih => rw [List.map_cons,List.flatMap_cons,ih]; rfl
theorem strs_own {w : World} {base : Nat} {v : Value} {l : List (List UInt8)} (h : w.ownsRow base 9 1 v l.length (strsV l)) : ∃ a c,v = .slice a l.length c ∧ l.length ≤ c ∧ RowsAt w a 1 (strR l):=by
 rw [strs_flat] at h
 obtain ⟨a,c,h1,h2,-,h4⟩:=rows_own (fun x => [Value.string (byt x)]) (fun _ => rfl) h rfl
 exact ⟨a,c,h1,h2,h4⟩
theorem equal_strs (l : List (List UInt8)) (a b : Option Addr) (c d : Nat) (w : World) (hl : l.length ≤ 100000) (ha : RowsAt w a 1 (strR l)) (hb : RowsAt w b 1 (strR l)) :
  Calls Tryz.prog 19 #[.slice a l.length c,.slice b l.length d] w fun e w' => e = .returned (.bool true) ∧ Below w.heap.size w w':=by
 have HA:=keep ha
 have HB:=keep hb
 clear ha hb
 obtain ⟨n,hn⟩ : ∃ n,l.length = n:=⟨_,rfl⟩
 rw [hn] at hl ⊢
 have HN:=keep hn
 clear hn
 go_enter Tryz.func19,Tryz.ntmps19
 go_wp2_with fail
 go_loopw [5] (fun i wr => ∃ k : Nat,k ≤ n ∧ i = .int .i64 (k : Int) ∧ Hid (Below w.heap.size w wr)) (fun i _ => n - (intOf i).toNat)
 case atStart => exact ⟨0,Nat.zero_le _,rfl,Below.refl _ _⟩
 case round =>
  obtain ⟨k,hk,rfl,H2⟩:=hrel
  obtain ⟨wp,rfl⟩ : ∃ wp : World,wp = wr:=⟨_,rfl⟩
  by_cases hlt : (k : Int) < n
  ·have hil : k < l.length:=by rw [HN.out]; omega
   obtain ⟨X,hX⟩ : ∃ X,byt l[k] = X:=⟨_,rfl⟩
   obtain ⟨b1,o1,ha1,hB1,hc1⟩:=rows_at HA.out (i:=k) (r:=[.string X]) (by unfold strR; rw [List.getElem?_map,List.getElem?_eq_getElem hil,← hX]; rfl)
   obtain ⟨b2,o2,hb2,hB2,hc2⟩:=rows_at HB.out (i:=k) (r:=[.string X]) (by unfold strR; rw [List.getElem?_map,List.getElem?_eq_getElem hil,← hX]; rfl)
   subst ha1 hb2
   have q1:=cells_below H2.out hB1 hc1
   have q2:=cells_below H2.out hB2 hc2
   simp only [Nat.mul_one] at q1 q2
   clear hil hX hc1 hc2
   have H3 : Hid (Ok w [kCells b1 (o1 + k) [.string X],kCells b2 (o2 + k) [.string X]] wp):=Lib.hid (((⟨H2.out,fun _ h => absurd h (by simp)⟩ : Ok w [] wp).add (kCells b2 (o2 + k) [.string X]) q2).add (kCells b1 (o1 + k) [.string X]) q1)
   clear H2 q1 q2
   go_upto_region 6 with fail
   refine wp_region_held_drew (S:=fun W => Ok w [kCells b1 (o1 + k) [.string X],kCells b2 (o2 + k) [.string X]] W) (by kernel_rfl) H3.out.drew (fun hHeld => ?_)
   refine wt3 (i:=0) rfl (by assumption) ?_
   refine wt3 (i:=1) rfl (by assumption) ?_
   refine wt3 (i:=2) rfl (by assumption) ?_
   refine wt3 (i:=3) rfl (by assumption) ?_
   refine wt3 (i:=4) rfl (by assumption) ?_
   refine wt3 (i:=5) rfl (by assumption) ?_
   refine wt3 (i:=6) rfl (by assumption) ?_
   refine wt3 (i:=7) rfl (by assumption) ?_
   refine wt3 (i:=8) rfl (by assumption) ?_
   refine wpAnyH_done (by kernel_rfl) ?_ _
   clear H3
   have H2:=Lib.hid hHeld
   clear hHeld
   go_wp2_with fail
   go_roundw
   case rel => exact ⟨k + 1,by omega,by go_num,H2.out.bel⟩
   case measure => simp [intOf]; omega
  ·obtain rfl : n = k:=by omega
   go_wp2_with fail
   go_ret
   exact ⟨rfl,H2.out⟩
end Go.Proofs.YtnbemkiplnanlaaGreatDoor
