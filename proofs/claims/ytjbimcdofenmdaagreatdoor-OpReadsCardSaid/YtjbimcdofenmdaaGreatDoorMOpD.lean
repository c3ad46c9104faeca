/- What the library's functions want of its variables; joins; the contract of op.ranged. -/
import Derived.Test.YtjbimcdofenmdaaGreatDoorMOpP
import Derived.Test.YtjbimcdofenmdaaGreatDoorMOk
import Derived.Test.YtjbimcdofenmdaaGreatDoorMAddrW2
import Derived.Test.YtjbimcdofenmdaaGreatDoorMGrpM
import Derived.Test.YtjbimcdofenmdaaGreatDoorMAddrW3
import Derived.Test.YtjbimcdofenmdaaGreatDoorMOpA
namespace Go.Proofs.YtjbimcdofenmdaaGreatDoor
open Go.RowKit
def Env6 (w : World) : Prop:=Pow w ∧ Env w
theorem Env6.below {w w' : World} (h : Env6 w) (hb : Below w.heap.size w w') : Env6 w':=⟨h.1.below hb,h.2.below hb⟩
theorem Itoa6 (n : Int) (h : i64B n) (w : World) (he : Env6 w) :
  Calls Tryz.prog 24 #[.int .i64 n] w fun e w' => e = .returned (.string ⟨(Lib.itoa n).toArray⟩) ∧ Below w.heap.size w w' :=
 (Tryz.strconv_Itoa n h.1 h.2 w he.1).mono fun _ _ ⟨he,k,os,hw⟩ => ⟨he,hw ▸ Lib.below_grow _ _ (Nat.le_refl _) k os⟩
theorem byt_map (l : List (List UInt8)) : (l.map byt).map (·.data.toList) = l:=by
 rw [List.map_map]
 have : ((fun x : ByteArray => x.data.toList) ∘ byt) = id:=by funext x; rfl
 rw [this,List.map_id]
theorem join_cells {w : World} {g n cap : Nat} (l : List (List UInt8)) (c : UInt8) (hc : ∀ (j : Nat) x,(strsV l)[j]? = some x → w.cell? ⟨g,j,none⟩ = some x) (hg : g < w.heap.size) (hn : l.length = n) (hcap : n ≤ cap) (hl : l.length ≤ 100000)
  (hlen : (Lib.join l [c]).length ≤ 140737488355328) :
  Calls Tryz.prog 28 #[.slice (some ⟨g,0,none⟩) n cap,.string ⟨#[c]⟩] w fun e w' => e = .returned (.string ⟨(Lib.join l [c]).toArray⟩) ∧ Below w.heap.size w w':=by
 subst hn
 have h:=Tryz.strings_Join g 0 cap (l.map byt) ⟨#[c]⟩ w (fun j x hx => by
  rw [Nat.zero_add]
  refine hc j _ ?_
  unfold strsV
  rw [List.getElem?_map] at hx ⊢
  obtain ⟨y,hy,rfl⟩:=Option.map_eq_some_iff.1 hx
  rw [hy]; rfl) hg (by simp; omega) (by simpa using hcap) (by rw [byt_map]; exact hlen)
 rw [byt_map,List.length_map] at h
 exact h
theorem join_blk {w : World} {g n : Nat} (l : List (List UInt8)) (c : UInt8) (h : Blk w g 9 (strsV l).toArray) (hn : l.length = n) (hl : l.length ≤ 100000) (hlen : (Lib.join l [c]).length ≤ 140737488355328) :
  Calls Tryz.prog 28 #[.slice (some ⟨g,0,none⟩) n n,.string ⟨#[c]⟩] w fun e w' => e = .returned (.string ⟨(Lib.join l [c]).toArray⟩) ∧ Below w.heap.size w w' :=
 join_cells l c (fun j x hx => by rw [h.cell j,List.getElem?_toArray]; exact hx) h.lt hn (Nat.le_refl _) hl hlen
theorem join_own {w : World} {base : Nat} {v : Value} (l : List (List UInt8)) (c : UInt8) (h : w.ownsRow base 9 1 v l.length (strsV l)) (hne : l ≠ []) (hl : l.length ≤ 100000) (hlen : (Lib.join l [c]).length ≤ 140737488355328) :
  Calls Tryz.prog 28 #[v,.string ⟨#[c]⟩] w fun e w' => e = .returned (.string ⟨(Lib.join l [c]).toArray⟩) ∧ Below w.heap.size w w':=by
 have hc:=@World.ownsRow.cells _ _ _ _ _ _ _ h
 have hlt:=h.lt
 rcases h.2 with ⟨rfl,h0⟩ | ⟨g,cap,cur,rfl,h4,h5,h6,h7,h8,h9⟩
 ·exact absurd (List.length_eq_zero_iff.1 h0) hne
 ·refine join_cells l c (fun j x hx => ?_) (hlt g rfl).2 rfl h6 hl hlen
  have h10:=hc rfl j x hx
  rw [show (⟨g,0,none⟩ : Addr).add j = ⟨g,0 + j,none⟩ by unfold Addr.add; split <;> simp_all,Nat.zero_add] at h10
  exact h10
theorem itoa_len (n : Int) (h : i64B n) : (Lib.itoa n).length ≤ 30:=by
 have key : ∀ (k u : Nat),u < 10 ^ (k + 1) → (Lib.decDigits u).length ≤ k + 1:=by
  intro k
  induction k with
  | zero => intro u hu; rw [Lib.decDigits,dif_pos (by simpa using hu)]; simp
  | succ k ih =>
   intro u hu
   rw [Lib.decDigits]
   split
   ·simp
   ·have:=ih (u / 10) (by rw [Nat.pow_succ] at hu; omega)
    simp; omega
 obtain ⟨h1,h2⟩:=h
 unfold Lib.itoa
 split
 ·have:=key 19 n.natAbs (by omega)
  simp; omega
 ·have:=key 19 n.toNat (by omega)
  omega
theorem comma_len (r : R4) (h1 : i64B r.c1) (h2 : i64B r.r1) (h3 : i64B r.c2) (h4 : i64B r.r2) : (commaL r).length ≤ 200:=by
 have e : commaL r = Lib.itoa r.c1 ++ 44 :: (Lib.itoa r.r1 ++ 44 :: (Lib.itoa r.c2 ++ 44 :: Lib.itoa r.r2)):=by
  simp [commaL,Lib.join,List.intercalate]
 have:=itoa_len _ h1
 have:=itoa_len _ h2
 have:=itoa_len _ h3
 have:=itoa_len _ h4
 rw [e]; simp; omega
set_option maxRecDepth 100000 in
set_option maxHeartbeats 4000000 in
theorem op_ranged (x1 y1 x2 y2 : Int) (h1 : i64B x1) (h2 : i64B y1) (h3 : i64B x2) (h4 : i64B y2) (w : World) (he : Env6 w) :
  Calls Tryz.prog 25 #[.agg #[.int .i64 x1,.int .i64 y1,.int .i64 x2,.int .i64 y2]] w fun e w' => e = .returned (.string ⟨(rangeL ⟨x1,y1,x2,y2⟩).toArray⟩) ∧ Below w.heap.size w w':=by
 have HE:=keep he
 have H1:=keep h1
 have H2:=keep h2
 have H3:=keep h3
 have H4:=keep h4
 clear he h1 h2 h3 h4
 obtain ⟨L,hL⟩ : ∃ L,rangeL ⟨x1,y1,x2,y2⟩ = L:=⟨_,rfl⟩
 rw [hL]
 have HL:=keep hL
 clear hL
 obtain ⟨Q,hQ⟩ : ∃ Q,fmtR ⟨x1,y1,x2,y2⟩ = Q:=⟨_,rfl⟩
 have HQ:=keep hQ
 clear hQ
 have H11:=Lib.hid ((Ok.start w).alloc w.heap.size 23 [.int .i64 x1,.int .i64 y1,.int .i64 x2,.int .i64 y2] rfl)
 go_enter Tryz.func25,Tryz.ntmps25
 go_wp2_with fail
 generalize (w.alloc (.cells #[.int .i64 x1,.int .i64 y1,.int .i64 x2,.int .i64 y2] 23)) = W12 at H11 ⊢
 refine (rect_Format x1 y1 x2 y2 _ (HE.out.below H11.out.bel).1).mono ?_
 rintro e w13 ⟨rfl,hb14⟩
 rw [HQ.out]
 have H15:=Lib.hid (H11.out.below hb14)
 clear hb14 H11
 have F16:=H15.out.sees
 simp only [sees,kBlk,cellsAt,Nat.reduceAdd] at F16
 obtain ⟨⟨z0,c0_0,c0_1,c0_2,c0_3,-⟩,-⟩:=F16
 cases hc : checkB ⟨x1,y1,x2,y2⟩
 ·have hq : Q = ([],3):=by rw [← HQ.out,fmtR_no hc]
  subst hq
  clear HQ
  go_upto_region 4 with fail
  have HLL:=keep (show Lib.join [Lib.itoa x1,Lib.itoa y1,Lib.itoa x2,Lib.itoa y2] [44] = L by rw [← HL.out]; unfold rangeL; rw [if_neg (by rw [hc]; decide)]; rfl)
  have HLN:=keep (comma_len ⟨x1,y1,x2,y2⟩ H1.out H2.out H3.out H4.out)
  refine wp_region_held_drew (S:=fun W => Ok w [kBlk (w.heap.size) 23 [.int .i64 x1,.int .i64 y1,.int .i64 x2,.int .i64 y2]] W) (by kernel_rfl) H15.out.drew (fun hHeld => ?_)
  clear z0 c0_0 c0_1 c0_2 c0_3
  have H17:=Lib.hid H15.out.drew
  clear H15
  generalize w13.drew = W18 at hHeld H17 ⊢
  refine wtg (i:=0) (v:=?a1) rfl ?b1 (by assumption) ?c1
  case b1 => (intro w hSw; have F:=Ok.sees hSw; clear hSw; simp only [sees,kBlk,cellsAt,Nat.reduceAdd] at F; go_simp; try with_reducible rfl)
  try simp only [Act.put,wp1,wp2,wp3,wp4,wp6]
  refine wtg (i:=1) (v:=?a3) rfl ?b3 (by assumption) ?c3
  case b3 => (intro w hSw; have F:=Ok.sees hSw; clear hSw; simp only [sees,kBlk,cellsAt,Nat.reduceAdd] at F; go_simp; try with_reducible rfl)
  try simp only [Act.put,wp1,wp2,wp3,wp4,wp5,wp6]
  refine wtg (i:=3) (v:=?a5) rfl ?b5 (by assumption) ?c5
  case b5 => (intro w hSw; have F:=Ok.sees hSw; clear hSw; simp only [sees,kBlk,cellsAt,Nat.reduceAdd] at F; go_simp; try with_reducible rfl)
  try simp only [Act.put,wp1,wp2,wp3,wp4,wp5,wp6]
  refine wtg (i:=4) (v:=?a7) rfl ?b7 (by assumption) ?c7
  case b7 => (intro w hSw; have F:=Ok.sees hSw; clear hSw; simp only [sees,kBlk,cellsAt,Nat.reduceAdd] at F; go_simp; try with_reducible rfl)
  try simp only [Act.put,wp1,wp2,wp3,wp4,wp5,wp6]
  refine wtg (i:=6) (v:=?a9) rfl ?b9 (by assumption) ?c9
  case b9 => (intro w hSw; have F:=Ok.sees hSw; clear hSw; simp only [sees,kBlk,cellsAt,Nat.reduceAdd] at F; go_simp; try with_reducible rfl)
  try simp only [Act.put,wp1,wp2,wp3,wp4,wp5,wp6]
  refine wtg (i:=7) (v:=?a11) rfl ?b11 (by assumption) ?c11
  case b11 => (intro w hSw; have F:=Ok.sees hSw; clear hSw; simp only [sees,kBlk,cellsAt,Nat.reduceAdd] at F; go_simp; try with_reducible rfl)
  try simp only [Act.put,wp1,wp2,wp3,wp4,wp5,wp6]
  refine wtg (i:=9) (v:=?a13) rfl ?b13 (by assumption) ?c13
  case b13 => (intro w hSw; have F:=Ok.sees hSw; clear hSw; simp only [sees,kBlk,cellsAt,Nat.reduceAdd] at F; go_simp; try with_reducible rfl)
  try simp only [Act.put,wp1,wp2,wp3,wp4,wp5,wp6]
  refine wtg (i:=10) (v:=?a15) rfl ?b15 (by assumption) ?c15
  case b15 => (intro w hSw; have F:=Ok.sees hSw; clear hSw; simp only [sees,kBlk,cellsAt,Nat.reduceAdd] at F; go_simp; try with_reducible rfl)
  try simp only [Act.put,wp1,wp2,wp3,wp4,wp5,wp6]
  refine wpAnyH_ready (rs:=[2]) (by kernel_rfl) (by simp) ?_
  refine AllReadyH.cons rfl (fun K hK => ?_) AllReadyH.nil
  go_simp
  refine (Itoa6 x1 H1.out _ (HE.out.below H17.out.bel)).mono ?_
  rintro e w19 ⟨rfl,hb20⟩
  go_wp2_with fail
  have H21:=Lib.hid (H17.out.below hb20)
  clear hb20 H17
  refine hK.out _ _ (H21.out) (fun hHeld => ?_)
  clear hK K
  try simp only [Act.put,wp1,wp2,wp3,wp4,wp5,wp6]
  refine wpAnyH_ready (rs:=[5]) (by kernel_rfl) (by simp) ?_
  refine AllReadyH.cons rfl (fun K hK => ?_) AllReadyH.nil
  go_simp
  refine (Itoa6 y1 H2.out _ (HE.out.below H21.out.bel)).mono ?_
  rintro e w22 ⟨rfl,hb23⟩
  go_wp2_with fail
  have H24:=Lib.hid (H21.out.below hb23)
  clear hb23 H21
  refine hK.out _ _ (H24.out) (fun hHeld => ?_)
  clear hK K
  try simp only [Act.put,wp1,wp2,wp3,wp4,wp5,wp6]
  refine wpAnyH_ready (rs:=[8]) (by kernel_rfl) (by simp) ?_
  refine AllReadyH.cons rfl (fun K hK => ?_) AllReadyH.nil
  go_simp
  refine (Itoa6 x2 H3.out _ (HE.out.below H24.out.bel)).mono ?_
  rintro e w25 ⟨rfl,hb26⟩
  go_wp2_with fail
  have H27:=Lib.hid (H24.out.below hb26)
  clear hb26 H24
  refine hK.out _ _ (H27.out) (fun hHeld => ?_)
  clear hK K
  try simp only [Act.put,wp1,wp2,wp3,wp4,wp5,wp6]
  refine wpAnyH_ready (rs:=[11]) (by kernel_rfl) (by simp) ?_
  refine AllReadyH.cons rfl (fun K hK => ?_) AllReadyH.nil
  go_simp
  refine (Itoa6 y2 H4.out _ (HE.out.below H27.out.bel)).mono ?_
  rintro e w28 ⟨rfl,hb29⟩
  go_wp2_with fail
  have H30:=Lib.hid (H27.out.below hb29)
  clear hb29 H27
  refine hK.out _ _ (H30.out) (fun hHeld => ?_)
  clear hK K
  try simp only [Act.put,wp1,wp2,wp3,wp4,wp5,wp6]
  refine wpAnyH_ready (rs:=[12]) (by kernel_rfl) (by simp) ?_
  refine AllReadyH.cons rfl (fun K hK => ?_) AllReadyH.nil
  go_simp
  have H31:=Lib.hid (H30.out.alloc (w28.heap.size) 9 [.string ⟨(Lib.itoa x1).toArray⟩,.string ⟨(Lib.itoa y1).toArray⟩,.string ⟨(Lib.itoa x2).toArray⟩,.string ⟨(Lib.itoa y2).toArray⟩] rfl)
  clear H30
  refine hK.out _ _ (H31.out.tail) (fun hHeld => ?_)
  clear hK K
  try simp only [Act.put,wp1,wp2,wp3,wp4,wp5,wp6]
  generalize (w28.alloc (.cells #[.string ⟨(Lib.itoa x1).toArray⟩,.string ⟨(Lib.itoa y1).toArray⟩,.string ⟨(Lib.itoa x2).toArray⟩,.string ⟨(Lib.itoa y2).toArray⟩] 9)) = W32 at H31 hHeld ⊢
  refine wpAnyH_ready (rs:=[13]) (by kernel_rfl) (by simp) ?_
  refine AllReadyH.cons rfl (fun K hK => ?_) AllReadyH.nil
  have h9:=H31.out.all _ (List.mem_cons_self ..)
  have hb9 : Blk W32 (w28.heap.size) 9 (strsV [Lib.itoa x1,Lib.itoa y1,Lib.itoa x2,Lib.itoa y2]).toArray:=h9
  clear h9
  go_simp
  refine (join_blk [Lib.itoa x1,Lib.itoa y1,Lib.itoa x2,Lib.itoa y2] 44 hb9 rfl (by simp) (Nat.le_trans HLN.out (by decide))).mono ?_
  rintro e w33 ⟨rfl,hb34⟩
  rw [HLL.out]
  go_wp2_with fail
  have H35:=Lib.hid (H31.out.below hb34)
  clear hb34 H31
  refine hK.out _ _ (H35.out.tail) (fun hHeld => ?_)
  clear hK K
  try simp only [Act.put,wp1,wp2,wp3,wp4,wp5,wp6]
  refine wtg (i:=14) (v:=?a23) rfl ?b23 (by assumption) ?c23
  case b23 => (intro w hSw; have F:=Ok.sees hSw; clear hSw; simp only [sees,kBlk,cellsAt,Nat.reduceAdd] at F; go_simp; try with_reducible rfl)
  try simp only [Act.put,wp1,wp2,wp3,wp4,wp5,wp6]
  refine wpAnyH_done (by kernel_rfl) ?_ _
  clear hHeld
  go_wp2_with fail
  go_ret
  exact ⟨rfl,H35.out.bel⟩
 ·have hq : Q = (L,0):=by rw [← HQ.out,fmtR_yes hc,← HL.out]; unfold rangeL; rw [if_pos hc]
  subst hq
  clear HQ
  go_wp2_with fail
  go_ret
  exact ⟨rfl,H15.out.bel⟩
end Go.Proofs.YtjbimcdofenmdaaGreatDoor
