/- Plain: a drawn region whose first operations may come in several orders, a condition on the world being held, and whose last ones come one after another: the last ones are a plain list. No program stands here. Contracts of the reference's From, To and Check of ranges, and of package rect's all. -/
import Derived.Test.YtmalncmdfmoccaaGreatDoorCOk
import Derived.StillTail
import Derived.Test.YtmalncmdfmoccaaGreatDoorCIter
namespace Go.Proofs.YtmalncmdfmoccaaGreatDoor
open Go Go.RowKit
section
variable {P : Program} {md : Region.Mode} {ops : Array Oper} {Q : Exit → Act → World → Prop} {S : World → Prop} {n : Nat} {L : Array Bool → Act → World → Prop}
def wpHead (P : Program) (md : Region.Mode) (ops : Array Oper) (Q : Exit → Act → World → Prop) (S : World → Prop) (n : Nat) (L : Array Bool → Act → World → Prop) : Nat → Array Bool → Act → World → Prop
  | 0,listed,a,w => L listed a w
  | f + 1,listed,a,w => Region.ready md ops listed ≠ [] ∧ ∀ i ∈ Region.ready md ops listed,i < n ∧ wpOp P ops Q i (fun a' w' => S w' ∧ wpHead P md ops Q S n L f (listed.setIfInBounds i true) a' w') a w
theorem wpAny_of_wpHead {g : Nat} (hL : ∀ listed a w,L listed a w → wpAny P md ops Q g listed a w) :
    ∀ (f : Nat) (listed : Array Bool) (a : Act) (w : World),wpHead P md ops Q S n L f listed a w → wpAny P md ops Q (f + g) listed a w
  | 0,listed,a,w,h => by rw [Nat.zero_add]; exact hL _ _ _ h
  | f + 1,listed,a,w,h => by
    rw [show f + 1 + g = (f + g) + 1 by omega]
    exact ⟨fun h0 => absurd h0 h.1,fun i hi => wpOp_mono (fun a' w' h' => wpAny_of_wpHead hL f _ a' w' h'.2) (h.2 i hi).2⟩
theorem wpHead_first {i : Nat} {oi : Oper} {v : Value} (hi : ops[i]? = some oi) (hsel : ∀ (j : Nat) (o : Oper) cs b,ops[j]? = some o → o.op ≠ .select cs b)
    (hs : Region.sinkB md ops n = true) (hc : Region.chainB md ops n = true) (hn : n < ops.size) (hin : i < n)
    (hQ : ∀ c a w,Q (.panic c) (a.put oi.dst v) w → Q (.panic c) a w)
    (hdone : ∀ listed a w,L listed a w → ∀ j ∈ Region.ready md ops listed,n ≤ j) :
    ∀ (f : Nat) (listed : Array Bool) (a : Act) (w : World),HeadInv md ops n listed →
      (∀ j oj,ops[j]? = some oj → j ≠ i → listed.getD j true = false → (∀ e ∈ oj.after,Region.binds md e = true → e.on ≠ i) → oi.apart ops oj = true) →
      i ∈ Region.ready md ops listed → YieldsIf P ops S oi v a → S w →
      wpHead P md ops Q S n L f (listed.setIfInBounds i true) (a.put oi.dst v) w → wpHead P md ops Q S n L (f + 1) listed a w:=by
  intro f
  induction f with
  | zero =>
    intro listed a w inv _ hr hy hS H
    have hun:=(mem_ready.1 hr).1
    refine ⟨fun h => (by rw [h] at hr; cases hr),fun j hj => ?_⟩
    have hjn : j < n:=by
      rcases Nat.lt_or_ge j n with h | h
      · exact h
      · exact absurd hj (tail_waits hs hc hn inv _ i rfl hin hun j h)
    refine ⟨hjn,?_⟩
    by_cases hji : j = i
    · subst hji; exact hy.wpOp hi hS ⟨hS,H⟩
    · have:=hdone _ _ _ H j (ready_mono hj hji)
      omega
  | succ f ih =>
    intro listed a w inv hfree hr hy hS H
    have hun:=(mem_ready.1 hr).1
    refine ⟨fun h => (by rw [h] at hr; cases hr),fun j hj => ?_⟩
    have hjn : j < n:=by
      rcases Nat.lt_or_ge j n with h | h
      · exact h
      · exact absurd hj (tail_waits hs hc hn inv _ i rfl hin hun j h)
    refine ⟨hjn,?_⟩
    by_cases hji : j = i
    · subst hji; exact hy.wpOp hi hS ⟨hS,H⟩
    · have h1:=(H.2 j (ready_mono hj hji)).2
      obtain ⟨hjun,oj,hoj,hall⟩:=mem_ready.1 hj
      have hnot : ∀ e ∈ oj.after,Region.binds md e = true → e.on ≠ i:=fun e he hb heq => by
        have h1:=hall e he hb
        rw [heq,getD_both hun] at h1
        cases h1
      have h2:=wpOp_putIf hoj (hfree j oj hoj hji hjun hnot) (fun cs b => hsel i oi cs b hi) (fun cs b => hsel j oj cs b hoj) hQ hy h1
      have hfree' : ∀ k ok,ops[k]? = some ok → k ≠ i → (listed.setIfInBounds j true).getD k true = false →
          (∀ e ∈ ok.after,Region.binds md e = true → e.on ≠ i) → oi.apart ops ok = true:=fun k ok hk hki hun hno => by
        refine hfree k ok hk hki ?_ hno
        by_cases hjk : j = k
        · subst hjk; exact hjun
        · rw [getD_set_ne true hjk] at hun; exact hun
      refine wpOp_mono (fun a' w' h3 => ⟨h3.2.1,ih (listed.setIfInBounds j true) a' w' (inv.set hj hjn) hfree' (ready_mono hr (Ne.symm hji)) h3.1 h3.2.1 ?_⟩) h2
      rw [Array.setIfInBounds_comm _ _ hji]
      exact h3.2.2
def headOk (md : Region.Mode) (ops : Array Oper) (n : Nat) (listed : Array Bool) : Bool :=
  decide (listed.size = ops.size) && ((List.range ops.size).all fun j => !listed.getD j false || (match ops[j]? with | some oj => oj.after.all fun e => !Region.binds md e || listed.getD e.on false | none => true)) && ((List.range ops.size).all fun t => decide (t < n) || !listed.getD t true)
theorem headOk_inv {listed : Array Bool} (h : headOk md ops n listed = true) : HeadInv md ops n listed:=by
  simp only [headOk,Bool.and_eq_true,decide_eq_true_eq,List.all_eq_true,List.mem_range] at h
  obtain ⟨⟨h1,h2⟩,h3⟩:=h
  refine ⟨h1,fun j oj hj hl e he hb => ?_,fun t ht ht' => ?_⟩
  · have:=h2 j (Array.getElem?_eq_some_iff.1 hj).1
    rw [hl,hj] at this
    simp only [Bool.not_true,Bool.false_or,Array.all_eq_true'] at this
    have:=this e he
    rw [hb] at this
    simpa using this
  · have:=h3 t ht'
    simp only [Bool.or_eq_true,decide_eq_true_eq,Bool.not_eq_true'] at this
    rcases this with h | h
    · omega
    · exact h
def htB (md : Region.Mode) (ops : Array Oper) (n : Nat) : Bool:=Region.noSelect ops && decide (n < ops.size) && Region.sinkB md ops n && Region.chainB md ops n
def tailL (P : Program) (md : Region.Mode) (ops : Array Oper) (Q : Exit → Act → World → Prop) (n : Nat) (listed : Array Bool) (a : Act) (w : World) : Prop :=
  Region.seqB md ops (ops.size - n) n listed = true ∧ wpList P ops Q (ops.toList.drop n) a w
theorem wpHead_take {i f : Nat} {oi : Oper} {v : Value} {listed : Array Bool} {a : Act} {w : World} (hB : htB md ops n = true) (hi : ops[i]? = some oi) (hin : i < n) (hinv : headOk md ops n listed = true)
    (hf : Region.free md ops listed i = true) (hr : (Region.ready md ops listed).contains i = true) (hQ : ∀ c a w,Q (.panic c) (a.put oi.dst v) w → Q (.panic c) a w)
    (hy : YieldsIf P ops S oi v a) (hS : S w) (h : wpHead P md ops Q S n (tailL P md ops Q n) f (listed.setIfInBounds i true) (a.put oi.dst v) w) : wpHead P md ops Q S n (tailL P md ops Q n) (f + 1) listed a w:=by
  simp only [htB,Bool.and_eq_true,decide_eq_true_eq] at hB
  exact wpHead_first hi (Region.noSelect_spec hB.1.1.1) hB.1.2 hB.2 hB.1.1.2 hin hQ (fun _ _ _ hL => seqB_ready hL.1) f listed a w (headOk_inv hinv) (Region.free_spec hi hf) (by simpa using hr) hy hS h
theorem wpHead_only {i f : Nat} {o : Oper} {listed : Array Bool} {a : Act} {w : World} (hr : Region.ready md ops listed = [i]) (hin : i < n) (ho : ops[i]? = some o)
    (h : ∀ K' : Act → World → Prop,Shut (∀ a w,S w → (S w → wpHead P md ops Q S n L f (listed.setIfInBounds i true) a w) → K' a w) → if Region.wanted o (yielded ops a.tmps) = true then Oper.wp P o a w K' Q else K' (a.put o.dst undef) w) :
    wpHead P md ops Q S n L (f + 1) listed a w:=by
  refine ⟨by rw [hr]; simp,fun j hj => ?_⟩
  rw [hr,List.mem_singleton] at hj
  subst hj
  exact ⟨hin,wpOp_step ho (fun K' hK => h K' (fun a w hS hW => hK a w ⟨hS,hW hS⟩))⟩
theorem wpHead_rest {listed : Array Bool} {a : Act} {w : World} (hB : Region.seqB md ops (ops.size - n) n listed = true) (h : wpList P ops Q (ops.toList.drop n) a w) : wpHead P md ops Q S n (tailL P md ops Q n) 0 listed a w:=⟨hB,h⟩
theorem wp_region_headed {id : Nat} {a : Act} {w : World} (n : Nat) (S : World → Prop) (hm : P.follows .mixedOrders = true) (hn : n < ops.size) (hS : S w.drew)
    (h : S w.drew → wpHead P .any ops Q S n (tailL P .any ops Q n) n (Array.replicate ops.size false) a w.drew) : (Code.region id ops true).wp P Q a w:=by
  refine wp_region_any hm ?_
  have:=wpAny_of_wpHead (g:=ops.size - n) (fun listed a w hL => by
    have h1:=wpAny_of_seq (P:=P) (md:=.any) (ops:=ops) (Q':=Q) (ops.toList.drop n) n listed a w (fun j => by rw [List.getElem?_drop,Array.getElem?_toList]) (by simpa using hL.1) hL.2
    simpa using h1) n _ a w.drew (h hS)
  rw [show n + (ops.size - n) = ops.size by omega] at this
  exact this
end
end Go.Proofs.YtmalncmdfmoccaaGreatDoor
namespace Go.Proofs.YtmalncmdfmoccaaGreatDoor
open Go.RowKit
theorem ref_From (c1 r1 c2 r2 : Int) (w : World) :
    Calls Tryz.prog 156 #[.agg #[.int .i64 c1,.int .i64 r1,.int .i64 c2,.int .i64 r2]] w fun e w' => e = .returned (.agg #[.int .i64 c1,.int .i64 r1]) ∧ Below w.heap.size w w':=by
  go_enter Tryz.func156,Tryz.ntmps156
  go_wp2
  refine bodyPost_ret (v:=.agg #[.int .i64 c1,.int .i64 r1]) (by simp [results,Tryz.results156,go_sem]) rfl ⟨rfl,?_⟩
  exact ((Below.refl _ _).alloc (Nat.le_refl _) _).alloc (by simp) _
theorem ref_To (c1 r1 c2 r2 : Int) (w : World) :
    Calls Tryz.prog 157 #[.agg #[.int .i64 c1,.int .i64 r1,.int .i64 c2,.int .i64 r2]] w fun e w' => e = .returned (.agg #[.int .i64 c2,.int .i64 r2]) ∧ Below w.heap.size w w':=by
  go_enter Tryz.func157,Tryz.ntmps157
  go_wp2
  refine bodyPost_ret (v:=.agg #[.int .i64 c2,.int .i64 r2]) (by simp [results,Tryz.results157,go_sem]) rfl ⟨rfl,?_⟩
  exact ((Below.refl _ _).alloc (Nat.le_refl _) _).alloc (by simp) _
set_option maxHeartbeats 2000000 in
theorem ref_Check (c1 r1 c2 r2 : Int) (w : World) :
    Calls Tryz.prog 154 #[.agg #[.int .i64 c1,.int .i64 r1,.int .i64 c2,.int .i64 r2]] w fun e w' => e = .returned (.int .i64 (checkE ⟨c1,r1,c2,r2⟩)) ∧ Below w.heap.size w w':=by
  go_enter Tryz.func154,Tryz.ntmps154
  go_wp2_with fail
  have k0:=Blk.new w 49 #[.int .i64 c1,.int .i64 r1,.int .i64 c2,.int .i64 r2]
  have HB_0 : Hid (Below w.heap.size w (w.alloc (.cells #[.int .i64 c1,.int .i64 r1,.int .i64 c2,.int .i64 r2] 49))):=(Below.refl w.heap.size w).alloc (Nat.le_refl _) _
  generalize (w.alloc (.cells #[.int .i64 c1,.int .i64 r1,.int .i64 c2,.int .i64 r2] 49)) = W0 at k0 HB_0 ⊢
  have a_0:=k0.cell 0
  have b_0:=k0.cell 1
  have c_0:=k0.cell 2
  have d_0:=k0.cell 3
  simp at a_0 b_0 c_0 d_0
  clear k0
  refine (ref_From _ _ _ _ _).mono ?_
  rintro e w_1 ⟨rfl,hb_1⟩
  have a_1:=cell_step hb_1 a_0
  have b_1:=cell_step hb_1 b_0
  have c_1:=cell_step hb_1 c_0
  have d_1:=cell_step hb_1 d_0
  have HB_1:=Lib.hid (below_step HB_0.out hb_1)
  clear hb_1 a_0 b_0 c_0 d_0
  go_wp2_with fail
  refine (ref_Valid _ _ _).mono ?_
  rintro e w_2 ⟨rfl,hb_2⟩
  have a_2:=cell_step hb_2 a_1
  have b_2:=cell_step hb_2 b_1
  have c_2:=cell_step hb_2 c_1
  have d_2:=cell_step hb_2 d_1
  have HB_2:=Lib.hid (below_step HB_1.out hb_2)
  clear hb_2 a_1 b_1 c_1 d_1
  cases hv1 : validN c1 r1
  · have HE:=Lib.hid (checkE_no (r:=⟨c1,r1,c2,r2⟩) (by simp [checkB,hv1]))
    clear hv1
    go_wp2_with fail
    go_ret
    exact ⟨by rw [HE.out]; rfl,HB_2.out⟩
  · have HV1:=Lib.hid hv1
    clear hv1
    go_wp2_with fail
    refine (ref_To _ _ _ _ _).mono ?_
    rintro e w_103 ⟨rfl,hb_103⟩
    have a_103:=cell_step hb_103 a_2
    have b_103:=cell_step hb_103 b_2
    have c_103:=cell_step hb_103 c_2
    have d_103:=cell_step hb_103 d_2
    have HB_103:=Lib.hid (below_step HB_2.out hb_103)
    clear hb_103 a_2 b_2 c_2 d_2
    go_wp2_with fail
    refine (ref_Valid _ _ _).mono ?_
    rintro e w_104 ⟨rfl,hb_104⟩
    have a_104:=cell_step hb_104 a_103
    have b_104:=cell_step hb_104 b_103
    have c_104:=cell_step hb_104 c_103
    have d_104:=cell_step hb_104 d_103
    have HB_104:=Lib.hid (below_step HB_103.out hb_104)
    clear hb_104 a_103 b_103 c_103 d_103
    cases hv2 : validN c2 r2
    · have HE:=Lib.hid (checkE_no (r:=⟨c1,r1,c2,r2⟩) (by simp [checkB,hv2]))
      clear hv2
      go_wp2_with fail
      go_ret
      exact ⟨by rw [HE.out]; rfl,HB_104.out⟩
    · by_cases h1 : c1 ≤ c2
      · by_cases h2 : r1 ≤ r2
        · have HE:=Lib.hid (checkE_yes (r:=⟨c1,r1,c2,r2⟩) (by simp [checkB,HV1.out,hv2,h1,h2]))
          clear hv2
          go_wp2_with fail
          go_ret
          exact ⟨by rw [HE.out]; rfl,HB_104.out⟩
        · have HE:=Lib.hid (checkE_no (r:=⟨c1,r1,c2,r2⟩) (by simp [checkB,h2]))
          clear hv2
          go_wp2_with fail
          go_ret
          exact ⟨by rw [HE.out]; rfl,HB_104.out⟩
      · have HE:=Lib.hid (checkE_no (r:=⟨c1,r1,c2,r2⟩) (by simp [checkB,h1]))
        clear hv2
        go_wp2_with fail
        go_ret
        exact ⟨by rw [HE.out]; rfl,HB_104.out⟩
def rv (r : R4) : Nat → Value
  | 0 => .int .i64 r.c1
  | 1 => .int .i64 r.r1
  | 2 => .int .i64 r.c2
  | _ => .int .i64 r.r2
def IsRects (w : World) (B : Nat) (a : Option Addr) (n : Nat) (f : Nat → R4) : Prop:=IsRows 4 w B a n (fun i j => rv (f i) j)
theorem IsRects.below {w w' : World} {B B' n : Nat} {a : Option Addr} {f : Nat → R4} (h : IsRects w B a n f) (hb : Below B w w') (hB : B ≤ B') : IsRects w' B' a n f:=IsRows.below h hb hB
theorem IsRects.spot {w : World} {B n : Nat} {a : Option Addr} {f : Nat → R4} (h : IsRects w B a n f) (hn : 0 < n) :
    ∃ b off,a = some ⟨b,off,none⟩ ∧ b < B ∧ ∀ i,i < n → (w.cell? ⟨b,off + i * 4,none⟩ = some (.int .i64 (f i).c1) ∧ w.cell? ⟨b,off + i * 4 + 1,none⟩ = some (.int .i64 (f i).r1) ∧ w.cell? ⟨b,off + i * 4 + 2,none⟩ = some (.int .i64 (f i).c2) ∧ w.cell? ⟨b,off + i * 4 + 3,none⟩ = some (.int .i64 (f i).r2)):=by
  obtain ⟨⟨b,off,spot⟩,rfl,hB,hc⟩:=h hn
  have h0:=hc 0 0 hn (by omega)
  have hs : spot = none:=by simpa [Addr.add] using World.cell?_spot h0
  subst hs
  refine ⟨b,off,rfl,hB,fun i hi => ⟨?_,?_,?_,?_⟩⟩
  · have:=hc i 0 hi (by omega); rwa [show (⟨b,off,none⟩ : Addr).add (i * 4 + 0) = ⟨b,off + i * 4,none⟩ from by unfold Addr.add; split <;> simp_all] at this
  · have:=hc i 1 hi (by omega); rwa [show (⟨b,off,none⟩ : Addr).add (i * 4 + 1) = ⟨b,off + i * 4 + 1,none⟩ from by unfold Addr.add; simp; omega] at this
  · have:=hc i 2 hi (by omega); rwa [show (⟨b,off,none⟩ : Addr).add (i * 4 + 2) = ⟨b,off + i * 4 + 2,none⟩ from by unfold Addr.add; simp; omega] at this
  · have:=hc i 3 hi (by omega); rwa [show (⟨b,off,none⟩ : Addr).add (i * 4 + 3) = ⟨b,off + i * 4 + 3,none⟩ from by unfold Addr.add; simp; omega] at this
end Go.Proofs.YtmalncmdfmoccaaGreatDoor
