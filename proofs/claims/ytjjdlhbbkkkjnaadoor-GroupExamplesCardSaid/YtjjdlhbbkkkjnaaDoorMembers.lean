/- The contract of group.Members: the bits of the set, ascending, in new memory. Condition: the library's table of TrailingZeros64. -/
import Derived.Test.YtjjdlhbbkkkjnaaDoorMem
namespace Go.Proofs.YtjjdlhbbkkkjnaaDoor
open Go.RowKit

attribute [local go_sem] Oper.semAt_some

theorem info_int : (Tryd.prog.info? 3).map (fun i => (i.zero, i.size, i.bytes)) = some (some (.int .i64 0), 1, 8) := by kernel_rfl
def intsV (l : List Int) : List Value := l.map fun x => .int .i64 x
theorem intsV_snoc (l : List Int) (x : Int) : intsV (l ++ [x]) = intsV l ++ [.int .i64 x] := by simp [intsV]

/-- between two rounds of a loop that collects: the box of the slice, its row, the iterator's cell -/
def Collects (w : World) (o : Nat) (pre : List Int) (W : World) : Prop :=
  (∃ v, Boxed W w.heap.size 23 v ∧ W.ownsRow w.heap.size 3 1 v pre.length (intsV pre)) ∧ Below w.heap.size w W ∧ ∃ u, Boxed W o 22 u
section
variable {w W : World} {o : Nat} {pre : List Int}
theorem Collects.put (h : Collects w o pre W) {l : Nat} {ob : Obj} (ob' : Obj) (hw : w.heap.size < l) (ho : o < l) (hl : W.heap[l]? = some ob) (hc : ob.isCells = false) : Collects w o pre (W.putObj l ob') := by
  obtain ⟨⟨v, hv, hr⟩, hb, u, hu⟩ := h
  exact ⟨⟨v, (World.putObj_heap_other (by omega)).trans hv, ownsRow_putObj hr ob' hl hc⟩, ⟨hb.os, hb.tape, hb.output, by simpa using hb.size, fun i hi => (World.putObj_heap_other (by omega)).trans (hb.block i hi)⟩, u, (World.putObj_heap_other (by omega)).trans hu⟩
theorem Collects.alloc (h : Collects w o pre W) (ob : Obj) : Collects w o pre (W.alloc ob) := by
  obtain ⟨⟨v, hv, hr⟩, hb, u, hu⟩ := h
  exact ⟨⟨v, hv.alloc ob, hr.alloc ob⟩, hb.alloc hb.size ob, u, hu.alloc ob⟩
theorem Collects.set_ (h : Collects w o pre W) (ho : w.heap.size < o) (x : Value) : Collects w o pre (W.setCell ⟨o, 0, none⟩ x) := by
  obtain ⟨⟨v, hv, hr⟩, hb, u, hu⟩ := h
  exact ⟨⟨v, hv.other (by omega) x, hr.kept (grownBy_setCell' W o x) (.inr (hu.not_row (by decide) hr).symm)⟩, hb.setCell (p := ⟨o, 0, none⟩) (by simp; omega) x, x, hu.set x⟩
theorem Collects.drew (h : Collects w o pre W) : Collects w o pre W.drew := ⟨h.1, h.2.1.drew, h.2.2⟩
end

set_option maxRecDepth 100000 in
set_option maxHeartbeats 4000000 in
theorem group_Members (s : Nat) (w : World) (hs : s < 18446744073709551616) (hT : Bru w) :
    Calls Tryd.prog 8 #[.int .u64 s] w fun e w' => ∃ v, e = .returned v ∧ w'.ownsRow w.heap.size 3 1 v (bitsL s).length (intsV (bitsL s)) ∧ Below w.heap.size w w' := by
  obtain ⟨i0, hi, hz0, hz1, hz2⟩ := info_parts info_int
  refine (callsIn_wide (n := 4)).1 ?_
  refine callsIn_of_wp_marks Tryd.func8 rfl trivial ?_ rfl
  simp only [Tryd.ntmps8, List.size_toArray, List.length_cons, List.length_nil, Nat.reduceAdd, Nat.reduceSub, Array.replicate_succ, Array.replicate_zero, List.push_toArray, List.append_toArray, List.nil_append, List.cons_append]
  gi_wp2_with fail
  refine ⟨trivial, ((callsIn_wide (n := 3)).2 (group_members s _)).mono ?_⟩
  rintro e w' ⟨rfl, rfl⟩
  gi_wp2
  have bO := Boxed.new w 23 (.slice none 0 0)
  have bS := Boxed.new (w.alloc (.cells #[.slice none 0 0] 23)) 22 (.int .u64 s)
  rw [World.size_alloc] at bS
  have hB0 : Below w.heap.size w ((w.alloc (.cells #[.slice none 0 0] 23)).alloc (.cells #[.int .u64 s] 22)) := ((Below.refl _ w).alloc (Nat.le_refl _) _).alloc (by simp) _
  have hlt := bru_lt hT
  have hlen := bitsN_len s 64
  refine range_hands rfl (by decide) (gf := 32) (lb := #[.pointer (some ⟨w.heap.size + 1, 0, none⟩)]) rfl trivial (enters_of Tryd.func32 (by kernel_rfl) rfl)
    (bitsL s) rfl (w.heap.size + 1) (by simp) (members_hands 3 (by decide) (w.heap.size + 1) s _ hs bS)
    (Collects w (w.heap.size + 1)) ?put (fun _ _ ob h => h.alloc ob) (fun _ _ v h => h.set_ (by omega) v) (fun _ _ h => h.drew) (fun _ _ h => hT.below h.2.1 hlt)
    ⟨⟨_, bO.alloc _, World.ownsRow_nil _ _ _ _⟩, hB0, _, bS⟩
    (fun x => { tmps := #[.int .u64 s, undef, .slice none 0 0, .pointer (some ⟨w.heap.size, 0, none⟩), .int .i64 x, .int .u64 s, .func (.func 32) #[] #[.pointer (some ⟨w.heap.size + 1, 0, none⟩)], .int .i64 x, undef, undef, undef, undef, undef], defers := [] }) ?assign ?body ?done
  case put =>
    intro pre W l ob ob' h hl hlo hc
    simp at hl
    exact h.put ob' (by omega) (by omega) hlo hc
  case assign =>
    intro l x W K hK
    gi_wp2
    exact hK
  case body =>
    rintro l pre x W hl ⟨⟨v, hv, hrow⟩, hB, u, hu⟩ ho hpx
    have hc := hv.cell
    have hpl : pre.length < 64 := by
      have := hpx.length_le
      have h2 : (bitsL s).length ≤ 64 := hlen
      simp at this
      omega
    have hno := hu.not_row (by decide : 22 ≠ 3) hrow
    gi_wp2_with (gi_at_builtin; refine wpListIn_append_own _ rfl _ _ 23 rfl w.heap.size 3 i0 (.int .i64 0) 1 8 Tryd.underlying23 hi hz0 hz1 hz2 rfl (by decide) _ _ _ rfl (hrow.alloc _) ⟨W.heap.size, 0, none⟩ 1 1 [.int .i64 x] rfl rfl (cell_one_new _ _ _) (by simp [Value.oneCell']) (by unfold maxLen; omega) (by omega) (by have := hB.size; simp; omega) ?_; intro v' w1 hown' hgrow _; obtain ⟨g', cap', rfl⟩ := ownsRow_succ hown'; obtain ⟨hv1, hv2, hr2, hk2, hb2⟩ := hv.appended (by decide) hrow hB.size (Nat.le_refl _) hown' hgrow; have hc1 := hv1.cell; have hf1 := hv1.frozen)
    have ho1 : w1.heap[w.heap.size + 1]? = W.heap[w.heap.size + 1]? := (hgrow.block _ (by simp; omega) hno).trans (Below.heap_alloc W _ _ ho)
    have ho2 : (w1.setCell ⟨w.heap.size, 0, none⟩ (.slice (some ⟨g', 0, none⟩) (pre.length + 1) cap')).heap[w.heap.size + 1]? = W.heap[w.heap.size + 1]? := (Below.heap_setCell w1 ⟨w.heap.size, 0, none⟩ _ _ (by simp)).trans ho1
    exact ⟨hk2.from _, ⟨⟨_, hv2, by rw [intsV_snoc, List.length_append]; exact hr2⟩, hB.trans hb2, u, ho2.trans hu⟩, ho2⟩
  case done =>
    rintro D W hD ⟨⟨v, hv, hrow⟩, hB, u, hu⟩ hK
    have hc := hv.cell
    gi_wp2
    refine ⟨by simp, .inl ⟨_, _, rfl, run_takeDeferred hK, ?_⟩⟩
    exact ⟨_, results_tmp rfl _ _ _, v, rfl, ownsRow_putObj hrow _ hK rfl, hB.trans (belowK_b (w := w) (Nat.le_refl _) W D _ _ (by simp at hD; omega) hK rfl rfl)⟩
end Go.Proofs.YtjjdlhbbkkkjnaaDoor
