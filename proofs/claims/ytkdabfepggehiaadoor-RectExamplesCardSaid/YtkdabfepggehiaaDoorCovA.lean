/- The two appends of rect.Covers: a row of ranges that lies in a block of the call's own, cut at i, with further ranges behind. -/
import Derived.Test.YtkdabfepggehiaaDoorRectW4
import Derived.Test.YtkdabfepggehiaaDoorOk
import Derived.Deep.AppendSrc
import Derived.Deep.RegionLawGrows
import Derived.Deep.AppendLies
import Derived.Laws.IdiomCopy
namespace Go.Proofs.YtkdabfepggehiaaDoor
open Go.RowKit

/-- n ranges lie at the head of block g, which has room for c -/
structure Lies (W : World) (B g n c : Nat) (xs : List Value) : Prop where
  base : B ≤ g
  lt : g < W.heap.size
  nc : n ≤ c
  cm : c ≤ maxLen
  len : xs.length = n * 4
  at_ : ∀ (j : Nat) u, xs[j]? = some u → W.cell? ⟨g, j, none⟩ = some u
  room : ∀ j, j < c * 4 → (W.cell? ⟨g, j, none⟩).isSome = true ∧ W.frozen? ⟨g, j, none⟩ = false
section
variable {W W' : World} {B g n c : Nat} {xs : List Value}
theorem Lies.kept {row : Option Nat} (h : Lies W B g n c xs) (hg : W.grownBy W' row) (hne : some g ≠ row) : Lies W' B g n c xs := by
  have hb := hg.block g h.lt hne
  exact ⟨h.base, Nat.lt_of_lt_of_le h.lt hg.size, h.nc, h.cm, h.len, fun j u hu => (World.cell?_of_block (a := ⟨g, j, none⟩) hb).trans (h.at_ j u hu), fun j hj => by
    rw [World.cell?_of_block (a := ⟨g, j, none⟩) hb, World.frozen?_of_block (a := ⟨g, j, none⟩) hb]; exact h.room j hj⟩
theorem Lies.below (h : Lies W B g n c xs) (hb : Below W.heap.size W W') : Lies W' B g n c xs := h.kept (only_of_below hb none) (by simp)
theorem Lies.of_own (h : W.ownsRow B 38 4 (.slice (some ⟨g, 0, none⟩) n c) n xs) : Lies W B g n c xs := by
  rcases h.2 with ⟨e, _⟩ | ⟨g', cap, cur, e, hb, hg, hn, hm, hs, ht⟩
  · cases e
  · cases e
    have hlt : g < W.heap.size := by
      rcases Nat.lt_or_ge g W.heap.size with h | h
      · exact h
      · rw [Array.getElem?_eq_none h] at hg; cases hg
    refine ⟨hb, hlt, hn, hm, h.1, fun j u hu => ?_, fun j hj => ⟨?_, by simp [World.frozen?, hg]⟩⟩
    · rw [cell_of_row W g j cur _ (0, 0) hg]
      rw [← ht, List.getElem?_take] at hu
      split at hu
      · simpa using hu
      · cases hu
    · rw [cell_of_row W g j cur _ (0, 0) hg, Array.getElem?_eq_getElem (by omega)]; rfl
theorem Lies.cut (h : Lies W B g n c xs) (i : Nat) (hi : i ≤ n) : Lies W B g i i (xs.take (i * 4)) :=
  ⟨h.base, h.lt, Nat.le_refl _, by have := h.cm; have := h.nc; omega, by rw [List.length_take, h.len]; omega, (fun j u hu => by
    rw [List.getElem?_take] at hu
    split at hu
    · exact h.at_ j u hu
    · cases hu), fun j hj => h.room j (by have := h.nc; omega)⟩
end
theorem grown_setCells (W : World) (b : Nat) : ∀ (vs : List Value) (o : Nat), W.grownBy (W.setCells b o vs) (some b) := by
  intro vs
  induction vs generalizing W with
  | nil => intro o; exact ⟨rfl, rfl, rfl, Nat.le_refl _, fun _ _ _ => rfl⟩
  | cons v vs ih =>
    intro o
    rw [World.setCells]
    have h1 := only_set (a := W) b o v
    have h2 := ih (W.setCell ⟨b, o, none⟩ v) (o + 1)
    exact ⟨h2.os.trans h1.os, h2.tape.trans h1.tape, h2.output.trans h1.output, Nat.le_trans h1.size h2.size, fun k hk hne => (h2.block k (Nat.lt_of_lt_of_le hk h1.size) hne).trans (h1.block k hk hne)⟩
theorem add_zero_at (g off j : Nat) : (⟨g, off, none⟩ : Addr).add j = ⟨g, off + j, none⟩ := by unfold Addr.add; split <;> simp_all
theorem append_one {W : World} {B g n c i m : Nat} {xs news : List Value} {v : Value} {A1 : Addr} {B' : Nat} (h : Lies W B g n c xs) (hi : i < n) (hA0 : i + 1 = c → A1 = ⟨g, 0, none⟩) (hA1 : i + 1 < c → A1 = ⟨g, (i + 1) * 4, none⟩)
    (hv : W.ownsRow B' 38 4 v m news) (hfar : v.ownBlock ≠ some g) (h1 : ∀ u ∈ news, u.oneCell' = true) (hs : n + m ≤ 4194304) :
    ∃ a1 c1 W1, (Builtin.append_ #[57, 57] 57 #[.slice (some A1) (n - (i + 1)) (c - (i + 1)), v]).run Tryd.prog W = .ok (.slice (some a1) (n - (i + 1) + m) c1) W1 ∧
      (∀ j u, (xs.drop ((i + 1) * 4) ++ news)[j]? = some u → W1.cell? (a1.add j) = some u) ∧ Lies W1 B g n c xs ∧ W.grownBy W1 (some g) ∧ ∀ j, j < n * 4 → W1.cell? ⟨g, j, none⟩ = W.cell? ⟨g, j, none⟩ := by
  obtain ⟨i0, hi0, hz0, hz1, hzb⟩ := info_parts info_rect
  have hnc := h.nc
  have hlen := h.len
  have hdl : (xs.drop ((i + 1) * 4)).length = (n - (i + 1)) * 4 := by rw [List.length_drop, hlen]; omega
  have hold : ∀ j u, (xs.drop ((i + 1) * 4))[j]? = some u → W.cell? (A1.add j) = some u := by
    intro j u hu
    have hj := (List.getElem?_eq_some_iff.1 hu).1
    rw [hdl] at hj
    rw [hA1 (by omega), add_zero_at]
    rw [List.getElem?_drop] at hu
    exact h.at_ _ u hu
  obtain ⟨off, hoff⟩ : ∃ off, A1 = ⟨g, off, none⟩ := by
    rcases Nat.lt_or_ge (i + 1) c with q | q
    · exact ⟨_, hA1 q⟩
    · exact ⟨_, hA0 (by omega)⟩
  by_cases hm : m = 0
  · subst hm
    obtain rfl : news = [] := List.eq_nil_of_length_eq_zero (by simpa using hv.1)
    have hsrc : Src Tryd.prog 4 57 v 0 [] W := by
      rcases hv.2 with ⟨rfl, _⟩ | ⟨g', cap, cur, rfl, _⟩
      · exact Src.ofNil W Tryd.underlying57 0
      · exact Src.ofSlice W Tryd.underlying57 _ 0 cap [] rfl (fun j u hu => by simp at hu) (fun u hu => by simp at hu)
    have hr := run_append_room_src (P := Tryd.prog) W 57 57 57 38 i0 Tryd.underlying57 hi0 g off (n - (i + 1)) (c - (i + 1)) v 0 [] (by rw [hz1]; exact hsrc) (by omega) (fun j hj => by simp at hj) (fun j hj => by simp at hj)
    rw [hoff]
    refine ⟨_, _, _, hr, ?_, h, ⟨rfl, rfl, rfl, Nat.le_refl _, fun _ _ _ => rfl⟩, fun _ _ => rfl⟩
    rw [List.append_nil]
    rw [hoff] at hold
    exact hold
  · obtain ⟨g', cap', rfl, hb', hg'⟩ := hv.form (by omega)
    have hcv := @World.ownsRow.cells _ _ _ _ _ _ _ hv
    have hne : g' ≠ g := fun e => hfar (by rw [e]; rfl)
    by_cases hf : n - (i + 1) + m ≤ c - (i + 1)
    · have hA := hA1 (by omega)
      have e1 : (i + 1) * 4 + (n - (i + 1)) * 4 = n * 4 := by omega
      have hr := run_append_room_cells (P := Tryd.prog) W 57 57 38 i0 Tryd.underlying57 hi0 g ((i + 1) * 4) (n - (i + 1)) (c - (i + 1)) ⟨g', 0, none⟩ m cap' news (by rw [hz1]; exact hv.1) (hcv rfl) h1 hf
        (fun j hj => by rw [hz1, e1]; exact (h.room _ (by have := hv.1; omega)).1) (fun j hj => by rw [hz1, e1]; exact (h.room _ (by have := hv.1; omega)).2)
      rw [hz1, e1] at hr
      rw [hA]
      have hout : ∀ j, j < n * 4 → (W.setCells g (n * 4) news).cell? ⟨g, j, none⟩ = W.cell? ⟨g, j, none⟩ := fun j hj => World.cell?_setCells_out g news (n * 4) W ⟨g, j, none⟩ (fun _ _ => .inl hj)
      have hin : ∀ j (hj : j < news.length), (W.setCells g (n * 4) news).cell? ⟨g, n * 4 + j, none⟩ = some news[j] := World.cell?_setCells_in g news (n * 4) W (fun j hj => (h.room _ (by have := hv.1; omega)).1)
      refine ⟨_, _, _, hr, fun j u hu => ?_, ⟨h.base, ?_, h.nc, h.cm, h.len, fun j u hu => ?_, fun j hj => ⟨?_, ?_⟩⟩, grown_setCells W g news _, hout⟩
      · rw [add_zero_at]
        rcases Nat.lt_or_ge j ((n - (i + 1)) * 4) with q | q
        · rw [List.getElem?_append_left (by rw [hdl]; exact q)] at hu
          rw [hout _ (by omega)]
          have := hold j u hu
          rwa [hA, add_zero_at] at this
        · rw [List.getElem?_append_right (by rw [hdl]; exact q), hdl] at hu
          obtain ⟨hj, rfl⟩ := List.getElem?_eq_some_iff.1 hu
          have := hin _ hj
          rwa [show n * 4 + (j - (n - (i + 1)) * 4) = (i + 1) * 4 + j from by omega] at this
      · exact Nat.lt_of_lt_of_le h.lt (grown_setCells W g news _).size
      · rw [hout j (by have := (List.getElem?_eq_some_iff.1 hu).1; omega)]; exact h.at_ j u hu
      · rcases Nat.lt_or_ge j (n * 4) with q | q
        · rw [hout j q]; exact (h.room j hj).1
        · rcases Nat.lt_or_ge (j - n * 4) news.length with q2 | q2
          · have := hin _ q2
            rw [show n * 4 + (j - n * 4) = j from by omega] at this
            rw [this]; rfl
          · rw [World.cell?_setCells_out g news (n * 4) W ⟨g, j, none⟩ (fun _ _ => .inr (show n * 4 + news.length ≤ j by omega))]
            exact (h.room j hj).1
      · rw [World.frozen?_setCells]; exact (h.room j hj).2
    · obtain ⟨v', W1, hr, ho, hg⟩ := run_append_arg_grows (P := Tryd.prog) W 57 57 38 i0 _ 4 32 Tryd.underlying57 hi0 hz0 hz1 hzb rfl (by omega) A1 (n - (i + 1)) (c - (i + 1)) (xs.drop ((i + 1) * 4)) hdl hold ⟨g', 0, none⟩ m cap' news hv.1 (hcv rfl) (by omega) (by unfold maxLen; omega) (by omega)
      obtain ⟨g2, c2, rfl, _, _⟩ := ho.form (by omega)
      have hK : ∀ j, W1.cell? ⟨g, j, none⟩ = W.cell? ⟨g, j, none⟩ := fun j => World.cell?_of_block (a := ⟨g, j, none⟩) (hg.block g h.lt (by simp))
      refine ⟨_, _, _, hr, ?_, h.kept hg (by simp), ⟨hg.os, hg.tape, hg.output, hg.size, fun k hk _ => hg.block k hk (by simp)⟩, fun j _ => hK j⟩
      exact @World.ownsRow.cells _ _ _ _ _ _ _ ho g2 rfl
theorem append_two {W : World} {B g n c i k c1 : Nat} {xs ys : List Value} {a1 : Addr} (h : Lies W B g n c xs) (hi : i ≤ n) (hy : ys.length = k * 4) (hr : ∀ j u, ys[j]? = some u → W.cell? (a1.add j) = some u) (hB : B ≤ W.heap.size) (hs : i + k ≤ 4194304) :
    ∃ g2 c2 W2, (Builtin.append_ #[57, 57] 57 #[.slice (some ⟨g, 0, none⟩) i i, .slice (some a1) k c1]).run Tryd.prog W = .ok (.slice (some ⟨g2, 0, none⟩) (i + k) c2) W2 ∧
      Lies W2 B g2 (i + k) c2 (xs.take (i * 4) ++ ys) ∧ W.grownBy W2 none ∧ (g2 = g ∨ W.heap.size ≤ g2) := by
  obtain ⟨i0, hi0, hz0, hz1, hzb⟩ := info_parts info_rect
  have hc := h.cut i hi
  by_cases hk : k = 0
  · subst hk
    obtain rfl : ys = [] := List.eq_nil_of_length_eq_zero (by simpa using hy)
    have hsrc : Src Tryd.prog 4 57 (.slice (some a1) 0 c1) 0 [] W := Src.ofSlice W Tryd.underlying57 _ 0 c1 [] rfl (fun j u hu => by simp at hu) (fun u hu => by simp at hu)
    have hr := run_append_room_src (P := Tryd.prog) W 57 57 57 38 i0 Tryd.underlying57 hi0 g 0 i i (.slice (some a1) 0 c1) 0 [] (by rw [hz1]; exact hsrc) (by omega) (fun j hj => by simp at hj) (fun j hj => by simp at hj)
    refine ⟨_, _, _, hr, ?_, ⟨rfl, rfl, rfl, Nat.le_refl _, fun _ _ _ => rfl⟩, .inl rfl⟩
    rw [List.append_nil]
    exact hc
  · obtain ⟨v', W1, hr2, ho, hg⟩ := run_append_arg_grows (P := Tryd.prog) W 57 57 38 i0 _ 4 32 Tryd.underlying57 hi0 hz0 hz1 hzb rfl (by omega) ⟨g, 0, none⟩ i i (xs.take (i * 4)) hc.len (fun j u hu => by rw [add_zero_at, Nat.zero_add]; exact hc.at_ j u hu) a1 k c1 ys hy hr (by omega) (by unfold maxLen; omega) (by omega)
    obtain ⟨g2, c2, rfl, _, _⟩ := ho.form (by omega)
    have hl := Lies.of_own ho
    exact ⟨_, _, _, hr2, ⟨Nat.le_trans hB hl.base, hl.lt, hl.nc, hl.cm, hl.len, hl.at_, hl.room⟩, hg, .inr hl.base⟩
theorem Ok.row_ {w0 w w' : World} {ps : List Pers} {row : Option Nat} (h : Ok w0 ps w) (hg : w.grownBy w' row) (hf : ∀ x ∈ ps, x.far row) (hrow : ∀ k, row = some k → w0.heap.size ≤ k) : Ok w0 ps w' :=
  ⟨h.bel.grown hg h.bel.size hrow, fun x hx => x.st _ _ _ (hf x hx) hg (h.all x hx)⟩
/-- an operation of a region whose run is known -/
theorem step_run {P : Program} {ops : Array Oper} {o : Oper} {a : Act} {w w' : World} {v : Value} {K : Act → World → Prop} {Q : Exit → Act → World → Prop} {E : Prop} (hgd : o.guard = none) (s x : Operand) (t : TypeId)
    (ho : o.op = .call { callee := .builtin .append, args := #[s, x], argTypes := #[t, t] }) (V X : Value) (hs : a.eval s = V) (hx : a.eval x = X)
    (hr : (Builtin.append_ #[t, t] o.type #[V, X]).run P w = .ok v w') (hK : K (a.put o.dst v) w') : if Region.wanted o (yielded ops a.tmps) = true then Oper.wp P o a w K Q else E := by
  have hw : Region.wanted o (yielded ops a.tmps) = true := by simp [Region.wanted, hgd]
  rw [if_pos hw]
  unfold Oper.wp execOp
  simp only [ho, resolve, invoke, builtin, Sem.run_bind, Sem.run_pure, Result.andThen_ok, List.map_toArray, List.map_cons, List.map_nil, hs, hx, hr]
  exact hK
end Go.Proofs.YtkdabfepggehiaaDoor
