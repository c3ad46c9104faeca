/- The contract of the kit's EqualTokens: two slices that hold the same tokens are equal. Plain: what LexBack, LexBlanks and LexGaps say, of what Tokens and Write come to. louvrelaw07.same: lists of tokens that are alike but for their places. The statement's own 'awake' of chapter 07. -/
import Derived.Test.YtlngjiibbcgkmaaGreatDoorWriteK
namespace Go.Proofs.YtlngjiibbcgkmaaGreatDoor
section
open Go.RowKit

set_option maxRecDepth 100000 in
set_option maxHeartbeats 4000000 in
theorem equal_tokens (ts : List (Tk × Int)) (a b : Option Addr) (c d : Nat) (w : World) (ha : TksAt w a c ts) (hb : TksAt w b d ts) (hn : ts.length ≤ 1000000000000) :
    Calls Tryz.prog 19 #[.slice a ts.length c, .slice b ts.length d] w fun e w' => e = .returned (.bool true) ∧ Below w.heap.size w w' := by
  have HA := keep ha
  have HB := keep hb
  clear ha hb
  obtain ⟨n, hl⟩ : ∃ n, ts.length = n := ⟨_, rfl⟩
  rw [hl] at hn ⊢
  have HL := keep hl
  clear hl
  go_enter Tryz.func19, Tryz.ntmps19
  go_wp2_with fail
  go_loopw [5] (fun i wr => ∃ k : Nat, k ≤ n ∧ i = .int .i64 (k : Int) ∧ Hid (Below w.heap.size w wr)) (fun i _ => n - (intOf i).toNat)
  case atStart => exact ⟨0, Nat.zero_le _, rfl, Below.refl _ _⟩
  case round =>
    obtain ⟨k, hk, rfl, H2⟩ := hrel
    obtain ⟨wp, rfl⟩ : ∃ wp : World, wp = wr := ⟨_, rfl⟩
    by_cases hlt : (k : Int) < n
    · have hil : k < ts.length := by rw [HL.out]; omega
      obtain ⟨x, hx⟩ : ∃ x, ts[k]? = some x := ⟨_, List.getElem?_eq_getElem hil⟩
      obtain ⟨b1, o1, ha1, hB1, hc1⟩ := HA.out.at_ (by intro e; rw [e] at hil; simp at hil)
      obtain ⟨b2, o2, hb2, hB2, hc2⟩ := HB.out.at_ (by intro e; rw [e] at hil; simp at hil)
      subst ha1 hb2
      have g1 := hc1 k x hx
      have g2 := hc2 k x hx
      obtain ⟨⟨tk, tn, tt, ⟨r1, r2, r3, r4⟩, ta⟩, p⟩ := x
      have c0 := (H2.out.cell hB1).trans (g1 0 _ rfl)
      have d0 := (H2.out.cell hB2).trans (g2 0 _ rfl)
      have c1 := (H2.out.cell hB1).trans (g1 1 _ rfl)
      have d1 := (H2.out.cell hB2).trans (g2 1 _ rfl)
      have c2 := (H2.out.cell hB1).trans (g1 2 _ rfl)
      have d2 := (H2.out.cell hB2).trans (g2 2 _ rfl)
      have c3 := (H2.out.cell hB1).trans (g1 3 _ rfl)
      have d3 := (H2.out.cell hB2).trans (g2 3 _ rfl)
      have c4 := (H2.out.cell hB1).trans (g1 4 _ rfl)
      have d4 := (H2.out.cell hB2).trans (g2 4 _ rfl)
      have c5 := (H2.out.cell hB1).trans (g1 5 _ rfl)
      have d5 := (H2.out.cell hB2).trans (g2 5 _ rfl)
      have c6 := (H2.out.cell hB1).trans (g1 6 _ rfl)
      have d6 := (H2.out.cell hB2).trans (g2 6 _ rfl)
      have c7 := (H2.out.cell hB1).trans (g1 7 _ rfl)
      have d7 := (H2.out.cell hB2).trans (g2 7 _ rfl)
      simp only [Nat.add_zero, ← Nat.add_assoc] at c0 d0 c1 d1 c2 d2 c3 d3 c4 d4 c5 d5 c6 d6 c7 d7
      have hb1 : b1 < wp.heap.size := Nat.lt_of_lt_of_le hB1 H2.out.size
      have hb2 : b2 < wp.heap.size := Nat.lt_of_lt_of_le hB2 H2.out.size
      clear hil hx hc1 hc2 g1 g2
      go_wp2_with fail
      go_region_held3 (fun w' => w'.cell? ⟨b1, o1 + k * 8, none⟩ = some (.int .u8 tk) ∧ w'.cell? ⟨b1, o1 + k * 8 + 1, none⟩ = some (.int .i64 tn) ∧ w'.cell? ⟨b1, o1 + k * 8 + 2, none⟩ = some (.string ⟨tt.toArray⟩) ∧ w'.cell? ⟨b1, o1 + k * 8 + 3, none⟩ = some (.int .i64 r1) ∧ w'.cell? ⟨b1, o1 + k * 8 + 4, none⟩ = some (.int .i64 r2) ∧ w'.cell? ⟨b1, o1 + k * 8 + 5, none⟩ = some (.int .i64 r3) ∧ w'.cell? ⟨b1, o1 + k * 8 + 6, none⟩ = some (.int .i64 r4) ∧ w'.cell? ⟨b1, o1 + k * 8 + 7, none⟩ = some (.int .i64 p) ∧ w'.cell? ⟨b2, o2 + k * 8, none⟩ = some (.int .u8 tk) ∧ w'.cell? ⟨b2, o2 + k * 8 + 1, none⟩ = some (.int .i64 tn) ∧ w'.cell? ⟨b2, o2 + k * 8 + 2, none⟩ = some (.string ⟨tt.toArray⟩) ∧ w'.cell? ⟨b2, o2 + k * 8 + 3, none⟩ = some (.int .i64 r1) ∧ w'.cell? ⟨b2, o2 + k * 8 + 4, none⟩ = some (.int .i64 r2) ∧ w'.cell? ⟨b2, o2 + k * 8 + 5, none⟩ = some (.int .i64 r3) ∧ w'.cell? ⟨b2, o2 + k * 8 + 6, none⟩ = some (.int .i64 r4) ∧ w'.cell? ⟨b2, o2 + k * 8 + 7, none⟩ = some (.int .i64 p)) (go_keep) (fail)
      go_wp2_with fail
      go_roundw
      case rel => exact ⟨k + 1, by omega, by go_num, H2.out.drew⟩
      case measure => simp [intOf]; omega
    · obtain rfl : k = n := by omega
      go_wp2_with fail
      go_ret
      exact ⟨rfl, H2.out⟩
end
section
open Go.RowKit

theorem toks_parts {L : List UInt8} {ts : List Tk} {a : Int} (h : tokensS L = (ts, a, 0)) : a = 0 ∧ L.length ≤ 256 ∧ (∀ b ∈ L, plainB b = true) ∧ Lex 0 L ts [] := by
  unfold tokensS at h
  split at h
  · simp at h
  · rename_i h256
    split at h
    · simp at h
    · rename_i hf
      split at h
      · rename_i l hl
        simp only [Prod.mk.injEq, and_true] at h
        obtain ⟨rfl, rfl⟩ := h
        refine ⟨rfl, by omega, ?_, (toks_lex _ _ _ _ (Nat.le_refl _)).1 hl⟩
        intro b hb
        have := List.findIdx?_eq_none_iff.1 hf b hb
        simpa using this
      · simp at h
theorem toks_of {L : List UInt8} {ts : List Tk} (h1 : L.length ≤ 256) (h2 : ∀ b ∈ L, plainB b = true) (h3 : Lex 0 L ts []) : tokensS L = (ts, 0, 0) := by
  unfold tokensS
  have hf : L.findIdx? (fun b => !plainB b) = none := by
    rw [List.findIdx?_eq_none_iff]
    intro b hb
    simp [h2 b hb]
  rw [if_neg (by omega), hf, (toks_lex _ _ _ _ (Nat.le_refl _)).2 h3]
theorem toksF_at : ∀ (f k : Nat) (s : List UInt8) (i : Nat), toksF f k s = .error i → i ≤ k + s.length
  | 0, _, _, _, h => by cases h
  | _ + 1, _, [], _, h => by cases h
  | f + 1, k, b :: r, i, h => by
    unfold toksF at h
    split at h
    · have := toksF_at f _ _ _ h
      rw [List.length_cons]
      omega
    · split at h
      · cases h
        omega
      · rename_i t n hn
        have h1 := tok_le hn
        generalize hd : (b :: r).drop n = d at h
        have h2 := congrArg List.length hd
        rw [List.length_drop] at h2
        cases h3 : toksF f (k + n) d with
        | ok l => rw [h3] at h; cases h
        | error j =>
          rw [h3] at h
          have h4 : j = i := by injection h
          have h5 := toksF_at f _ _ _ h3
          omega
theorem tokens_fault {L : List UInt8} {ts : List Tk} {a e : Int} (h : tokensS L = (ts, a, e)) (he : e ≠ 0) : ts = [] ∧ 0 ≤ a ∧ a ≤ L.length := by
  unfold tokensS at h
  split at h
  · simp only [Prod.mk.injEq] at h
    obtain ⟨rfl, rfl, -⟩ := h
    exact ⟨rfl, by omega, by omega⟩
  · split at h
    · rename_i i hi
      simp only [Prod.mk.injEq] at h
      obtain ⟨rfl, rfl, -⟩ := h
      have := (List.findIdx?_eq_some_iff_findIdx_eq.1 hi).1
      exact ⟨rfl, by omega, by omega⟩
    · split at h
      · simp only [Prod.mk.injEq] at h
        exact absurd h.2.2.symm he
      · rename_i i hi
        simp only [Prod.mk.injEq] at h
        obtain ⟨rfl, rfl, -⟩ := h
        have := toksF_at _ _ _ _ hi
        exact ⟨rfl, by omega, by omega⟩
theorem tok_num {k : Nat} {l : List UInt8} {t : Tk} {n : Nat} (h : tokS k l = some (t, n)) : 0 ≤ t.num ∧ t.num ≤ 9223372036854775807 := by
  cases l with
  | nil => cases h
  | cons b r =>
    rw [tok_cons] at h
    split at h
    · obtain ⟨⟨v, m⟩, hx, e⟩ := Option.map_eq_some_iff.1 h
      obtain ⟨rfl, -⟩ := Prod.mk.inj e
      obtain ⟨w, p, -, -, -, -, -, rfl, hv, -⟩ := num_parts hx
      show 0 ≤ ((numV w p : Nat) : Int) ∧ ((numV w p : Nat) : Int) ≤ 9223372036854775807
      omega
    · split at h
      · obtain ⟨⟨v, m⟩, hx, e⟩ := Option.map_eq_some_iff.1 h
        obtain ⟨rfl, -⟩ := Prod.mk.inj e
        exact (by decide : (0 : Int) ≤ 0 ∧ (0 : Int) ≤ 9223372036854775807)
      · split at h
        · unfold wordS at h
          simp only at h
          split at h
          · obtain ⟨rfl, -⟩ := Prod.mk.inj (Option.some.inj h); exact (by decide : (0 : Int) ≤ 0 ∧ (0 : Int) ≤ 9223372036854775807)
          · split at h
            · obtain ⟨rfl, -⟩ := Prod.mk.inj (Option.some.inj h); exact (by decide : (0 : Int) ≤ 1 ∧ (1 : Int) ≤ 9223372036854775807)
            · split at h
              · obtain ⟨rfl, -⟩ := Prod.mk.inj (Option.some.inj h); exact (by decide : (0 : Int) ≤ 0 ∧ (0 : Int) ≤ 9223372036854775807)
              · split at h
                · cases h
                · split at h
                  · obtain ⟨rfl, -⟩ := Prod.mk.inj (Option.some.inj h); exact (by decide : (0 : Int) ≤ 0 ∧ (0 : Int) ≤ 9223372036854775807)
                  · obtain ⟨rfl, -⟩ := Prod.mk.inj (Option.some.inj h); exact (by decide : (0 : Int) ≤ 0 ∧ (0 : Int) ≤ 9223372036854775807)
        · split at h
          · rename_i c m he
            obtain ⟨rfl, -⟩ := Prod.mk.inj (Option.some.inj h)
            obtain ⟨i, x, hi, hc, -⟩ := err_parts _ _ he
            have h5 : i < 5 := (List.getElem?_eq_some_iff.1 hi).1
            show 0 ≤ ((c : Nat) : Int) ∧ ((c : Nat) : Int) ≤ 9223372036854775807
            omega
          · obtain ⟨⟨c, v, m⟩, hx, e⟩ := Option.map_eq_some_iff.1 h
            obtain ⟨rfl, -⟩ := Prod.mk.inj e
            show 0 ≤ v ∧ v ≤ 9223372036854775807
            have key : ∀ x ∈ opTab, (0 : Int) ≤ x.2.2 ∧ x.2.2 ≤ 9223372036854775807 := by decide
            rw [op_cons] at hx
            split at hx
            · split at hx
              · cases hx; decide
              · split at hx
                · cases hx; decide
                · cases hx; decide
            · split at hx
              · split at hx
                · cases hx; decide
                · cases hx; decide
              · obtain ⟨y, hy, e⟩ := Option.map_eq_some_iff.1 hx
                obtain ⟨-, e2⟩ := Prod.mk.inj e
                obtain ⟨e3, -⟩ := Prod.mk.inj e2
                rw [← e3]
                exact key y (List.mem_of_find?_eq_some hy)
theorem Lex.nums {k : Nat} {s : List UInt8} {l : List Tk} {y : List UInt8} (h : Lex k s l y) : ∀ t ∈ l, 0 ≤ t.num ∧ t.num ≤ 9223372036854775807 := by
  induction h with
  | nil => simp
  | blank _ ih => exact ih
  | tok h _ ih =>
    intro t ht
    rcases List.mem_cons.1 ht with rfl | ht
    · exact tok_num h
    · exact ih t ht
theorem bare_text {u : Tk} (h : bareB u = true) : u.text = [] := by
  unfold bareB at h
  simp only [Bool.and_eq_true, List.isEmpty_iff] at h
  exact h.1.2
theorem ok_text {t : Tk} (h : okT t = true) : t.text.length ≤ 256 := by
  unfold okT at h
  have key : ∀ u : Tk, bareB u = true → u.text = t.text → t.text.length ≤ 256 := fun u hu e => by rw [← e, bare_text hu]; simp
  split at h
  · simp only [Bool.and_eq_true] at h; exact key _ h.2 rfl
  · split at h
    · simp only [Bool.and_eq_true, decide_eq_true_eq] at h; exact h.1.1.2
    · split at h
      · simp only [Bool.and_eq_true] at h; exact key _ h.2 rfl
      · split at h
        · simp only [Bool.and_eq_true] at h; exact key _ h.2 rfl
        · split at h
          · simp only [Bool.and_eq_true] at h; exact key _ h.2 rfl
          · split at h
            · simp only [Bool.and_eq_true] at h; exact key _ h.2 rfl
            · split at h
              · unfold nameB at h
                simp only [Bool.and_eq_true, decide_eq_true_eq] at h
                omega
              · split at h
                · simp only [Bool.and_eq_true] at h; exact key _ h.2 rfl
                · simp only [Bool.and_eq_true] at h; exact key _ h.2 rfl
/-- the tokens of a formula are such that Write takes them -/
theorem tokens_fit {L : List UInt8} {ts : List Tk} {a : Int} (h : tokensS L = (ts, a, 0)) : (∀ t ∈ ts, okT t = true) ∧ ∀ t ∈ ts, t.fits := by
  obtain ⟨-, h1, h2, h3⟩ := toks_parts h
  have h4 := h3.ok (by simpa using h1) (by simpa using h2)
  refine ⟨h4, fun t ht => ⟨?_, (h3.nums t ht).2, ?_⟩⟩
  · have := (h3.nums t ht).1; omega
  · have := ok_text (h4 t ht); omega
theorem Lex.count {k : Nat} {s : List UInt8} {l : List Tk} {y : List UInt8} (h : Lex k s l y) : l.length ≤ s.length := by
  induction h with
  | nil => simp
  | blank _ ih => simp; omega
  | tok _ _ ih => simp; omega
theorem okT_flat (t : Tk) : okT t.flat = okT t := rfl
theorem textS_flat (t : Tk) : textS t.flat = textS t := rfl
theorem same_ok {l m : List Tk} (h : sameL l m = true) : l.all okT = m.all okT ∧ l.flatMap textS = m.flatMap textS := by
  rw [sameL_iff] at h
  have e1 : ∀ l : List Tk, l.all okT = (l.map Tk.flat).all okT := fun l => by rw [List.all_map]; rfl
  have e2 : ∀ l : List Tk, l.flatMap textS = (l.map Tk.flat).flatMap textS := fun l => by rw [List.flatMap_map]; rfl
  exact ⟨by rw [e1 l, e1 m, h], by rw [e2 l, e2 m, h]⟩
theorem sameL_refl (l : List Tk) : sameL l l = true := by rw [sameL_iff]
theorem sameL_symm {l m : List Tk} (h : sameL l m = true) : sameL m l = true := by rw [sameL_iff] at h ⊢; exact h.symm
/-- the law of LexBack: what Write makes of the tokens of a formula -/
theorem back_plain {us : List Tk} (hok : ∀ t ∈ us, okT t = true) :
    writeS us = ([], 4) ∨ writeS us = ([], 5) ∨ ∃ x ts, writeS us = (x, 0) ∧ tokensS x = (ts, 0, 0) ∧ sameL us ts = true ∧ writeS ts = (x, 0) ∧ x.length ≤ 256 := by
  have h1 : us.all okT = true := List.all_eq_true.2 hok
  by_cases h2 : 256 < (us.flatMap textS).length
  · right; left
    unfold writeS
    rw [if_pos h1, if_pos h2]
  · by_cases h3 : (tokensS (us.flatMap textS)).2.2 = 0 ∧ sameL (tokensS (us.flatMap textS)).1 us = true
    · right; right
      obtain ⟨⟨ts, a, e⟩, hT⟩ : ∃ T, tokensS (us.flatMap textS) = T := ⟨_, rfl⟩
      have h4 := h3
      rw [hT] at h4
      obtain ⟨he, hs⟩ := h4
      have he : e = 0 := he
      subst he
      have hs : sameL ts us = true := hs
      obtain ⟨rfl, -⟩ := toks_parts hT
      obtain ⟨g1, g2⟩ := same_ok hs
      refine ⟨_, ts, ?_, hT, sameL_symm hs, ?_, by omega⟩
      · unfold writeS
        rw [if_pos h1, if_neg h2, if_pos h3]
      · unfold writeS
        rw [g1, g2, if_pos h1, if_neg h2, hT, if_pos ⟨rfl, sameL_refl ts⟩]
    · left
      unfold writeS
      rw [if_pos h1, if_neg h2, if_neg h3]
theorem named_take {l : List Tk} : ∀ {k : Nat} {t : Tk}, l[k]? = some t → named (l.take (k + 1)) = (t.kind == 7) := by
  induction l with
  | nil => intro k t h; simp at h
  | cons x l ih =>
    intro k t h
    cases k with
    | zero =>
      obtain rfl : x = t := by simpa using h
      rfl
    | succ k =>
      have h1 : l[k]? = some t := by simpa using h
      have h2 := ih h1
      cases l with
      | nil => simp at h1
      | cons y l => rw [List.take_succ_cons, List.take_succ_cons]; rw [List.take_succ_cons] at h2; exact h2
theorem flat_move (d : Nat) (l : List Tk) : (l.map (Tk.move d)).map Tk.flat = l.map Tk.flat := by
  rw [List.map_map]
  rfl
/-- the law of LexBlanks, of what Tokens comes to -/
theorem blanks_law {s : List UInt8} {l : List Tk} {a : Int} (h : tokensS s = (l, a, 0)) (h250 : s.length ≤ 250) (k n : Nat) (hk : (∃ t, l[k]? = some t ∧ n = t.at_) ∨ (k = l.length ∧ n = s.length)) (hn : named (l.take k) = false) :
    n ≤ s.length ∧ ∃ m, tokensS (s.take n ++ 32 :: s.drop n) = (m, 0, 0) ∧ sameL l m = true := by
  obtain ⟨-, h1, h2, h3⟩ := toks_parts h
  obtain ⟨h4, h5⟩ := blanks_plain h3 k n hk hn
  refine ⟨h4, _, toks_of ?_ ?_ h5, ?_⟩
  · simp only [List.length_append, List.length_cons, List.length_take, List.length_drop]; omega
  · intro b hb
    rcases List.mem_append.1 hb with h | h
    · exact h2 b (List.mem_of_mem_take h)
    · rcases List.mem_cons.1 h with rfl | h
      · decide
      · exact h2 b (List.mem_of_mem_drop h)
  · rw [sameL_iff, List.map_append, flat_move, ← List.map_append, List.take_append_drop]
/-- the law of LexGaps -/
theorem gaps_law {s : List UInt8} {l : List Tk} {a : Int} (h : tokensS s = (l, a, 0)) (i : Nat) (t : Tk) (ht : l[i]? = some t) :
    t.at_ < s.length ∧ s[t.at_]? ≠ some 32 ∧ (named (l.take i) = false → tokensS (s.take t.at_) = (l.take i, 0, 0)) := by
  obtain ⟨-, h1, h2, h3⟩ := toks_parts h
  obtain ⟨h4, h5⟩ := gaps_at h3 i t ht
  refine ⟨h4, h5, fun hn => toks_of ?_ ?_ (gaps_cut h3 i t ht hn)⟩
  · rw [List.length_take]; omega
  · exact fun b hb => h2 b (List.mem_of_mem_take hb)
theorem gaps_next {s : List UInt8} {l : List Tk} {a : Int} (h : tokensS s = (l, a, 0)) (i : Nat) (t u : Tk) (ht : l[i]? = some t) (hu : l[i + 1]? = some u) : t.at_ < u.at_ := by
  obtain ⟨-, -, -, h3⟩ := toks_parts h
  have h4 := List.pairwise_iff_getElem.1 (gaps_order h3)
  obtain ⟨hi, rfl⟩ := List.getElem?_eq_some_iff.1 ht
  obtain ⟨hj, rfl⟩ := List.getElem?_eq_some_iff.1 hu
  exact h4 i (i + 1) hi hj (by omega)
end
section
open Go.RowKit

set_option maxRecDepth 100000 in
set_option maxHeartbeats 8000000 in
theorem law_same (ts us : List (Tk × Int)) (a b : Option Addr) (c d : Nat) (w : World) (ha : TksAt w a c ts) (hb : TksAt w b d us) (hs : sameL (ts.map Prod.fst) (us.map Prod.fst) = true) (hn : ts.length ≤ 1000000000000) :
    Calls Tryz.prog 24 #[.slice a ts.length c, .slice b us.length d] w fun e w' => e = .returned (.bool true) ∧ Below w.heap.size w w' := by
  have HA := keep ha
  have HB := keep hb
  have HS := keep hs
  have hl2 : us.length = ts.length := by have := sameL_len hs; rw [List.length_map, List.length_map] at this; exact this.symm
  rw [hl2]
  have HL2 := keep hl2
  clear ha hb hs hl2
  obtain ⟨n, hl⟩ : ∃ n, ts.length = n := ⟨_, rfl⟩
  rw [hl] at hn ⊢
  have HL := keep hl
  clear hl
  go_enter Tryz.func24, Tryz.ntmps24
  go_wp2_with fail
  go_loopw [5] (fun i wr => ∃ k : Nat, k ≤ n ∧ i = .int .i64 (k : Int) ∧ Hid (Below w.heap.size w wr)) (fun i _ => n - (intOf i).toNat)
  case atStart => exact ⟨0, Nat.zero_le _, rfl, Below.refl _ _⟩
  case round =>
    obtain ⟨k, hk, rfl, H2⟩ := hrel
    obtain ⟨wp, rfl⟩ : ∃ wp : World, wp = wr := ⟨_, rfl⟩
    by_cases hlt : (k : Int) < n
    · have hil : k < ts.length := by rw [HL.out]; omega
      obtain ⟨x, hx⟩ : ∃ x, ts[k]? = some x := ⟨_, List.getElem?_eq_getElem hil⟩
      obtain ⟨y, hy⟩ : ∃ y, us[k]? = some y := ⟨_, List.getElem?_eq_getElem (by rw [HL2.out]; exact hil)⟩
      obtain ⟨b1, o1, ha1, hB1, hc1⟩ := HA.out.at_ (by intro e; rw [e] at hil; simp at hil)
      obtain ⟨b2, o2, hb2, hB2, hc2⟩ := HB.out.at_ (by intro e; rw [e] at hy; simp at hy)
      subst ha1 hb2
      have hsm := sameL_at HS.out (fst_at hx) (fst_at hy)
      have g1 := hc1 k x hx
      have g2 := hc2 k y hy
      obtain ⟨⟨tk, tn, tt, ⟨r1, r2, r3, r4⟩, ta⟩, p⟩ := x
      obtain ⟨⟨sk, sn, st, ⟨s1, s2, s3, s4⟩, sa⟩, q⟩ := y
      simp only [sameB, decide_eq_true_eq] at hsm
      obtain ⟨rfl, rfl, rfl, rfl, rfl, rfl, rfl⟩ := hsm
      have hb1 : b1 < wp.heap.size := Nat.lt_of_lt_of_le hB1 H2.out.size
      have hb2 : b2 < wp.heap.size := Nat.lt_of_lt_of_le hB2 H2.out.size
      have hc1' : cellsFrom wp b1 (o1 + k * 8) 0 [.int .u8 tk, .int .i64 tn, .string ⟨tt.toArray⟩, .int .i64 r1, .int .i64 r2, .int .i64 r3, .int .i64 r4, .int .i64 p] := ⟨(H2.out.cell hB1).trans (by have h9 := g1 0 _ rfl; simpa [Nat.add_assoc] using h9), (H2.out.cell hB1).trans (by have h9 := g1 1 _ rfl; simpa [Nat.add_assoc] using h9), (H2.out.cell hB1).trans (by have h9 := g1 2 _ rfl; simpa [Nat.add_assoc] using h9), (H2.out.cell hB1).trans (by have h9 := g1 3 _ rfl; simpa [Nat.add_assoc] using h9), (H2.out.cell hB1).trans (by have h9 := g1 4 _ rfl; simpa [Nat.add_assoc] using h9), (H2.out.cell hB1).trans (by have h9 := g1 5 _ rfl; simpa [Nat.add_assoc] using h9), (H2.out.cell hB1).trans (by have h9 := g1 6 _ rfl; simpa [Nat.add_assoc] using h9), (H2.out.cell hB1).trans (by have h9 := g1 7 _ rfl; simpa [Nat.add_assoc] using h9), trivial⟩
      have hc2' : cellsFrom wp b2 (o2 + k * 8) 0 [.int .u8 tk, .int .i64 tn, .string ⟨tt.toArray⟩, .int .i64 r1, .int .i64 r2, .int .i64 r3, .int .i64 r4, .int .i64 q] := ⟨(H2.out.cell hB2).trans (by have h9 := g2 0 _ rfl; simpa [Nat.add_assoc] using h9), (H2.out.cell hB2).trans (by have h9 := g2 1 _ rfl; simpa [Nat.add_assoc] using h9), (H2.out.cell hB2).trans (by have h9 := g2 2 _ rfl; simpa [Nat.add_assoc] using h9), (H2.out.cell hB2).trans (by have h9 := g2 3 _ rfl; simpa [Nat.add_assoc] using h9), (H2.out.cell hB2).trans (by have h9 := g2 4 _ rfl; simpa [Nat.add_assoc] using h9), (H2.out.cell hB2).trans (by have h9 := g2 5 _ rfl; simpa [Nat.add_assoc] using h9), (H2.out.cell hB2).trans (by have h9 := g2 6 _ rfl; simpa [Nat.add_assoc] using h9), (H2.out.cell hB2).trans (by have h9 := g2 7 _ rfl; simpa [Nat.add_assoc] using h9), trivial⟩
      have H3 := Lib.hid (((show Ok w [] wp from ⟨H2.out, fun _ h => absurd h (by simp)⟩).add (kCells b1 (o1 + k * 8) [.int .u8 tk, .int .i64 tn, .string ⟨tt.toArray⟩, .int .i64 r1, .int .i64 r2, .int .i64 r3, .int .i64 r4, .int .i64 p]) ⟨hb1, hc1'⟩).add (kCells b2 (o2 + k * 8) [.int .u8 tk, .int .i64 tn, .string ⟨tt.toArray⟩, .int .i64 r1, .int .i64 r2, .int .i64 r3, .int .i64 r4, .int .i64 q]) ⟨hb2, hc2'⟩)
      clear hil hx hy hc1 hc2 g1 g2 hc1' hc2' H2 hB1 hB2
      have F1 := H3.out.sees
      simp only [sees, kCells, cellsFrom, Nat.add_zero, Nat.reduceAdd] at F1
      obtain ⟨⟨z0, c0_0, c0_1, c0_2, c0_3, c0_4, c0_5, c0_6, c0_7, -⟩, ⟨z1, c1_0, c1_1, c1_2, c1_3, c1_4, c1_5, c1_6, c1_7, -⟩, -⟩ := F1
      go_wp2_with fail
      refine wp_region_held_drew (S := fun W => Ok w [kCells b2 (o2 + k * 8) [.int .u8 tk, .int .i64 tn, .string ⟨tt.toArray⟩, .int .i64 r1, .int .i64 r2, .int .i64 r3, .int .i64 r4, .int .i64 q], kCells b1 (o1 + k * 8) [.int .u8 tk, .int .i64 tn, .string ⟨tt.toArray⟩, .int .i64 r1, .int .i64 r2, .int .i64 r3, .int .i64 r4, .int .i64 p]] W) (by kernel_rfl) H3.out.drew (fun hHeld => ?_)
      clear z0 c0_0 c0_1 c0_2 c0_3 c0_4 c0_5 c0_6 c0_7 z1 c1_0 c1_1 c1_2 c1_3 c1_4 c1_5 c1_6 c1_7
      have H2 := Lib.hid H3.out.drew
      clear H3
      generalize wp.drew = W3 at hHeld H2 ⊢
      refine wpAnyH_take (i := 0) (v := ?vx1_0) rfl (by kernel_rfl) (by kernel_rfl) (by kernel_rfl) (fun _ _ _ h => h) (Or.inl ⟨by rfl, ?hyx1_0⟩) (by assumption) ?restx1_0
      case hyx1_0 => (intro w hSw; have F := Ok.sees hSw; clear hSw; simp only [sees, kCells, cellsFrom, Nat.add_zero, Nat.reduceAdd] at F; go_simp; try with_reducible rfl)
      try simp only [Act.put, List.setIfInBounds_toArray, List.set_cons_zero, List.set_cons_succ, List.getElem_toArray, List.getElem_cons_zero]
      refine wpAnyH_take (i := 1) (v := ?vx2_1) rfl (by kernel_rfl) (by kernel_rfl) (by kernel_rfl) (fun _ _ _ h => h) (Or.inl ⟨by rfl, ?hyx2_1⟩) (by assumption) ?restx2_1
      case hyx2_1 => (intro w hSw; have F := Ok.sees hSw; clear hSw; simp only [sees, kCells, cellsFrom, Nat.add_zero, Nat.reduceAdd] at F; go_simp; try with_reducible rfl)
      try simp only [Act.put, List.setIfInBounds_toArray, List.set_cons_zero, List.set_cons_succ, List.getElem_toArray, List.getElem_cons_succ, List.getElem_cons_zero]
      refine wpAnyH_take (i := 2) (v := ?vx3_2) rfl (by kernel_rfl) (by kernel_rfl) (by kernel_rfl) (fun _ _ _ h => h) (Or.inl ⟨by rfl, ?hyx3_2⟩) (by assumption) ?restx3_2
      case hyx3_2 => (intro w hSw; have F := Ok.sees hSw; clear hSw; simp only [sees, kCells, cellsFrom, Nat.add_zero, Nat.reduceAdd] at F; go_simp; try with_reducible rfl)
      try simp only [Act.put, List.setIfInBounds_toArray, List.set_cons_zero, List.set_cons_succ, List.getElem_toArray, List.getElem_cons_succ, List.getElem_cons_zero]
      refine wpAnyH_take (i := 3) (v := ?vx4_3) rfl (by kernel_rfl) (by kernel_rfl) (by kernel_rfl) (fun _ _ _ h => h) (Or.inl ⟨by rfl, ?hyx4_3⟩) (by assumption) ?restx4_3
      case hyx4_3 => (intro w hSw; have F := Ok.sees hSw; clear hSw; simp only [sees, kCells, cellsFrom, Nat.add_zero, Nat.reduceAdd] at F; go_simp; try with_reducible rfl)
      try simp only [Act.put, List.setIfInBounds_toArray, List.set_cons_zero, List.set_cons_succ, List.getElem_toArray, List.getElem_cons_succ, List.getElem_cons_zero]
      refine wpAnyH_take (i := 4) (v := ?vx5_4) rfl (by kernel_rfl) (by kernel_rfl) (by kernel_rfl) (fun _ _ _ h => h) (Or.inl ⟨by rfl, ?hyx5_4⟩) (by assumption) ?restx5_4
      case hyx5_4 => (intro w hSw; have F := Ok.sees hSw; clear hSw; simp only [sees, kCells, cellsFrom, Nat.add_zero, Nat.reduceAdd] at F; go_simp; try with_reducible rfl)
      try simp only [Act.put, List.setIfInBounds_toArray, List.set_cons_zero, List.set_cons_succ, List.getElem_toArray, List.getElem_cons_succ, List.getElem_cons_zero]
      refine wpAnyH_take (i := 5) (v := ?vx6_5) rfl (by kernel_rfl) (by kernel_rfl) (by kernel_rfl) (fun _ _ _ h => h) (Or.inl ⟨by rfl, ?hyx6_5⟩) (by assumption) ?restx6_5
      case hyx6_5 => (intro w hSw; have F := Ok.sees hSw; clear hSw; simp only [sees, kCells, cellsFrom, Nat.add_zero, Nat.reduceAdd] at F; go_simp; try with_reducible rfl)
      try simp only [Act.put, List.setIfInBounds_toArray, List.set_cons_zero, List.set_cons_succ, List.getElem_toArray, List.getElem_cons_succ, List.getElem_cons_zero]
      refine wpAnyH_take (i := 6) (v := ?vx7_6) rfl (by kernel_rfl) (by kernel_rfl) (by kernel_rfl) (fun _ _ _ h => h) (Or.inl ⟨by rfl, ?hyx7_6⟩) (by assumption) ?restx7_6
      case hyx7_6 => (intro w hSw; have F := Ok.sees hSw; clear hSw; simp only [sees, kCells, cellsFrom, Nat.add_zero, Nat.reduceAdd] at F; go_simp; try with_reducible rfl)
      try simp only [Act.put, List.setIfInBounds_toArray, List.set_cons_zero, List.set_cons_succ, List.getElem_toArray, List.getElem_cons_succ, List.getElem_cons_zero]
      refine wpAnyH_take (i := 7) (v := ?vx8_7) rfl (by kernel_rfl) (by kernel_rfl) (by kernel_rfl) (fun _ _ _ h => h) (Or.inl ⟨by rfl, ?hyx8_7⟩) (by assumption) ?restx8_7
      case hyx8_7 => (intro w hSw; have F := Ok.sees hSw; clear hSw; simp only [sees, kCells, cellsFrom, Nat.add_zero, Nat.reduceAdd] at F; go_simp; try with_reducible rfl)
      try simp only [Act.put, List.setIfInBounds_toArray, List.set_cons_zero, List.set_cons_succ, List.getElem_toArray, List.getElem_cons_succ, List.getElem_cons_zero]
      refine wpAnyH_ready (rs := [8, 9]) (by kernel_rfl) (by simp) ?_
      refine AllReadyH.cons rfl (fun K hK => ?_) (AllReadyH.cons rfl (fun K hK => ?_) AllReadyH.nil)
      · have qx9_0 := (show b2 < W3.heap.size ∧ _ from H2.out.get (kCells b2 (o2 + k * 8) [.int .u8 tk, .int .i64 tn, .string ⟨tt.toArray⟩, .int .i64 r1, .int .i64 r2, .int .i64 r3, .int .i64 r4, .int .i64 q]) (by simp)).1
        have qx9_1 := (show b1 < W3.heap.size ∧ _ from H2.out.get (kCells b1 (o1 + k * 8) [.int .u8 tk, .int .i64 tn, .string ⟨tt.toArray⟩, .int .i64 r1, .int .i64 r2, .int .i64 r3, .int .i64 r4, .int .i64 p]) (by simp)).1
        have qx9_w := H2.out.bel.size
        go_simp
        have H4 := Lib.hid (H2.out.var (W3.heap.size) 43 [.int .u8 0, .int .i64 0, .string ⟨#[]⟩, .int .i64 0, .int .i64 0, .int .i64 0, .int .i64 0, .int .i64 0] rfl)
        clear H2
        refine hK.out _ _ (H4.out.tail) (fun hHeld => ?_)
        clear hK K
        try simp only [Act.put, List.setIfInBounds_toArray, List.set_cons_zero, List.set_cons_succ, List.getElem_toArray, List.getElem_cons_succ, List.getElem_cons_zero]
        generalize (W3.alloc (.cells #[.int .u8 0, .int .i64 0, .string ⟨#[]⟩, .int .i64 0, .int .i64 0, .int .i64 0, .int .i64 0, .int .i64 0] 43)) = W5 at H4 hHeld ⊢
        refine wpAnyH_ready (rs := [9]) (by kernel_rfl) (by simp) ?_
        refine AllReadyH.cons rfl (fun K hK => ?_) AllReadyH.nil
        have qx10_0 := (show Blk W5 (W3.heap.size) 43 _ from H4.out.get (kVar (W3.heap.size) 43 [.int .u8 0, .int .i64 0, .string ⟨#[]⟩, .int .i64 0, .int .i64 0, .int .i64 0, .int .i64 0, .int .i64 0]) (by simp)).lt
        have qx10_1 := (show b2 < W5.heap.size ∧ _ from H4.out.get (kCells b2 (o2 + k * 8) [.int .u8 tk, .int .i64 tn, .string ⟨tt.toArray⟩, .int .i64 r1, .int .i64 r2, .int .i64 r3, .int .i64 r4, .int .i64 q]) (by simp)).1
        have qx10_2 := (show b1 < W5.heap.size ∧ _ from H4.out.get (kCells b1 (o1 + k * 8) [.int .u8 tk, .int .i64 tn, .string ⟨tt.toArray⟩, .int .i64 r1, .int .i64 r2, .int .i64 r3, .int .i64 r4, .int .i64 p]) (by simp)).1
        have qx10_w := H4.out.bel.size
        go_simp
        have H6 := Lib.hid (H4.out.var (W5.heap.size) 43 [.int .u8 0, .int .i64 0, .string ⟨#[]⟩, .int .i64 0, .int .i64 0, .int .i64 0, .int .i64 0, .int .i64 0] rfl)
        clear H4
        refine hK.out _ _ (H6.out.tail.tail) (fun hHeld => ?_)
        clear hK K
        try simp only [Act.put, List.setIfInBounds_toArray, List.set_cons_zero, List.set_cons_succ, List.getElem_toArray, List.getElem_cons_succ, List.getElem_cons_zero]
        generalize (W5.alloc (.cells #[.int .u8 0, .int .i64 0, .string ⟨#[]⟩, .int .i64 0, .int .i64 0, .int .i64 0, .int .i64 0, .int .i64 0] 43)) = W7 at H6 hHeld ⊢
        refine wpAnyH_ready (rs := [10]) (by kernel_rfl) (by simp) ?_
        refine AllReadyH.cons rfl (fun K hK => ?_) AllReadyH.nil
        have F8 := H6.out.sees
        simp only [sees, kVar, kCells, cellsFrom, Nat.add_zero, cellsAt, Nat.reduceAdd] at F8
        go_split_ands
        go_simp
        have H9 := Lib.hid (H6.out.drop [kVar (W3.heap.size) 43 [.int .u8 0, .int .i64 0, .string ⟨#[]⟩, .int .i64 0, .int .i64 0, .int .i64 0, .int .i64 0, .int .i64 0], kVar (W5.heap.size) 43 [.int .u8 0, .int .i64 0, .string ⟨#[]⟩, .int .i64 0, .int .i64 0, .int .i64 0, .int .i64 0, .int .i64 0], kCells b2 (o2 + k * 8) [.int .u8 tk, .int .i64 tn, .string ⟨tt.toArray⟩, .int .i64 r1, .int .i64 r2, .int .i64 r3, .int .i64 r4, .int .i64 q], kCells b1 (o1 + k * 8) [.int .u8 tk, .int .i64 tn, .string ⟨tt.toArray⟩, .int .i64 r1, .int .i64 r2, .int .i64 r3, .int .i64 r4, .int .i64 p]] (by simp))
        clear H6
        have hf10 : ∀ x ∈ [kVar (W5.heap.size) 43 [.int .u8 0, .int .i64 0, .string ⟨#[]⟩, .int .i64 0, .int .i64 0, .int .i64 0, .int .i64 0, .int .i64 0], kCells b2 (o2 + k * 8) [.int .u8 tk, .int .i64 tn, .string ⟨tt.toArray⟩, .int .i64 r1, .int .i64 r2, .int .i64 r3, .int .i64 r4, .int .i64 q], kCells b1 (o1 + k * 8) [.int .u8 tk, .int .i64 tn, .string ⟨tt.toArray⟩, .int .i64 r1, .int .i64 r2, .int .i64 r3, .int .i64 r4, .int .i64 p]], x.far (some (W3.heap.size)) := by
          simp [kCells, kVar]; omega
        have H11 : Hid (Ok w [kVar (W3.heap.size) 43 [.int .u8 tk, .int .i64 tn, .string ⟨tt.toArray⟩, .int .i64 r1, .int .i64 r2, .int .i64 r3, .int .i64 r4, .int .i64 p], kVar (W5.heap.size) 43 [.int .u8 0, .int .i64 0, .string ⟨#[]⟩, .int .i64 0, .int .i64 0, .int .i64 0, .int .i64 0, .int .i64 0], kCells b2 (o2 + k * 8) [.int .u8 tk, .int .i64 tn, .string ⟨tt.toArray⟩, .int .i64 r1, .int .i64 r2, .int .i64 r3, .int .i64 r4, .int .i64 q], kCells b1 (o1 + k * 8) [.int .u8 tk, .int .i64 tn, .string ⟨tt.toArray⟩, .int .i64 r1, .int .i64 r2, .int .i64 r3, .int .i64 r4, .int .i64 p]] ((((((((W7.setCell ⟨W3.heap.size, 0, none⟩ (.int .u8 tk)).setCell ⟨W3.heap.size, 1, none⟩ (.int .i64 tn)).setCell ⟨W3.heap.size, 2, none⟩ (.string ⟨tt.toArray⟩)).setCell ⟨W3.heap.size, 3, none⟩ (.int .i64 r1)).setCell ⟨W3.heap.size, 4, none⟩ (.int .i64 r2)).setCell ⟨W3.heap.size, 5, none⟩ (.int .i64 r3)).setCell ⟨W3.heap.size, 6, none⟩ (.int .i64 r4)).setCell ⟨W3.heap.size, 7, none⟩ (.int .i64 p))) := Lib.hid ((((((((H9.out.set_ (i := 0) (u := .int .u8 tk) (by omega) hf10).set_ (i := 1) (u := .int .i64 tn) (by omega) hf10).set_ (i := 2) (u := .string ⟨tt.toArray⟩) (by omega) hf10).set_ (i := 3) (u := .int .i64 r1) (by omega) hf10).set_ (i := 4) (u := .int .i64 r2) (by omega) hf10).set_ (i := 5) (u := .int .i64 r3) (by omega) hf10).set_ (i := 6) (u := .int .i64 r4) (by omega) hf10).set_ (i := 7) (u := .int .i64 p) (by omega) hf10)
        clear H9 hf10
        refine hK.out _ _ (H11.out.tail.tail) (fun hHeld => ?_)
        clear hK K
        try simp only [Act.put, List.setIfInBounds_toArray, List.set_cons_zero, List.set_cons_succ, List.getElem_toArray, List.getElem_cons_succ, List.getElem_cons_zero]
        generalize ((((((((W7.setCell ⟨W3.heap.size, 0, none⟩ (.int .u8 tk)).setCell ⟨W3.heap.size, 1, none⟩ (.int .i64 tn)).setCell ⟨W3.heap.size, 2, none⟩ (.string ⟨tt.toArray⟩)).setCell ⟨W3.heap.size, 3, none⟩ (.int .i64 r1)).setCell ⟨W3.heap.size, 4, none⟩ (.int .i64 r2)).setCell ⟨W3.heap.size, 5, none⟩ (.int .i64 r3)).setCell ⟨W3.heap.size, 6, none⟩ (.int .i64 r4)).setCell ⟨W3.heap.size, 7, none⟩ (.int .i64 p)) = W12 at H11 hHeld ⊢
        refine wpAnyH_ready (rs := [11]) (by kernel_rfl) (by simp) ?_
        refine AllReadyH.cons rfl (fun K hK => ?_) AllReadyH.nil
        have F13 := H11.out.sees
        simp only [sees, kVar, kCells, cellsFrom, Nat.add_zero, cellsAt, Nat.reduceAdd] at F13
        go_split_ands
        go_simp
        have H14 := Lib.hid (H11.out.drop [kVar (W5.heap.size) 43 [.int .u8 0, .int .i64 0, .string ⟨#[]⟩, .int .i64 0, .int .i64 0, .int .i64 0, .int .i64 0, .int .i64 0], kVar (W3.heap.size) 43 [.int .u8 tk, .int .i64 tn, .string ⟨tt.toArray⟩, .int .i64 r1, .int .i64 r2, .int .i64 r3, .int .i64 r4, .int .i64 p], kCells b2 (o2 + k * 8) [.int .u8 tk, .int .i64 tn, .string ⟨tt.toArray⟩, .int .i64 r1, .int .i64 r2, .int .i64 r3, .int .i64 r4, .int .i64 q], kCells b1 (o1 + k * 8) [.int .u8 tk, .int .i64 tn, .string ⟨tt.toArray⟩, .int .i64 r1, .int .i64 r2, .int .i64 r3, .int .i64 r4, .int .i64 p]] (by simp))
        clear H11
        have hf15 : ∀ x ∈ [kVar (W3.heap.size) 43 [.int .u8 tk, .int .i64 tn, .string ⟨tt.toArray⟩, .int .i64 r1, .int .i64 r2, .int .i64 r3, .int .i64 r4, .int .i64 p], kCells b2 (o2 + k * 8) [.int .u8 tk, .int .i64 tn, .string ⟨tt.toArray⟩, .int .i64 r1, .int .i64 r2, .int .i64 r3, .int .i64 r4, .int .i64 q], kCells b1 (o1 + k * 8) [.int .u8 tk, .int .i64 tn, .string ⟨tt.toArray⟩, .int .i64 r1, .int .i64 r2, .int .i64 r3, .int .i64 r4, .int .i64 p]], x.far (some (W5.heap.size)) := by
          simp [kCells, kVar]; omega
        have H16 : Hid (Ok w [kVar (W5.heap.size) 43 [.int .u8 tk, .int .i64 tn, .string ⟨tt.toArray⟩, .int .i64 r1, .int .i64 r2, .int .i64 r3, .int .i64 r4, .int .i64 q], kVar (W3.heap.size) 43 [.int .u8 tk, .int .i64 tn, .string ⟨tt.toArray⟩, .int .i64 r1, .int .i64 r2, .int .i64 r3, .int .i64 r4, .int .i64 p], kCells b2 (o2 + k * 8) [.int .u8 tk, .int .i64 tn, .string ⟨tt.toArray⟩, .int .i64 r1, .int .i64 r2, .int .i64 r3, .int .i64 r4, .int .i64 q], kCells b1 (o1 + k * 8) [.int .u8 tk, .int .i64 tn, .string ⟨tt.toArray⟩, .int .i64 r1, .int .i64 r2, .int .i64 r3, .int .i64 r4, .int .i64 p]] ((((((((W12.setCell ⟨W5.heap.size, 0, none⟩ (.int .u8 tk)).setCell ⟨W5.heap.size, 1, none⟩ (.int .i64 tn)).setCell ⟨W5.heap.size, 2, none⟩ (.string ⟨tt.toArray⟩)).setCell ⟨W5.heap.size, 3, none⟩ (.int .i64 r1)).setCell ⟨W5.heap.size, 4, none⟩ (.int .i64 r2)).setCell ⟨W5.heap.size, 5, none⟩ (.int .i64 r3)).setCell ⟨W5.heap.size, 6, none⟩ (.int .i64 r4)).setCell ⟨W5.heap.size, 7, none⟩ (.int .i64 q))) := Lib.hid ((((((((H14.out.set_ (i := 0) (u := .int .u8 tk) (by omega) hf15).set_ (i := 1) (u := .int .i64 tn) (by omega) hf15).set_ (i := 2) (u := .string ⟨tt.toArray⟩) (by omega) hf15).set_ (i := 3) (u := .int .i64 r1) (by omega) hf15).set_ (i := 4) (u := .int .i64 r2) (by omega) hf15).set_ (i := 5) (u := .int .i64 r3) (by omega) hf15).set_ (i := 6) (u := .int .i64 r4) (by omega) hf15).set_ (i := 7) (u := .int .i64 q) (by omega) hf15)
        clear H14 hf15
        refine hK.out _ _ (H16.out.tail.tail) (fun hHeld => ?_)
        clear hK K
        try simp only [Act.put, List.setIfInBounds_toArray, List.set_cons_zero, List.set_cons_succ, List.getElem_toArray, List.getElem_cons_succ, List.getElem_cons_zero]
        generalize ((((((((W12.setCell ⟨W5.heap.size, 0, none⟩ (.int .u8 tk)).setCell ⟨W5.heap.size, 1, none⟩ (.int .i64 tn)).setCell ⟨W5.heap.size, 2, none⟩ (.string ⟨tt.toArray⟩)).setCell ⟨W5.heap.size, 3, none⟩ (.int .i64 r1)).setCell ⟨W5.heap.size, 4, none⟩ (.int .i64 r2)).setCell ⟨W5.heap.size, 5, none⟩ (.int .i64 r3)).setCell ⟨W5.heap.size, 6, none⟩ (.int .i64 r4)).setCell ⟨W5.heap.size, 7, none⟩ (.int .i64 q)) = W17 at H16 hHeld ⊢
        refine wpAnyH_done (by kernel_rfl) ?_ _
        have qe_0 := (show Blk W17 (W5.heap.size) 43 _ from H16.out.get (kVar (W5.heap.size) 43 [.int .u8 tk, .int .i64 tn, .string ⟨tt.toArray⟩, .int .i64 r1, .int .i64 r2, .int .i64 r3, .int .i64 r4, .int .i64 q]) (by simp)).lt
        have qe_1 := (show Blk W17 (W3.heap.size) 43 _ from H16.out.get (kVar (W3.heap.size) 43 [.int .u8 tk, .int .i64 tn, .string ⟨tt.toArray⟩, .int .i64 r1, .int .i64 r2, .int .i64 r3, .int .i64 r4, .int .i64 p]) (by simp)).lt
        have qe_2 := (show b2 < W17.heap.size ∧ _ from H16.out.get (kCells b2 (o2 + k * 8) [.int .u8 tk, .int .i64 tn, .string ⟨tt.toArray⟩, .int .i64 r1, .int .i64 r2, .int .i64 r3, .int .i64 r4, .int .i64 q]) (by simp)).1
        have qe_3 := (show b1 < W17.heap.size ∧ _ from H16.out.get (kCells b1 (o1 + k * 8) [.int .u8 tk, .int .i64 tn, .string ⟨tt.toArray⟩, .int .i64 r1, .int .i64 r2, .int .i64 r3, .int .i64 r4, .int .i64 p]) (by simp)).1
        have qe_w := H16.out.bel.size
        clear hHeld
        have F18 := H16.out.sees
        simp only [sees, kVar, kCells, cellsFrom, Nat.add_zero, cellsAt, Nat.reduceAdd] at F18
        obtain ⟨⟨⟨z0, fz0⟩, c0_0, c0_1, c0_2, c0_3, c0_4, c0_5, c0_6, c0_7, -⟩, ⟨⟨z1, fz1⟩, c1_0, c1_1, c1_2, c1_3, c1_4, c1_5, c1_6, c1_7, -⟩, ⟨z2, c2_0, c2_1, c2_2, c2_3, c2_4, c2_5, c2_6, c2_7, -⟩, ⟨z3, c3_0, c3_1, c3_2, c3_3, c3_4, c3_5, c3_6, c3_7, -⟩, -⟩ := F18
        go_wp2_with fail
        go_roundw
        case rel => exact ⟨k + 1, by omega, by go_num, Lib.hid ((H16.out.bel.setCell (p := ⟨W3.heap.size, 7, none⟩) (by simp; omega) _).setCell (p := ⟨W5.heap.size, 7, none⟩) (by simp; omega) _)⟩
        case measure => simp [intOf]; omega
      · have qx11_0 := (show b2 < W3.heap.size ∧ _ from H2.out.get (kCells b2 (o2 + k * 8) [.int .u8 tk, .int .i64 tn, .string ⟨tt.toArray⟩, .int .i64 r1, .int .i64 r2, .int .i64 r3, .int .i64 r4, .int .i64 q]) (by simp)).1
        have qx11_1 := (show b1 < W3.heap.size ∧ _ from H2.out.get (kCells b1 (o1 + k * 8) [.int .u8 tk, .int .i64 tn, .string ⟨tt.toArray⟩, .int .i64 r1, .int .i64 r2, .int .i64 r3, .int .i64 r4, .int .i64 p]) (by simp)).1
        have qx11_w := H2.out.bel.size
        go_simp
        have H4 := Lib.hid (H2.out.var (W3.heap.size) 43 [.int .u8 0, .int .i64 0, .string ⟨#[]⟩, .int .i64 0, .int .i64 0, .int .i64 0, .int .i64 0, .int .i64 0] rfl)
        clear H2
        refine hK.out _ _ (H4.out.tail) (fun hHeld => ?_)
        clear hK K
        try simp only [Act.put, List.setIfInBounds_toArray, List.set_cons_zero, List.set_cons_succ, List.getElem_toArray, List.getElem_cons_succ, List.getElem_cons_zero]
        generalize (W3.alloc (.cells #[.int .u8 0, .int .i64 0, .string ⟨#[]⟩, .int .i64 0, .int .i64 0, .int .i64 0, .int .i64 0, .int .i64 0] 43)) = W5 at H4 hHeld ⊢
        refine wpAnyH_ready (rs := [8]) (by kernel_rfl) (by simp) ?_
        refine AllReadyH.cons rfl (fun K hK => ?_) AllReadyH.nil
        have qx12_0 := (show Blk W5 (W3.heap.size) 43 _ from H4.out.get (kVar (W3.heap.size) 43 [.int .u8 0, .int .i64 0, .string ⟨#[]⟩, .int .i64 0, .int .i64 0, .int .i64 0, .int .i64 0, .int .i64 0]) (by simp)).lt
        have qx12_1 := (show b2 < W5.heap.size ∧ _ from H4.out.get (kCells b2 (o2 + k * 8) [.int .u8 tk, .int .i64 tn, .string ⟨tt.toArray⟩, .int .i64 r1, .int .i64 r2, .int .i64 r3, .int .i64 r4, .int .i64 q]) (by simp)).1
        have qx12_2 := (show b1 < W5.heap.size ∧ _ from H4.out.get (kCells b1 (o1 + k * 8) [.int .u8 tk, .int .i64 tn, .string ⟨tt.toArray⟩, .int .i64 r1, .int .i64 r2, .int .i64 r3, .int .i64 r4, .int .i64 p]) (by simp)).1
        have qx12_w := H4.out.bel.size
        go_simp
        have H6 := Lib.hid (H4.out.var (W5.heap.size) 43 [.int .u8 0, .int .i64 0, .string ⟨#[]⟩, .int .i64 0, .int .i64 0, .int .i64 0, .int .i64 0, .int .i64 0] rfl)
        clear H4
        refine hK.out _ _ (H6.out.tail.tail) (fun hHeld => ?_)
        clear hK K
        try simp only [Act.put, List.setIfInBounds_toArray, List.set_cons_zero, List.set_cons_succ, List.getElem_toArray, List.getElem_cons_succ, List.getElem_cons_zero]
        generalize (W5.alloc (.cells #[.int .u8 0, .int .i64 0, .string ⟨#[]⟩, .int .i64 0, .int .i64 0, .int .i64 0, .int .i64 0, .int .i64 0] 43)) = W7 at H6 hHeld ⊢
        refine wpAnyH_ready (rs := [10]) (by kernel_rfl) (by simp) ?_
        refine AllReadyH.cons rfl (fun K hK => ?_) AllReadyH.nil
        have F8 := H6.out.sees
        simp only [sees, kVar, kCells, cellsFrom, Nat.add_zero, cellsAt, Nat.reduceAdd] at F8
        go_split_ands
        go_simp
        have H9 := Lib.hid (H6.out.drop [kVar (W5.heap.size) 43 [.int .u8 0, .int .i64 0, .string ⟨#[]⟩, .int .i64 0, .int .i64 0, .int .i64 0, .int .i64 0, .int .i64 0], kVar (W3.heap.size) 43 [.int .u8 0, .int .i64 0, .string ⟨#[]⟩, .int .i64 0, .int .i64 0, .int .i64 0, .int .i64 0, .int .i64 0], kCells b2 (o2 + k * 8) [.int .u8 tk, .int .i64 tn, .string ⟨tt.toArray⟩, .int .i64 r1, .int .i64 r2, .int .i64 r3, .int .i64 r4, .int .i64 q], kCells b1 (o1 + k * 8) [.int .u8 tk, .int .i64 tn, .string ⟨tt.toArray⟩, .int .i64 r1, .int .i64 r2, .int .i64 r3, .int .i64 r4, .int .i64 p]] (by simp))
        clear H6
        have hf10 : ∀ x ∈ [kVar (W3.heap.size) 43 [.int .u8 0, .int .i64 0, .string ⟨#[]⟩, .int .i64 0, .int .i64 0, .int .i64 0, .int .i64 0, .int .i64 0], kCells b2 (o2 + k * 8) [.int .u8 tk, .int .i64 tn, .string ⟨tt.toArray⟩, .int .i64 r1, .int .i64 r2, .int .i64 r3, .int .i64 r4, .int .i64 q], kCells b1 (o1 + k * 8) [.int .u8 tk, .int .i64 tn, .string ⟨tt.toArray⟩, .int .i64 r1, .int .i64 r2, .int .i64 r3, .int .i64 r4, .int .i64 p]], x.far (some (W5.heap.size)) := by
          simp [kCells, kVar]; omega
        have H11 : Hid (Ok w [kVar (W5.heap.size) 43 [.int .u8 tk, .int .i64 tn, .string ⟨tt.toArray⟩, .int .i64 r1, .int .i64 r2, .int .i64 r3, .int .i64 r4, .int .i64 p], kVar (W3.heap.size) 43 [.int .u8 0, .int .i64 0, .string ⟨#[]⟩, .int .i64 0, .int .i64 0, .int .i64 0, .int .i64 0, .int .i64 0], kCells b2 (o2 + k * 8) [.int .u8 tk, .int .i64 tn, .string ⟨tt.toArray⟩, .int .i64 r1, .int .i64 r2, .int .i64 r3, .int .i64 r4, .int .i64 q], kCells b1 (o1 + k * 8) [.int .u8 tk, .int .i64 tn, .string ⟨tt.toArray⟩, .int .i64 r1, .int .i64 r2, .int .i64 r3, .int .i64 r4, .int .i64 p]] ((((((((W7.setCell ⟨W5.heap.size, 0, none⟩ (.int .u8 tk)).setCell ⟨W5.heap.size, 1, none⟩ (.int .i64 tn)).setCell ⟨W5.heap.size, 2, none⟩ (.string ⟨tt.toArray⟩)).setCell ⟨W5.heap.size, 3, none⟩ (.int .i64 r1)).setCell ⟨W5.heap.size, 4, none⟩ (.int .i64 r2)).setCell ⟨W5.heap.size, 5, none⟩ (.int .i64 r3)).setCell ⟨W5.heap.size, 6, none⟩ (.int .i64 r4)).setCell ⟨W5.heap.size, 7, none⟩ (.int .i64 p))) := Lib.hid ((((((((H9.out.set_ (i := 0) (u := .int .u8 tk) (by omega) hf10).set_ (i := 1) (u := .int .i64 tn) (by omega) hf10).set_ (i := 2) (u := .string ⟨tt.toArray⟩) (by omega) hf10).set_ (i := 3) (u := .int .i64 r1) (by omega) hf10).set_ (i := 4) (u := .int .i64 r2) (by omega) hf10).set_ (i := 5) (u := .int .i64 r3) (by omega) hf10).set_ (i := 6) (u := .int .i64 r4) (by omega) hf10).set_ (i := 7) (u := .int .i64 p) (by omega) hf10)
        clear H9 hf10
        refine hK.out _ _ (H11.out.tail.tail) (fun hHeld => ?_)
        clear hK K
        try simp only [Act.put, List.setIfInBounds_toArray, List.set_cons_zero, List.set_cons_succ, List.getElem_toArray, List.getElem_cons_succ, List.getElem_cons_zero]
        generalize ((((((((W7.setCell ⟨W5.heap.size, 0, none⟩ (.int .u8 tk)).setCell ⟨W5.heap.size, 1, none⟩ (.int .i64 tn)).setCell ⟨W5.heap.size, 2, none⟩ (.string ⟨tt.toArray⟩)).setCell ⟨W5.heap.size, 3, none⟩ (.int .i64 r1)).setCell ⟨W5.heap.size, 4, none⟩ (.int .i64 r2)).setCell ⟨W5.heap.size, 5, none⟩ (.int .i64 r3)).setCell ⟨W5.heap.size, 6, none⟩ (.int .i64 r4)).setCell ⟨W5.heap.size, 7, none⟩ (.int .i64 p)) = W12 at H11 hHeld ⊢
        refine wpAnyH_ready (rs := [11]) (by kernel_rfl) (by simp) ?_
        refine AllReadyH.cons rfl (fun K hK => ?_) AllReadyH.nil
        have F13 := H11.out.sees
        simp only [sees, kVar, kCells, cellsFrom, Nat.add_zero, cellsAt, Nat.reduceAdd] at F13
        go_split_ands
        go_simp
        have H14 := Lib.hid (H11.out.drop [kVar (W3.heap.size) 43 [.int .u8 0, .int .i64 0, .string ⟨#[]⟩, .int .i64 0, .int .i64 0, .int .i64 0, .int .i64 0, .int .i64 0], kVar (W5.heap.size) 43 [.int .u8 tk, .int .i64 tn, .string ⟨tt.toArray⟩, .int .i64 r1, .int .i64 r2, .int .i64 r3, .int .i64 r4, .int .i64 p], kCells b2 (o2 + k * 8) [.int .u8 tk, .int .i64 tn, .string ⟨tt.toArray⟩, .int .i64 r1, .int .i64 r2, .int .i64 r3, .int .i64 r4, .int .i64 q], kCells b1 (o1 + k * 8) [.int .u8 tk, .int .i64 tn, .string ⟨tt.toArray⟩, .int .i64 r1, .int .i64 r2, .int .i64 r3, .int .i64 r4, .int .i64 p]] (by simp))
        clear H11
        have hf15 : ∀ x ∈ [kVar (W5.heap.size) 43 [.int .u8 tk, .int .i64 tn, .string ⟨tt.toArray⟩, .int .i64 r1, .int .i64 r2, .int .i64 r3, .int .i64 r4, .int .i64 p], kCells b2 (o2 + k * 8) [.int .u8 tk, .int .i64 tn, .string ⟨tt.toArray⟩, .int .i64 r1, .int .i64 r2, .int .i64 r3, .int .i64 r4, .int .i64 q], kCells b1 (o1 + k * 8) [.int .u8 tk, .int .i64 tn, .string ⟨tt.toArray⟩, .int .i64 r1, .int .i64 r2, .int .i64 r3, .int .i64 r4, .int .i64 p]], x.far (some (W3.heap.size)) := by
          simp [kCells, kVar]; omega
        have H16 : Hid (Ok w [kVar (W3.heap.size) 43 [.int .u8 tk, .int .i64 tn, .string ⟨tt.toArray⟩, .int .i64 r1, .int .i64 r2, .int .i64 r3, .int .i64 r4, .int .i64 q], kVar (W5.heap.size) 43 [.int .u8 tk, .int .i64 tn, .string ⟨tt.toArray⟩, .int .i64 r1, .int .i64 r2, .int .i64 r3, .int .i64 r4, .int .i64 p], kCells b2 (o2 + k * 8) [.int .u8 tk, .int .i64 tn, .string ⟨tt.toArray⟩, .int .i64 r1, .int .i64 r2, .int .i64 r3, .int .i64 r4, .int .i64 q], kCells b1 (o1 + k * 8) [.int .u8 tk, .int .i64 tn, .string ⟨tt.toArray⟩, .int .i64 r1, .int .i64 r2, .int .i64 r3, .int .i64 r4, .int .i64 p]] ((((((((W12.setCell ⟨W3.heap.size, 0, none⟩ (.int .u8 tk)).setCell ⟨W3.heap.size, 1, none⟩ (.int .i64 tn)).setCell ⟨W3.heap.size, 2, none⟩ (.string ⟨tt.toArray⟩)).setCell ⟨W3.heap.size, 3, none⟩ (.int .i64 r1)).setCell ⟨W3.heap.size, 4, none⟩ (.int .i64 r2)).setCell ⟨W3.heap.size, 5, none⟩ (.int .i64 r3)).setCell ⟨W3.heap.size, 6, none⟩ (.int .i64 r4)).setCell ⟨W3.heap.size, 7, none⟩ (.int .i64 q))) := Lib.hid ((((((((H14.out.set_ (i := 0) (u := .int .u8 tk) (by omega) hf15).set_ (i := 1) (u := .int .i64 tn) (by omega) hf15).set_ (i := 2) (u := .string ⟨tt.toArray⟩) (by omega) hf15).set_ (i := 3) (u := .int .i64 r1) (by omega) hf15).set_ (i := 4) (u := .int .i64 r2) (by omega) hf15).set_ (i := 5) (u := .int .i64 r3) (by omega) hf15).set_ (i := 6) (u := .int .i64 r4) (by omega) hf15).set_ (i := 7) (u := .int .i64 q) (by omega) hf15)
        clear H14 hf15
        refine hK.out _ _ (H16.out.tail.tail) (fun hHeld => ?_)
        clear hK K
        try simp only [Act.put, List.setIfInBounds_toArray, List.set_cons_zero, List.set_cons_succ, List.getElem_toArray, List.getElem_cons_succ, List.getElem_cons_zero]
        generalize ((((((((W12.setCell ⟨W3.heap.size, 0, none⟩ (.int .u8 tk)).setCell ⟨W3.heap.size, 1, none⟩ (.int .i64 tn)).setCell ⟨W3.heap.size, 2, none⟩ (.string ⟨tt.toArray⟩)).setCell ⟨W3.heap.size, 3, none⟩ (.int .i64 r1)).setCell ⟨W3.heap.size, 4, none⟩ (.int .i64 r2)).setCell ⟨W3.heap.size, 5, none⟩ (.int .i64 r3)).setCell ⟨W3.heap.size, 6, none⟩ (.int .i64 r4)).setCell ⟨W3.heap.size, 7, none⟩ (.int .i64 q)) = W17 at H16 hHeld ⊢
        refine wpAnyH_done (by kernel_rfl) ?_ _
        have qe_0 := (show Blk W17 (W3.heap.size) 43 _ from H16.out.get (kVar (W3.heap.size) 43 [.int .u8 tk, .int .i64 tn, .string ⟨tt.toArray⟩, .int .i64 r1, .int .i64 r2, .int .i64 r3, .int .i64 r4, .int .i64 q]) (by simp)).lt
        have qe_1 := (show Blk W17 (W5.heap.size) 43 _ from H16.out.get (kVar (W5.heap.size) 43 [.int .u8 tk, .int .i64 tn, .string ⟨tt.toArray⟩, .int .i64 r1, .int .i64 r2, .int .i64 r3, .int .i64 r4, .int .i64 p]) (by simp)).lt
        have qe_2 := (show b2 < W17.heap.size ∧ _ from H16.out.get (kCells b2 (o2 + k * 8) [.int .u8 tk, .int .i64 tn, .string ⟨tt.toArray⟩, .int .i64 r1, .int .i64 r2, .int .i64 r3, .int .i64 r4, .int .i64 q]) (by simp)).1
        have qe_3 := (show b1 < W17.heap.size ∧ _ from H16.out.get (kCells b1 (o1 + k * 8) [.int .u8 tk, .int .i64 tn, .string ⟨tt.toArray⟩, .int .i64 r1, .int .i64 r2, .int .i64 r3, .int .i64 r4, .int .i64 p]) (by simp)).1
        have qe_w := H16.out.bel.size
        clear hHeld
        have F18 := H16.out.sees
        simp only [sees, kVar, kCells, cellsFrom, Nat.add_zero, cellsAt, Nat.reduceAdd] at F18
        obtain ⟨⟨⟨z0, fz0⟩, c0_0, c0_1, c0_2, c0_3, c0_4, c0_5, c0_6, c0_7, -⟩, ⟨⟨z1, fz1⟩, c1_0, c1_1, c1_2, c1_3, c1_4, c1_5, c1_6, c1_7, -⟩, ⟨z2, c2_0, c2_1, c2_2, c2_3, c2_4, c2_5, c2_6, c2_7, -⟩, ⟨z3, c3_0, c3_1, c3_2, c3_3, c3_4, c3_5, c3_6, c3_7, -⟩, -⟩ := F18
        go_wp2_with fail
        go_roundw
        case rel => exact ⟨k + 1, by omega, by go_num, Lib.hid ((H16.out.bel.setCell (p := ⟨W5.heap.size, 7, none⟩) (by simp; omega) _).setCell (p := ⟨W3.heap.size, 7, none⟩) (by simp; omega) _)⟩
        case measure => simp [intOf]; omega
    · obtain rfl : k = n := by omega
      go_wp2_with fail
      go_ret
      exact ⟨rfl, H2.out⟩
end
section
open Go.RowKit

def wantL : List Tk := [⟨7, 0, [83, 85, 77], R4.zero, 0⟩, ⟨9, 0, [], R4.zero, 3⟩, ⟨6, 0, [], ⟨1, 1, 2, 2⟩, 4⟩, ⟨11, 0, [], R4.zero, 9⟩, ⟨1, 15000, [], R4.zero, 10⟩, ⟨10, 0, [], R4.zero, 14⟩]
def twoL : List Tk := [⟨1, 10000, [], R4.zero, 0⟩, ⟨1, 20000, [], R4.zero, 0⟩]
def pairL (l : List Tk) : List (Tk × Int) := l.map fun t => (t, (t.at_ : Int))
theorem pair_fst (l : List Tk) : (pairL l).map Prod.fst = l := by
  unfold pairL
  rw [List.map_map]
  exact List.map_id _
theorem pair_fits {l : List Tk} (h : ∀ t ∈ l, t.fits) : ∀ t ∈ pairL l, t.1.fits := by
  intro t ht
  obtain ⟨x, hx, rfl⟩ := List.mem_map.1 ht
  exact h x hx
theorem tk_a : tokensS [115, 117, 109, 40, 65, 49, 58, 98, 50, 44, 49, 46, 53, 48, 41] = (wantL, 0, 0) := by kernel_rfl
theorem tk_b : tokensS [49, 46] = ([], 1, 4) := by kernel_rfl
theorem wr_a : writeS wantL = ([83, 85, 77, 40, 65, 49, 58, 66, 50, 44, 49, 46, 53, 41], 0) := by kernel_rfl
theorem wr_b : writeS twoL = ([], 4) := by kernel_rfl
theorem two_fits : ∀ t ∈ twoL, t.fits := by unfold Tk.fits; decide
theorem tks_blk {w : World} {b n : Nat} {T : TypeId} {ts : List (Tk × Int)} (h : Blk w b T (ts.flatMap rowI).toArray) (hn : ts.length ≤ n) (hc : n ≤ 1000) : TksAt w (some ⟨b, 0, none⟩) n ts := by
  refine ⟨hn, by omega, fun _ => ⟨b, 0, rfl, h.lt, fun i t hi j v hj => ?_⟩⟩
  rw [h.cell, Nat.zero_add]
  have := flat_atW rowI 8 (fun _ => rfl) ts i t hi j v hj
  simpa using this

set_option maxRecDepth 100000 in
set_option maxHeartbeats 8000000 in
theorem law_awake7 (w : World) (he : WEnv w) :
    Calls Tryz.prog 20 #[] w fun e w' => e = .returned (.bool true) ∧ Below w.heap.size w w' := by
  have HE := keep he
  clear he
  go_enter Tryz.func20, Tryz.ntmps20
  go_wp2_with fail
  refine (lex_Tokens _ _ (by decide) HE.out.1).mono ?_
  rintro e w1 ⟨v, rfl, hown, hb⟩
  rw [show tokensS (({ data := #[115, 117, 109, 40, 65, 49, 58, 98, 50, 44, 49, 46, 53, 48, 41] } : ByteArray).data.toList) = _ from tk_a] at hown ⊢
  obtain ⟨a1, c1, rfl, hat⟩ := tks_own hown
  have hat : TksAt w1 a1 c1 (pairL wantL) := hat
  rw [show wantL.length = 6 from rfl]
  have HW1 := Lib.hid hb
  have HB2 := Lib.hid (show Below w1.heap.size w1 (w1.alloc (.cells #[.int .u8 7, .int .i64 0, .string ⟨#[83, 85, 77]⟩, .int .i64 0, .int .i64 0, .int .i64 0, .int .i64 0, .int .i64 0, .int .u8 9, .int .i64 0, .string ⟨#[]⟩, .int .i64 0, .int .i64 0, .int .i64 0, .int .i64 0, .int .i64 3, .int .u8 6, .int .i64 0, .string ⟨#[]⟩, .int .i64 1, .int .i64 1, .int .i64 2, .int .i64 2, .int .i64 4, .int .u8 11, .int .i64 0, .string ⟨#[]⟩, .int .i64 0, .int .i64 0, .int .i64 0, .int .i64 0, .int .i64 9, .int .u8 1, .int .i64 15000, .string ⟨#[]⟩, .int .i64 0, .int .i64 0, .int .i64 0, .int .i64 0, .int .i64 10, .int .u8 10, .int .i64 0, .string ⟨#[]⟩, .int .i64 0, .int .i64 0, .int .i64 0, .int .i64 0, .int .i64 14] 43)) from (Below.refl _ _).alloc (Nat.le_refl _) _)
  have HA1 := keep (hat.below HB2.out)
  have HA2 := keep (show TksAt (w1.alloc (.cells #[.int .u8 7, .int .i64 0, .string ⟨#[83, 85, 77]⟩, .int .i64 0, .int .i64 0, .int .i64 0, .int .i64 0, .int .i64 0, .int .u8 9, .int .i64 0, .string ⟨#[]⟩, .int .i64 0, .int .i64 0, .int .i64 0, .int .i64 0, .int .i64 3, .int .u8 6, .int .i64 0, .string ⟨#[]⟩, .int .i64 1, .int .i64 1, .int .i64 2, .int .i64 2, .int .i64 4, .int .u8 11, .int .i64 0, .string ⟨#[]⟩, .int .i64 0, .int .i64 0, .int .i64 0, .int .i64 0, .int .i64 9, .int .u8 1, .int .i64 15000, .string ⟨#[]⟩, .int .i64 0, .int .i64 0, .int .i64 0, .int .i64 0, .int .i64 10, .int .u8 10, .int .i64 0, .string ⟨#[]⟩, .int .i64 0, .int .i64 0, .int .i64 0, .int .i64 0, .int .i64 14] 43)) (some ⟨w1.heap.size, 0, none⟩) 6 (pairL wantL) from tks_blk (Blk.new w1 43 _) (by decide) (by decide))
  have HW2 := Lib.hid (HW1.out.trans (HB2.out.mono HW1.out.size))
  clear hown hb hat HB2 HW1
  simp only []
  go_wp2_with fail
  generalize (w1.alloc (.cells #[.int .u8 7, .int .i64 0, .string ⟨#[83, 85, 77]⟩, .int .i64 0, .int .i64 0, .int .i64 0, .int .i64 0, .int .i64 0, .int .u8 9, .int .i64 0, .string ⟨#[]⟩, .int .i64 0, .int .i64 0, .int .i64 0, .int .i64 0, .int .i64 3, .int .u8 6, .int .i64 0, .string ⟨#[]⟩, .int .i64 1, .int .i64 1, .int .i64 2, .int .i64 2, .int .i64 4, .int .u8 11, .int .i64 0, .string ⟨#[]⟩, .int .i64 0, .int .i64 0, .int .i64 0, .int .i64 0, .int .i64 9, .int .u8 1, .int .i64 15000, .string ⟨#[]⟩, .int .i64 0, .int .i64 0, .int .i64 0, .int .i64 0, .int .i64 10, .int .u8 10, .int .i64 0, .string ⟨#[]⟩, .int .i64 0, .int .i64 0, .int .i64 0, .int .i64 0, .int .i64 14] 43)) = W2 at HA1 HA2 HW2 ⊢
  refine (lex_Write (pairL wantL) _ 6 W2 HA2.out (pair_fits (tokens_fit tk_a).2) (HE.out.below HW2.out) (by decide)).mono ?_
  rintro e w3 ⟨rfl, hb⟩
  rw [pair_fst, wr_a]
  have HA3 := keep (HA1.out.below hb)
  have HA4 := keep (HA2.out.below hb)
  have HW3 := Lib.hid (HW2.out.trans (hb.mono HW2.out.size))
  clear hb HA1 HA2 HW2
  go_wp2_with fail
  refine (lex_Tokens _ _ (by decide) (HE.out.1.below HW3.out)).mono ?_
  rintro e w4 ⟨v, rfl, hown, hb⟩
  rw [show tokensS (({ data := #[49, 46] } : ByteArray).data.toList) = _ from tk_b]
  have HB5 := Lib.hid (hb.alloc hb.size (.cells #[.int .u8 1, .int .i64 10000, .string ⟨#[]⟩, .int .i64 0, .int .i64 0, .int .i64 0, .int .i64 0, .int .i64 0, .int .u8 1, .int .i64 20000, .string ⟨#[]⟩, .int .i64 0, .int .i64 0, .int .i64 0, .int .i64 0, .int .i64 0] 43))
  have HA5 := keep (HA3.out.below HB5.out)
  have HA6 := keep (HA4.out.below HB5.out)
  have HA7 := keep (show TksAt (w4.alloc (.cells #[.int .u8 1, .int .i64 10000, .string ⟨#[]⟩, .int .i64 0, .int .i64 0, .int .i64 0, .int .i64 0, .int .i64 0, .int .u8 1, .int .i64 20000, .string ⟨#[]⟩, .int .i64 0, .int .i64 0, .int .i64 0, .int .i64 0, .int .i64 0] 43)) (some ⟨w4.heap.size, 0, none⟩) 2 (pairL twoL) from tks_blk (Blk.new w4 43 _) (by decide) (by decide))
  have HW5 := Lib.hid (HW3.out.trans (HB5.out.mono HW3.out.size))
  clear hown hb HA3 HA4 HB5 HW3
  simp only []
  go_wp2_with fail
  generalize (w4.alloc (.cells #[.int .u8 1, .int .i64 10000, .string ⟨#[]⟩, .int .i64 0, .int .i64 0, .int .i64 0, .int .i64 0, .int .i64 0, .int .u8 1, .int .i64 20000, .string ⟨#[]⟩, .int .i64 0, .int .i64 0, .int .i64 0, .int .i64 0, .int .i64 0] 43)) = W5 at HA5 HA6 HA7 HW5 ⊢
  refine (lex_Write (pairL twoL) _ 2 W5 HA7.out (pair_fits two_fits) (HE.out.below HW5.out) (by decide)).mono ?_
  rintro e w6 ⟨rfl, hb⟩
  rw [pair_fst, wr_b]
  have HA8 := keep (HA5.out.below hb)
  have HA9 := keep (HA6.out.below hb)
  have HW6 := Lib.hid (HW5.out.trans (hb.mono HW5.out.size))
  clear hb HA5 HA6 HA7 HW5
  go_wp2_with fail
  refine (equal_tokens (pairL wantL) _ _ _ 6 w6 HA8.out HA9.out (by decide)).mono ?_
  rintro e w7 ⟨rfl, hb⟩
  have HW7 := Lib.hid (HW6.out.trans (hb.mono HW6.out.size))
  clear hb HA8 HA9 HW6
  go_wp2_with fail
  go_ret
  exact ⟨rfl, HW7.out⟩
end
end Go.Proofs.YtlngjiibbcgkmaaGreatDoor
