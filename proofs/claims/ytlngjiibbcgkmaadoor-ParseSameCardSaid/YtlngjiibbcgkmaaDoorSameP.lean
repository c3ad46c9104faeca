/- Plain: blanks before tokens, small letters outside of texts, and parentheses around a formula do not change its tokens, but for where they stand. No program stands here. -/
import Derived.Test.YtlngjiibbcgkmaaDoorParN
namespace Go.Proofs.YtlngjiibbcgkmaaDoor
open Go.RowKit

theorem all_bytes (p : UInt8 → Bool) (h : (List.range 256).all (fun n => p (UInt8.ofNat n)) = true) (b : UInt8) : p b = true := by
  have h1 := List.all_eq_true.1 h b.toNat (List.mem_range.2 b.toNat_lt)
  rwa [UInt8.ofNat_toNat] at h1
/-- the small letter -/
def lowB (b : UInt8) : UInt8 := if capB b then b + 32 else b
theorem low_dig (b : UInt8) : isDig (lowB b) = isDig b := by
  have := all_bytes (fun b => isDig (lowB b) == isDig b) (by decide +kernel) b
  simpa using this
theorem low_let (b : UInt8) : isLet (lowB b) = isLet b := by
  have := all_bytes (fun b => isLet (lowB b) == isLet b) (by decide +kernel) b
  simpa using this
theorem low_wrd (b : UInt8) : isWrd (lowB b) = isWrd b := by simp [isWrd, low_dig, low_let]
theorem low_up (b : UInt8) : upB (lowB b) = upB b := by
  have := all_bytes (fun b => upB (lowB b) == upB b) (by decide +kernel) b
  simpa using this
theorem low_of_dig (b : UInt8) (h : isDig b = true) : lowB b = b := by
  have := all_bytes (fun b => !isDig b || lowB b == b) (by decide +kernel) b
  simpa [h] using this
theorem low_eq (b v : UInt8) (hv : isLet v = false) : lowB b = v ↔ b = v := by
  constructor
  · intro h
    have h1 := low_let b
    rw [h, hv] at h1
    have h2 := all_bytes (fun b => isLet b || lowB b == b) (by decide +kernel) b
    rw [← h1] at h2
    simp at h2
    exact h2.symm.trans h
  · rintro rfl
    have h2 := all_bytes (fun b => isLet b || lowB b == b) (by decide +kernel) b
    rw [hv] at h2
    simpa using h2
theorem low_plain (b : UInt8) (h : plainB b = true) : plainB (lowB b) = true := by
  have := all_bytes (fun b => !plainB b || plainB (lowB b)) (by decide +kernel) b
  simpa [h] using this
def low (l : List UInt8) : List UInt8 := l.map lowB
theorem low_head (l : List UInt8) (v : UInt8) (hv : isLet v = false) : (low l).head? = some v ↔ l.head? = some v := by
  cases l with
  | nil => simp [low]
  | cons b l => simp only [low, List.map_cons, List.head?_cons, Option.some.injEq]; exact low_eq b v hv
theorem tw_low (p : UInt8 → Bool) (hp : ∀ b, p (lowB b) = p b) (l : List UInt8) : (low l).takeWhile p = low (l.takeWhile p) ∧ (low l).dropWhile p = low (l.dropWhile p) := by
  induction l with
  | nil => exact ⟨rfl, rfl⟩
  | cons b l ih =>
    simp only [low, List.map_cons, List.takeWhile_cons, List.dropWhile_cons, hp]
    cases h : p b with
    | false => simp
    | true =>
      simp only [if_true, List.map_cons]
      exact ⟨by rw [List.cons.injEq]; exact ⟨rfl, ih.1⟩, ih.2⟩
theorem low_digs {l : List UInt8} (h : ∀ b ∈ l, isDig b = true) : low l = l := by
  induction l with
  | nil => rfl
  | cons b l ih =>
    simp only [low, List.map_cons]
    rw [low_of_dig b (h b (by simp))]
    congr 1
    exact ih fun c hc => h c (by simp [hc])
theorem low_run (l : List UInt8) : (low l).takeWhile isDig = l.takeWhile isDig := by
  rw [(tw_low isDig low_dig l).1]
  exact low_digs (run_split isDig l).2.1
theorem low_length (l : List UInt8) : (low l).length = l.length := by simp [low]
theorem low_upper (l : List UInt8) : (low l).map upB = l.map upB := by
  simp only [low, List.map_map]
  congr 1
  funext b
  exact low_up b
theorem places_low (l : List UInt8) : placesS (low l) = placesS l := by
  cases l with
  | nil => rfl
  | cons b l =>
    simp only [low, List.map_cons, places_cons]
    rw [show (l.map lowB).takeWhile isDig = l.takeWhile isDig from low_run l]
    by_cases hb : b = 46
    · rw [if_pos hb, if_pos ((low_eq b 46 (by decide)).2 hb)]
    · rw [if_neg hb, if_neg fun e => hb ((low_eq b 46 (by decide)).1 e)]
theorem num_low (l : List UInt8) : numS (low l) = numS l := by
  simp only [numS, low_run, (tw_low isDig low_dig l).2, places_low]
theorem any_low (l : List UInt8) : (low l).head?.any isLet = l.head?.any isLet := by
  cases l with
  | nil => rfl
  | cons b l => exact low_let b
theorem addr_low (l : List UInt8) : addrS (low l) = addrS l := by
  simp only [addrS, (tw_low isWrd low_wrd l).1, (tw_low isWrd low_wrd l).2, low_upper, any_low, low_length, ne_eq, low_head _ 40 (by decide)]
theorem second_low (l : List UInt8) : secondS (low l) = secondS l := by
  cases l with
  | nil => rfl
  | cons b l =>
    simp only [low, List.map_cons, second_cons]
    rw [show addrS (l.map lowB) = addrS l from addr_low l]
    by_cases hb : b = 58
    · rw [if_pos hb, if_pos ((low_eq b 58 (by decide)).2 hb)]
    · rw [if_neg hb, if_neg fun e => hb ((low_eq b 58 (by decide)).1 e)]
theorem word_low (l : List UInt8) (k : Nat) : wordS (low l) k = wordS l k := by
  simp only [wordS, (tw_low isWrd low_wrd l).1, (tw_low isWrd low_wrd l).2, low_upper, low_length, low_head _ 40 (by decide), second_low]
theorem err_low (l : List UInt8) : ∀ (L : List (List UInt8)) (c : Nat), errF (low l) L c = errF l L c
  | [], _ => rfl
  | x :: L, c => by
    rw [errF, errF, err_low l L]
    have : (low l).take x.length = low (l.take x.length) := by simp [low]
    rw [this, low_upper]
theorem op1_low (b : UInt8) : op1 (lowB b) = op1 b := by
  have := all_bytes (fun b => decide (op1 (lowB b) = op1 b)) (by decide +kernel) b
  simpa using this
theorem op_low (b : UInt8) (r : List UInt8) : opS (lowB b :: low r) = opS (b :: r) := by
  rw [op_cons, op_cons]
  simp only [low_eq b 60 (by decide), low_eq b 62 (by decide), low_head r 62 (by decide), low_head r 61 (by decide), op1_low]
/-- small letters do not change a token that is no text -/
theorem tok_low (k : Nat) (b : UInt8) (r : List UInt8) (hb : b ≠ 34) : tokS k (lowB b :: low r) = tokS k (b :: r) := by
  have e : lowB b :: low r = low (b :: r) := rfl
  rw [tok_cons, tok_cons, low_dig, if_neg hb, if_neg fun h => hb ((low_eq b 34 (by decide)).1 h), low_let, op_low, e, num_low, word_low]
  unfold errS
  rw [err_low]
/-- a token that is no text has no quote -/
theorem tok_quote {k : Nat} {b : UInt8} {x z : List UInt8} {t : Tk} (h : tokS k (b :: (x ++ z)) = some (t, x.length + 1)) (hb : b ≠ 34) : ∀ c ∈ x, c ≠ 34 := by
  have hdig : ∀ c, isDig c = true → c ≠ 34 := by rintro c h rfl; exact absurd h (by decide)
  have hwrd : ∀ c, isWrd c = true → c ≠ 34 := by rintro c h rfl; exact absurd h (by decide)
  have pre : ∀ w d : List UInt8, b :: (x ++ z) = w ++ d → (∀ c ∈ w, c ≠ 34) → x.length + 1 = w.length → ∀ c ∈ x, c ≠ 34 := by
    intro w d e hw hl c hc
    have h1 : (b :: x) = w := by
      have := congrArg (List.take (x.length + 1)) e
      rw [← List.cons_append, List.take_left' (by simp), List.take_left' hl.symm] at this
      exact this
    exact hw c (by rw [← h1]; simp [hc])
  rw [tok_cons] at h
  by_cases h1 : isDig b = true
  · rw [if_pos h1] at h
    obtain ⟨q, hq, e⟩ := Option.map_eq_some_iff.1 h
    obtain ⟨_, e2⟩ := Prod.mk.inj e
    obtain ⟨w, p, r, hw, hp, _, _, _, _, _, hh⟩ := num_parts (l := b :: (x ++ z)) (v := q.1) (n := q.2) hq
    rcases hh with ⟨_, h2, h3, _⟩ | ⟨_, h2, h3⟩
    · exact pre w r h2 (fun c hc => hdig c (hw c hc)) (by omega)
    · refine pre (w ++ 46 :: p) r (by rw [h2]; simp) (fun c hc => ?_) (by simp; omega)
      rcases List.mem_append.1 hc with hc | hc
      · exact hdig c (hw c hc)
      · rcases List.mem_cons.1 hc with rfl | hc
        · decide
        · exact hdig c (hp c hc)
  · rw [if_neg h1, if_neg hb] at h
    by_cases h2 : isLet b = true
    · rw [if_pos h2] at h
      obtain ⟨e1, hw, _⟩ := run_split isWrd (b :: (x ++ z))
      unfold wordS at h
      simp only at h
      generalize hW : (b :: (x ++ z)).takeWhile isWrd = w at e1 hw h
      generalize hD : (b :: (x ++ z)).dropWhile isWrd = d at e1 h
      have key : x.length + 1 = w.length → ∀ c ∈ x, c ≠ 34 := pre w d e1 (fun c hc => hwrd c (hw c hc))
      split at h
      · exact key (Prod.mk.inj (Option.some.inj h)).2.symm
      split at h
      · exact key (Prod.mk.inj (Option.some.inj h)).2.symm
      split at h
      · exact key (Prod.mk.inj (Option.some.inj h)).2.symm
      split at h
      · cases h
      split at h
      · exact key (Prod.mk.inj (Option.some.inj h)).2.symm
      · rename_i c r n hs
        have hl := (Prod.mk.inj (Option.some.inj h)).2
        obtain ⟨q, rfl, ha⟩ := second_parts hs
        obtain ⟨w2, d2, rfl, hw2, _, hn, _⟩ := addr_parts ha
        refine pre (w ++ 58 :: w2) d2 (by rw [e1]; simp) (fun c hc => ?_) (by simp; omega)
        rcases List.mem_append.1 hc with hc | hc
        · exact hwrd c (hw c hc)
        · rcases List.mem_cons.1 hc with rfl | hc
          · decide
          · exact hwrd c (hw2 c hc)
    · rw [if_neg h2] at h
      split at h
      · rename_i c n he
        obtain ⟨_, e2⟩ := Prod.mk.inj (Option.some.inj h)
        obtain ⟨i, y, hi, _, hn, hu, _⟩ := err_parts _ _ he
        have hy : ∀ y ∈ errNames, ∀ v ∈ y, v ≠ 34 := by decide
        intro c hc hq
        subst hq
        have hm : (34 : UInt8) ∈ (b :: (x ++ z)).take y.length := by
          rw [← hn, e2, ← List.cons_append, List.take_left' (by simp)]
          simp [hc]
        have hm2 : upB 34 ∈ y := by rw [← hu]; exact List.mem_map_of_mem hm
        exact hy y (List.mem_of_getElem? hi) _ hm2 (by decide)
      · obtain ⟨q, hq, e⟩ := Option.map_eq_some_iff.1 h
        obtain ⟨_, e2⟩ := Prod.mk.inj e
        obtain ⟨v1, v2, v3⟩ := q
        simp only [] at e2
        rcases op_cases hq with ⟨hn, c, r', hr, hc⟩ | ⟨hn, _⟩
        · have hx : x.length = 1 := by omega
          obtain ⟨d, rfl⟩ := List.length_eq_one_iff.1 hx
          simp only [List.singleton_append, List.cons.injEq] at hr
          obtain ⟨rfl, rfl⟩ := hr
          intro e he
          simp at he
          subst he
          rintro rfl
          have h9 := hc []
          rw [op_cons] at h9
          simp only [List.head?_cons, Option.some.injEq] at h9
          split at h9
          · simp at h9
          · split at h9
            · simp at h9
            · have := op1_len h9
              omega
        · have hx : x = [] := List.length_eq_zero_iff.1 (by omega)
          subst hx
          simp
theorem op_kind {b : UInt8} {r : List UInt8} {c : Nat} {v : Int} {n : Nat} (h : opS (b :: r) = some (c, v, n)) : c ≠ 7 := by
  rw [op_cons] at h
  have key : ∀ b : UInt8, (op1 b).all (fun x => x.1 != 7) = true := fun b => all_bytes (fun b => (op1 b).all (fun x => x.1 != 7)) (by decide +kernel) b
  repeat' split at h
  all_goals first
    | (simp only [Option.some.injEq, Prod.mk.injEq] at h; omega)
    | (have := key b; rw [h] at this; simpa using this)
/-- a name does not stand at the end, nor before a blank -/
theorem tok_name_end {k : Nat} {b : UInt8} {x z : List UInt8} {t : Tk} (h : tokS k (b :: (x ++ z)) = some (t, x.length + 1)) (h7 : t.kind = 7) (hz : z = [] ∨ z.head? = some 32) : False := by
  rw [tok_cons] at h
  split at h
  · obtain ⟨q, _, e⟩ := Option.map_eq_some_iff.1 h
    have := (Prod.mk.inj e).1
    subst this
    simp at h7
  split at h
  · obtain ⟨q, _, e⟩ := Option.map_eq_some_iff.1 h
    have := (Prod.mk.inj e).1
    subst this
    simp at h7
  split at h
  · obtain ⟨e1, _, _⟩ := run_split isWrd (b :: (x ++ z))
    unfold wordS at h
    simp only at h
    generalize (b :: (x ++ z)).takeWhile isWrd = w at e1 h
    generalize (b :: (x ++ z)).dropWhile isWrd = d at e1 h
    split at h
    · rename_i h40
      have hl := (Prod.mk.inj (Option.some.inj h)).2
      have hd : z = d := by
        have := congrArg (List.drop (x.length + 1)) e1
        rw [← List.cons_append, List.drop_left' (by simp), List.drop_left' hl] at this
        exact this
      subst hd
      rcases hz with rfl | hz
      · simp at h40
      · rw [hz] at h40; exact absurd h40 (by decide)
    split at h
    · have := (Prod.mk.inj (Option.some.inj h)).1
      subst this
      simp at h7
    split at h
    · have := (Prod.mk.inj (Option.some.inj h)).1
      subst this
      simp at h7
    split at h
    · cases h
    split at h
    · have := (Prod.mk.inj (Option.some.inj h)).1
      subst this
      simp at h7
    · have := (Prod.mk.inj (Option.some.inj h)).1
      subst this
      simp only [] at h7
      split at h7 <;> omega
  split at h
  · have := (Prod.mk.inj (Option.some.inj h)).1
    subst this
    simp at h7
  · obtain ⟨q, hq, e⟩ := Option.map_eq_some_iff.1 h
    have := (Prod.mk.inj e).1
    subst this
    exact op_kind (c := q.1) (v := q.2.1) (n := q.2.2) hq h7
/-- where a token stands changes nothing else -/
theorem tok_any {k : Nat} (j : Nat) {l : List UInt8} {t : Tk} {n : Nat} (h : tokS k l = some (t, n)) : ∃ u, tokS j l = some (u, n) ∧ u.bare = t.bare := by
  have h1 := tok_move l 0 k
  rw [Nat.zero_add, h] at h1
  obtain ⟨q, hq, e⟩ := Option.map_eq_some_iff.1 h1.symm
  obtain ⟨e1, e2⟩ := Prod.mk.inj e
  have h2 := tok_move l 0 j
  rw [Nat.zero_add, hq] at h2
  refine ⟨q.1.move j, by rw [h2, ← e2]; rfl, ?_⟩
  rw [← e1]
  rfl

/-- the bytes of a token, with small letters outside of texts -/
def rawF : List UInt8 → Bool → List UInt8 × Bool
  | [], tx => ([], tx)
  | b :: r, tx =>
    let ty := if b = 34 then !tx else tx
    ((if ty then b else lowB b) :: (rawF r ty).1, (rawF r ty).2)
def hitB (l : List Tk) (i k : Nat) : Bool := match l[k]? with
  | some t => t.at_ == i
  | none => false
def nameAt (l : List Tk) (k : Nat) : Bool := match l[k]? with
  | some t => t.kind == 7
  | none => false
/-- the formula with blanks before some tokens, and small letters outside of texts -/
def wideF (l : List Tk) (bl : Nat → Bool) : List UInt8 → Nat → Bool → Nat → List UInt8
  | [], _, _, _ => []
  | b :: r, i, tx, k =>
    let ty := if b = 34 then !tx else tx
    (if hitB l i k && (bl k && (k == 0 || !nameAt l (k - 1))) then [32] else []) ++ ((if ty then b else lowB b) :: wideF l bl r (i + 1) ty (if hitB l i k then k + 1 else k))
theorem low_34 : lowB 34 = 34 := by decide
theorem raw_plain {x : List UInt8} (h : ∀ c ∈ x, c ≠ 34) : rawF x false = (low x, false) := by
  induction x with
  | nil => rfl
  | cons b x ih =>
    simp only [rawF]
    rw [if_neg (h b (by simp)), ih fun c hc => h c (by simp [hc])]
    rfl
theorem raw_text : ∀ (m : Nat) (x z t : List UInt8), x.length ≤ m → unqS (x ++ z) = some (t, x.length) → rawF x true = (x, false)
  | 0, x, z, t, hm, h => by
    obtain rfl : x = [] := List.length_eq_zero_iff.1 (by omega)
    exact absurd (unq_le _ _ _ _ (Nat.le_refl _) h).1 (by simp)
  | m + 1, [], z, t, hm, h => absurd (unq_le _ _ _ _ (Nat.le_refl _) h).1 (by simp)
  | m + 1, [b], z, t, hm, h => by
    by_cases hb : b = 34
    · subst hb; rfl
    · exfalso
      cases z with
      | nil => rw [List.append_nil, unq_one, if_neg hb] at h; cases h
      | cons c z =>
        rw [List.singleton_append, unq_two, if_neg hb] at h
        obtain ⟨q, hq, e⟩ := Option.map_eq_some_iff.1 h
        have h1 := (unq_le _ _ _ _ (Nat.le_refl _) (show unqS (c :: z) = some (q.1, q.2) from hq)).1
        have h2 := (Prod.mk.inj e).2
        simp at h2
        omega
  | m + 1, b :: c :: x, z, t, hm, h => by
    rw [List.cons_append, List.cons_append, unq_two] at h
    simp only [List.length_cons] at hm
    by_cases hb : b = 34
    · rw [if_pos hb] at h
      by_cases hc : c = 34
      · rw [if_pos hc] at h
        obtain ⟨q, hq, e⟩ := Option.map_eq_some_iff.1 h
        have h2 := (Prod.mk.inj e).2
        simp only [List.length_cons] at h2
        have h3 := raw_text m x z q.1 (by omega) (by rw [hq]; congr 1; exact Prod.ext rfl (by simp only []; omega))
        subst hb hc
        simp [rawF, h3, low_34]
      · rw [if_neg hc] at h
        have h2 := (Prod.mk.inj (Option.some.inj h)).2
        simp at h2
    · rw [if_neg hb] at h
      obtain ⟨q, hq, e⟩ := Option.map_eq_some_iff.1 h
      have h2 := (Prod.mk.inj e).2
      simp only [List.length_cons] at h2
      have h3 := raw_text m (c :: x) z q.1 (by simp; omega) (by rw [List.cons_append, hq]; congr 1; exact Prod.ext rfl (by simp only [List.length_cons]; omega))
      rw [rawF, if_neg hb, h3]
      rfl
theorem no_hit {l : List Tk} {k i n : Nat} (h : ∀ t, l[k]? = some t → i + n ≤ t.at_) (hn : 0 < n) : hitB l i k = false := by
  unfold hitB
  split
  · rename_i t ht
    have := h t ht
    simp only [beq_eq_false_iff_ne, ne_eq]
    omega
  · rfl
theorem wide_in (l : List Tk) (bl : Nat → Bool) (u : List UInt8) (k : Nat) : ∀ (x : List UInt8) (i : Nat) (tx : Bool), (∀ t, l[k]? = some t → i + x.length ≤ t.at_) →
    wideF l bl (x ++ u) i tx k = (rawF x tx).1 ++ wideF l bl u (i + x.length) (rawF x tx).2 k
  | [], _, _, _ => rfl
  | b :: x, i, tx, h => by
    have hh := no_hit h (by simp)
    rw [List.cons_append, wideF, hh]
    simp only [Bool.false_and, Bool.false_eq_true, if_false, List.nil_append]
    rw [wide_in l bl u k x (i + 1) _ (fun t ht => by have := h t ht; simp only [List.length_cons] at this; omega)]
    simp only [rawF, List.cons_append, List.length_cons]
    rw [show i + 1 + x.length = i + (x.length + 1) by omega]
/-- how the widened rest begins -/
theorem wide_head (l : List Tk) (bl : Nat → Bool) (u : List UInt8) (i k : Nat) : ((wideF l bl u i false k).head? = (low u).head? ∨ (wideF l bl u i false k).head? = some 32) ∧
    ((k ≠ 0 ∧ nameAt l (k - 1) = true) → (wideF l bl u i false k).head? = (low u).head?) := by
  cases u with
  | nil => exact ⟨.inl rfl, fun _ => rfl⟩
  | cons b u =>
    have hc : (if (if b = 34 then !false else false) then b else lowB b) = lowB b := by
      by_cases hb : b = 34
      · subst hb; rfl
      · rw [if_neg hb]; rfl
    rw [wideF, hc]
    split
    · rename_i hg
      refine ⟨.inr rfl, fun ⟨h0, h7⟩ => ?_⟩
      rw [h7] at hg
      simp [h0] at hg
    · exact ⟨.inl rfl, fun _ => rfl⟩
theorem wide_lex (l : List Tk) (bl : Nat → Bool) {k : Nat} {u : List UInt8} {ts : List Tk} {y : List UInt8} (h : Lex k u ts y) : y = [] → ∀ j, l.drop j = ts → ∀ k', ∃ us, Lex k' (wideF l bl u k false j) us [] ∧ us.map Tk.bare = ts.map Tk.bare := by
  induction h with
  | nil => intro _ j _ k'; exact ⟨[], .nil _ _, rfl⟩
  | @blank k u ts y h ih =>
    intro hy j hj k'
    subst hy
    have hh : hitB l k j = false := no_hit (n := 1) (fun t ht => h.later t (by rw [← hj]; exact List.mem_of_getElem? (by rw [List.getElem?_drop, Nat.add_zero]; exact ht))) (by omega)
    obtain ⟨us, h1, h2⟩ := ih rfl j hj (k' + 1)
    refine ⟨us, ?_, h2⟩
    rw [wideF, hh]
    simp only [Bool.false_and, Bool.false_eq_true, if_false, List.nil_append]
    have e1 : lowB 32 = 32 := by decide
    have e2 : (if (32 : UInt8) = 34 then !false else false) = false := by decide
    rw [e2]
    simp only [Bool.false_eq_true, if_false]
    rw [e1]
    exact .blank h1
  | @tok k b x u t ts y h g ih =>
    intro hy j hj k'
    subst hy
    have ht : l[j]? = some t := by
      have := congrArg (·[0]?) hj
      simpa [List.getElem?_drop] using this
    have hj2 : l.drop (j + 1) = ts := by rw [← List.drop_drop, hj]; rfl
    have hhit : hitB l k j = true := by simp [hitB, ht, tok_at h]
    have hlater : ∀ t, l[j + 1]? = some t → k + 1 + x.length ≤ t.at_ := fun t9 ht9 => by
      have := g.later t9 (by rw [← hj2]; exact List.mem_of_getElem? (i := 0) (by rw [List.getElem?_drop, Nat.add_zero]; exact ht9))
      omega
    -- the bytes of the token
    have key : ∀ k2, ∃ us b2 x2, x2.length = x.length ∧ us.map Tk.bare = (t :: ts).map Tk.bare ∧ Lex k2 (b2 :: (x2 ++ wideF l bl u (k + 1 + x.length) false (j + 1))) us [] ∧
        ((if (if b = 34 then !false else false) then b else lowB b) :: (rawF x (if b = 34 then !false else false)).1 = b2 :: x2 ∧ (rawF x (if b = 34 then !false else false)).2 = false) := by
      intro k2
      obtain ⟨us, h1, h2⟩ := ih rfl (j + 1) hj2 (k2 + (x.length + 1))
      rw [show k + (x.length + 1) = k + 1 + x.length by omega] at h1
      obtain ⟨hd1, hd2⟩ := wide_head l bl u (k + 1 + x.length) (j + 1)
      have h7 : t.kind = 7 → (wideF l bl u (k + 1 + x.length) false (j + 1)).head? = (low u).head? := fun h7 => hd2 ⟨by omega, by simp [nameAt, ht, h7]⟩
      generalize wideF l bl u (k + 1 + x.length) false (j + 1) = z at h1 hd1 h7 ⊢
      rw [List.append_nil] at h
      by_cases hb : b = 34
      · subst hb
        rw [tok_cons, if_neg (by decide), if_pos rfl] at h
        obtain ⟨q, hq, e⟩ := Option.map_eq_some_iff.1 h
        obtain ⟨e1, e2⟩ := Prod.mk.inj e
        have hq2 : unqS (x ++ u) = some (q.1, x.length) := by rw [hq]; congr 1; exact Prod.ext rfl (by simp only []; omega)
        have hr := raw_text _ x u q.1 (Nat.le_refl _) hq2
        have h34 := unq_stop _ x u q.1 (Nat.le_refl _) hq2
        have hz : z.head? ≠ some 34 := by
          rcases hd1 with e9 | e9
          · rw [e9]; exact fun e8 => h34 ((low_head u 34 (by decide)).1 e8)
          · rw [e9]; decide
        have hl := unq_local _ x u z q.1 (Nat.le_refl _) hq2 hz
        refine ⟨⟨2, 0, q.1, R4.zero, k2⟩ :: us, 34, x, rfl, ?_, ?_, ?_⟩
        · simp only [List.map_cons, h2, ← e1]; rfl
        · refine .tok ?_ h1
          rw [List.append_nil, tok_cons, if_neg (by decide), if_pos rfl, hl]
          rfl
        · simp only [if_true, Bool.not_false, hr, and_self]
      · have hq := tok_quote h hb
        have h3 : tokS k (lowB b :: ((low x) ++ low u)) = some (t, (low x).length + 1) := by
          rw [low_length, show low x ++ low u = low (x ++ u) by simp [low], tok_low k b _ hb]
          exact h
        have hgh := g.head
        have h4 := tok_local (z := z) h3 (fun e => hgh.1 ((low_head u 46 (by decide)).1 e)) (fun e => hgh.2 ((low_head u 58 (by decide)).1 e))
          (by rcases hd1 with e9 | e9
              · exact .inl e9
              · rw [e9]; exact .inr (by decide))
          (by rcases hd1 with e9 | e9
              · exact .inl e9
              · exact .inr (.inr (.inl e9)))
          h7
        obtain ⟨t2, h5, h6⟩ := tok_any k2 h4
        refine ⟨t2 :: us, lowB b, low x, low_length x, ?_, ?_, ?_⟩
        · simp only [List.map_cons, h2, h6]
        · refine .tok ?_ ?_
          · rw [List.append_nil]; exact h5
          · rw [low_length]; exact h1
        · rw [if_neg hb, raw_plain hq]
          exact ⟨rfl, rfl⟩
    rw [wideF, hhit]
    simp only [Bool.true_and, if_true]
    rw [wide_in l bl u (j + 1) x (k + 1) _ (fun t ht => hlater t ht)]
    split
    · obtain ⟨us, b2, x2, hx2, h1, h2, h3, h4⟩ := key (k' + 1)
      refine ⟨us, ?_, h1⟩
      rw [h4, ← List.cons_append, h3]
      exact .blank h2
    · obtain ⟨us, b2, x2, hx2, h1, h2, h3, h4⟩ := key k'
      refine ⟨us, ?_, h1⟩
      rw [h4, List.nil_append, ← List.cons_append, h3]
      exact h2
theorem wide_bytes (l : List Tk) (bl : Nat → Bool) : ∀ (u : List UInt8) (i : Nat) (tx : Bool) (k : Nat), (∀ b ∈ u, plainB b = true) → (∀ b ∈ wideF l bl u i tx k, plainB b = true) ∧ (wideF l bl u i tx k).length ≤ 2 * u.length
  | [], _, _, _, _ => ⟨by simp [wideF], by simp [wideF]⟩
  | b :: u, i, tx, k, h => by
    obtain ⟨h1, h2⟩ := wide_bytes l bl u (i + 1) (if b = 34 then !tx else tx) (if hitB l i k then k + 1 else k) (fun c hc => h c (by simp [hc]))
    have hb := h b (by simp)
    have hc : ∀ ty : Bool, plainB (if ty = true then b else lowB b) = true := fun ty => by
      cases ty
      · exact low_plain b hb
      · exact hb
    rw [wideF]
    generalize wideF l bl u (i + 1) (if b = 34 then !tx else tx) (if hitB l i k then k + 1 else k) = z at h1 h2 ⊢
    constructor
    · intro c hm
      rcases List.mem_append.1 hm with hm | hm
      · split at hm
        · simp at hm; subst hm; decide
        · simp at hm
      · rcases List.mem_cons.1 hm with rfl | hm
        · exact hc _
        · exact h1 c hm
    · rw [List.length_append, List.length_cons, List.length_cons]
      have : (if (hitB l i k && (bl k && (k == 0 || !nameAt l (k - 1)))) = true then [(32 : UInt8)] else []).length ≤ 1 := by split <;> simp
      omega
/-- the tokens of the widened formula -/
theorem wide_tokens {L : List UInt8} {ts : List Tk} (bl : Nat → Bool) (h : tokensS L = (ts, 0, 0)) (hl : L.length ≤ 120) : ∃ us, tokensS (wideF ts bl L 0 false 0) = (us, 0, 0) ∧ us.map Tk.bare = ts.map Tk.bare := by
  obtain ⟨_, _, hpl, hlex⟩ := tokens_ok h
  obtain ⟨us, h1, h2⟩ := wide_lex ts bl hlex rfl 0 rfl 0
  obtain ⟨h3, h4⟩ := wide_bytes ts bl L 0 false 0 hpl
  exact ⟨us, tokens_of (by omega) h3 h1, h2⟩
/-- tokens that differ in their places alone have the same tree, and the same error -/
theorem form_bare {L M : List UInt8} {ts us : List Tk} (h1 : tokensS L = (ts, 0, 0)) (h2 : tokensS M = (us, 0, 0)) (h : us.map Tk.bare = ts.map Tk.bare) : (formS M).1 = (formS L).1 ∧ (formS M).2.2 = (formS L).2.2 := by
  obtain ⟨r, hr, e1⟩ := form_of h1
  obtain ⟨q, hq, e2⟩ := form_of h2
  unfold parT at hr hq
  have hlen : us.length = ts.length := by have := congrArg List.length h; simpa using this
  have hp := par_bare (e := M.length) (e' := L.length) (12 * us.length + needM (.lv 1)) (.lv 1) us ts h
  rw [hq, hlen, hr] at hp
  rw [e1, e2]
  rcases eqv_cases hp with ⟨h3, _⟩ | ⟨a, b, c, h3, h4⟩ | ⟨vs, ws, ns, n, h3, h4, h5⟩
  · cases h3
  · simp only [Option.some.injEq] at h3 h4
    subst h3 h4
    exact ⟨rfl, rfl⟩
  · simp only [Option.some.injEq] at h3 h4
    subst h3 h4
    simp only [formR, bare_hk h5]
    split
    · exact ⟨rfl, rfl⟩
    · split <;> exact ⟨rfl, rfl⟩
theorem Tk.move_bare (d : Nat) (t : Tk) : (t.move d).bare = t.bare := rfl
/-- parentheses around a formula that is accepted -/
theorem paren_form {L : List UInt8} {ts : List Tk} {ns : List Nd} {n : Nat} (h : tokensS L = (ts, 0, 0)) (hp : Pk (.lv 1) ts [] ns n) (hc : checkS ns = 0) (hl : L.length ≤ 120) : formS (40 :: (L ++ [41])) = (ns, 0, 0) := by
  obtain ⟨_, _, hpl, hlex⟩ := tokens_ok h
  have hnm : named ts = false := by
    cases hn : named ts with
    | false => rfl
    | true =>
      exfalso
      have key : ∀ (k : Nat) (u : List UInt8) (l : List Tk) (y : List UInt8), Lex k u l y → y = [] → named l = true → False := by
        intro k u l y hlx
        induction hlx with
        | nil => intro _ h; simp [named] at h
        | blank _ ih => exact ih
        | @tok k b x u t l y h g ih =>
          intro hy h7
          cases l with
          | cons t2 l => exact ih hy h7
          | nil =>
            have hk : t.kind = 7 := by simpa [named] using h7
            subst hy
            have hu : u = [] ∨ u.head? = some 32 := by
              cases g with
              | nil => exact .inl rfl
              | blank => exact .inr rfl
            exact tok_name_end h hk (by rcases hu with rfl | hu
                                        · exact .inl rfl
                                        · exact .inr (by rw [List.append_nil]; exact hu))
      exact key _ _ _ _ hlex rfl hn
  have h1 : Lex 1 L (ts.map (Tk.move 1)) [41] := (hlex.behind [41] (by simp) (.inr (.inr rfl)) hnm).move 1
  have h2 : Lex (1 + L.length) [41] [⟨10, 0, [], R4.zero, 1 + L.length⟩] [] := .tok (b := 41) (x := []) (u := []) rfl (.nil _ _)
  have h3 : Lex 0 (40 :: ([] ++ (L ++ [41]))) (⟨9, 0, [], R4.zero, 0⟩ :: (ts.map (Tk.move 1) ++ [⟨10, 0, [], R4.zero, 1 + L.length⟩])) [] := by
    refine .tok (b := 40) (x := []) ?_ (Lex.append h1 h2)
    rfl
  rw [List.nil_append] at h3
  have h4 : tokensS (40 :: (L ++ [41])) = _ := tokens_of (by simp; omega) (by
    intro b hb
    simp only [List.mem_cons, List.mem_append, List.mem_nil_iff, or_false] at hb
    rcases hb with rfl | hb | rfl
    · decide
    · exact hpl b hb
    · decide) h3
  obtain ⟨m, hm⟩ : ∃ m, Pk (.lv 1) (ts.map (Tk.move 1)) [] ns m := by
    obtain ⟨f, hf⟩ := pk_par hp L.length
    have hb := par_bare (e := L.length) (e' := L.length) f (.lv 1) ts (ts.map (Tk.move 1)) (by rw [List.map_map]; rfl)
    rw [hf] at hb
    rcases eqv_cases hb with ⟨h5, _⟩ | ⟨_, _, _, h5, _⟩ | ⟨vs, ws, ms, n2, h5, h6, h7⟩
    · cases h5
    · cases h5
    · simp only [Option.some.injEq, Rs.ok.injEq] at h5
      obtain ⟨rfl, rfl, rfl⟩ := h5
      rw [bare_nil h7] at h6
      exact ⟨_, par_pk _ _ _ _ _ _ h6⟩
  exact form_pk h4 (hm.paren rfl rfl) hc
end Go.Proofs.YtlngjiibbcgkmaaDoor
