/- Plain: a formula is parsed, or has its fault at one of its bytes, or at its end. No program stands here. -/
import Derived.Test.YtlngjiibbcgkmaaDoorParM
namespace Go.Proofs.YtlngjiibbcgkmaaDoor
open Go.RowKit

theorem toks_err : ∀ (f k : Nat) (s : List UInt8) (i : Nat), toksF f k s = .error i → k ≤ i ∧ i < k + s.length
  | 0, _, _, _, h => by simp [toksF] at h
  | _ + 1, _, [], _, h => by simp [toksF] at h
  | f + 1, k, b :: r, i, h => by
    rw [toksF] at h
    split at h
    · have := toks_err f _ _ _ h
      simp only [List.length_cons]
      omega
    · split at h
      · simp only [Except.error.injEq] at h
        subst h
        simp
      · rename_i t n ht
        have hn := tok_le ht
        cases hr : toksF f (k + n) ((b :: r).drop n) with
        | error j =>
          rw [hr] at h
          simp only [Except.map, Except.error.injEq] at h
          subst h
          have := toks_err f _ _ _ hr
          rw [List.length_drop] at this
          omega
        | ok l => rw [hr] at h; simp [Except.map] at h
theorem tokens_cases (L : List UInt8) : (∃ a e, tokensS L = ([], a, e) ∧ e ≠ 0 ∧ 0 ≤ a ∧ a ≤ L.length) ∨ ∃ ts, tokensS L = (ts, 0, 0) := by
  unfold tokensS
  split
  · exact .inl ⟨0, 5, rfl, by decide, by omega, by omega⟩
  · split
    · rename_i i hf
      have hi := (List.findIdx?_eq_some_iff_getElem.1 hf).1
      exact .inl ⟨i, 4, rfl, by decide, by omega, by omega⟩
    · split
      · exact .inr ⟨_, rfl⟩
      · rename_i i ht
        have := toks_err _ _ _ _ ht
        exact .inl ⟨i, 4, rfl, by decide, by omega, by omega⟩
theorem lies_le {L : List UInt8} {ts us : List Tk} {a : Nat} (h : Lex 0 L ts []) (hl : Lies L.length us a) (hs : ∀ t ∈ us, t ∈ ts) : a ≤ L.length := by
  rcases hl with rfl | ⟨t, ht, rfl⟩
  · exact Nat.le_refl _
  · obtain ⟨i, hi⟩ := List.getElem?_of_mem (hs t ht)
    exact Nat.le_of_lt (gaps_at h i t hi).1
/-- what Formula comes to -/
theorem form_cases (L : List UInt8) : (∃ a e, formS L = ([], a, e) ∧ e ≠ 0 ∧ 0 ≤ a ∧ a ≤ L.length) ∨
    ∃ ts ns n, formS L = (ns, 0, 0) ∧ tokensS L = (ts, 0, 0) ∧ Pk (.lv 1) ts [] ns n ∧ checkS ns = 0 := by
  rcases tokens_cases L with ⟨a, e, h, he, h1, h2⟩ | ⟨ts, h⟩
  · exact .inl ⟨a, e, form_lex h he, he, h1, h2⟩
  · obtain ⟨r, hr, hf⟩ := form_of h
    obtain ⟨_, h256, hpl, hlex⟩ := tokens_ok h
    rw [hf]
    unfold parT at hr
    cases r with
    | bad a c =>
      obtain ⟨hl, hc⟩ := par_bad _ _ _ _ _ hr
      refine .inl ⟨a, c, rfl, ?_, by omega, ?_⟩
      · rcases hc with rfl | rfl | rfl <;> decide
      · have := lies_le hlex hl (fun _ h => h)
        omega
    | ok u ns n =>
      have hp := par_pk _ _ _ _ _ _ hr
      simp only [formR]
      by_cases hu : hkS u = 0
      · have hu2 : u = [] := Classical.byContradiction fun e => absurd hu ((hk_pos fun t ht => tokens_good h t (hp.sub t ht)).2 e)
        subst hu2
        rw [if_neg (by simp [hkS])]
        by_cases hc : checkS ns = 0
        · rw [if_neg (by rw [hc]; decide)]
          exact .inr ⟨ts, ns, n, rfl, h, hp, hc⟩
        · rw [if_pos hc]
          exact .inl ⟨0, checkS ns, rfl, hc, by omega, by omega⟩
      · rw [if_pos hu]
        refine .inl ⟨_, 4, rfl, by decide, by omega, ?_⟩
        have := lies_le hlex (lies_hd u) hp.sub
        omega
/-- and when it is parsed -/
theorem form_pk {L : List UInt8} {ts : List Tk} {ns : List Nd} {n : Nat} (h : tokensS L = (ts, 0, 0)) (hp : Pk (.lv 1) ts [] ns n) (hc : checkS ns = 0) : formS L = (ns, 0, 0) := by
  obtain ⟨r, hr, hf⟩ := form_of h
  obtain ⟨f, hg⟩ := pk_par hp L.length
  unfold parT at hr
  obtain rfl := par_one hr hg
  rw [hf]
  simp only [formR]
  rw [if_neg (by simp [hkS]), if_neg (by rw [hc]; decide)]
/-- as many nodes as tokens that are no parentheses and no commas -/
theorem form_count {ts : List Tk} {ns : List Nd} {n : Nat} (hp : Pk (.lv 1) ts [] ns n) : ts.countP realB = ns.length := by
  have := hp.count
  simpa using this
theorem named_snoc (l : List Tk) (t : Tk) : named (l ++ [t]) = (t.kind == 7) := by
  induction l with
  | nil => rfl
  | cons a l ih => cases l with
    | nil => rfl
    | cons b l => exact ih
theorem named_take {ts : List Tk} {i : Nat} (hi : i < ts.length) (h : i = 0 ∨ ∃ t, ts[i - 1]? = some t ∧ t.kind ≠ 7) : named (ts.take i) = false := by
  rcases h with rfl | ⟨t, ht, hk⟩
  · rfl
  · cases i with
    | zero => rfl
    | succ i =>
      simp only [Nat.add_sub_cancel] at ht
      obtain ⟨h1, rfl⟩ := List.getElem?_eq_some_iff.1 ht
      rw [List.take_succ_eq_append_getElem h1, named_snoc]
      simpa using hk
/-- the law of ParseStops -/
theorem stops_plain {L : List UInt8} {ts : List Tk} {ns : List Nd} {n i : Nat} {t : Tk} (h : tokensS L = (ts, 0, 0)) (hp : Pk (.lv 1) ts [] ns n) (hc : checkS ns = 0) (ht : ts[i]? = some t) (hn : i = 0 ∨ ∃ u, ts[i - 1]? = some u ∧ u.kind ≠ 7) :
    (∃ ms, formS (L.take t.at_) = (ms, 0, 0)) ∨ formS (L.take t.at_) = ([], (((L.take t.at_).length : Nat) : Int), 4) := by
  obtain ⟨_, h256, hpl, hlex⟩ := tokens_ok h
  have hi := (List.getElem?_eq_some_iff.1 ht).1
  have hcut := gaps_cut hlex i t ht (named_take hi hn)
  have htk : tokensS (L.take t.at_) = (ts.take i, 0, 0) := tokens_of (by rw [List.length_take]; omega) (fun b hb => hpl b (List.mem_of_mem_take hb)) hcut
  rcases hp.cut (L.take t.at_).length (ts.take i) (ts.drop i) (by rw [List.append_nil, List.take_append_drop]) (by intro e; have := congrArg List.length e; rw [List.length_drop] at this; simp at this; omega) with ⟨f, hf⟩ | ⟨ms, m, hm, x, y, hx, hy, hxy⟩
  · obtain ⟨r, hr, hform⟩ := form_of htk
    unfold parT at hr
    obtain rfl := par_one hr hf
    exact .inr hform
  · have hlts : ts.length ≤ 256 := Nat.le_trans hlex.len h256
    have hln := form_count hp
    have hlm := form_count hm
    have h1 := List.countP_le_length (p := realB) (l := ts)
    have h2 := List.countP_le_length (p := realB) (l := ts.take i)
    rw [List.length_take] at h2
    obtain ⟨d, hd, hd2⟩ := check_formula hp (by omega)
    obtain ⟨d', hd', hd3⟩ := check_formula hm (by omega)
    have e1 := dep_one hd hy
    have e2 := dep_one hd' hx
    refine .inl ⟨ms, form_pk htk hm ?_⟩
    rw [hd3, if_pos]
    rw [hd2] at hc
    split at hc
    · omega
    · exact absurd hc (by decide)
end Go.Proofs.YtlngjiibbcgkmaaDoor
