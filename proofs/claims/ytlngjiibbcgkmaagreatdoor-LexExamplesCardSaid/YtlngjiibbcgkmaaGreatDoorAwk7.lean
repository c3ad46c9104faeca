/- The contract of the kit's EqualTokens: two slices that hold the same tokens are equal. Plain: what LexBack, LexBlanks and LexGaps say, of what Tokens and Write come to. louvrelaw07.same: lists of tokens that are alike but for their places. The statement's own 'awake' of chapter 07. -/
import Derived.Test.YtlngjiibbcgkmaaGreatDoorWriteK
namespace Go.Proofs.YtlngjiibbcgkmaaGreatDoor
section
open Go.RowKit

set_option maxRecDepth 100000 in
set_option maxHeartbeats 4000000 in
theorem equal_tokens (ts : List (Tk × Int)) (a b : Option Addr) (c d : Nat) (w : World) (ha : TksAt w a c ts) (hb : TksAt w b d ts) (hn : ts.length ≤ 1000000000000) :
    Calls Tryz.prog 19 #[.slice a ts.length c, .slice b ts.length d] w fun e w' => e = .returned (.bool true) ∧ Below w.heap.size w w' := by
  have HA := keep ha
  have HB := keep hb
  clear ha hb
  obtain ⟨n, hl⟩ : ∃ n, ts.length = n := ⟨_, rfl⟩
  rw [hl] at hn ⊢
  have HL := keep hl
  clear hl
  go_enter Tryz.func19, Tryz.ntmps19
  go_wp2_with fail
  go_loopw [5] (fun i wr => ∃ k : Nat, k ≤ n ∧ i = .int .i64 (k : Int) ∧ Hid (Below w.heap.size w wr)) (fun i _ => n - (intOf i).toNat)
  case atStart => exact ⟨0, Nat.zero_le _, rfl, Below.refl _ _⟩
  case round =>
    obtain ⟨k, hk, rfl, H2⟩ := hrel
    obtain ⟨wp, rfl⟩ : ∃ wp : World, wp = wr := ⟨_, rfl⟩
    by_cases hlt : (k : Int) < n
    · have hil : k < ts.length := by rw [HL.out]; omega
      obtain ⟨x, hx⟩ : ∃ x, ts[k]? = some x := ⟨_, List.getElem?_eq_getElem hil⟩
      obtain ⟨b1, o1, ha1, hB1, hc1⟩ := HA.out.at_ (by intro e; rw [e] at hil; simp at hil)
      obtain ⟨b2, o2, hb2, hB2, hc2⟩ := HB.out.at_ (by intro e; rw [e] at hil; simp at hil)
      subst ha1 hb2
      have g1 := hc1 k x hx
      have g2 := hc2 k x hx
      obtain ⟨⟨tk, tn, tt, ⟨r1, r2, r3, r4⟩, ta⟩, p⟩ := x
      have c0 := (H2.out.cell hB1).trans (g1 0 _ rfl)
      have d0 := (H2.out.cell hB2).trans (g2 0 _ rfl)
      have c1 := (H2.out.cell hB1).trans (g1 1 _ rfl)
      have d1 := (H2.out.cell hB2).trans (g2 1 _ rfl)
      have c2 := (H2.out.cell hB1).trans (g1 2 _ rfl)
      have d2 := (H2.out.cell hB2).trans (g2 2 _ rfl)
      have c3 := (H2.out.cell hB1).trans (g1 3 _ rfl)
      have d3 := (H2.out.cell hB2).trans (g2 3 _ rfl)
      have c4 := (H2.out.cell hB1).trans (g1 4 _ rfl)
      have d4 := (H2.out.cell hB2).trans (g2 4 _ rfl)
      have c5 := (H2.out.cell hB1).trans (g1 5 _ rfl)
      have d5 := (H2.out.cell hB2).trans (g2 5 _ rfl)
      have c6 := (H2.out.cell hB1).trans (g1 6 _ rfl)
      have d6 := (H2.out.cell hB2).trans (g2 6 _ rfl)
      have c7 := (H2.out.cell hB1).trans (g1 7 _ rfl)
      have d7 := (H2.out.cell hB2).trans (g2 7 _ rfl)
      simp only [Nat.add_zero, ← Nat.add_assoc] at c0 d0 c1 d1 c2 d2 c3 d3 c4 d4 c5 d5 c6 d6 c7 d7
      have hb1 : b1 < wp.heap.size := Nat.lt_of_lt_of_le hB1 H2.out.size
      have hb2 : b2 < wp.heap.size := Nat.lt_of_lt_of_le hB2 H2.out.size
      clear hil hx hc1 hc2 g1 g2
      go_wp2_with fail
      go_region_held3 (fun w' => w'.cell? ⟨b1, o1 + k * 8, none⟩ = some (.int .u8 tk) ∧ w'.cell? ⟨b1, o1 + k * 8 + 1, none⟩ = some (.int .i64 tn) ∧ w'.cell? ⟨b1, o1 + k * 8 + 2, none⟩ = some (.string ⟨tt.toArray⟩) ∧ w'.cell? ⟨b1, o1 + k * 8 + 3, none⟩ = some (.int .i64 r1) ∧ w'.cell? ⟨b1, o1 + k * 8 + 4, none⟩ = some (.int .i64 r2) ∧ w'.cell? ⟨b1, o1 + k * 8 + 5, none⟩ = some (.int .i64 r3) ∧ w'.cell? ⟨b1, o1 + k * 8 + 6, none⟩ = some (.int .i64 r4) ∧ w'.cell? ⟨b1, o1 + k * 8 + 7, none⟩ = some (.int .i64 p) ∧ w'.cell? ⟨b2, o2 + k * 8, none⟩ = some (.int .u8 tk) ∧ w'.cell? ⟨b2, o2 + k * 8 + 1, none⟩ = some (.int .i64 tn) ∧ w'.cell? ⟨b2, o2 + k * 8 + 2, none⟩ = some (.string ⟨tt.toArray⟩) ∧ w'.cell? ⟨b2, o2 + k * 8 + 3, none⟩ = some (.int .i64 r1) ∧ w'.cell? ⟨b2, o2 + k * 8 + 4, none⟩ = some (.int .i64 r2) ∧ w'.cell? ⟨b2, o2 + k * 8 + 5, none⟩ = some (.int .i64 r3) ∧ w'.cell? ⟨b2, o2 + k * 8 + 6, none⟩ = some (.int .i64 r4) ∧ w'.cell? ⟨b2, o2 + k * 8 + 7, none⟩ = some (.int .i64 p)) (go_keep) (fail)
      go_wp2_with fail
      go_roundw
      case rel => exact ⟨k + 1, by omega, by go_num, H2.out.drew⟩
      case measure => simp [intOf]; omega
    · obtain rfl : k = n := by omega
      go_wp2_with fail
      go_ret
      exact ⟨rfl, H2.out⟩
end
section
open Go.RowKit

theorem toks_parts {L : List UInt8} {ts : List Tk} {a : Int} (h : tokensS L = (ts, a, 0)) : a = 0 ∧ L.length ≤ 256 ∧ (∀ b ∈ L, plainB b = true) ∧ Lex 0 L ts [] := by
  unfold tokensS at h
  split at h
  · simp at h
  · rename_i h256
    split at h
    · simp at h
    · rename_i hf
      split at h
      · rename_i l hl
        simp only [Prod.mk.injEq, and_true] at h
        obtain ⟨rfl, rfl⟩ := h
        refine ⟨rfl, by omega, ?_, (toks_lex _ _ _ _ (Nat.le_refl _)).1 hl⟩
        intro b hb
        have := List.findIdx?_eq_none_iff.1 hf b hb
        simpa using this
      · simp at h
theorem toksF_at : ∀ (f k : Nat) (s : List UInt8) (i : Nat), toksF f k s = .error i → i ≤ k + s.length
  | 0, _, _, _, h => by cases h
  | _ + 1, _, [], _, h => by cases h
  | f + 1, k, b :: r, i, h => by
    unfold toksF at h
    split at h
    · have := toksF_at f _ _ _ h
      rw [List.length_cons]
      omega
    · split at h
      · cases h
        omega
      · rename_i t n hn
        have h1 := tok_le hn
        generalize hd : (b :: r).drop n = d at h
        have h2 := congrArg List.length hd
        rw [List.length_drop] at h2
        cases h3 : toksF f (k + n) d with
        | ok l => rw [h3] at h; cases h
        | error j =>
          rw [h3] at h
          have h4 : j = i := by injection h
          have h5 := toksF_at f _ _ _ h3
          omega
theorem tokens_fault {L : List UInt8} {ts : List Tk} {a e : Int} (h : tokensS L = (ts, a, e)) (he : e ≠ 0) : ts = [] ∧ 0 ≤ a ∧ a ≤ L.length := by
  unfold tokensS at h
  split at h
  · simp only [Prod.mk.injEq] at h
    obtain ⟨rfl, rfl, -⟩ := h
    exact ⟨rfl, by omega, by omega⟩
  · split at h
    · rename_i i hi
      simp only [Prod.mk.injEq] at h
      obtain ⟨rfl, rfl, -⟩ := h
      have := (List.findIdx?_eq_some_iff_findIdx_eq.1 hi).1
      exact ⟨rfl, by omega, by omega⟩
    · split at h
      · simp only [Prod.mk.injEq] at h
        exact absurd h.2.2.symm he
      · rename_i i hi
        simp only [Prod.mk.injEq] at h
        obtain ⟨rfl, rfl, -⟩ := h
        have := toksF_at _ _ _ _ hi
        exact ⟨rfl, by omega, by omega⟩
theorem tok_num {k : Nat} {l : List UInt8} {t : Tk} {n : Nat} (h : tokS k l = some (t, n)) : 0 ≤ t.num ∧ t.num ≤ 9223372036854775807 := by
  cases l with
  | nil => cases h
  | cons b r =>
    rw [tok_cons] at h
    split at h
    · obtain ⟨⟨v, m⟩, hx, e⟩ := Option.map_eq_some_iff.1 h
      obtain ⟨rfl, -⟩ := Prod.mk.inj e
      obtain ⟨w, p, -, -, -, -, -, rfl, hv, -⟩ := num_parts hx
      show 0 ≤ ((numV w p : Nat) : Int) ∧ ((numV w p : Nat) : Int) ≤ 9223372036854775807
      omega
    · split at h
      · obtain ⟨⟨v, m⟩, hx, e⟩ := Option.map_eq_some_iff.1 h
        obtain ⟨rfl, -⟩ := Prod.mk.inj e
        exact (by decide : (0 : Int) ≤ 0 ∧ (0 : Int) ≤ 9223372036854775807)
      · split at h
        · unfold wordS at h
          simp only at h
          split at h
          · obtain ⟨rfl, -⟩ := Prod.mk.inj (Option.some.inj h); exact (by decide : (0 : Int) ≤ 0 ∧ (0 : Int) ≤ 9223372036854775807)
          · split at h
            · obtain ⟨rfl, -⟩ := Prod.mk.inj (Option.some.inj h); exact (by decide : (0 : Int) ≤ 1 ∧ (1 : Int) ≤ 9223372036854775807)
            · split at h
              · obtain ⟨rfl, -⟩ := Prod.mk.inj (Option.some.inj h); exact (by decide : (0 : Int) ≤ 0 ∧ (0 : Int) ≤ 9223372036854775807)
              · split at h
                · cases h
                · split at h
                  · obtain ⟨rfl, -⟩ := Prod.mk.inj (Option.some.inj h); exact (by decide : (0 : Int) ≤ 0 ∧ (0 : Int) ≤ 9223372036854775807)
                  · obtain ⟨rfl, -⟩ := Prod.mk.inj (Option.some.inj h); exact (by decide : (0 : Int) ≤ 0 ∧ (0 : Int) ≤ 9223372036854775807)
        · split at h
          · rename_i c m he
            obtain ⟨rfl, -⟩ := Prod.mk.inj (Option.some.inj h)
            obtain ⟨i, x, hi, hc, -⟩ := err_parts _ _ he
            have h5 : i < 5 := (List.getElem?_eq_some_iff.1 hi).1
            show 0 ≤ ((c : Nat) : Int) ∧ ((c : Nat) : Int) ≤ 9223372036854775807
            omega
          · obtain ⟨⟨c, v, m⟩, hx, e⟩ := Option.map_eq_some_iff.1 h
            obtain ⟨rfl, -⟩ := Prod.mk.inj e
            show 0 ≤ v ∧ v ≤ 9223372036854775807
            have key : ∀ x ∈ opTab, (0 : Int) ≤ x.2.2 ∧ x.2.2 ≤ 9223372036854775807 := by decide
            rw [op_cons] at hx
            split at hx
            · split at hx
              · cases hx; decide
              · split at hx
                · cases hx; decide
                · cases hx; decide
            · split at hx
              · split at hx
                · cases hx; decide
                · cases hx; decide
              · obtain ⟨y, hy, e⟩ := Option.map_eq_some_iff.1 hx
                obtain ⟨-, e2⟩ := Prod.mk.inj e
                obtain ⟨e3, -⟩ := Prod.mk.inj e2
                rw [← e3]
                exact key y (List.mem_of_find?_eq_some hy)
theorem Lex.nums {k : Nat} {s : List UInt8} {l : List Tk} {y : List UInt8} (h : Lex k s l y) : ∀ t ∈ l, 0 ≤ t.num ∧ t.num ≤ 9223372036854775807 := by
  induction h with
  | nil => simp
  | blank _ ih => exact ih
  | tok h _ ih =>
    intro t ht
    rcases List.mem_cons.1 ht with rfl | ht
    · exact tok_num h
    · exact ih t ht
theorem bare_text {u : Tk} (h : bareB u = true) : u.text = [] := by
  unfold bareB at h
  simp only [Bool.and_eq_true, List.isEmpty_iff] at h
  exact h.1.2
theorem ok_text {t : Tk} (h : okT t = true) : t.text.length ≤ 256 := by
  unfold okT at h
  have key : ∀ u : Tk, bareB u = true → u.text = t.text → t.text.length ≤ 256 := fun u hu e => by rw [← e, bare_text hu]; simp
  split at h
  · simp only [Bool.and_eq_true] at h; exact key _ h.2 rfl
  · split at h
    · simp only [Bool.and_eq_true, decide_eq_true_eq] at h; exact h.1.1.2
    · split at h
      · simp only [Bool.and_eq_true] at h; exact key _ h.2 rfl
      · split at h
        · simp only [Bool.and_eq_true] at h; exact key _ h.2 rfl
        · split at h
          · simp only [Bool.and_eq_true] at h; exact key _ h.2 rfl
          · split at h
            · simp only [Bool.and_eq_true] at h; exact key _ h.2 rfl
            · split at h
              · unfold nameB at h
                simp only [Bool.and_eq_true, decide_eq_true_eq] at h
                omega
              · split at h
                · simp only [Bool.and_eq_true] at h; exact key _ h.2 rfl
                · simp only [Bool.and_eq_true] at h; exact key _ h.2 rfl
/-- the tokens of a formula are such that Write takes them -/
theorem tokens_fit {L : List UInt8} {ts : List Tk} {a : Int} (h : tokensS L = (ts, a, 0)) : (∀ t ∈ ts, okT t = true) ∧ ∀ t ∈ ts, t.fits := by
  obtain ⟨-, h1, h2, h3⟩ := toks_parts h
  have h4 := h3.ok (by simpa using h1) (by simpa using h2)
  refine ⟨h4, fun t ht => ⟨?_, (h3.nums t ht).2, ?_⟩⟩
  · have := (h3.nums t ht).1; omega
  · have := ok_text (h4 t ht); omega
theorem Lex.count {k : Nat} {s : List UInt8} {l : List Tk} {y : List UInt8} (h : Lex k s l y) : l.length ≤ s.length := by
  induction h with
  | nil => simp
  | blank _ ih => simp; omega
  | tok _ _ ih => simp; omega
end
section
open Go.RowKit
end
section
open Go.RowKit

def wantL : List Tk := [⟨7, 0, [83, 85, 77], R4.zero, 0⟩, ⟨9, 0, [], R4.zero, 3⟩, ⟨6, 0, [], ⟨1, 1, 2, 2⟩, 4⟩, ⟨11, 0, [], R4.zero, 9⟩, ⟨1, 15000, [], R4.zero, 10⟩, ⟨10, 0, [], R4.zero, 14⟩]
def twoL : List Tk := [⟨1, 10000, [], R4.zero, 0⟩, ⟨1, 20000, [], R4.zero, 0⟩]
def pairL (l : List Tk) : List (Tk × Int) := l.map fun t => (t, (t.at_ : Int))
theorem pair_fst (l : List Tk) : (pairL l).map Prod.fst = l := by
  unfold pairL
  rw [List.map_map]
  exact List.map_id _
theorem pair_fits {l : List Tk} (h : ∀ t ∈ l, t.fits) : ∀ t ∈ pairL l, t.1.fits := by
  intro t ht
  obtain ⟨x, hx, rfl⟩ := List.mem_map.1 ht
  exact h x hx
theorem tk_a : tokensS [115, 117, 109, 40, 65, 49, 58, 98, 50, 44, 49, 46, 53, 48, 41] = (wantL, 0, 0) := by kernel_rfl
theorem tk_b : tokensS [49, 46] = ([], 1, 4) := by kernel_rfl
theorem wr_a : writeS wantL = ([83, 85, 77, 40, 65, 49, 58, 66, 50, 44, 49, 46, 53, 41], 0) := by kernel_rfl
theorem wr_b : writeS twoL = ([], 4) := by kernel_rfl
theorem two_fits : ∀ t ∈ twoL, t.fits := by unfold Tk.fits; decide
theorem tks_blk {w : World} {b n : Nat} {T : TypeId} {ts : List (Tk × Int)} (h : Blk w b T (ts.flatMap rowI).toArray) (hn : ts.length ≤ n) (hc : n ≤ 1000) : TksAt w (some ⟨b, 0, none⟩) n ts := by
  refine ⟨hn, by omega, fun _ => ⟨b, 0, rfl, h.lt, fun i t hi j v hj => ?_⟩⟩
  rw [h.cell, Nat.zero_add]
  have := flat_atW rowI 8 (fun _ => rfl) ts i t hi j v hj
  simpa using this

set_option maxRecDepth 100000 in
set_option maxHeartbeats 8000000 in
theorem law_awake7 (w : World) (he : WEnv w) :
    Calls Tryz.prog 20 #[] w fun e w' => e = .returned (.bool true) ∧ Below w.heap.size w w' := by
  have HE := keep he
  clear he
  go_enter Tryz.func20, Tryz.ntmps20
  go_wp2_with fail
  refine (lex_Tokens _ _ (by decide) HE.out.1).mono ?_
  rintro e w1 ⟨v, rfl, hown, hb⟩
  rw [show tokensS (({ data := #[115, 117, 109, 40, 65, 49, 58, 98, 50, 44, 49, 46, 53, 48, 41] } : ByteArray).data.toList) = _ from tk_a] at hown ⊢
  obtain ⟨a1, c1, rfl, hat⟩ := tks_own hown
  have hat : TksAt w1 a1 c1 (pairL wantL) := hat
  rw [show wantL.length = 6 from rfl]
  have HW1 := Lib.hid hb
  have HB2 := Lib.hid (show Below w1.heap.size w1 (w1.alloc (.cells #[.int .u8 7, .int .i64 0, .string ⟨#[83, 85, 77]⟩, .int .i64 0, .int .i64 0, .int .i64 0, .int .i64 0, .int .i64 0, .int .u8 9, .int .i64 0, .string ⟨#[]⟩, .int .i64 0, .int .i64 0, .int .i64 0, .int .i64 0, .int .i64 3, .int .u8 6, .int .i64 0, .string ⟨#[]⟩, .int .i64 1, .int .i64 1, .int .i64 2, .int .i64 2, .int .i64 4, .int .u8 11, .int .i64 0, .string ⟨#[]⟩, .int .i64 0, .int .i64 0, .int .i64 0, .int .i64 0, .int .i64 9, .int .u8 1, .int .i64 15000, .string ⟨#[]⟩, .int .i64 0, .int .i64 0, .int .i64 0, .int .i64 0, .int .i64 10, .int .u8 10, .int .i64 0, .string ⟨#[]⟩, .int .i64 0, .int .i64 0, .int .i64 0, .int .i64 0, .int .i64 14] 43)) from (Below.refl _ _).alloc (Nat.le_refl _) _)
  have HA1 := keep (hat.below HB2.out)
  have HA2 := keep (show TksAt (w1.alloc (.cells #[.int .u8 7, .int .i64 0, .string ⟨#[83, 85, 77]⟩, .int .i64 0, .int .i64 0, .int .i64 0, .int .i64 0, .int .i64 0, .int .u8 9, .int .i64 0, .string ⟨#[]⟩, .int .i64 0, .int .i64 0, .int .i64 0, .int .i64 0, .int .i64 3, .int .u8 6, .int .i64 0, .string ⟨#[]⟩, .int .i64 1, .int .i64 1, .int .i64 2, .int .i64 2, .int .i64 4, .int .u8 11, .int .i64 0, .string ⟨#[]⟩, .int .i64 0, .int .i64 0, .int .i64 0, .int .i64 0, .int .i64 9, .int .u8 1, .int .i64 15000, .string ⟨#[]⟩, .int .i64 0, .int .i64 0, .int .i64 0, .int .i64 0, .int .i64 10, .int .u8 10, .int .i64 0, .string ⟨#[]⟩, .int .i64 0, .int .i64 0, .int .i64 0, .int .i64 0, .int .i64 14] 43)) (some ⟨w1.heap.size, 0, none⟩) 6 (pairL wantL) from tks_blk (Blk.new w1 43 _) (by decide) (by decide))
  have HW2 := Lib.hid (HW1.out.trans (HB2.out.mono HW1.out.size))
  clear hown hb hat HB2 HW1
  simp only []
  go_wp2_with fail
  generalize (w1.alloc (.cells #[.int .u8 7, .int .i64 0, .string ⟨#[83, 85, 77]⟩, .int .i64 0, .int .i64 0, .int .i64 0, .int .i64 0, .int .i64 0, .int .u8 9, .int .i64 0, .string ⟨#[]⟩, .int .i64 0, .int .i64 0, .int .i64 0, .int .i64 0, .int .i64 3, .int .u8 6, .int .i64 0, .string ⟨#[]⟩, .int .i64 1, .int .i64 1, .int .i64 2, .int .i64 2, .int .i64 4, .int .u8 11, .int .i64 0, .string ⟨#[]⟩, .int .i64 0, .int .i64 0, .int .i64 0, .int .i64 0, .int .i64 9, .int .u8 1, .int .i64 15000, .string ⟨#[]⟩, .int .i64 0, .int .i64 0, .int .i64 0, .int .i64 0, .int .i64 10, .int .u8 10, .int .i64 0, .string ⟨#[]⟩, .int .i64 0, .int .i64 0, .int .i64 0, .int .i64 0, .int .i64 14] 43)) = W2 at HA1 HA2 HW2 ⊢
  refine (lex_Write (pairL wantL) _ 6 W2 HA2.out (pair_fits (tokens_fit tk_a).2) (HE.out.below HW2.out) (by decide)).mono ?_
  rintro e w3 ⟨rfl, hb⟩
  rw [pair_fst, wr_a]
  have HA3 := keep (HA1.out.below hb)
  have HA4 := keep (HA2.out.below hb)
  have HW3 := Lib.hid (HW2.out.trans (hb.mono HW2.out.size))
  clear hb HA1 HA2 HW2
  go_wp2_with fail
  refine (lex_Tokens _ _ (by decide) (HE.out.1.below HW3.out)).mono ?_
  rintro e w4 ⟨v, rfl, hown, hb⟩
  rw [show tokensS (({ data := #[49, 46] } : ByteArray).data.toList) = _ from tk_b]
  have HB5 := Lib.hid (hb.alloc hb.size (.cells #[.int .u8 1, .int .i64 10000, .string ⟨#[]⟩, .int .i64 0, .int .i64 0, .int .i64 0, .int .i64 0, .int .i64 0, .int .u8 1, .int .i64 20000, .string ⟨#[]⟩, .int .i64 0, .int .i64 0, .int .i64 0, .int .i64 0, .int .i64 0] 43))
  have HA5 := keep (HA3.out.below HB5.out)
  have HA6 := keep (HA4.out.below HB5.out)
  have HA7 := keep (show TksAt (w4.alloc (.cells #[.int .u8 1, .int .i64 10000, .string ⟨#[]⟩, .int .i64 0, .int .i64 0, .int .i64 0, .int .i64 0, .int .i64 0, .int .u8 1, .int .i64 20000, .string ⟨#[]⟩, .int .i64 0, .int .i64 0, .int .i64 0, .int .i64 0, .int .i64 0] 43)) (some ⟨w4.heap.size, 0, none⟩) 2 (pairL twoL) from tks_blk (Blk.new w4 43 _) (by decide) (by decide))
  have HW5 := Lib.hid (HW3.out.trans (HB5.out.mono HW3.out.size))
  clear hown hb HA3 HA4 HB5 HW3
  simp only []
  go_wp2_with fail
  generalize (w4.alloc (.cells #[.int .u8 1, .int .i64 10000, .string ⟨#[]⟩, .int .i64 0, .int .i64 0, .int .i64 0, .int .i64 0, .int .i64 0, .int .u8 1, .int .i64 20000, .string ⟨#[]⟩, .int .i64 0, .int .i64 0, .int .i64 0, .int .i64 0, .int .i64 0] 43)) = W5 at HA5 HA6 HA7 HW5 ⊢
  refine (lex_Write (pairL twoL) _ 2 W5 HA7.out (pair_fits two_fits) (HE.out.below HW5.out) (by decide)).mono ?_
  rintro e w6 ⟨rfl, hb⟩
  rw [pair_fst, wr_b]
  have HA8 := keep (HA5.out.below hb)
  have HA9 := keep (HA6.out.below hb)
  have HW6 := Lib.hid (HW5.out.trans (hb.mono HW5.out.size))
  clear hb HA5 HA6 HA7 HW5
  go_wp2_with fail
  refine (equal_tokens (pairL wantL) _ _ _ 6 w6 HA8.out HA9.out (by decide)).mono ?_
  rintro e w7 ⟨rfl, hb⟩
  have HW7 := Lib.hid (HW6.out.trans (hb.mono HW6.out.size))
  clear hb HA8 HA9 HW6
  go_wp2_with fail
  go_ret
  exact ⟨rfl, HW7.out⟩
end
end Go.Proofs.YtlngjiibbcgkmaaGreatDoor
