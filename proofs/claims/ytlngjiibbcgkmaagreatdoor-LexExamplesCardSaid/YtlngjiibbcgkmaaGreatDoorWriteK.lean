/- lex.write: the contract, all kinds; how long a text is. lex.Write: plain, and the contract. -/
import Derived.Test.YtlngjiibbcgkmaaGreatDoorWrite2
import Derived.Test.YtlngjiibbcgkmaaGreatDoorWrite3
import Derived.Test.YtlngjiibbcgkmaaGreatDoorWrite4
import Derived.Test.YtlngjiibbcgkmaaGreatDoorLexO
import Derived.Test.YtlngjiibbcgkmaaGreatDoorLexN
namespace Go.Proofs.YtlngjiibbcgkmaaGreatDoor
section
open Go.RowKit
open Go.Lib (decDigits)

/-- what write wants of the library's variables -/
def WEnv (w : World) : Prop := Words w ∧ Pow w ∧ ∃ m, w.cell? ⟨1, 0, none⟩ = some (.int .i64 m)
theorem WEnv.below {w w' : World} (h : WEnv w) (hb : Below w.heap.size w w') : WEnv w' :=
  ⟨h.1.below hb, h.2.1.below hb, h.2.2.imp fun _ hm => cell_step hb hm⟩
theorem okT_at (t : Tk) (a : Nat) : okT { t with at_ := a } = okT t := rfl
theorem textS_at (t : Tk) (a : Nat) : textS { t with at_ := a } = textS t := rfl
theorem WOut.at {t : Tk} {a : Nat} {w w' : World} {e : Ending} (h : WOut { t with at_ := a } w e w') : WOut t w e w' := h
theorem lex_write (k : Nat) (n a1 a2 a3 a4 p : Int) (s : ByteArray) (w : World) (h1 : -9223372036854775808 ≤ n) (h2 : n ≤ 9223372036854775807) (hs : s.size ≤ 4611686018427387904) (he : WEnv w) :
    Calls Tryz.prog 43 #[.agg #[.int .u8 (k : Nat), .int .i64 n, .string s, .int .i64 a1, .int .i64 a2, .int .i64 a3, .int .i64 a4, .int .i64 p]] w (WOut ⟨k, n, s.data.toList, ⟨a1, a2, a3, a4⟩, 0⟩ w) := by
  by_cases hk : k = 0 ∨ 12 ≤ k
  · exact write_none k hk n a1 a2 a3 a4 p s w
  rcases (show k = 1 ∨ k = 2 ∨ k = 3 ∨ k = 4 ∨ k = 5 ∨ k = 6 ∨ k = 7 ∨ k = 8 ∨ k = 9 ∨ k = 10 ∨ k = 11 by omega) with rfl | rfl | rfl | rfl | rfl | rfl | rfl | rfl | rfl | rfl | rfl
  · exact write_1 n a1 a2 a3 a4 p s w h1 h2
  · exact write_2 n a1 a2 a3 a4 p s w hs he.2.2
  · exact write_3 n a1 a2 a3 a4 p s w
  · exact write_4 n a1 a2 a3 a4 p s w he.1
  · exact write_5 n a1 a2 a3 a4 p s w he.2.1
  · exact write_6 n a1 a2 a3 a4 p s w he.2.1
  · exact write_7 n a1 a2 a3 a4 p s w hs
  · exact write_8 n a1 a2 a3 a4 p s w
  · exact write_9 n a1 a2 a3 a4 p s w
  · exact write_10 n a1 a2 a3 a4 p s w
  · exact write_11 n a1 a2 a3 a4 p s w
theorem trimZ_len (l : List UInt8) : (trimZ l).length ≤ l.length := by
  unfold trimZ
  rw [List.length_reverse]
  refine Nat.le_trans (List.dropWhile_suffix _).length_le ?_
  rw [List.length_reverse]
  exact Nat.le_refl _
theorem decS_len (n : Int) (h1 : -9223372036854775808 ≤ n) (h2 : n ≤ 9223372036854775807) : (decS n).length ≤ 60 := by
  unfold decS
  have e1 := digits_le (n.natAbs / 10000) (by omega)
  have e2 := digits_le (10000 + n.natAbs % 10000) (by omega)
  have e3 := trimZ_len ((decDigits (10000 + n.natAbs % 10000)).drop 1)
  rw [List.length_drop] at e3
  rw [List.length_append, List.length_append]
  have e4 : (if n < 0 then [45] else [] : List UInt8).length ≤ 1 := by split <;> simp
  have e5 : (if n.natAbs % 10000 = 0 then [] else 46 :: trimZ ((decDigits (10000 + n.natAbs % 10000)).drop 1) : List UInt8).length ≤ 21 := by
    split
    · simp
    · rw [List.length_cons]; omega
  omega
theorem ite_len {p : Prop} [Decidable p] {a b : List UInt8} (ha : a.length ≤ 2) (hb : b.length ≤ 2) : (if p then a else b).length ≤ 2 := by
  split
  · exact ha
  · exact hb
theorem opText_len (n : Int) : (opText n).length ≤ 2 := by
  unfold opText
  iterate 13 (refine ite_len (by decide) ?_)
  decide
theorem textS_len (t : Tk) (h : okT t = true) (h1 : -9223372036854775808 ≤ t.num) (h2 : t.num ≤ 9223372036854775807) : (textS t).length ≤ 7000 := by
  unfold textS
  unfold okT at h
  by_cases k1 : t.kind = 1
  · rw [if_pos k1]; have := decS_len t.num h1 h2; omega
  rw [if_neg k1] at h ⊢
  by_cases k2 : t.kind = 2
  · rw [if_pos k2] at h ⊢
    simp only [Bool.and_eq_true, decide_eq_true_eq] at h
    omega
  rw [if_neg k2] at h ⊢
  by_cases k3 : t.kind = 3
  · rw [if_pos k3]; split <;> simp
  rw [if_neg k3] at h ⊢
  by_cases k4 : t.kind = 4
  · rw [if_pos k4]
    have key : ∀ x ∈ allNames, x.length ≤ 7000 := by decide
    cases h9 : allNames[t.num.toNat]? with
    | none => simp
    | some x => exact key x (List.mem_of_getElem? h9)
  rw [if_neg k4] at h ⊢
  have hf : (fmtR t.r).1.length ≤ 7000 := by
    unfold fmtR
    split
    · show (fmtL t.r).length ≤ 7000
      unfold fmtL
      have e1 := format_len t.r.c1 t.r.r1
      have e2 := format_len t.r.c2 t.r.r2
      rw [List.length_append]
      split
      · simp; omega
      · rw [List.length_cons]; omega
    · simp
  by_cases k5 : t.kind = 5
  · rw [if_pos k5]; exact hf
  rw [if_neg k5] at h ⊢
  by_cases k6 : t.kind = 6
  · rw [if_pos k6]; exact hf
  rw [if_neg k6] at h ⊢
  by_cases k7 : t.kind = 7
  · rw [if_pos k7] at h ⊢
    unfold nameB at h
    simp only [Bool.and_eq_true, decide_eq_true_eq] at h
    omega
  rw [if_neg k7] at h ⊢
  by_cases k8 : t.kind = 8
  · rw [if_pos k8]
    have := opText_len t.num
    omega
  rw [if_neg k8]
  split
  · simp
  · split <;> simp
end
section
open Go.RowKit

attribute [local go_sem high] eq_tok
/-- a token as it lies in memory: its place is any number -/
def rowI (x : Tk × Int) : List Value := [.int .u8 x.1.kind, .int .i64 x.1.num, .string ⟨x.1.text.toArray⟩, .int .i64 x.1.r.c1, .int .i64 x.1.r.r1, .int .i64 x.1.r.c2, .int .i64 x.1.r.r2, .int .i64 x.2]
structure TksAt (w : World) (a : Option Addr) (c : Nat) (ts : List (Tk × Int)) : Prop where
  le : ts.length ≤ c
  cap : c ≤ 9223372036854775807
  at_ : ts ≠ [] → ∃ b o, a = some ⟨b, o, none⟩ ∧ b < w.heap.size ∧ ∀ i t, ts[i]? = some t → ∀ j v, (rowI t)[j]? = some v → w.cell? ⟨b, o + (i * 8 + j), none⟩ = some v
theorem TksAt.below {w w' : World} {a : Option Addr} {c : Nat} {ts : List (Tk × Int)} (h : TksAt w a c ts) (hb : Below w.heap.size w w') : TksAt w' a c ts := by
  refine ⟨h.le, h.cap, fun hl => ?_⟩
  obtain ⟨b, o, e, h1, h2⟩ := h.at_ hl
  exact ⟨b, o, e, Nat.lt_of_lt_of_le h1 hb.size, fun i r hi j v hj => (hb.cell h1).trans (h2 i r hi j v hj)⟩
theorem flat_atW {α : Type} (f : α → List Value) (s : Nat) (hf : ∀ x, (f x).length = s) : ∀ (l : List α) (i : Nat) (x : α), l[i]? = some x → ∀ (j : Nat) (v : Value), (f x)[j]? = some v → (l.flatMap f)[i * s + j]? = some v
  | [], i, x, h, _, _, _ => by simp at h
  | y :: l, 0, x, h, j, v, hj => by
    simp at h
    subst h
    rw [List.flatMap_cons, Nat.zero_mul, Nat.zero_add, List.getElem?_append_left (by have := (List.getElem?_eq_some_iff.1 hj).1; exact this)]
    exact hj
  | y :: l, i + 1, x, h, j, v, hj => by
    have h9 := flat_atW f s hf l i x (by simpa using h) j v hj
    rw [List.flatMap_cons, List.getElem?_append_right (by rw [hf, Nat.add_mul]; omega), hf, show (i + 1) * s + j - s = i * s + j by rw [Nat.add_mul]; omega]
    exact h9
theorem tks_own {w : World} {base : Nat} {v : Value} {ts : List Tk} (h : w.ownsRow base 43 8 v ts.length (tkCells ts)) : ∃ a c, v = .slice a ts.length c ∧ TksAt w a c (ts.map fun t => (t, (t.at_ : Int))) := by
  have hc := @World.ownsRow.cells _ _ _ _ _ _ _ h
  have hlt := h.lt
  rcases h.2 with ⟨rfl, h0⟩ | ⟨g, cap, cur, rfl, h4, h5, h6, h7, h8, h9⟩
  · refine ⟨none, 0, by rw [h0], by rw [List.length_map]; omega, by omega, fun hne => ?_⟩
    rw [List.length_eq_zero_iff.1 h0] at hne
    exact absurd rfl hne
  · refine ⟨_, cap, rfl, by rw [List.length_map]; exact h6, by unfold maxLen at h7; omega, fun _ => ⟨g, 0, rfl, (hlt g rfl).2, fun i r hi j v hj => ?_⟩⟩
    rw [List.getElem?_map] at hi
    obtain ⟨x, hx, rfl⟩ := Option.map_eq_some_iff.1 hi
    have h10 := hc rfl _ v (flat_atW tkRow 8 (fun _ => rfl) ts i x hx j v hj)
    rw [show (⟨g, 0, none⟩ : Addr).add (i * 8 + j) = ⟨g, 0 + (i * 8 + j), none⟩ by unfold Addr.add; split <;> simp_all] at h10
    exact h10
/-- what a value in memory keeps to -/
def Tk.fits (t : Tk) : Prop := -9223372036854775808 ≤ t.num ∧ t.num ≤ 9223372036854775807 ∧ t.text.length ≤ 4611686018427387904
def Tk.flat (t : Tk) : Tk := { t with at_ := 0 }
/-- alike but for the place -/
def sameB (t u : Tk) : Bool := decide (t.kind = u.kind ∧ t.num = u.num ∧ t.text = u.text ∧ t.r.c1 = u.r.c1 ∧ t.r.r1 = u.r.r1 ∧ t.r.c2 = u.r.c2 ∧ t.r.r2 = u.r.r2)
def sameL : List Tk → List Tk → Bool
  | [], [] => true
  | t :: l, u :: m => sameB t u && sameL l m
  | _, _ => false
theorem sameB_iff (t u : Tk) : sameB t u = true ↔ t.flat = u.flat := by
  obtain ⟨k, n, x, ⟨a1, a2, a3, a4⟩, p⟩ := t
  obtain ⟨k', n', x', ⟨b1, b2, b3, b4⟩, p'⟩ := u
  simp [sameB, Tk.flat]
theorem sameL_iff : ∀ l m : List Tk, sameL l m = true ↔ l.map Tk.flat = m.map Tk.flat
  | [], [] => by simp [sameL]
  | [], _ :: _ => by simp [sameL]
  | _ :: _, [] => by simp [sameL]
  | t :: l, u :: m => by simp [sameL, sameB_iff, sameL_iff l m]
def writeS (us : List Tk) : List UInt8 × Int :=
  if us.all okT = true then
    if 256 < (us.flatMap textS).length then ([], 5)
    else if (tokensS (us.flatMap textS)).2.2 = 0 ∧ sameL (tokensS (us.flatMap textS)).1 us = true then (us.flatMap textS, 0) else ([], 4)
  else ([], 2)
def WriteOut (us : List Tk) (w : World) (e : Ending) (w' : World) : Prop :=
  e = .returned (.tuple #[.string ⟨(writeS us).1.toArray⟩, .int .i64 (writeS us).2]) ∧ Below w.heap.size w w'
/-- what has been written of some tokens -/
def Acc (us : List Tk) (l : List UInt8) : Prop := us.all okT = true ∧ l.length ≤ 7300 ∧ ((l.length ≤ 256 ∧ l = us.flatMap textS) ∨ (256 < l.length ∧ 256 < (us.flatMap textS).length))
theorem Acc.nil : Acc [] [] := ⟨rfl, by simp, .inl ⟨by simp, rfl⟩⟩
theorem Acc.add {us : List Tk} {l : List UInt8} {t : Tk} (h : Acc us l) (hl : l.length ≤ 256) (ht : okT t = true) (hf : t.fits) : Acc (us ++ [t]) (l ++ textS t) := by
  obtain ⟨h1, h2, h3⟩ := h
  have h4 := textS_len t ht hf.1 hf.2.1
  rcases h3 with ⟨-, rfl⟩ | ⟨h5, -⟩
  · refine ⟨by simp [List.all_append, h1, ht], by rw [List.length_append]; omega, ?_⟩
    have e : us.flatMap textS ++ textS t = (us ++ [t]).flatMap textS := by simp
    by_cases h6 : (us.flatMap textS ++ textS t).length ≤ 256
    · exact .inl ⟨h6, e⟩
    · exact .inr ⟨by omega, by rw [← e]; omega⟩
  · omega
theorem Acc.skip {us : List Tk} {l : List UInt8} {t : Tk} (h : Acc us l) (hl : ¬ l.length ≤ 256) (ht : okT t = true) : Acc (us ++ [t]) l := by
  obtain ⟨h1, h2, h3⟩ := h
  rcases h3 with ⟨h5, -⟩ | ⟨h5, h6⟩
  · exact absurd h5 hl
  · refine ⟨by simp [List.all_append, h1, ht], h2, .inr ⟨h5, ?_⟩⟩
    simp only [List.flatMap_append, List.length_append]
    omega
theorem write_bad {us : List Tk} {t : Tk} (ht : t ∈ us) (h : okT t = false) : writeS us = ([], 2) := by
  unfold writeS
  rw [if_neg]
  intro h9
  rw [List.all_eq_true.1 h9 t ht] at h
  cases h
theorem write_long {us : List Tk} {l : List UInt8} (h : Acc us l) (hl : 256 < l.length) : writeS us = ([], 5) := by
  obtain ⟨h1, -, ⟨h3, -⟩ | ⟨-, h3⟩⟩ := h
  · omega
  · unfold writeS
    rw [if_pos h1, if_pos h3]
theorem write_form {us : List Tk} {l : List UInt8} (h : Acc us l) (hx : l = us.flatMap textS) (hl : ¬ 256 < l.length) (hn : ¬ ((tokensS l).2.2 = 0 ∧ sameL (tokensS l).1 us = true)) : writeS us = ([], 4) := by
  subst hx
  unfold writeS
  rw [if_pos h.1, if_neg hl, if_neg hn]
theorem write_done {us : List Tk} {l : List UInt8} (h : Acc us l) (hx : l = us.flatMap textS) (hl : ¬ 256 < l.length) (hn : (tokensS l).2.2 = 0 ∧ sameL (tokensS l).1 us = true) : writeS us = (l, 0) := by
  subst hx
  unfold writeS
  rw [if_pos h.1, if_neg hl, if_pos hn]
theorem sameL_len : ∀ {l m : List Tk}, sameL l m = true → l.length = m.length
  | [], [], _ => rfl
  | _ :: l, _ :: m, h => by
    simp only [sameL, Bool.and_eq_true] at h
    simp [sameL_len h.2]
theorem take_fst {ts : List (Tk × Int)} {k : Nat} {x : Tk × Int} (h : ts[k]? = some x) : (ts.take (k + 1)).map Prod.fst = (ts.take k).map Prod.fst ++ [x.1] := by
  rw [List.take_add_one, h, List.map_append]
  rfl
theorem sameL_add {l m : List Tk} {t u : Tk} {j : Nat} (h : sameL (l.take j) (m.take j) = true) (h1 : l[j]? = some t) (h2 : m[j]? = some u) (h3 : sameB t u = true) : sameL (l.take (j + 1)) (m.take (j + 1)) = true := by
  rw [sameL_iff] at h ⊢
  rw [List.take_add_one, List.take_add_one, h1, h2, List.map_append, List.map_append, h]
  simp [(sameB_iff t u).1 h3]
theorem sameL_at {l m : List Tk} {t u : Tk} {j : Nat} (h : sameL l m = true) (h1 : l[j]? = some t) (h2 : m[j]? = some u) : sameB t u = true := by
  rw [sameL_iff] at h
  rw [sameB_iff]
  have h9 := congrArg (fun z : List Tk => z[j]?) h
  simp only [List.getElem?_map, h1, h2, Option.map_some, Option.some.injEq] at h9
  exact h9
theorem at_fst {l : List Tk} {j : Nat} {x : Tk} {p : Int} (h : (l.map fun t => (t, (t.at_ : Int)))[j]? = some (x, p)) : l[j]? = some x := by
  rw [List.getElem?_map] at h
  obtain ⟨y, h1, h2⟩ := Option.map_eq_some_iff.1 h
  cases h2
  exact h1
theorem fst_at {l : List (Tk × Int)} {j : Nat} {x : Tk × Int} (h : l[j]? = some x) : (l.map Prod.fst)[j]? = some x.1 := by
  rw [List.getElem?_map, h]
  rfl
set_option maxRecDepth 100000 in
set_option maxHeartbeats 8000000 in
theorem lex_Write (ts : List (Tk × Int)) (a : Option Addr) (c : Nat) (w : World) (ha : TksAt w a c ts) (hf : ∀ t ∈ ts, t.1.fits) (he : WEnv w) (hN : ts.length ≤ 1000000000000) :
    Calls Tryz.prog 22 #[.slice a ts.length c] w (WriteOut (ts.map Prod.fst) w) := by
  obtain ⟨N, hl⟩ : ∃ N, ts.length = N := ⟨_, rfl⟩
  rw [hl] at hN ⊢
  have HL := keep hl
  have HA := keep ha
  have HF := keep hf
  have HE := keep he
  clear hl ha hf he
  have hB0 := Lib.hid (Bld.new w)
  have hW0 := Lib.hid ((Below.refl w.heap.size w).alloc (Nat.le_refl _) (.cells #[.pointer none, .slice none 0 0] 79))
  go_enter Tryz.func22, Tryz.ntmps22
  go_wp2_with fail
  go_loopw [16] (fun i wr => ∃ (k : Nat) (l : List UInt8), k ≤ N ∧ i = .int .i64 (k : Int) ∧ Keep (Acc ((ts.take k).map Prod.fst) l) ∧ Hid (Bld w.heap.size w.heap.size l wr) ∧ Hid (Below w.heap.size w wr)) (fun i _ => N - (intOf i).toNat)
  case atStart => exact ⟨0, [], Nat.zero_le _, rfl, keep Acc.nil, hB0, hW0⟩
  case round =>
    clear hB0 hW0
    obtain ⟨k, l, hk, rfl, HC, HB, HW⟩ := hrel
    obtain ⟨wp, rfl⟩ : ∃ wp : World, wp = wr := ⟨_, rfl⟩
    by_cases hlt : (k : Int) < N
    · have hil : k < ts.length := by rw [HL.out]; omega
      obtain ⟨x, hx⟩ : ∃ x, ts[k] = x := ⟨_, rfl⟩
      obtain ⟨b1, o1, ha1, hB1, hc1⟩ := HA.out.at_ (by intro e; rw [e] at hil; simp at hil)
      subst ha1
      have hgk : ts[k]? = some x := by rw [List.getElem?_eq_getElem hil, hx]
      have g1 := hc1 k x hgk
      have hfx := HF.out x (hx ▸ List.getElem_mem hil)
      obtain ⟨⟨tk, tn, tt, ⟨r1, r2, r3, r4⟩, ta⟩, p⟩ := x
      have c0 := (HW.out.cell hB1).trans (g1 0 _ rfl)
      have c1 := (HW.out.cell hB1).trans (g1 1 _ rfl)
      have c2 := (HW.out.cell hB1).trans (g1 2 _ rfl)
      have c3 := (HW.out.cell hB1).trans (g1 3 _ rfl)
      have c4 := (HW.out.cell hB1).trans (g1 4 _ rfl)
      have c5 := (HW.out.cell hB1).trans (g1 5 _ rfl)
      have c6 := (HW.out.cell hB1).trans (g1 6 _ rfl)
      have c7 := (HW.out.cell hB1).trans (g1 7 _ rfl)
      simp only [Nat.add_zero, ← Nat.add_assoc] at c0 c1 c2 c3 c4 c5 c6 c7
      have hb1 : b1 < wp.heap.size := Nat.lt_of_lt_of_le hB1 HW.out.size
      have HFX := keep hfx
      have HGK := keep hgk
      clear hil hx hc1 g1 hfx hgk hB1
      go_wp2_with fail
      obtain ⟨q, hq⟩ : ∃ q, okT ⟨tk, tn, tt, ⟨r1, r2, r3, r4⟩, ta⟩ = q := ⟨_, rfl⟩
      refine (lex_write tk tn r1 r2 r3 r4 p ⟨tt.toArray⟩ _ HFX.out.1 HFX.out.2.1 (by have h9 := HFX.out.2.2; show tt.toArray.size ≤ _; rw [List.size_toArray]; exact h9) (HE.out.below (HW.out.alloc HW.out.size _))).mono ?_
      rintro e w1 hout
      obtain ⟨y, he, hy, hb⟩ := hout
      have he2 : e = .returned (.tuple #[.string y, .bool q]) := by rw [he, ← hq]; rfl
      have hy2 : q = true → y.data.toList = textS ⟨tk, tn, tt, ⟨r1, r2, r3, r4⟩, ta⟩ := fun h => hy (hq.trans h)
      subst he2
      have HQ := keep hq
      have HY := keep hy2
      have HB1 := Lib.hid ((HB.out.below ((Below.refl _ _).alloc (Nat.le_refl _) _)).below hb)
      have HW1 := Lib.hid ((HW.out.alloc HW.out.size _).trans (hb.mono (HW.out.alloc HW.out.size _).size))
      clear c0 c1 c2 c3 c4 c5 c6 c7 hb HB HW hb1 he hy hq hy2
      have hsz := HW1.out.size
      cases q with
      | false =>
        go_wp2_with fail
        refine bodyPost_ret (v := .tuple #[.string ⟨#[]⟩, .int .i64 2]) (by simp [results, Tryz.results22, go_sem]) rfl ⟨?_, HW1.out⟩
        rw [write_bad (List.mem_map_of_mem (f := Prod.fst) (List.mem_of_getElem? HGK.out)) HQ.out]
      | true =>
        go_wp2_with fail
        refine (Bld.len HB1.out).mono ?_
        rintro e w2 ⟨rfl, rfl⟩
        by_cases hl : l.length ≤ 256
        · have e1 : decide ((l.length : Int) ≤ 256) = true := decide_eq_true (by omega)
          go_wp2_with fail
          refine (Bld.write HB1.out y ?_ hsz).mono ?_
          · have h9 := textS_len _ HQ.out HFX.out.1 HFX.out.2.1
            have h8 := HY.out trivial
            have h7 : y.data.toList.length = y.size := Array.length_toList
            rw [h8] at h7
            omega
          rintro e w3 ⟨rfl, hB3, hb3⟩
          go_wp2_with fail
          go_roundw
          case rel => exact ⟨k + 1, l ++ y.data.toList, by omega, by go_num, keep (by rw [take_fst HGK.out, HY.out trivial]; exact HC.out.add hl HQ.out HFX.out), Lib.hid hB3, Lib.hid (HW1.out.trans hb3)⟩
          case measure => simp [intOf]; omega
        · have e1 : decide ((l.length : Int) ≤ 256) = false := decide_eq_false (by omega)
          go_wp2_with fail
          go_roundw
          case rel => exact ⟨k + 1, l, by omega, by go_num, keep (by rw [take_fst HGK.out]; exact HC.out.skip hl HQ.out), HB1, HW1⟩
          case measure => simp [intOf]; omega
    · obtain rfl : k = N := by omega
      have hall : (ts.take k).map Prod.fst = ts.map Prod.fst := by rw [List.take_of_length_le (Nat.le_of_eq HL.out)]
      have HC2 := keep (hall ▸ HC.out)
      clear HC hall
      go_wp2_with fail
      refine (Bld.len HB.out).mono ?_
      rintro e w2 ⟨rfl, rfl⟩
      by_cases hl : 256 < l.length
      · have e1 : decide ((256 : Int) < (l.length : Int)) = true := decide_eq_true (by omega)
        go_wp2_with fail
        refine bodyPost_ret (v := .tuple #[.string ⟨#[]⟩, .int .i64 5]) (by simp [results, Tryz.results22, go_sem]) rfl ⟨?_, HW.out⟩
        rw [write_long HC2.out hl]
      · have e1 : decide ((256 : Int) < (l.length : Int)) = false := decide_eq_false (by omega)
        go_wp2_with fail
        refine (Bld.text HB.out HW.out.size).mono ?_
        rintro e w3 ⟨rfl, hB3, hb3⟩
        have HB3 := Lib.hid hB3
        have HW3 := Lib.hid (HW.out.trans hb3)
        clear hB3 hb3 HB HW
        go_wp2_with fail
        obtain ⟨T, hT⟩ : ∃ T, tokensS l = T := ⟨_, rfl⟩
        refine (lex_Tokens ⟨l.toArray⟩ _ (by show l.toArray.size ≤ _; rw [List.size_toArray]; omega) (HE.out.1.below HW3.out)).mono ?_
        rintro e w4 hout
        obtain ⟨v, he, hown, hb4⟩ := hout
        rw [show (⟨l.toArray⟩ : ByteArray).data.toList = l from rfl, hT] at he hown
        obtain ⟨a2, c2, rfl, hat⟩ := tks_own hown
        subst he
        have HT := keep hT
        have HA2 := keep hat
        have HB4 := Lib.hid (HB3.out.below hb4)
        have HW4 := Lib.hid (HW3.out.trans (hb4.mono HW3.out.size))
        clear hT hown hat hb4 HB3 HW3
        obtain ⟨ts2, at2, e2⟩ := T
        have hX : l = (ts.map Prod.fst).flatMap textS := by
          rcases HC2.out.2.2 with h | h
          · exact h.2
          · exact absurd h.1 hl
        have HX := keep hX
        clear hX
        by_cases he2 : e2 = 0
        · subst he2
          by_cases hn : ts2.length = k
          · have e3 : (((ts2.length : Nat) : Int) != ((k : Nat) : Int)) = false := by rw [hn]; simp
            have HA4 := Lib.hid (HA.out.below HW4.out)
            go_wp2_with fail
            go_loopw [51] (fun i wr => ∃ j : Nat, j ≤ k ∧ i = .int .i64 (j : Int) ∧ Keep (sameL (ts2.take j) ((ts.map Prod.fst).take j) = true) ∧ Hid (Bld w.heap.size w.heap.size l wr) ∧ Hid (Below w.heap.size w wr) ∧ Hid (Below w4.heap.size w4 wr)) (fun i _ => k - (intOf i).toNat)
            case atStart => exact ⟨0, Nat.zero_le _, rfl, keep rfl, HB4, HW4, Below.refl _ _⟩
            case round =>
              obtain ⟨j, hj, rfl, HS, HB5, HW5, HV5⟩ := hrel
              obtain ⟨wq, rfl⟩ : ∃ wq : World, wq = wr := ⟨_, rfl⟩
              by_cases hlt2 : (j : Int) < k
              · have hj1 : j < (ts2.map fun t => (t, (t.at_ : Int))).length := by rw [List.length_map, hn]; omega
                have hj2 : j < ts.length := by rw [HL.out]; omega
                obtain ⟨b1, o1, ha1, hB1, hc1⟩ := HA2.out.at_ (by intro e; rw [e] at hj1; simp at hj1)
                obtain ⟨b2, o2, ha2, hB2, hc2⟩ := HA.out.at_ (by intro e; rw [e] at hj2; simp at hj2)
                subst ha1 ha2
                obtain ⟨x, hx⟩ : ∃ x, (ts2.map fun t => (t, (t.at_ : Int)))[j]? = some x := ⟨_, List.getElem?_eq_getElem hj1⟩
                obtain ⟨y, hy⟩ : ∃ y, ts[j]? = some y := ⟨_, List.getElem?_eq_getElem hj2⟩
                have g1 := hc1 j x hx
                have g2 := hc2 j y hy
                obtain ⟨⟨sk, sn, st, ⟨s1, s2, s3, s4⟩, sa⟩, sp⟩ := x
                obtain ⟨⟨tk, tn, tt, ⟨r1, r2, r3, r4⟩, ta⟩, p⟩ := y
                have c0 := (HV5.out.cell hB1).trans (g1 0 _ rfl)
                have d0 := (HW5.out.cell hB2).trans (g2 0 _ rfl)
                have c1 := (HV5.out.cell hB1).trans (g1 1 _ rfl)
                have d1 := (HW5.out.cell hB2).trans (g2 1 _ rfl)
                have c2 := (HV5.out.cell hB1).trans (g1 2 _ rfl)
                have d2 := (HW5.out.cell hB2).trans (g2 2 _ rfl)
                have c3 := (HV5.out.cell hB1).trans (g1 3 _ rfl)
                have d3 := (HW5.out.cell hB2).trans (g2 3 _ rfl)
                have c4 := (HV5.out.cell hB1).trans (g1 4 _ rfl)
                have d4 := (HW5.out.cell hB2).trans (g2 4 _ rfl)
                have c5 := (HV5.out.cell hB1).trans (g1 5 _ rfl)
                have d5 := (HW5.out.cell hB2).trans (g2 5 _ rfl)
                have c6 := (HV5.out.cell hB1).trans (g1 6 _ rfl)
                have d6 := (HW5.out.cell hB2).trans (g2 6 _ rfl)
                have c7 := (HV5.out.cell hB1).trans (g1 7 _ rfl)
                have d7 := (HW5.out.cell hB2).trans (g2 7 _ rfl)
                simp only [Nat.add_zero, ← Nat.add_assoc] at c0 c1 c2 c3 c4 c5 c6 c7 d0 d1 d2 d3 d4 d5 d6 d7
                have hb1 : b1 < wq.heap.size := Nat.lt_of_lt_of_le hB1 HV5.out.size
                have hb2 : b2 < wq.heap.size := Nat.lt_of_lt_of_le hB2 HW5.out.size
                have HXX := keep hx
                have HYY := keep hy
                have hm : (j : Int) < ts2.length := by rw [hn]; omega
                clear hj1 hj2 hc1 hc2 g1 g2 hx hy hB1 hB2
                go_wp2_with fail
                go_region_held3 (fun w' => w'.cell? ⟨wq.heap.size, 0, none⟩ = some (.int .u8 sk) ∧ w'.cell? ⟨wq.heap.size, 1, none⟩ = some (.int .i64 sn) ∧ w'.cell? ⟨wq.heap.size, 2, none⟩ = some (.string ⟨st.toArray⟩) ∧ w'.cell? ⟨wq.heap.size, 3, none⟩ = some (.int .i64 s1) ∧ w'.cell? ⟨wq.heap.size, 4, none⟩ = some (.int .i64 s2) ∧ w'.cell? ⟨wq.heap.size, 5, none⟩ = some (.int .i64 s3) ∧ w'.cell? ⟨wq.heap.size, 6, none⟩ = some (.int .i64 s4) ∧ w'.cell? ⟨wq.heap.size, 7, none⟩ = some (.int .i64 p) ∧ w'.cell? ⟨b2, o2 + j * 8, none⟩ = some (.int .u8 tk) ∧ w'.cell? ⟨b2, o2 + j * 8 + 1, none⟩ = some (.int .i64 tn) ∧ w'.cell? ⟨b2, o2 + j * 8 + 2, none⟩ = some (.string ⟨tt.toArray⟩) ∧ w'.cell? ⟨b2, o2 + j * 8 + 3, none⟩ = some (.int .i64 r1) ∧ w'.cell? ⟨b2, o2 + j * 8 + 4, none⟩ = some (.int .i64 r2) ∧ w'.cell? ⟨b2, o2 + j * 8 + 5, none⟩ = some (.int .i64 r3) ∧ w'.cell? ⟨b2, o2 + j * 8 + 6, none⟩ = some (.int .i64 r4) ∧ w'.cell? ⟨b2, o2 + j * 8 + 7, none⟩ = some (.int .i64 p)) (go_keep) (fail)
                have hq8 : eq8 sk sn s1 s2 s3 s4 p tk tn r1 r2 r3 r4 p st tt = sameB ⟨sk, sn, st, ⟨s1, s2, s3, s4⟩, sa⟩ ⟨tk, tn, tt, ⟨r1, r2, r3, r4⟩, ta⟩ := by
                  unfold eq8 sameB
                  rw [Bool.eq_iff_iff]
                  simp only [Bool.and_eq_true, decide_eq_true_eq, and_true]
                  rw [Int.ofNat_inj]
                have HQ8 := keep hq8
                clear hq8
                go_wp2_with fail
                · rename_i hne
                  have hne2 : (!eq8 sk sn s1 s2 s3 s4 p tk tn r1 r2 r3 r4 p st tt) = true := hne
                  rw [HQ8.out] at hne2
                  have HQ := keep hne2
                  clear hne hne2
                  refine bodyPost_ret (v := .tuple #[.string ⟨#[]⟩, .int .i64 4]) (by simp [results, Tryz.results22, go_sem]) rfl ⟨?_, (HW5.out.alloc HW5.out.size _).drew⟩
                  rw [write_form HC2.out HX.out hl (by
                    rw [HT.out]
                    rintro ⟨-, h9⟩
                    have h8 := sameL_at (l := ts2) h9 (at_fst HXX.out) (fst_at HYY.out)
                    have h7 := HQ.out
                    rw [h8] at h7
                    cases h7)]
                · rename_i hne
                  have hne2 : (!eq8 sk sn s1 s2 s3 s4 p tk tn r1 r2 r3 r4 p st tt) = false := hne
                  rw [HQ8.out] at hne2
                  have HQ := keep (show sameB ⟨sk, sn, st, ⟨s1, s2, s3, s4⟩, sa⟩ ⟨tk, tn, tt, ⟨r1, r2, r3, r4⟩, ta⟩ = true by simpa using hne2)
                  clear hne hne2
                  go_roundw
                  case rel =>
                    refine ⟨j + 1, by omega, by go_num, keep ?_, Lib.hid (HB5.out.below (((Below.refl _ _).alloc (Nat.le_refl _) _).drew)), Lib.hid (HW5.out.alloc HW5.out.size _).drew, Lib.hid (HV5.out.alloc HV5.out.size _).drew⟩
                    exact sameL_add HS.out (at_fst HXX.out) (fst_at HYY.out) HQ.out
                  case measure => simp [intOf]; omega
              · have hm : ¬ (j : Int) < ts2.length := by rw [hn]; omega
                go_wp2_with fail
                refine (Bld.text HB5.out HW5.out.size).mono ?_
                rintro e w6 ⟨rfl, -, hb6⟩
                have HW6 := Lib.hid (HW5.out.trans hb6)
                clear hb6
                go_wp2_with fail
                refine bodyPost_ret (v := .tuple #[.string ⟨l.toArray⟩, .int .i64 0]) (by simp [results, Tryz.results22, go_sem]) rfl ⟨?_, HW6.out⟩
                have h9 := HS.out
                have h8 := HL.out
                rw [List.take_of_length_le (by omega), List.take_of_length_le (by rw [List.length_map]; omega)] at h9
                rw [write_done HC2.out HX.out hl (by rw [HT.out]; exact ⟨rfl, h9⟩)]
          · have e3 : (((ts2.length : Nat) : Int) != ((k : Nat) : Int)) = true := by simp; omega
            go_wp2_with fail
            refine bodyPost_ret (v := .tuple #[.string ⟨#[]⟩, .int .i64 4]) (by simp [results, Tryz.results22, go_sem]) rfl ⟨?_, HW4.out⟩
            rw [write_form HC2.out HX.out hl (by rw [HT.out]; rintro ⟨-, h9⟩; have h8 : ts2.length = (ts.map Prod.fst).length := sameL_len h9; rw [List.length_map] at h8; have := HL.out; omega)]
        · have e3 : (e2 != 0) = true := by simp [he2]
          go_wp2_with fail
          refine bodyPost_ret (v := .tuple #[.string ⟨#[]⟩, .int .i64 4]) (by simp [results, Tryz.results22, go_sem]) rfl ⟨?_, HW4.out⟩
          rw [write_form HC2.out HX.out hl (by rw [HT.out]; rintro ⟨h9, -⟩; exact he2 h9)]
end
end Go.Proofs.YtlngjiibbcgkmaaGreatDoor
