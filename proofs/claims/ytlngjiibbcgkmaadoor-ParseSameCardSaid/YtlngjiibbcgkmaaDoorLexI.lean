/- The contract of glyph.Unquote, at the literals that the lexer finds. -/
import Derived.Test.YtlngjiibbcgkmaaDoorLexH
import Derived.Test.YtlngjiibbcgkmaaDoorLexB
import Derived.Test.YtlngjiibbcgkmaaDoorLexP
import Derived.Laws.BytesArg
import Derived.Lib.BufferRead
import Derived.WalkMore
namespace Go.Proofs.YtlngjiibbcgkmaaDoor
open Go.RowKit

theorem bytesV_snoc (l : List UInt8) (b : UInt8) : bytesV (l ++ [b]) = bytesV l ++ [.int .u8 b.toNat] := by simp [bytesV]
theorem bytesV_len (l : List UInt8) : (bytesV l).length = l.length := by simp [bytesV]
theorem info_u8 : (Tryd.prog.info? 5).map (fun i => (i.zero, i.size, i.bytes)) = some (some (.int .u8 0), 1, 1) := by kernel_rfl
/-- a row of bytes of the call's own, made a string -/
theorem own_string {w : World} {base : Nat} {v : Value} {l : List UInt8} (h : w.ownsRow base 5 1 v l.length (bytesV l)) :
    (convert 40 9 v).run Tryd.prog w = .ok (.string ⟨l.toArray⟩) w := by
  have hc := @World.ownsRow.cells _ _ _ _ _ _ _ h
  rcases h.2 with ⟨rfl, hl⟩ | ⟨g, cap, cur, rfl, _, _, hn, hm, _⟩
  · obtain rfl : l = [] := List.length_eq_zero_iff.1 hl
    exact Lib.run_convert_nil_bytes w 40 9 5 0 Tryd.underlying40 Tryd.underlying5 Tryd.underlying9
  · refine run_convert_bytes_back w 40 9 5 ⟨g, 0, none⟩ cap l Tryd.underlying40 Tryd.underlying5 Tryd.underlying9 fun j hj => ?_
    exact hc rfl j _ (by simp [bytesV]; exact ⟨_, List.getElem?_eq_getElem hj, rfl⟩)
theorem own_len {w : World} {base : Nat} {v : Value} {e : TypeId} {s n : Nat} {l : List Value} (h : w.ownsRow base e s v n l) : ∃ a c, v = .slice a n c := by
  rcases h.2 with ⟨rfl, hl⟩ | ⟨g, cap, cur, rfl, _, _, hn, hm, _⟩
  · exact ⟨none, 0, by rw [hl]⟩
  · exact ⟨_, _, rfl⟩
theorem unq_step {L : List UInt8} {k n : Nat} {t : List UInt8} (hn : L.length = n) (hk : k + 1 < n) (h : unqS (L.drop k) = some (t, n - k)) :
    (L[k]'(by omega) ≠ 34 ∧ ∃ t2, t = L[k]'(by omega) :: t2 ∧ unqS (L.drop (k + 1)) = some (t2, n - (k + 1))) ∨ (L[k]'(by omega) = 34 ∧ k + 2 < n ∧ L[k + 1]'(by omega) = 34 ∧ ∃ t2, t = 34 :: t2 ∧ unqS (L.drop (k + 2)) = some (t2, n - (k + 2))) := by
  have h1 : L.drop k = L[k]'(by omega) :: L[k + 1]'(by omega) :: L.drop (k + 2) := by
    rw [List.drop_eq_getElem_cons (by omega), List.drop_eq_getElem_cons (by omega)]
  have h2 : L.drop (k + 1) = L[k + 1]'(by omega) :: L.drop (k + 2) := List.drop_eq_getElem_cons (by omega)
  rw [h1, unq_two] at h
  split at h
  · rename_i h34
    split at h
    · rename_i h34'
      cases hu : unqS (L.drop (k + 2)) with
      | none => rw [hu] at h; simp at h
      | some x =>
        rw [hu] at h
        simp only [Option.map_some, Option.some.injEq, Prod.mk.injEq] at h
        obtain ⟨rfl, h9⟩ := h
        have h8 : k + 2 < n := by
          refine Nat.lt_of_not_le fun hge => ?_
          rw [List.drop_eq_nil_of_le (by omega)] at hu
          simp [unqS] at hu
        refine .inr ⟨h34, h8, h34', x.1, rfl, ?_⟩
        rw [show n - (k + 2) = x.2 by omega]
    · simp only [Option.some.injEq, Prod.mk.injEq] at h
      omega
  · rename_i h34
    rw [← h2] at h
    cases hu : unqS (L.drop (k + 1)) with
    | none => rw [hu] at h; simp at h
    | some x =>
      rw [hu] at h
      simp only [Option.map_some, Option.some.injEq, Prod.mk.injEq] at h
      obtain ⟨rfl, h9⟩ := h
      exact .inl ⟨h34, x.1, rfl, by rw [show n - (k + 1) = x.2 by omega]⟩
theorem unq_last {L : List UInt8} {n : Nat} {t : List UInt8} (hn : L.length = n) (h1 : 1 ≤ n) (h : unqS (L.drop (n - 1)) = some (t, 1)) : t = [] := by
  have h2 : L.drop (n - 1) = [L[n - 1]'(by omega)] := by
    rw [List.drop_eq_getElem_cons (by omega), List.drop_eq_nil_of_le (by omega)]
  rw [h2, unq_one] at h
  split at h <;> simp at h
  exact h
/-- what the loop of Unquote keeps -/
def Unq (L t : List UInt8) (n k : Nat) (l : List UInt8) : Prop := ∃ t2, unqS (L.drop k) = some (t2, n - k) ∧ t = l ++ t2
theorem Unq.step {L t : List UInt8} {n k : Nat} {l : List UInt8} (hn : L.length = n) (hk : k + 1 < n) (h : Unq L t n k l) :
    (L[k]'(by omega) ≠ 34 ∧ Unq L t n (k + 1) (l ++ [L[k]'(by omega)])) ∨ (L[k]'(by omega) = 34 ∧ k + 2 < n ∧ L[k + 1]'(by omega) = 34 ∧ Unq L t n (k + 2) (l ++ [34])) := by
  obtain ⟨t2, h1, h2⟩ := h
  rcases unq_step hn hk h1 with ⟨h3, t3, rfl, h4⟩ | ⟨h3, h5, h6, t3, rfl, h4⟩
  · exact .inl ⟨h3, t3, h4, by rw [h2]; simp⟩
  · exact .inr ⟨h3, h5, h6, t3, h4, by rw [h2]; simp⟩
set_option maxRecDepth 100000 in
set_option maxHeartbeats 4000000 in
theorem glyph_Unquote (s : ByteArray) (x t : List UInt8) (w : World) (hs : s.size ≤ 1000) (hx : s.data.toList = 34 :: x) (ht : unqS x = some (t, x.length)) (hp : s.data.toList.all plainB = true) (h256 : t.length ≤ 256) :
    Calls Tryd.prog 30 #[.string s] w fun e w' => e = .returned (.tuple #[.string ⟨t.toArray⟩, .int .i64 0]) ∧ Below w.heap.size w w' := by
  obtain ⟨i0, hi, hz0, hz1, hz2⟩ := info_parts info_u8
  have hsl : s.data.toList.length = s.size := by rw [Array.length_toList]; rfl
  have hx1 : 1 ≤ x.length := by
    cases x with
    | nil => simp [unqS] at ht
    | cons => simp
  have hsz : s.size = x.length + 1 := by rw [← hsl, hx]; rfl
  have h0 : 0 < s.size := by omega
  have h2 : 2 ≤ s.size := by omega
  have hU : Unq s.data.toList t s.size 1 [] := ⟨t, by rw [hx, hsz]; exact ht, rfl⟩
  have hc0 : s[0]'h0 = 34 := by
    show s.data.toList[0]'(by rw [hsl]; exact h0) = 34
    simp [hx]
  obtain ⟨z, hz⟩ : ∃ z, s.size - 1 = z := ⟨_, rfl⟩
  have hzs : z < s.size := by omega
  have hzz : (s.size : Int) - 1 = (z : Int) := by omega
  have hcz : s[z]'hzs = 34 := by
    have h9 := unq_stop
    clear h9
    have key : ∀ (m : Nat) (l t : List UInt8), l.length ≤ m → unqS l = some (t, l.length) → ∀ h : l ≠ [], l.getLast h = 34 := by
      intro m
      induction m with
      | zero => intro l t hl _ h; exact absurd (List.length_eq_zero_iff.1 (by omega)) h
      | succ m ih =>
        intro l t hl hu h
        match l, hl, hu, h with
        | [b], _, hu, _ =>
          rw [unq_one] at hu
          split at hu
          · rename_i hb; exact hb
          · simp at hu
        | b :: c :: r, hl, hu, _ =>
          rw [unq_two] at hu
          split at hu
          · split at hu
            · rename_i hc
              cases h9 : unqS r with
              | none => rw [h9] at hu; simp at hu
              | some y =>
                rw [h9] at hu
                simp only [Option.map_some, Option.some.injEq, Prod.mk.injEq, List.length_cons] at hu
                have hr : r ≠ [] := by rintro rfl; simp [unqS] at h9
                rw [List.getLast_cons (by simp), List.getLast_cons hr]
                exact ih r y.1 (by simp at hl; omega) (by rw [h9, show r.length = y.2 by omega]) hr
            · simp at hu
          · cases h9 : unqS (c :: r) with
            | none => rw [h9] at hu; simp at hu
            | some y =>
              rw [h9] at hu
              simp only [Option.map_some, Option.some.injEq, Prod.mk.injEq, List.length_cons] at hu
              rw [List.getLast_cons (by simp)]
              exact ih (c :: r) y.1 (by simp at hl ⊢; omega) (by rw [h9, List.length_cons, show r.length + 1 = y.2 by omega]) (by simp)
    have hne : x ≠ [] := by intro e; rw [e] at hx1; simp at hx1
    have h9 := key _ x t (Nat.le_refl _) ht hne
    show s.data.toList[z]'(by rw [hsl]; exact hzs) = 34
    rw [List.getLast_eq_getElem] at h9
    rw [← h9]
    simp only [hx]
    rw [List.getElem_cons]
    rw [dif_neg (by omega)]
    congr 1
    omega
  have hi0 : ((s[0]'h0).toNat : Int) = 34 := by rw [hc0]; rfl
  have hiz : ((s[z]'hzs).toNat : Int) = 34 := by rw [hcz]; rfl
  have hb0 : (((s[0]'h0).toNat : Int) != 34) = false := by rw [hi0]; rfl
  have hbz : (((s[z]'hzs).toNat : Int) != 34) = false := by rw [hiz]; rfl
  have HU := keep hU
  have HSL := keep hsl
  have HP := keep hp
  have HZ := keep hz
  have HT := keep h256
  clear hx ht hp hU hsl hx1 hsz hc0 hcz hi0 hiz hz h256
  go_enter Tryd.func30, Tryd.ntmps30
  go_wp2_with fail
  go_step3
  go_wp2_with fail
  refine (glyph_printable s _ (by omega)).mono ?_
  rintro e w1 ⟨rfl, hb⟩
  rw [HP.out]
  have H1 := Lib.hid ((Ok.start w).below hb)
  clear hb
  go_wp2_with fail
  go_step3
  clear hb0 hbz
  go_wp2_with fail
  go_loopw [5, 6] (fun ov iv wr => ∃ (k : Nat) (l : List UInt8), 1 ≤ k ∧ k ≤ z ∧ iv = .int .i64 (k : Int) ∧ l.length ≤ k ∧ Keep (Unq s.data.toList t s.size k l) ∧ Hid (OkRow w [] 5 1 ov l.length (bytesV l) wr)) (fun _ iv _ => s.size - (intOf iv).toNat)
  case atStart => exact ⟨1, [], Nat.le_refl _, by have := HZ.out; omega, rfl, Nat.zero_le _, HU, Lib.hid (OkRow.start H1.out _ _)⟩
  case round =>
    clear HU H1
    obtain ⟨k, l, hk1, hk, rfl, hll, HU, H⟩ := hrel
    by_cases hlt : (k : Int) = z
    · have hlt2 : k = z := by omega
      subst hlt2
      have ht : t = l := by
        obtain ⟨t2, h3, h4⟩ := HU.out
        rw [show s.size - k = 1 by omega] at h3
        rw [h4, unq_last (L := s.data.toList) (n := s.size) (t := t2) HSL.out (by omega) (by rw [HZ.out]; exact h3), List.append_nil]
      subst ht
      clear hlt
      have hcv := own_string H.out.own
      obtain ⟨a, c, hv⟩ := own_len H.out.own
      subst hv
      have hl1 := HT.out
      clear HU
      go_wp2_with fail
      rw [Exit.noGoto_ret]
      exact bodyPost_ret (v := .tuple #[.string ⟨t.toArray⟩, .int .i64 0]) (by simp [results, Tryd.results30, go_sem]) rfl ⟨rfl, H.out.ok.bel⟩
    · have hkn : k + 1 < s.size := by omega
      have hks : k < s.size := by omega
      rcases Unq.step HSL.out hkn HU.out with ⟨h3, h4⟩ | ⟨h3, h5, h6, h4⟩
      · have h3' : s[k]'hks ≠ 34 := h3
        have hi3 : ¬ ((s[k]'hks).toNat : Int) = 34 := by
          intro e
          exact h3' (by rw [← UInt8.toNat_inj]; show _ = 34; omega)
        have HU2 := keep (show Unq s.data.toList t s.size (k + 1) (l ++ [s[k]'hks]) from h4)
        obtain ⟨b, hb⟩ : ∃ b, s[k]'hks = b := ⟨_, rfl⟩
        rw [hb] at HU2 hi3
        have hbi : ((s[k]'hks).toNat : Int) = (b.toNat : Int) := by rw [hb]
        clear h3 h3' h4 hb
        go_wp2_with (at_builtin; refine wpList_append_lies _ rfl _ _ _ rfl w.heap.size 5 i0 _ 1 1 Tryd.underlying40 hi hz0 hz1 hz2 rfl (by omega) _ _ _ rfl (H.out.own.alloc _) ⟨wr.heap.size, 0, none⟩ 1 1 [.int .u8 b.toNat] rfl rfl (World.news_of_block (cs := #[.int .u8 b.toNat]) (t := 5) (fr := (0, 0)) (heap_alloc_new _ _)) (by intro u hu; simp at hu; rcases hu with rfl; rfl) (by omega) (by unfold maxLen; omega) (by omega) (by have := H.out.ok.bel.size; simp; omega) _ rfl ?_; intro g cap w3 hown3 hgrow3 hat3 hlt3)
        go_roundw
        case rel => exact ⟨k + 1, l ++ [b], by omega, by omega, by go_num, by simp; omega, HU2, by rw [bytesV_snoc, List.length_append]; exact (H.out.alloc_obj _).appended hown3 hgrow3 hat3⟩
        case measure => simp [intOf]; omega
      · have h3' : s[k]'hks = 34 := h3
        have h6' : s[k + 1]'hkn = 34 := h6
        have hi3 : ((s[k]'hks).toNat : Int) = 34 := by rw [h3']; rfl
        have hi6 : ((s[k + 1]'hkn).toNat : Int) = 34 := by rw [h6']; rfl
        have hb3 : (((s[k]'hks).toNat : Int) != 34) = false := by rw [hi3]; rfl
        have hb6 : (((s[k + 1]'hkn).toNat : Int) != 34) = false := by rw [hi6]; rfl
        have HU2 := keep h4
        have hne : ¬ (k : Int) + 1 = z := by omega
        have ht1 : ((k : Int) + 1).toNat = k + 1 := by omega
        clear h3 h3' h4 h6 h6' hi3 hi6
        go_wp2_with (at_builtin; refine wpList_append_lies _ rfl _ _ _ rfl w.heap.size 5 i0 _ 1 1 Tryd.underlying40 hi hz0 hz1 hz2 rfl (by omega) _ _ _ rfl (H.out.own.alloc _) ⟨wr.heap.size, 0, none⟩ 1 1 [.int .u8 34] rfl rfl (World.news_of_block (cs := #[.int .u8 34]) (t := 5) (fr := (0, 0)) (heap_alloc_new _ _)) (by intro u hu; simp at hu; rcases hu with rfl; rfl) (by omega) (by unfold maxLen; omega) (by omega) (by have := H.out.ok.bel.size; simp; omega) _ rfl ?_; intro g cap w3 hown3 hgrow3 hat3 hlt3)
        go_roundw
        case rel => exact ⟨k + 2, l ++ [34], by omega, by omega, by go_num, by simp; omega, HU2, by rw [bytesV_snoc, List.length_append]; exact (H.out.alloc_obj _).appended hown3 hgrow3 hat3⟩
        case measure => simp [intOf]; omega
end Go.Proofs.YtlngjiibbcgkmaaDoor
