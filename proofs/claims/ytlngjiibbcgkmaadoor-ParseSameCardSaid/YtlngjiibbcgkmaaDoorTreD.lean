/- The contracts of tree.check and tree.Check, at nodes that a formula may hold. -/
import Derived.Test.YtlngjiibbcgkmaaDoorTreC
namespace Go.Proofs.YtlngjiibbcgkmaaDoor
open Go.RowKit

theorem check_long {t : List Nd} (h : 256 < t.length) : checkS t = 5 := by unfold checkS; rw [if_pos h]
theorem check_none : checkS [] = 4 := by simp [checkS]
theorem check_bad {t : List Nd} (h : ¬ 256 < t.length) (h0 : t ≠ []) (hw : walkE t ≠ 0) : checkS t = walkE t := by unfold checkS; rw [if_neg h, if_neg h0, if_pos hw]
theorem check_last {t : List Nd} {n : Nd} {k : Nat} (h : ¬ 256 < t.length) (h0 : t ≠ []) (hw : walkE t = 0) (hn : t[t.length - 1]? = some n) (hk : n.kind = k) : checkS t = if k = 3 then 4 else 0 := by
  unfold checkS
  rw [if_neg h, if_neg h0, if_neg (by rw [hw]; decide), List.getLast?_eq_getElem?, hn, ← hk]
  simp
set_option maxRecDepth 100000 in
set_option maxHeartbeats 4000000 in
theorem tree_check (t : List Nd) (ta : Option Addr) (tc : Nat) (w : World) (ht : RowsAt w ta 11 (t.map ndRow)) (htl : t.length ≤ 1000) (hgood : ∀ n ∈ t, goodNd n) :
    Calls Tryd.prog 24 #[.slice ta t.length tc, .bool false, .func (.func 25) #[] #[]] w fun e w' => e = .returned (.int .i64 (checkS t)) ∧ Below w.heap.size w w' := by
  have HT := keep ht
  have HG := keep hgood
  clear ht hgood
  obtain ⟨tl, htl2⟩ : ∃ tl, t.length = tl := ⟨_, rfl⟩
  have hwalk := tree_walk t ta tc w HT.out (by omega) HG.out
  rw [htl2] at htl hwalk ⊢
  have HTL := keep htl2
  clear htl2
  have HWK := keep hwalk
  clear hwalk
  obtain ⟨V, hV⟩ : ∃ V, checkS t = V := ⟨_, rfl⟩
  rw [hV]
  have HV := keep hV
  clear hV
  by_cases h256 : (tl : Int) > 256
  · have HE := keep (show V = 5 from HV.out.symm.trans (check_long (by rw [HTL.out]; omega)))
    go_enter Tryd.func24, Tryd.ntmps24
    go_wp2_with fail
    go_ret
    exact ⟨by rw [HE.out]; rfl, Below.refl _ _⟩
  by_cases h0 : tl = 0
  · subst h0
    have HE := keep (show V = 4 from HV.out.symm.trans (by rw [List.length_eq_zero_iff.1 HTL.out]; exact check_none))
    clear h256
    go_enter Tryd.func24, Tryd.ntmps24
    go_wp2_with fail
    go_ret
    exact ⟨by rw [HE.out]; rfl, Below.refl _ _⟩
  have h0i : ((tl : Int) == 0) = false := by simpa using h0
  have HN0 := keep (show t ≠ [] by intro e; have h9 := HTL.out; rw [e] at h9; simp at h9; omega)
  have HN256 := keep (show ¬ 256 < t.length by rw [HTL.out]; omega)
  obtain ⟨E, hE⟩ : ∃ E, walkE t = E := ⟨_, rfl⟩
  have hwk := HWK.out
  rw [hE] at hwk
  have HWE := keep hE
  have HWK2 := keep hwk
  clear hwk hE HWK
  by_cases hE0 : E = 0
  · subst hE0
    obtain ⟨n, hn⟩ : ∃ n, t[t.length - 1]? = some n := ⟨_, List.getElem?_eq_getElem (by rw [HTL.out]; omega)⟩
    obtain ⟨nk, hnk⟩ : ∃ nk, n.kind = nk := ⟨_, rfl⟩
    have HE := keep (show V = if nk = 3 then 4 else 0 from HV.out.symm.trans (check_last HN256.out HN0.out HWE.out hn hnk))
    obtain ⟨tb, tz, hta, htb, htcell⟩ := HT.out (by intro e; have h9 := congrArg List.length e; rw [List.length_map] at h9; simp only [List.length_nil] at h9; have := HTL.out; omega)
    subst hta
    rw [HTL.out] at hn
    have hc := htcell (tl - 1) (ndRow n) (by rw [List.getElem?_map, hn]; rfl) 0 (.int .u8 (n.kind : Nat)) rfl
    rw [hnk, Nat.add_zero] at hc
    have HC := keep hc
    have htbw := htb
    have hi1 : IntKind.i64.wrap ((tl : Int) - 1) = (tl : Int) - 1 := Go.IntWalk.i64_in _ (by omega)
    have hi2 : ((tl : Int) - 1).toNat = tl - 1 := by omega
    have hi3 : (tl : Int) - 1 < (tl : Int) := by omega
    have hi4 : (0 : Int) ≤ (tl : Int) - 1 := by omega
    obtain ⟨kn3, hk3⟩ : ∃ b : Bool, ((nk : Int) == 3) = b := ⟨_, rfl⟩
    have HK3 := keep hk3
    clear hn hnk htcell hc
    go_enter Tryd.func24, Tryd.ntmps24
    go_wp2_with fail
    refine HWK2.out.mono ?_
    rintro e w1 ⟨rfl, hb⟩
    have hc1 := (hb.cell htb).trans HC.out
    have htb1 : tb < w1.heap.size := Nat.lt_of_lt_of_le htb hb.size
    have HB := Lib.hid hb
    clear hb
    go_wp2_with fail
    all_goals go_ret
    all_goals
      refine ⟨?_, HB.out⟩
      have h3 := HK3.out
      rw [HE.out]
    · rename_i hk
      rw [hk, beq_iff_eq] at h3
      rw [if_pos (by omega)]; rfl
    · rename_i hk
      rw [hk, beq_eq_false_iff_ne] at h3
      rw [if_neg (by omega)]; rfl
  · have hE1 : (E != 0) = true := by simpa using hE0
    have HE := keep (show V = E from HV.out.symm.trans ((check_bad HN256.out HN0.out (by rw [HWE.out]; exact hE0)).trans HWE.out))
    clear hE0
    go_enter Tryd.func24, Tryd.ntmps24
    go_wp2_with fail
    refine HWK2.out.mono ?_
    rintro e w1 ⟨rfl, hb⟩
    have HB := Lib.hid hb
    clear hb
    go_wp2_with fail
    go_ret
    exact ⟨by rw [HE.out]; rfl, HB.out⟩
theorem tree_Check (t : List Nd) (ta : Option Addr) (tc : Nat) (w : World) (ht : RowsAt w ta 11 (t.map ndRow)) (htl : t.length ≤ 1000) (hgood : ∀ n ∈ t, goodNd n) :
    Calls Tryd.prog 12 #[.slice ta t.length tc] w fun e w' => e = .returned (.int .i64 (checkS t)) ∧ Below w.heap.size w w' := by
  have HC := keep (tree_check t ta tc w ht htl hgood)
  clear ht htl hgood
  obtain ⟨tl, htl2⟩ : ∃ tl, t.length = tl := ⟨_, rfl⟩
  rw [htl2] at HC ⊢
  clear htl2
  obtain ⟨V, hV⟩ : ∃ V, checkS t = V := ⟨_, rfl⟩
  rw [hV] at HC ⊢
  clear hV
  go_enter Tryd.func12, Tryd.ntmps12
  go_wp2_with fail
  refine HC.out.mono ?_
  rintro e w1 ⟨rfl, hb⟩
  have HB := Lib.hid hb
  clear hb
  go_wp2_with fail
  go_ret
  exact ⟨rfl, HB.out⟩
end Go.Proofs.YtlngjiibbcgkmaaDoor
