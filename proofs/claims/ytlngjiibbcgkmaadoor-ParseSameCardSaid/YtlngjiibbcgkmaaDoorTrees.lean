/- ParseTrees: the walk. -/
import Derived.Test.YtlngjiibbcgkmaaDoorBinds
import Derived.Test.YtlngjiibbcgkmaaDoorParN
namespace Go.Proofs.YtlngjiibbcgkmaaDoor
open Go.RowKit

theorem cut_size (s : ByteArray) (n : Nat) : (s.extract 0 (min (s.size : Int) (n : Int)).toNat).size ≤ n := by
  simp only [ByteArray.size_extract]
  omega
theorem rows_tok {w : World} {base n c : Nat} {a : Option Addr} {l : List Tk} (h : w.ownsRow base 37 8 (.slice a n c) l.length (tkCells l)) : n = l.length ∧ RowsAt w a 8 (l.map tkRow) := by
  obtain ⟨a', c', h1, _, _, h2⟩ := rows_own tkRow (fun _ => rfl) h rfl
  simp only [Value.slice.injEq] at h1
  obtain ⟨rfl, rfl, rfl⟩ := h1
  exact ⟨rfl, h2⟩
/-- the kind of token i lies in its cell -/
theorem tok_cell {w : World} {a : Option Addr} {l : List Tk} (h : RowsAt w a 8 (l.map tkRow)) {i : Nat} {t : Tk} (ht : l[i]? = some t) :
    ∃ b o, a = some ⟨b, o, none⟩ ∧ b < w.heap.size ∧ w.cell? ⟨b, o + i * 8, none⟩ = some (.int .u8 (t.kind : Nat)) ∧ w.cell? ⟨b, o + i * 8 + 7, none⟩ = some (.int .i64 (t.at_ : Nat)) := by
  obtain ⟨b, o, rfl, hb, hc⟩ := h (by intro e; have := congrArg List.length e; simp at this; subst this; simp at ht)
  have h0 := hc i (tkRow t) (by rw [List.getElem?_map, ht]; rfl) 0 _ rfl
  have h7 := hc i (tkRow t) (by rw [List.getElem?_map, ht]; rfl) 7 _ rfl
  exact ⟨b, o, rfl, hb, h0, by rw [← Nat.add_assoc] at h7; exact h7⟩
set_option maxRecDepth 100000 in
set_option maxHeartbeats 4000000 in
theorem ParseTrees_walk (s : ByteArray) (w : World) (_hs : s.size ≤ maxLen) (hL : laidMetH Tryd.prog Rows.parseTreesRow.laid w) (hS : w.ShapedOpen Tryd.prog) :
    Calls Tryd.prog 4 #[.string s] w fun e w' => e = .returned (.bool true) ∧ Below w.heap.size w w' := by
  have HW := keep (words_of hL (by kernel_rfl) hS)
  clear hL hS
  go_enter Tryd.func4, Tryd.ntmps4
  go_wp2_with fail
  have hS := cut_size s 300
  rw [show (((300 : Nat) : Int)) = 300 from rfl] at hS
  generalize s.extract 0 (min (s.size : Int) 300).toNat = S at hS ⊢
  refine (parse_Formula S w (by omega) HW.out).mono ?_
  rintro e w1 ⟨fv, rfl, hown, hb⟩
  have HC := keep (form_cases S.data.toList)
  have hls : S.data.toList.length = S.size := Array.length_toList
  rw [hls] at HC
  generalize hF : formS S.data.toList = F at HC hown ⊢
  obtain ⟨ns, at_, er⟩ := F
  simp only [] at hown HC ⊢
  have H1 := Lib.hid (OkRow.of_new (Ok.start w) hb hown)
  obtain ⟨fa, fc, rfl⟩ := own_len hown
  clear hF hb hown hls
  rcases HC.out with ⟨a, e, h1, he, ha0, ha1⟩ | ⟨ts, ms, n, h1, htk, hp, hc⟩
  · obtain ⟨rfl, rfl, rfl⟩ : ns = [] ∧ at_ = a ∧ er = e := by simpa using h1
    have heb : (er != 0) = true := by simpa using he
    clear HC h1 he
    go_wp2_with fail
    refine (law_awake9 w1 (HW.out.below H1.out.ok.bel)).mono ?_
    rintro e w2 ⟨rfl, hb⟩
    have HB := Lib.hid (below_step H1.out.ok.bel hb)
    clear hb
    go_wp2_with fail
    go_ret
    exact ⟨rfl, HB.out⟩
  · obtain ⟨rfl, rfl, rfl⟩ : ns = ms ∧ at_ = 0 ∧ er = 0 := by simpa using h1
    have HTK := keep htk
    have HPK := keep hp
    have HCK := keep hc
    have HCT := keep (form_count hp)
    have hsz : ts.length ≤ 256 := by
      obtain ⟨_, h256, _, hlex⟩ := tokens_ok htk
      exact Nat.le_trans hlex.len h256
    have hnl : ns.length ≤ 256 := by rw [← HCT.out]; exact Nat.le_trans List.countP_le_length hsz
    clear h1 htk hp hc HC
    go_wp2_with fail
    refine (lex_Tokens S w1 (by omega) (HW.out.below H1.out.ok.bel)).mono ?_
    rintro e w2 ⟨tv, rfl, hown, hb⟩
    rw [HTK.out] at hown ⊢
    simp only [] at hown ⊢
    have H2 := Lib.hid (OkRow.of_new H1.out.pers hb hown)
    obtain ⟨ta, tc, rfl⟩ := own_len hown
    clear hb hown
    go_wp2_with fail
    refine (tree_Check ns fa fc w2 (rows_get (H2.out.ok.get (kRow w.heap.size 46 11 (.slice fa ns.length fc) ns.length (ndCells ns)) (by simp))).2 (by omega) (HPK.out.good trivial (tokens_good HTK.out))).mono ?_
    rintro e w3 ⟨rfl, hb⟩
    rw [HCK.out]
    have H3 := Lib.hid (H2.out.below hb)
    have HRT := keep (rows_tok H3.out.own).2
    clear hb H2
    go_wp2_with fail
    obtain ⟨tl, htl⟩ : ∃ tl, ts.length = tl := ⟨_, rfl⟩
    have HTL := keep htl
    rw [htl] at hsz ⊢
    clear htl
    go_loopw [9, 10] (fun nv iv wr => ∃ i : Nat, i ≤ tl ∧ nv = .int .i64 (((ts.take i).countP realB : Nat) : Int) ∧ iv = .int .i64 (i : Int) ∧ wr = w3) (fun _ iv _ => tl - (intOf iv).toNat)
    case atStart => exact ⟨0, Nat.zero_le _, rfl, rfl, rfl⟩
    case round =>
      obtain ⟨i, hi, rfl, rfl, hwr⟩ := hrel
      obtain rfl : w3 = wr := hwr.symm
      by_cases hlt : (i : Int) < tl
      · have hil : i < ts.length := by rw [HTL.out]; omega
        obtain ⟨t, ht⟩ : ∃ t, ts[i]? = some t := ⟨_, List.getElem?_eq_getElem hil⟩
        obtain ⟨b, o, rfl, hb, hc0, _⟩ := tok_cell HRT.out ht
        have HCN := keep (show (ts.take (i + 1)).countP realB = (ts.take i).countP realB + if realB t then 1 else 0 by
          obtain ⟨_, rfl⟩ := List.getElem?_eq_some_iff.1 ht
          rw [List.take_succ_eq_append_getElem hil, List.countP_append, List.countP_singleton])
        obtain ⟨q, hq⟩ : ∃ q : Nat, (ts.take i).countP realB = q := ⟨_, rfl⟩
        have hq2 : q ≤ 256 := by rw [← hq]; exact Nat.le_trans List.countP_le_length (by rw [List.length_take]; omega)
        rw [hq] at HCN ⊢
        obtain ⟨kd, hkd⟩ : ∃ kd, t.kind = kd := ⟨_, rfl⟩
        rw [hkd] at hc0
        have HKD := keep hkd
        clear hq hkd ht hil
        by_cases hr : kd = 9 ∨ kd = 10 ∨ kd = 11
        · have HRB := keep (show realB t = false by simp only [realB, HKD.out]; rcases hr with h | h | h <;> simp [h])
          rcases hr with rfl | rfl | rfl
          all_goals
            go_wp2_with fail
            go_roundw
          all_goals first
            | exact ⟨i + 1, by omega, by rw [HCN.out, HRB.out]; rfl, by go_num, by first | trivial | rfl⟩
            | (simp [intOf]; omega)
        · have HRB := keep (show realB t = true by simp only [realB, HKD.out]; simp; omega)
          have g1 : ((kd : Int) != 9) = true := by simp; omega
          have g2 : ((kd : Int) != 10) = true := by simp; omega
          have g3 : ((kd : Int) != 11) = true := by simp; omega
          have hq3 : IntKind.i64.wrap ((q : Int) + 1) = (q : Int) + 1 := Go.IntWalk.i64_in _ (by omega)
          clear hr
          go_wp2_with fail
          go_roundw
          case rel => exact ⟨i + 1, by omega, by rw [HCN.out, HRB.out]; rfl, by go_num, by first | trivial | rfl⟩
          case measure => simp [intOf]; omega
      · obtain rfl : i = tl := by omega
        have hcn : (ts.take i).countP realB = ns.length := by rw [← HCT.out, List.take_of_length_le (by rw [HTL.out]; exact Nat.le_refl _)]
        rw [hcn]
        clear hcn
        go_wp2_with fail
        refine (law_awake9 w3 (HW.out.below H3.out.ok.bel)).mono ?_
        rintro e w4 ⟨rfl, hb⟩
        have HB := Lib.hid (below_step H3.out.ok.bel hb)
        clear hb
        go_wp2_with fail
        go_ret
        exact ⟨rfl, HB.out⟩
end Go.Proofs.YtlngjiibbcgkmaaDoor
