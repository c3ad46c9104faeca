/- The reference's checks of a value, at any value. -/
import Derived.Test.YtmalncmdfmoccaaGreatDoorCEqV
import Derived.Test.YtmalncmdfmoccaaGreatDoorCRefG
namespace Go.Proofs.YtmalncmdfmoccaaGreatDoor
open Go.RowKit
set_option maxRecDepth 100000 in
set_option maxHeartbeats 4000000 in
theorem cv0_yes  (w : World) :
    Calls Tryz.prog 32 #[.agg #[.int .u8 0,.int .i64 0,.string ⟨#[]⟩]] w fun e w' => e = .returned (.int .i64 0) ∧ Below w.heap.size w w':=by
  have H1:=Lib.hid ((Ok.start w).alloc w.heap.size 59 [.int .u8 0,.int .i64 0,.string ⟨#[]⟩] rfl)
  go_enter Tryz.func32,Tryz.ntmps32
  go_wp2_with fail
  generalize (w.alloc (.cells #[.int .u8 0,.int .i64 0,.string ⟨#[]⟩] 59)) = W2 at H1 ⊢
  go_ret
  exact ⟨rfl,H1.out.bel⟩
set_option maxRecDepth 100000 in
set_option maxHeartbeats 4000000 in
theorem cv0_txt (s : ByteArray) (hs : s.toList.isEmpty = false) (w : World) :
    Calls Tryz.prog 32 #[.agg #[.int .u8 0,.int .i64 0,.string s]] w fun e w' => e = .returned (.int .i64 2) ∧ Below w.heap.size w w':=by
  have H1:=Lib.hid ((Ok.start w).alloc w.heap.size 59 [.int .u8 0,.int .i64 0,.string s] rfl)
  go_enter Tryz.func32,Tryz.ntmps32
  go_wp2_with fail
  generalize (w.alloc (.cells #[.int .u8 0,.int .i64 0,.string s] 59)) = W2 at H1 ⊢
  go_ret
  exact ⟨rfl,H1.out.bel⟩
set_option maxRecDepth 100000 in
set_option maxHeartbeats 4000000 in
theorem cv0_num (n : Int) (s : ByteArray) (hn : (n == 0) = false) (w : World) :
    Calls Tryz.prog 32 #[.agg #[.int .u8 0,.int .i64 n,.string s]] w fun e w' => e = .returned (.int .i64 2) ∧ Below w.heap.size w w':=by
  have H1:=Lib.hid ((Ok.start w).alloc w.heap.size 59 [.int .u8 0,.int .i64 n,.string s] rfl)
  go_enter Tryz.func32,Tryz.ntmps32
  go_wp2_with fail
  generalize (w.alloc (.cells #[.int .u8 0,.int .i64 n,.string s] 59)) = W2 at H1 ⊢
  go_ret
  exact ⟨rfl,H1.out.bel⟩
set_option maxRecDepth 100000 in
set_option maxHeartbeats 4000000 in
theorem cv1_yes (n : Int) (hn : -9223372036854775807 ≤ n) (w : World) :
    Calls Tryz.prog 32 #[.agg #[.int .u8 1,.int .i64 n,.string ⟨#[]⟩]] w fun e w' => e = .returned (.int .i64 0) ∧ Below w.heap.size w w':=by
  have H1:=Lib.hid ((Ok.start w).alloc w.heap.size 59 [.int .u8 1,.int .i64 n,.string ⟨#[]⟩] rfl)
  go_enter Tryz.func32,Tryz.ntmps32
  go_wp2_with fail
  generalize (w.alloc (.cells #[.int .u8 1,.int .i64 n,.string ⟨#[]⟩] 59)) = W2 at H1 ⊢
  go_ret
  exact ⟨rfl,H1.out.bel⟩
set_option maxRecDepth 100000 in
set_option maxHeartbeats 4000000 in
theorem cv1_txt (n : Int) (s : ByteArray) (hn : -9223372036854775807 ≤ n) (hs : s.toList.isEmpty = false) (w : World) :
    Calls Tryz.prog 32 #[.agg #[.int .u8 1,.int .i64 n,.string s]] w fun e w' => e = .returned (.int .i64 2) ∧ Below w.heap.size w w':=by
  have H1:=Lib.hid ((Ok.start w).alloc w.heap.size 59 [.int .u8 1,.int .i64 n,.string s] rfl)
  go_enter Tryz.func32,Tryz.ntmps32
  go_wp2_with fail
  generalize (w.alloc (.cells #[.int .u8 1,.int .i64 n,.string s] 59)) = W2 at H1 ⊢
  go_ret
  exact ⟨rfl,H1.out.bel⟩
set_option maxRecDepth 100000 in
set_option maxHeartbeats 4000000 in
theorem cv1_num (n : Int) (s : ByteArray) (hn : decide (-9223372036854775807 ≤ n) = false) (w : World) :
    Calls Tryz.prog 32 #[.agg #[.int .u8 1,.int .i64 n,.string s]] w fun e w' => e = .returned (.int .i64 2) ∧ Below w.heap.size w w':=by
  have H1:=Lib.hid ((Ok.start w).alloc w.heap.size 59 [.int .u8 1,.int .i64 n,.string s] rfl)
  go_enter Tryz.func32,Tryz.ntmps32
  go_wp2_with fail
  generalize (w.alloc (.cells #[.int .u8 1,.int .i64 n,.string s] 59)) = W2 at H1 ⊢
  go_ret
  exact ⟨rfl,H1.out.bel⟩
set_option maxRecDepth 100000 in
set_option maxHeartbeats 4000000 in
theorem cv2_yes0  (w : World) :
    Calls Tryz.prog 32 #[.agg #[.int .u8 2,.int .i64 0,.string ⟨#[]⟩]] w fun e w' => e = .returned (.int .i64 0) ∧ Below w.heap.size w w':=by
  have H1:=Lib.hid ((Ok.start w).alloc w.heap.size 59 [.int .u8 2,.int .i64 0,.string ⟨#[]⟩] rfl)
  go_enter Tryz.func32,Tryz.ntmps32
  go_wp2_with fail
  generalize (w.alloc (.cells #[.int .u8 2,.int .i64 0,.string ⟨#[]⟩] 59)) = W2 at H1 ⊢
  go_ret
  exact ⟨rfl,H1.out.bel⟩
set_option maxRecDepth 100000 in
set_option maxHeartbeats 4000000 in
theorem cv2_txt0 (s : ByteArray) (hs : s.toList.isEmpty = false) (w : World) :
    Calls Tryz.prog 32 #[.agg #[.int .u8 2,.int .i64 0,.string s]] w fun e w' => e = .returned (.int .i64 2) ∧ Below w.heap.size w w':=by
  have H1:=Lib.hid ((Ok.start w).alloc w.heap.size 59 [.int .u8 2,.int .i64 0,.string s] rfl)
  go_enter Tryz.func32,Tryz.ntmps32
  go_wp2_with fail
  generalize (w.alloc (.cells #[.int .u8 2,.int .i64 0,.string s] 59)) = W2 at H1 ⊢
  go_ret
  exact ⟨rfl,H1.out.bel⟩
set_option maxRecDepth 100000 in
set_option maxHeartbeats 4000000 in
theorem cv2_yes1  (w : World) :
    Calls Tryz.prog 32 #[.agg #[.int .u8 2,.int .i64 1,.string ⟨#[]⟩]] w fun e w' => e = .returned (.int .i64 0) ∧ Below w.heap.size w w':=by
  have H1:=Lib.hid ((Ok.start w).alloc w.heap.size 59 [.int .u8 2,.int .i64 1,.string ⟨#[]⟩] rfl)
  go_enter Tryz.func32,Tryz.ntmps32
  go_wp2_with fail
  generalize (w.alloc (.cells #[.int .u8 2,.int .i64 1,.string ⟨#[]⟩] 59)) = W2 at H1 ⊢
  go_ret
  exact ⟨rfl,H1.out.bel⟩
set_option maxRecDepth 100000 in
set_option maxHeartbeats 4000000 in
theorem cv2_txt1 (s : ByteArray) (hs : s.toList.isEmpty = false) (w : World) :
    Calls Tryz.prog 32 #[.agg #[.int .u8 2,.int .i64 1,.string s]] w fun e w' => e = .returned (.int .i64 2) ∧ Below w.heap.size w w':=by
  have H1:=Lib.hid ((Ok.start w).alloc w.heap.size 59 [.int .u8 2,.int .i64 1,.string s] rfl)
  go_enter Tryz.func32,Tryz.ntmps32
  go_wp2_with fail
  generalize (w.alloc (.cells #[.int .u8 2,.int .i64 1,.string s] 59)) = W2 at H1 ⊢
  go_ret
  exact ⟨rfl,H1.out.bel⟩
set_option maxRecDepth 100000 in
set_option maxHeartbeats 4000000 in
theorem cv2_num (n : Int) (s : ByteArray) (hn : (n == 0) = false) (hm : (n == 1) = false) (w : World) :
    Calls Tryz.prog 32 #[.agg #[.int .u8 2,.int .i64 n,.string s]] w fun e w' => e = .returned (.int .i64 2) ∧ Below w.heap.size w w':=by
  have H1:=Lib.hid ((Ok.start w).alloc w.heap.size 59 [.int .u8 2,.int .i64 n,.string s] rfl)
  go_enter Tryz.func32,Tryz.ntmps32
  go_wp2_with fail
  generalize (w.alloc (.cells #[.int .u8 2,.int .i64 n,.string s] 59)) = W2 at H1 ⊢
  go_ret
  exact ⟨rfl,H1.out.bel⟩
set_option maxRecDepth 100000 in
set_option maxHeartbeats 4000000 in
theorem cv3_yes (s : ByteArray) (hs : s.size ≤ 4611686018427387904) (hc : checkT s.data.toList = 0) (w : World) :
    Calls Tryz.prog 32 #[.agg #[.int .u8 3,.int .i64 0,.string s]] w fun e w' => e = .returned (.int .i64 0) ∧ Below w.heap.size w w':=by
  have HC:=keep hc
  clear hc
  have H1:=Lib.hid ((Ok.start w).alloc w.heap.size 59 [.int .u8 3,.int .i64 0,.string s] rfl)
  go_enter Tryz.func32,Tryz.ntmps32
  go_wp2_with fail
  generalize (w.alloc (.cells #[.int .u8 3,.int .i64 0,.string s] 59)) = W2 at H1 ⊢
  refine (ref4_Check _ _ hs).mono ?_
  rintro e w3 ⟨rfl,rfl⟩
  rw [HC.out]
  go_wp2_with fail
  go_ret
  exact ⟨rfl,H1.out.bel⟩
set_option maxRecDepth 100000 in
set_option maxHeartbeats 4000000 in
theorem cv3_txt (s : ByteArray) (c : Int) (hs : s.size ≤ 4611686018427387904) (hc : checkT s.data.toList = c) (h0 : (c == 0) = false) (w : World) :
    Calls Tryz.prog 32 #[.agg #[.int .u8 3,.int .i64 0,.string s]] w fun e w' => e = .returned (.int .i64 2) ∧ Below w.heap.size w w':=by
  have HC:=keep hc
  clear hc
  have H1:=Lib.hid ((Ok.start w).alloc w.heap.size 59 [.int .u8 3,.int .i64 0,.string s] rfl)
  go_enter Tryz.func32,Tryz.ntmps32
  go_wp2_with fail
  generalize (w.alloc (.cells #[.int .u8 3,.int .i64 0,.string s] 59)) = W2 at H1 ⊢
  refine (ref4_Check _ _ hs).mono ?_
  rintro e w3 ⟨rfl,rfl⟩
  rw [HC.out]
  go_wp2_with fail
  go_ret
  exact ⟨rfl,H1.out.bel⟩
set_option maxRecDepth 100000 in
set_option maxHeartbeats 4000000 in
theorem cv3_num (n : Int) (s : ByteArray) (hn : (n == 0) = false) (w : World) :
    Calls Tryz.prog 32 #[.agg #[.int .u8 3,.int .i64 n,.string s]] w fun e w' => e = .returned (.int .i64 2) ∧ Below w.heap.size w w':=by
  have H1:=Lib.hid ((Ok.start w).alloc w.heap.size 59 [.int .u8 3,.int .i64 n,.string s] rfl)
  go_enter Tryz.func32,Tryz.ntmps32
  go_wp2_with fail
  generalize (w.alloc (.cells #[.int .u8 3,.int .i64 n,.string s] 59)) = W2 at H1 ⊢
  go_ret
  exact ⟨rfl,H1.out.bel⟩
set_option maxRecDepth 100000 in
set_option maxHeartbeats 4000000 in
theorem cv4_yes (n : Int) (h1 : 1 ≤ n) (h6 : n ≤ 6) (w : World) :
    Calls Tryz.prog 32 #[.agg #[.int .u8 4,.int .i64 n,.string ⟨#[]⟩]] w fun e w' => e = .returned (.int .i64 0) ∧ Below w.heap.size w w':=by
  have H1:=Lib.hid ((Ok.start w).alloc w.heap.size 59 [.int .u8 4,.int .i64 n,.string ⟨#[]⟩] rfl)
  go_enter Tryz.func32,Tryz.ntmps32
  go_wp2_with fail
  generalize (w.alloc (.cells #[.int .u8 4,.int .i64 n,.string ⟨#[]⟩] 59)) = W2 at H1 ⊢
  go_ret
  exact ⟨rfl,H1.out.bel⟩
set_option maxRecDepth 100000 in
set_option maxHeartbeats 4000000 in
theorem cv4_txt (n : Int) (s : ByteArray) (h1 : 1 ≤ n) (h6 : n ≤ 6) (hs : s.toList.isEmpty = false) (w : World) :
    Calls Tryz.prog 32 #[.agg #[.int .u8 4,.int .i64 n,.string s]] w fun e w' => e = .returned (.int .i64 2) ∧ Below w.heap.size w w':=by
  have H1:=Lib.hid ((Ok.start w).alloc w.heap.size 59 [.int .u8 4,.int .i64 n,.string s] rfl)
  go_enter Tryz.func32,Tryz.ntmps32
  go_wp2_with fail
  generalize (w.alloc (.cells #[.int .u8 4,.int .i64 n,.string s] 59)) = W2 at H1 ⊢
  go_ret
  exact ⟨rfl,H1.out.bel⟩
set_option maxRecDepth 100000 in
set_option maxHeartbeats 4000000 in
theorem cv4_low (n : Int) (s : ByteArray) (h1 : decide (1 ≤ n) = false) (w : World) :
    Calls Tryz.prog 32 #[.agg #[.int .u8 4,.int .i64 n,.string s]] w fun e w' => e = .returned (.int .i64 2) ∧ Below w.heap.size w w':=by
  have H1:=Lib.hid ((Ok.start w).alloc w.heap.size 59 [.int .u8 4,.int .i64 n,.string s] rfl)
  go_enter Tryz.func32,Tryz.ntmps32
  go_wp2_with fail
  generalize (w.alloc (.cells #[.int .u8 4,.int .i64 n,.string s] 59)) = W2 at H1 ⊢
  go_ret
  exact ⟨rfl,H1.out.bel⟩
set_option maxRecDepth 100000 in
set_option maxHeartbeats 4000000 in
theorem cv4_high (n : Int) (s : ByteArray) (h1 : 1 ≤ n) (h6 : decide (n ≤ 6) = false) (w : World) :
    Calls Tryz.prog 32 #[.agg #[.int .u8 4,.int .i64 n,.string s]] w fun e w' => e = .returned (.int .i64 2) ∧ Below w.heap.size w w':=by
  have H1:=Lib.hid ((Ok.start w).alloc w.heap.size 59 [.int .u8 4,.int .i64 n,.string s] rfl)
  go_enter Tryz.func32,Tryz.ntmps32
  go_wp2_with fail
  generalize (w.alloc (.cells #[.int .u8 4,.int .i64 n,.string s] 59)) = W2 at H1 ⊢
  go_ret
  exact ⟨rfl,H1.out.bel⟩
set_option maxRecDepth 100000 in
set_option maxHeartbeats 4000000 in
theorem cv5_no (k n : Int) (s : ByteArray) (h0 : (k == 0) = false) (h1 : (k == 1) = false) (h2 : (k == 2) = false) (h3 : (k == 3) = false) (h4 : (k == 4) = false) (w : World) :
    Calls Tryz.prog 32 #[.agg #[.int .u8 k,.int .i64 n,.string s]] w fun e w' => e = .returned (.int .i64 2) ∧ Below w.heap.size w w':=by
  have H1:=Lib.hid ((Ok.start w).alloc w.heap.size 59 [.int .u8 k,.int .i64 n,.string s] rfl)
  go_enter Tryz.func32,Tryz.ntmps32
  go_wp2_with fail
  generalize (w.alloc (.cells #[.int .u8 k,.int .i64 n,.string s] 59)) = W2 at H1 ⊢
  go_ret
  exact ⟨rfl,H1.out.bel⟩
theorem str_cases (s : ByteArray) : s = ⟨#[]⟩ ∨ (s.toList.isEmpty = false ∧ s.data.toList ≠ []):=by
  by_cases h : s = ⟨#[]⟩
  · exact .inl h
  · obtain ⟨h1,h2⟩:=str_nil h
    exact .inr ⟨h2,h1⟩
set_option maxRecDepth 100000 in
set_option maxHeartbeats 4000000 in
theorem ref5_CheckV (k : Nat) (n : Int) (s : ByteArray) (hs : s.size ≤ 4611686018427387904) (hlo : -9223372036854775808 ≤ n) (w : World) :
    Calls Tryz.prog 32 #[.agg #[.int .u8 (k : Nat),.int .i64 n,.string s]] w fun e w' => e = .returned (.int .i64 (valE k n s.data.toList)) ∧ Below w.heap.size w w':=by
  have ne : ∀ {a b : Int},a ≠ b → (a == b) = false:=fun h => beq_eq_false_iff_ne.2 h
  have nn : (⟨#[]⟩ : ByteArray).data.toList = []:=rfl
  by_cases k0 : k = 0
  · subst k0
    by_cases hn : n = 0
    · subst hn
      rcases str_cases s with rfl | ⟨g1,g2⟩
      · rw [valE_yes (.inl ⟨rfl,rfl,nn⟩)]; exact cv0_yes w
      · rw [valE_no (by rintro (⟨-,-,h⟩ | ⟨h,-⟩ | ⟨h,-⟩ | ⟨h,-⟩ | ⟨h,-⟩) <;> first | exact g2 h | cases h)]; exact cv0_txt s g1 w
    · rw [valE_no (by rintro (⟨-,h,-⟩ | ⟨h,-⟩ | ⟨h,-⟩ | ⟨h,-⟩ | ⟨h,-⟩) <;> first | exact hn h | cases h)]; exact cv0_num n s (ne hn) w
  by_cases k1 : k = 1
  · subst k1
    by_cases hn : n = -9223372036854775808
    · rw [valE_no (by rintro (⟨h,-⟩ | ⟨-,-,h⟩ | ⟨h,-⟩ | ⟨h,-⟩ | ⟨h,-⟩) <;> first | exact h hn | cases h)]; exact cv1_num n s (by simp; omega) w
    · rcases str_cases s with rfl | ⟨g1,g2⟩
      · rw [valE_yes (.inr (.inl ⟨rfl,nn,hn⟩))]; exact cv1_yes n (by omega) w
      · rw [valE_no (by rintro (⟨h,-⟩ | ⟨-,h,-⟩ | ⟨h,-⟩ | ⟨h,-⟩ | ⟨h,-⟩) <;> first | exact g2 h | cases h)]; exact cv1_txt n s (by omega) g1 w
  by_cases k2 : k = 2
  · subst k2
    by_cases hn : n = 0
    · subst hn
      rcases str_cases s with rfl | ⟨g1,g2⟩
      · rw [valE_yes (.inr (.inr (.inl ⟨rfl,nn,.inl rfl⟩)))]; exact cv2_yes0 w
      · rw [valE_no (by rintro (⟨h,-⟩ | ⟨h,-⟩ | ⟨-,h,-⟩ | ⟨h,-⟩ | ⟨h,-⟩) <;> first | exact g2 h | cases h)]; exact cv2_txt0 s g1 w
    by_cases hm : n = 1
    · subst hm
      rcases str_cases s with rfl | ⟨g1,g2⟩
      · rw [valE_yes (.inr (.inr (.inl ⟨rfl,nn,.inr rfl⟩)))]; exact cv2_yes1 w
      · rw [valE_no (by rintro (⟨h,-⟩ | ⟨h,-⟩ | ⟨-,h,-⟩ | ⟨h,-⟩ | ⟨h,-⟩) <;> first | exact g2 h | cases h)]; exact cv2_txt1 s g1 w
    · rw [valE_no (by rintro (⟨h,-⟩ | ⟨h,-⟩ | ⟨-,-,h⟩ | ⟨h,-⟩ | ⟨h,-⟩) <;> first | omega | cases h)]; exact cv2_num n s (ne hn) (ne hm) w
  by_cases k3 : k = 3
  · subst k3
    by_cases hn : n = 0
    · subst hn
      by_cases hc : checkT s.data.toList = 0
      · rw [valE_yes (.inr (.inr (.inr (.inl ⟨rfl,rfl,hc⟩))))]; exact cv3_yes s hs hc w
      · rw [valE_no (by rintro (⟨h,-⟩ | ⟨h,-⟩ | ⟨h,-⟩ | ⟨-,-,h⟩ | ⟨h,-⟩) <;> first | exact hc h | cases h)]; exact cv3_txt s _ hs rfl (ne hc) w
    · rw [valE_no (by rintro (⟨h,-⟩ | ⟨h,-⟩ | ⟨h,-⟩ | ⟨-,h,-⟩ | ⟨h,-⟩) <;> first | exact hn h | cases h)]; exact cv3_num n s (ne hn) w
  by_cases k4 : k = 4
  · subst k4
    by_cases h1 : 1 ≤ n
    · by_cases h6 : n ≤ 6
      · rcases str_cases s with rfl | ⟨g1,g2⟩
        · rw [valE_yes (.inr (.inr (.inr (.inr ⟨rfl,nn,h1,h6⟩))))]; exact cv4_yes n h1 h6 w
        · rw [valE_no (by rintro (⟨h,-⟩ | ⟨h,-⟩ | ⟨h,-⟩ | ⟨h,-⟩ | ⟨-,h,-⟩) <;> first | exact g2 h | cases h)]; exact cv4_txt n s h1 h6 g1 w
      · rw [valE_no (by rintro (⟨h,-⟩ | ⟨h,-⟩ | ⟨h,-⟩ | ⟨h,-⟩ | ⟨-,-,-,h⟩) <;> first | exact h6 h | cases h)]; exact cv4_high n s h1 (by simp; omega) w
    · rw [valE_no (by rintro (⟨h,-⟩ | ⟨h,-⟩ | ⟨h,-⟩ | ⟨h,-⟩ | ⟨-,-,h,-⟩) <;> first | exact h1 h | cases h)]; exact cv4_low n s (by simp; omega) w
  · rw [valE_no (by rintro (⟨h,-⟩ | ⟨h,-⟩ | ⟨h,-⟩ | ⟨h,-⟩ | ⟨h,-⟩) <;> omega)]
    exact cv5_no k n s (ne (by omega)) (ne (by omega)) (ne (by omega)) (ne (by omega)) (ne (by omega)) w
end Go.Proofs.YtmalncmdfmoccaaGreatDoor
