/- Contracts of glyph.Check, val.Check and tree.fields, at what a formula may hold. Equality of values and of nodes as one Bool; val.Check at any value. -/
import Derived.Test.YtmalncmdfmoccaaGreatDoorCLexI
import Derived.Test.YtmalncmdfmoccaaGreatDoorCVal
import Derived.Test.YtmalncmdfmoccaaGreatDoorCRefC
import Derived.Test.YtmalncmdfmoccaaGreatDoorCShP
import Derived.Test.YtmalncmdfmoccaaGreatDoorCAddrW2
import Derived.Test.YtmalncmdfmoccaaGreatDoorCIter
import Derived.Deep.DeepCutAuto
import Derived.Test.YtmalncmdfmoccaaGreatDoorCLexO
import Derived.Laws.StructEq
namespace Go.Proofs.YtmalncmdfmoccaaGreatDoor
open Go.RowKit
end Go.Proofs.YtmalncmdfmoccaaGreatDoor
namespace Go.Proofs.YtmalncmdfmoccaaGreatDoor
open Go.RowKit
def eq3 (k n k' n' : Int) (s s' : List UInt8) : Bool:=decide (k = k') && (decide (n = n') && (decide (s = s')))
theorem eq3_iff (k n k' n' : Int) (s s' : List UInt8) : eq3 k n k' n' s s' = true ↔ k = k' ∧ n = n' ∧ s = s':=by
  unfold eq3
  simp only [Bool.and_eq_true,decide_eq_true_eq]
set_option maxHeartbeats 1000000 in
@[local go_sem high] theorem eq_val (k n k' n' : Int) (s s' : ByteArray) (w : World) : (Op.equalIn 10000 59 (.agg #[.int .u8 k,.int .i64 n,.string s]) (.agg #[.int .u8 k',.int .i64 n',.string s'])).run Tryz.prog w = .ok (eq3 k n k' n' s.toList s'.toList) w:=by
  have u1:=Tryz.underlying5
  have u2:=Tryz.underlying2
  have u4:=Tryz.underlying9
  have hS : Tryz.prog.underlying 59 = some (.struct (Tryz.prog.fieldsOf 59)):=by kernel_rfl
  have hp : Tryz.prog.stoodInHeld 59 = false:=by kernel_rfl
  rw [show (10000 : Nat) = 9999 + 1 from rfl,run_equalIn_agg w 9999 _ _ _ hS hp]
  simp only [Program.fieldsOf,Tryz.underlying59]
  unfold eq3
  go_simp
  by_cases h : k = k'
  rotate_left
  · rw [if_neg h,decide_eq_false h]; rfl
  rw [if_pos h,decide_eq_true h,Bool.true_and]
  clear h
  by_cases h : n = n'
  rotate_left
  · rw [if_neg h,decide_eq_false h]; rfl
  rw [if_pos h,decide_eq_true h,Bool.true_and]
  clear h
  by_cases h : s.toList = s'.toList
  · rw [if_pos h,decide_eq_true h]
  · rw [if_neg h,decide_eq_false h]
def cellV (k : Nat) (n : Int) (t : List UInt8) : Prop :=
  (k = 0 ∧ n = 0 ∧ t = []) ∨ (k = 1 ∧ t = [] ∧ n ≠ -9223372036854775808) ∨ (k = 2 ∧ t = [] ∧ (n = 0 ∨ n = 1)) ∨ (k = 3 ∧ n = 0 ∧ checkT t = 0) ∨ (k = 4 ∧ t = [] ∧ 1 ≤ n ∧ n ≤ 6)
open Classical in
noncomputable def valE (k : Nat) (n : Int) (t : List UInt8) : Int:=if cellV k n t then 0 else 2
theorem valE_yes {k : Nat} {n : Int} {t : List UInt8} (h : cellV k n t) : valE k n t = 0:=if_pos h
theorem valE_no {k : Nat} {n : Int} {t : List UInt8} (h : ¬ cellV k n t) : valE k n t = 2:=if_neg h
theorem toL (s : ByteArray) : s.toList = s.data.toList:=ByteArray.toList_eq s
theorem str_nil {s : ByteArray} (h : s ≠ ⟨#[]⟩) : s.data.toList ≠ [] ∧ s.toList.isEmpty = false:=by
  have h1 : s.data.toList ≠ []:=by
    intro e
    apply h
    obtain ⟨⟨l⟩⟩:=s
    have e : l = []:=e
    subst e; rfl
  refine ⟨h1,?_⟩
  rw [toL]
  cases hl : s.data.toList with
  | nil => exact absurd hl h1
  | cons => rfl
set_option maxRecDepth 100000 in
set_option maxHeartbeats 1000000 in
theorem vc0_yes (n : Int) (s : ByteArray) (V : Int) (hV : V = 0) (hb : eq3 0 n 0 0 s.toList [] = true) (w : World) :
    Calls Tryz.prog 53 #[.agg #[.int .u8 0,.int .i64 n,.string s]] w fun e w' => e = .returned (.int .i64 V) ∧ Below w.heap.size w w':=by
  have H1:=Lib.hid ((Ok.start w).alloc w.heap.size 59 [.int .u8 0,.int .i64 n,.string s] rfl)
  subst hV
  go_enter Tryz.func53,Tryz.ntmps53
  go_wp2_with fail
  generalize (w.alloc (.cells #[.int .u8 0,.int .i64 n,.string s] 59)) = W2 at H1 ⊢
  all_goals go_ret
  all_goals exact ⟨rfl,H1.out.bel⟩
set_option maxRecDepth 100000 in
set_option maxHeartbeats 1000000 in
theorem vc0_no (n : Int) (s : ByteArray) (V : Int) (hV : V = 2) (hb : eq3 0 n 0 0 s.toList [] = false) (w : World) :
    Calls Tryz.prog 53 #[.agg #[.int .u8 0,.int .i64 n,.string s]] w fun e w' => e = .returned (.int .i64 V) ∧ Below w.heap.size w w':=by
  have H1:=Lib.hid ((Ok.start w).alloc w.heap.size 59 [.int .u8 0,.int .i64 n,.string s] rfl)
  subst hV
  go_enter Tryz.func53,Tryz.ntmps53
  go_wp2_with fail
  generalize (w.alloc (.cells #[.int .u8 0,.int .i64 n,.string s] 59)) = W2 at H1 ⊢
  all_goals go_ret
  all_goals exact ⟨rfl,H1.out.bel⟩
set_option maxRecDepth 100000 in
set_option maxHeartbeats 1000000 in
theorem vc1_s (n : Int) (s : ByteArray) (V : Int) (hV : V = 2) (hs : s.toList.isEmpty = false) (w : World) :
    Calls Tryz.prog 53 #[.agg #[.int .u8 1,.int .i64 n,.string s]] w fun e w' => e = .returned (.int .i64 V) ∧ Below w.heap.size w w':=by
  have H1:=Lib.hid ((Ok.start w).alloc w.heap.size 59 [.int .u8 1,.int .i64 n,.string s] rfl)
  subst hV
  go_enter Tryz.func53,Tryz.ntmps53
  go_wp2_with fail
  generalize (w.alloc (.cells #[.int .u8 1,.int .i64 n,.string s] 59)) = W2 at H1 ⊢
  all_goals go_ret
  all_goals exact ⟨rfl,H1.out.bel⟩
set_option maxRecDepth 100000 in
set_option maxHeartbeats 1000000 in
theorem vc2_s (n : Int) (s : ByteArray) (V : Int) (hV : V = 2) (hs : s.toList.isEmpty = false) (w : World) :
    Calls Tryz.prog 53 #[.agg #[.int .u8 2,.int .i64 n,.string s]] w fun e w' => e = .returned (.int .i64 V) ∧ Below w.heap.size w w':=by
  have H1:=Lib.hid ((Ok.start w).alloc w.heap.size 59 [.int .u8 2,.int .i64 n,.string s] rfl)
  subst hV
  go_enter Tryz.func53,Tryz.ntmps53
  go_wp2_with fail
  generalize (w.alloc (.cells #[.int .u8 2,.int .i64 n,.string s] 59)) = W2 at H1 ⊢
  all_goals go_ret
  all_goals exact ⟨rfl,H1.out.bel⟩
set_option maxRecDepth 100000 in
set_option maxHeartbeats 1000000 in
theorem vc4_s (n : Int) (s : ByteArray) (V : Int) (hV : V = 2) (hs : s.toList.isEmpty = false) (w : World) :
    Calls Tryz.prog 53 #[.agg #[.int .u8 4,.int .i64 n,.string s]] w fun e w' => e = .returned (.int .i64 V) ∧ Below w.heap.size w w':=by
  have H1:=Lib.hid ((Ok.start w).alloc w.heap.size 59 [.int .u8 4,.int .i64 n,.string s] rfl)
  subst hV
  go_enter Tryz.func53,Tryz.ntmps53
  go_wp2_with fail
  generalize (w.alloc (.cells #[.int .u8 4,.int .i64 n,.string s] 59)) = W2 at H1 ⊢
  all_goals go_ret
  all_goals exact ⟨rfl,H1.out.bel⟩
set_option maxRecDepth 100000 in
set_option maxHeartbeats 1000000 in
theorem vc1_yes (n : Int) (V : Int) (hV : V = 0) (hn : (n != -9223372036854775808) = true) (w : World) :
    Calls Tryz.prog 53 #[.agg #[.int .u8 1,.int .i64 n,.string ⟨#[]⟩]] w fun e w' => e = .returned (.int .i64 V) ∧ Below w.heap.size w w':=by
  have H1:=Lib.hid ((Ok.start w).alloc w.heap.size 59 [.int .u8 1,.int .i64 n,.string ⟨#[]⟩] rfl)
  subst hV
  go_enter Tryz.func53,Tryz.ntmps53
  go_wp2_with fail
  generalize (w.alloc (.cells #[.int .u8 1,.int .i64 n,.string ⟨#[]⟩] 59)) = W2 at H1 ⊢
  all_goals go_ret
  all_goals exact ⟨rfl,H1.out.bel⟩
set_option maxRecDepth 100000 in
set_option maxHeartbeats 1000000 in
theorem vc1_no (V : Int) (hV : V = 2) (w : World) :
    Calls Tryz.prog 53 #[.agg #[.int .u8 1,.int .i64 (-9223372036854775808),.string ⟨#[]⟩]] w fun e w' => e = .returned (.int .i64 V) ∧ Below w.heap.size w w':=by
  have H1:=Lib.hid ((Ok.start w).alloc w.heap.size 59 [.int .u8 1,.int .i64 (-9223372036854775808),.string ⟨#[]⟩] rfl)
  subst hV
  go_enter Tryz.func53,Tryz.ntmps53
  go_wp2_with fail
  generalize (w.alloc (.cells #[.int .u8 1,.int .i64 (-9223372036854775808),.string ⟨#[]⟩] 59)) = W2 at H1 ⊢
  all_goals go_ret
  all_goals exact ⟨rfl,H1.out.bel⟩
set_option maxRecDepth 100000 in
set_option maxHeartbeats 1000000 in
theorem vc2_0 (V : Int) (hV : V = 0) (w : World) :
    Calls Tryz.prog 53 #[.agg #[.int .u8 2,.int .i64 0,.string ⟨#[]⟩]] w fun e w' => e = .returned (.int .i64 V) ∧ Below w.heap.size w w':=by
  have H1:=Lib.hid ((Ok.start w).alloc w.heap.size 59 [.int .u8 2,.int .i64 0,.string ⟨#[]⟩] rfl)
  subst hV
  go_enter Tryz.func53,Tryz.ntmps53
  go_wp2_with fail
  generalize (w.alloc (.cells #[.int .u8 2,.int .i64 0,.string ⟨#[]⟩] 59)) = W2 at H1 ⊢
  all_goals go_ret
  all_goals exact ⟨rfl,H1.out.bel⟩
set_option maxRecDepth 100000 in
set_option maxHeartbeats 1000000 in
theorem vc2_1 (V : Int) (hV : V = 0) (w : World) :
    Calls Tryz.prog 53 #[.agg #[.int .u8 2,.int .i64 1,.string ⟨#[]⟩]] w fun e w' => e = .returned (.int .i64 V) ∧ Below w.heap.size w w':=by
  have H1:=Lib.hid ((Ok.start w).alloc w.heap.size 59 [.int .u8 2,.int .i64 1,.string ⟨#[]⟩] rfl)
  subst hV
  go_enter Tryz.func53,Tryz.ntmps53
  go_wp2_with fail
  generalize (w.alloc (.cells #[.int .u8 2,.int .i64 1,.string ⟨#[]⟩] 59)) = W2 at H1 ⊢
  all_goals go_ret
  all_goals exact ⟨rfl,H1.out.bel⟩
set_option maxRecDepth 100000 in
set_option maxHeartbeats 1000000 in
theorem vc2_no (n : Int) (V : Int) (hV : V = 2) (h0 : (n / 2 == 0) = false) (w : World) :
    Calls Tryz.prog 53 #[.agg #[.int .u8 2,.int .i64 n,.string ⟨#[]⟩]] w fun e w' => e = .returned (.int .i64 V) ∧ Below w.heap.size w w':=by
  have H1:=Lib.hid ((Ok.start w).alloc w.heap.size 59 [.int .u8 2,.int .i64 n,.string ⟨#[]⟩] rfl)
  subst hV
  go_enter Tryz.func53,Tryz.ntmps53
  go_wp2_with fail
  generalize (w.alloc (.cells #[.int .u8 2,.int .i64 n,.string ⟨#[]⟩] 59)) = W2 at H1 ⊢
  all_goals go_ret
  all_goals exact ⟨rfl,H1.out.bel⟩
set_option maxRecDepth 100000 in
set_option maxHeartbeats 1000000 in
theorem vc4_yes (n : Int) (V : Int) (hV : V = 0) (h1 : 1 ≤ n) (h6 : n ≤ 6) (w : World) :
    Calls Tryz.prog 53 #[.agg #[.int .u8 4,.int .i64 n,.string ⟨#[]⟩]] w fun e w' => e = .returned (.int .i64 V) ∧ Below w.heap.size w w':=by
  have H1:=Lib.hid ((Ok.start w).alloc w.heap.size 59 [.int .u8 4,.int .i64 n,.string ⟨#[]⟩] rfl)
  subst hV
  go_enter Tryz.func53,Tryz.ntmps53
  go_wp2_with fail
  generalize (w.alloc (.cells #[.int .u8 4,.int .i64 n,.string ⟨#[]⟩] 59)) = W2 at H1 ⊢
  all_goals go_ret
  all_goals exact ⟨rfl,H1.out.bel⟩
set_option maxRecDepth 100000 in
set_option maxHeartbeats 1000000 in
theorem vc4_lo (n : Int) (V : Int) (hV : V = 2) (h1 : ¬ 1 ≤ n) (w : World) :
    Calls Tryz.prog 53 #[.agg #[.int .u8 4,.int .i64 n,.string ⟨#[]⟩]] w fun e w' => e = .returned (.int .i64 V) ∧ Below w.heap.size w w':=by
  have H1:=Lib.hid ((Ok.start w).alloc w.heap.size 59 [.int .u8 4,.int .i64 n,.string ⟨#[]⟩] rfl)
  subst hV
  go_enter Tryz.func53,Tryz.ntmps53
  go_wp2_with fail
  generalize (w.alloc (.cells #[.int .u8 4,.int .i64 n,.string ⟨#[]⟩] 59)) = W2 at H1 ⊢
  all_goals go_ret
  all_goals exact ⟨rfl,H1.out.bel⟩
set_option maxRecDepth 100000 in
set_option maxHeartbeats 1000000 in
theorem vc4_hi (n : Int) (V : Int) (hV : V = 2) (h1 : 1 ≤ n) (h6 : ¬ n ≤ 6) (w : World) :
    Calls Tryz.prog 53 #[.agg #[.int .u8 4,.int .i64 n,.string ⟨#[]⟩]] w fun e w' => e = .returned (.int .i64 V) ∧ Below w.heap.size w w':=by
  have H1:=Lib.hid ((Ok.start w).alloc w.heap.size 59 [.int .u8 4,.int .i64 n,.string ⟨#[]⟩] rfl)
  subst hV
  go_enter Tryz.func53,Tryz.ntmps53
  go_wp2_with fail
  generalize (w.alloc (.cells #[.int .u8 4,.int .i64 n,.string ⟨#[]⟩] 59)) = W2 at H1 ⊢
  all_goals go_ret
  all_goals exact ⟨rfl,H1.out.bel⟩
set_option maxRecDepth 100000 in
set_option maxHeartbeats 1000000 in
theorem vc3_n (n : Int) (s : ByteArray) (V : Int) (hV : V = 2) (hn : (n == 0) = false) (w : World) :
    Calls Tryz.prog 53 #[.agg #[.int .u8 3,.int .i64 n,.string s]] w fun e w' => e = .returned (.int .i64 V) ∧ Below w.heap.size w w':=by
  have H1:=Lib.hid ((Ok.start w).alloc w.heap.size 59 [.int .u8 3,.int .i64 n,.string s] rfl)
  subst hV
  go_enter Tryz.func53,Tryz.ntmps53
  go_wp2_with fail
  generalize (w.alloc (.cells #[.int .u8 3,.int .i64 n,.string s] 59)) = W2 at H1 ⊢
  all_goals go_ret
  all_goals exact ⟨rfl,H1.out.bel⟩
set_option maxRecDepth 100000 in
set_option maxHeartbeats 1000000 in
theorem vc3_0 (s : ByteArray) (V c : Int) (hc : checkT s.data.toList = c) (hV : (c = 0 ∧ V = 0) ∨ ((c == 0) = false ∧ V = 2)) (hs : s.size ≤ 4611686018427387904) (w : World) :
    Calls Tryz.prog 53 #[.agg #[.int .u8 3,.int .i64 0,.string s]] w fun e w' => e = .returned (.int .i64 V) ∧ Below w.heap.size w w':=by
  have H1:=Lib.hid ((Ok.start w).alloc w.heap.size 59 [.int .u8 3,.int .i64 0,.string s] rfl)
  have HS:=Lib.hid hs
  have HC:=keep hc
  have HV:=keep hV
  clear hs hc hV
  go_enter Tryz.func53,Tryz.ntmps53
  go_wp2_with fail
  generalize (w.alloc (.cells #[.int .u8 3,.int .i64 0,.string s] 59)) = W2 at H1 ⊢
  refine (glyph_Check s _ HS.out).mono ?_
  rintro e w3 ⟨rfl,hb4⟩
  rw [HC.out]
  have H5:=Lib.hid (H1.out.below hb4)
  clear hb4 H1
  have F6:=H5.out.sees
  simp only [sees,kBlk,cellsAt,Nat.reduceAdd] at F6
  obtain ⟨⟨z0,c0_0,c0_1,c0_2,-⟩,-⟩:=F6
  rcases HV.out with ⟨hc0,hV⟩ | ⟨hc0,hV⟩
  · subst hV
    subst hc0
    clear HC HV
    go_wp2_with fail
    go_ret
    exact ⟨rfl,H5.out.bel⟩
  · subst hV
    clear HC HV
    go_wp2_with fail
    go_ret
    exact ⟨rfl,H5.out.bel⟩
set_option maxRecDepth 100000 in
set_option maxHeartbeats 1000000 in
theorem vc_other (k : Nat) (n : Int) (s : ByteArray) (V : Int) (hV : V = 2) (h0 : ((k : Int) == 0) = false) (h1 : ((k : Int) == 1) = false) (h2 : ((k : Int) == 2) = false) (h3 : ((k : Int) == 3) = false) (h4 : ((k : Int) == 4) = false) (w : World) :
    Calls Tryz.prog 53 #[.agg #[.int .u8 (k : Nat),.int .i64 n,.string s]] w fun e w' => e = .returned (.int .i64 V) ∧ Below w.heap.size w w':=by
  have H1:=Lib.hid ((Ok.start w).alloc w.heap.size 59 [.int .u8 (k : Nat),.int .i64 n,.string s] rfl)
  subst hV
  go_enter Tryz.func53,Tryz.ntmps53
  go_wp2_with fail
  generalize (w.alloc (.cells #[.int .u8 (k : Nat),.int .i64 n,.string s] 59)) = W2 at H1 ⊢
  all_goals go_ret
  all_goals exact ⟨rfl,H1.out.bel⟩
theorem val_Check (k : Nat) (n : Int) (s : ByteArray) (hs : s.size ≤ 4611686018427387904) (w : World) :
    Calls Tryz.prog 53 #[.agg #[.int .u8 (k : Nat),.int .i64 n,.string s]] w fun e w' => e = .returned (.int .i64 (valE k n s.data.toList)) ∧ Below w.heap.size w w':=by
  have nope : ∀ {j : Nat},k ≠ j → ((k : Int) == (j : Int)) = false:=by intro j h; simp; omega
  by_cases k0 : k = 0
  · subst k0
    cases hb : eq3 0 n 0 0 s.toList [] with
    | true => exact vc0_yes n s _ (valE_yes (.inl ⟨rfl,by have:=(eq3_iff ..).1 hb; exact ⟨this.2.1,by rw [← toL]; exact this.2.2⟩⟩)) hb w
    | false => exact vc0_no n s _ (valE_no (fun h => by
        rcases h with ⟨-,h1,h2⟩ | ⟨h,-⟩ | ⟨h,-⟩ | ⟨h,-⟩ | ⟨h,-⟩
        · have:=(eq3_iff 0 n 0 0 s.toList []).2 ⟨rfl,h1,by rw [toL]; exact h2⟩
          rw [hb] at this; cases this
        all_goals exact absurd h (by decide))) hb w
  by_cases k1 : k = 1
  · subst k1
    by_cases he : s = ⟨#[]⟩
    · subst he
      by_cases hn : n = -9223372036854775808
      · subst hn; exact vc1_no _ (valE_no (fun h => by
          rcases h with ⟨h,-⟩ | ⟨-,-,h⟩ | ⟨h,-⟩ | ⟨h,-⟩ | ⟨h,-⟩
          · exact absurd h (by decide)
          · exact h rfl
          all_goals exact absurd h (by decide))) w
      · exact vc1_yes n _ (valE_yes (.inr (.inl ⟨rfl,rfl,hn⟩))) (by simpa using hn) w
    · exact vc1_s n s _ (valE_no (fun h => by
        rcases h with ⟨h,-⟩ | ⟨-,h,-⟩ | ⟨h,-⟩ | ⟨h,-⟩ | ⟨h,-⟩
        · exact absurd h (by decide)
        · exact (str_nil he).1 h
        all_goals exact absurd h (by decide))) (str_nil he).2 w
  by_cases k2 : k = 2
  · subst k2
    by_cases he : s = ⟨#[]⟩
    · subst he
      by_cases hn : n = 0
      · subst hn; exact vc2_0 _ (valE_yes (.inr (.inr (.inl ⟨rfl,rfl,.inl rfl⟩)))) w
      by_cases hn1 : n = 1
      · subst hn1; exact vc2_1 _ (valE_yes (.inr (.inr (.inl ⟨rfl,rfl,.inr rfl⟩)))) w
      exact vc2_no n _ (valE_no (fun h => by
        rcases h with ⟨h,-⟩ | ⟨h,-⟩ | ⟨-,-,h⟩ | ⟨h,-⟩ | ⟨h,-⟩
        · exact absurd h (by decide)
        · exact absurd h (by decide)
        · exact h.elim hn hn1
        all_goals exact absurd h (by decide))) (by simp; omega) w
    · exact vc2_s n s _ (valE_no (fun h => by
        rcases h with ⟨h,-⟩ | ⟨h,-⟩ | ⟨-,h,-⟩ | ⟨h,-⟩ | ⟨h,-⟩
        · exact absurd h (by decide)
        · exact absurd h (by decide)
        · exact (str_nil he).1 h
        all_goals exact absurd h (by decide))) (str_nil he).2 w
  by_cases k3 : k = 3
  · subst k3
    by_cases hn : n = 0
    · subst hn
      refine vc3_0 s _ _ rfl ?_ hs w
      by_cases hc : checkT s.data.toList = 0
      · exact .inl ⟨hc,valE_yes (.inr (.inr (.inr (.inl ⟨rfl,rfl,hc⟩))))⟩
      · refine .inr ⟨by simpa using hc,valE_no (fun h => ?_)⟩
        rcases h with ⟨h,-⟩ | ⟨h,-⟩ | ⟨h,-⟩ | ⟨-,-,h⟩ | ⟨h,-⟩
        · exact absurd h (by decide)
        · exact absurd h (by decide)
        · exact absurd h (by decide)
        · exact hc h
        · exact absurd h (by decide)
    · refine vc3_n n s _ (valE_no (fun h => ?_)) (by simpa using hn) w
      rcases h with ⟨h,-⟩ | ⟨h,-⟩ | ⟨h,-⟩ | ⟨-,h,-⟩ | ⟨h,-⟩
      · exact absurd h (by decide)
      · exact absurd h (by decide)
      · exact absurd h (by decide)
      · exact hn h
      · exact absurd h (by decide)
  by_cases k4 : k = 4
  · subst k4
    by_cases he : s = ⟨#[]⟩
    · subst he
      by_cases h1 : 1 ≤ n
      · by_cases h6 : n ≤ 6
        · exact vc4_yes n _ (valE_yes (.inr (.inr (.inr (.inr ⟨rfl,rfl,h1,h6⟩))))) h1 h6 w
        · refine vc4_hi n _ (valE_no (fun h => ?_)) h1 h6 w
          rcases h with ⟨h,-⟩ | ⟨h,-⟩ | ⟨h,-⟩ | ⟨h,-⟩ | ⟨-,-,-,h⟩
          iterate 4 exact absurd h (by decide)
          exact h6 h
      · refine vc4_lo n _ (valE_no (fun h => ?_)) h1 w
        rcases h with ⟨h,-⟩ | ⟨h,-⟩ | ⟨h,-⟩ | ⟨h,-⟩ | ⟨-,-,h,-⟩
        iterate 4 exact absurd h (by decide)
        exact h1 h
    · refine vc4_s n s _ (valE_no (fun h => ?_)) (str_nil he).2 w
      rcases h with ⟨h,-⟩ | ⟨h,-⟩ | ⟨h,-⟩ | ⟨h,-⟩ | ⟨-,h,-⟩
      iterate 4 exact absurd h (by decide)
      exact (str_nil he).1 h
  refine vc_other k n s _ (valE_no (fun h => ?_)) (nope k0) (nope k1) (nope k2) (nope k3) (nope k4) w
  rcases h with ⟨h,-⟩ | ⟨h,-⟩ | ⟨h,-⟩ | ⟨h,-⟩ | ⟨h,-⟩ <;> contradiction
end Go.Proofs.YtmalncmdfmoccaaGreatDoor
