/- Chapter 42's reference: num, yes, join, literal, word. -/
import Derived.Test.YtmalncmdfmoccaaGreatDoorCLnR
import Derived.Test.YtmalncmdfmoccaaGreatDoorCRvk
import Derived.Test.YtmalncmdfmoccaaGreatDoorCRng
namespace Go.Proofs.YtmalncmdfmoccaaGreatDoor
open Go.RowKit
theorem join_pre (a b : List (List UInt8)) : (Lib.join a [32]).length ≤ (Lib.join (a ++ b) [32]).length:=by
  induction b generalizing a with
  | nil => rw [List.append_nil]; exact Nat.le_refl _
  | cons y b ih =>
    have h:=ih (a ++ [y])
    rw [List.append_assoc] at h
    refine Nat.le_trans ?_ h
    by_cases ha : a = []
    · subst ha; exact Nat.zero_le _
    · rw [join_snoc a y [32] ha,List.length_append]; omega
theorem join_take (l : List (List UInt8)) {k : Nat} {x : List UInt8} (h : l[k]? = some x) : Lib.join (l.take (k + 1)) [32] = (if k = 0 then x else Lib.join (l.take k) [32] ++ (32 :: x)):=by
  rw [take_snoc h]
  split
  · next h0 => subst h0; exact Lib.join_one x [32]
  · next h0 =>
    rw [join_snoc]
    · rfl
    · intro e
      have h1 : (l.take k).length = 0:=by rw [e]; rfl
      have h2 : k < l.length:=(List.getElem?_eq_some_iff.1 h).1
      rw [List.length_take] at h1
      omega
theorem sizeLq (t : ByteArray) : t.data.toList.length = t.size:=Array.length_toList
theorem ba_data (a b : ByteArray) : (a ++ b).data.toList = a.data.toList ++ b.data.toList:=by simp
theorem join_take_le (l : List (List UInt8)) (k : Nat) : (Lib.join (l.take k) [32]).length ≤ (Lib.join l [32]).length:=by
  have h:=join_pre (l.take k) (l.drop k)
  rwa [List.take_append_drop] at h
set_option maxRecDepth 100000 in
set_option maxHeartbeats 8000000 in
theorem rn_num (n : Int) (h : i64B n) (w : World) :
    Calls Tryz.prog 30 #[.int .i64 n] w fun e w' => e = .returned (.string ⟨(Lib.itoa n).toArray⟩) ∧ Below w.heap.size w w':=by
  have HN:=keep h
  clear h
  have H1:=Lib.hid (Ok.start w)
  go_enter Tryz.func30,Tryz.ntmps30
  go_wp2_with fail
  refine (r9_Number n HN.out _).mono ?_
  rintro e w2 ⟨rfl,hb3⟩
  have H4:=Lib.hid (H1.out.below hb3)
  clear hb3 H1
  go_wp2_with fail
  go_ret
  exact ⟨rfl,H4.out.bel⟩
set_option maxRecDepth 100000 in
set_option maxHeartbeats 8000000 in
theorem rn_yes (b : Bool) (x y : ByteArray) (w : World) :
    Calls Tryz.prog 67 #[.bool b,.string x,.string y] w fun e w' => e = .returned (.string (if b then x else y)) ∧ Below w.heap.size w w':=by
  cases b
  · have H1:=Lib.hid (Ok.start w)
    go_enter Tryz.func67,Tryz.ntmps67
    go_wp2_with fail
    go_ret
    exact ⟨rfl,H1.out.bel⟩
  · have H1:=Lib.hid (Ok.start w)
    go_enter Tryz.func67,Tryz.ntmps67
    go_wp2_with fail
    go_ret
    exact ⟨rfl,H1.out.bel⟩
set_option maxRecDepth 100000 in
set_option maxHeartbeats 8000000 in
theorem rn_literal (s : ByteArray) (hs : s.size ≤ 4611686018427387904) (w : World) :
    Calls Tryz.prog 31 #[.string s] w fun e w' => e = .returned (.string ⟨(quoteT s.data.toList).toArray⟩) ∧ Below w.heap.size w w':=by
  have HQ:=keep (fun W => ref4_Quote s W hs)
  obtain ⟨Q,hQ⟩ : ∃ Q : ByteArray,⟨(quoteT s.data.toList).toArray⟩ = Q:=⟨_,rfl⟩
  rw [hQ] at HQ ⊢
  clear hQ
  have H1:=Lib.hid (Ok.start w)
  go_enter Tryz.func31,Tryz.ntmps31
  go_wp2_with fail
  refine (HQ.out _).mono ?_
  rintro e w2 ⟨rfl,hb3⟩
  have H4:=Lib.hid (H1.out.below hb3)
  clear hb3 H1
  go_wp2_with fail
  go_ret
  exact ⟨rfl,H4.out.bel⟩
set_option maxRecDepth 100000 in
set_option maxHeartbeats 8000000 in
theorem rn_word (c : Nat) (hc : c ≤ 8) (w : World) :
    Calls Tryz.prog 29 #[.int .u8 (c : Nat)] w fun e w' => e = .returned (.string ⟨((codeN[c]?).getD []).toArray⟩) ∧ Below w.heap.size w w':=by
  obtain rfl | rfl | rfl | rfl | rfl | rfl | rfl | rfl | rfl : c = 0 ∨ c = 1 ∨ c = 2 ∨ c = 3 ∨ c = 4 ∨ c = 5 ∨ c = 6 ∨ c = 7 ∨ c = 8:=by omega
  all_goals
    have H1:=Lib.hid (Ok.start w)
    go_enter Tryz.func29,Tryz.ntmps29
    go_wp2_with fail
    first
      | (go_ret; exact ⟨rfl,H1.out.bel⟩)
      | (go_step3; go_wp2_with fail; go_ret; exact ⟨rfl,H1.out.bel⟩)
set_option maxRecDepth 100000 in
set_option maxHeartbeats 8000000 in
theorem rn_join_cells {w : World} {g n c : Nat} (l : List (List UInt8)) (hx : ∀ j x,(strsV l)[j]? = some x → w.cell? ⟨g,j,none⟩ = some x) (hn : l.length = n) (_hc : n ≤ c) (hl : l.length ≤ 100000) (hlen : (Lib.join l [32]).length ≤ 140737488355328) :
    Calls Tryz.prog 37 #[.slice (some ⟨g,0,none⟩) n c] w fun e w' => e = .returned (.string ⟨(Lib.join l [32]).toArray⟩) ∧ Below w.heap.size w w':=by
  have HX:=keep hx
  have HL:=keep hlen
  have HNL:=keep hn
  have hn2 : n ≤ 100000:=by omega
  have h32 : (⟨#[32]⟩ : ByteArray).size = 1:=rfl
  obtain ⟨J,hJ⟩ : ∃ J : ByteArray,⟨(Lib.join l [32]).toArray⟩ = J:=⟨_,rfl⟩
  rw [hJ]
  have HJ:=keep hJ
  clear hx hlen hn hl hJ
  go_enter Tryz.func37,Tryz.ntmps37
  go_wp2_with fail
  go_loopw [3,4] (fun sv iv wr => ∃ (k : Nat) (S : ByteArray),k ≤ n ∧ iv = .int .i64 (k : Int) ∧ sv = .string S ∧ Keep (S.data.toList = Lib.join (l.take k) [32]) ∧ wr = w) (fun _ iv _ => n - (intOf iv).toNat)
  case atStart => exact ⟨0,⟨#[]⟩,Nat.zero_le _,rfl,rfl,keep rfl,rfl⟩
  case round =>
    obtain ⟨k,S,hk,rfl,rfl,HS,hwr⟩:=hrel
    obtain rfl : w = wr:=hwr.symm
    by_cases hlt : (k : Int) < (n : Int)
    · obtain ⟨x,hxk⟩ : ∃ x,l[k]? = some x:=⟨_,List.getElem?_eq_getElem (by have:=HNL.out; omega)⟩
      have hcell:=HX.out k (.string ⟨x.toArray⟩) (by unfold strsV; rw [List.getElem?_map,hxk]; rfl)
      have HJT:=keep (join_take l hxk)
      have hle:=join_take_le l (k + 1)
      have hss : S.size = (Lib.join (l.take k) [32]).length:=by rw [← HS.out,sizeLq]
      have hxs : (⟨x.toArray⟩ : ByteArray).size = x.length:=rfl
      obtain ⟨X,hX⟩ : ∃ X : ByteArray,⟨x.toArray⟩ = X:=⟨_,rfl⟩
      rw [hX] at hcell hxs
      have HXX:=keep hX
      by_cases k0 : k = 0
      · have hb : S.size + X.size ≤ 140737488355328:=by
          have h1:=HJT.out
          rw [if_pos k0] at h1
          rw [h1] at hle
          have h2:=HL.out
          have h3 : S.size = 0:=by rw [hss,k0]; rfl
          omega
        clear hle hss hxs hX hxk
        subst k0
        go_wp2_with fail
        go_roundw
        case rel => exact ⟨1,_,by omega,rfl,rfl,keep (by rw [HJT.out,if_pos rfl,ba_data,HS.out,← HXX.out]; rfl),trivial⟩
        case measure => simp [intOf]; omega
      · have hb : S.size + 1 + X.size ≤ 140737488355328:=by
          have h1:=HJT.out
          rw [if_neg k0] at h1
          rw [h1,List.length_append,List.length_cons] at hle
          have h2:=HL.out
          omega
        have hgt : (k : Int) > 0:=by omega
        clear hle hss hxs hX hxk
        have K0:=keep k0
        clear k0
        go_wp2_with fail
        go_roundw
        case rel => exact ⟨k + 1,_,by omega,by go_num,rfl,keep (by rw [HJT.out,if_neg K0.out,ba_data,ba_data,HS.out,← HXX.out,List.append_assoc]; rfl),trivial⟩
        case measure => simp [intOf]; omega
    · obtain rfl : n = k:=by omega
      have hq : S = J:=by
        rw [← HJ.out]
        apply ByteArray.ext
        apply Array.ext'
        have h1:=HS.out
        rw [List.take_of_length_le (by rw [HNL.out]; exact Nat.le_refl _)] at h1
        exact h1
      subst hq
      go_wp2_with fail
      go_ret
      exact ⟨rfl,Below.refl _ _⟩
theorem rn_join {w : World} {g n : Nat} (l : List (List UInt8)) (h : Blk w g 9 (strsV l).toArray) (hn : l.length = n) (hl : l.length ≤ 100000) (hlen : (Lib.join l [32]).length ≤ 140737488355328) :
    Calls Tryz.prog 37 #[.slice (some ⟨g,0,none⟩) n n] w fun e w' => e = .returned (.string ⟨(Lib.join l [32]).toArray⟩) ∧ Below w.heap.size w w' :=
  rn_join_cells l (fun j x hx => by rw [h.cell j,List.getElem?_toArray]; exact hx) hn (Nat.le_refl _) hl hlen
theorem rn_join_own {w : World} {base : Nat} {v : Value} (l : List (List UInt8)) (h : w.ownsRow base 9 1 v l.length (strsV l)) (hne : l ≠ []) (hl : l.length ≤ 100000) (hlen : (Lib.join l [32]).length ≤ 140737488355328) :
    Calls Tryz.prog 37 #[v] w fun e w' => e = .returned (.string ⟨(Lib.join l [32]).toArray⟩) ∧ Below w.heap.size w w':=by
  have hc:=@World.ownsRow.cells _ _ _ _ _ _ _ h
  have hlt:=h.lt
  rcases h.2 with ⟨rfl,h0⟩ | ⟨g,cap,cur,rfl,h4,h5,h6,h7,h8,h9⟩
  · exact absurd (List.length_eq_zero_iff.1 h0) hne
  · refine rn_join_cells l (fun j x hx => ?_) rfl h6 hl hlen
    have h10:=hc rfl j x hx
    rw [show (⟨g,0,none⟩ : Addr).add j = ⟨g,0 + j,none⟩ by unfold Addr.add; split <;> simp_all,Nat.zero_add] at h10
    exact h10
end Go.Proofs.YtmalncmdfmoccaaGreatDoor
