/- Chapter 42's reference: value. -/
import Derived.Test.YtmalncmdfmoccaaGreatDoorCRmb
import Derived.Test.YtmalncmdfmoccaaGreatDoorCRlk
namespace Go.Proofs.YtmalncmdfmoccaaGreatDoor
open Go.RowKit
set_option maxRecDepth 100000 in
set_option maxHeartbeats 8000000 in
theorem rn_show (k : Nat) (n : Int) (s : ByteArray) (h1 : -9223372036854775808 ≤ n) (h2 : n ≤ 9223372036854775807) (hg : goodL (k,n,s.data.toList)) (g0 : k ≠ 0) (g3 : k ≠ 3) (w : World) :
    Calls Tryz.prog 65 #[.agg #[.int .u8 (k : Nat),.int .i64 n,.string s]] w fun e w' => e = .returned (.string ⟨(showV k n s.data.toList).toArray⟩) ∧ Below w.heap.size w w':=by
  have nil : s.data.toList = [] → s = ⟨#[]⟩:=by
    intro e
    apply Classical.byContradiction
    intro h
    exact (str_nil h).1 e
  rcases hg with hg | hg
  · rcases hg with ⟨h,-⟩ | ⟨h,e,h5⟩ | ⟨h,e,h5⟩ | ⟨h,-⟩ | ⟨h,e,h5,h6⟩
    · exact absurd h g0
    · obtain rfl : k = 1:=h
      obtain rfl:=nil e
      have h5 : n ≠ -9223372036854775808:=h5
      exact ref5_ShowN n ⟨by omega,h2⟩ w
    · obtain rfl : k = 2:=h
      obtain rfl:=nil e
      exact ref5_ShowB n h5 w
    · exact absurd h g3
    · obtain rfl : k = 4:=h
      obtain rfl:=nil e
      have h : n = 1 ∨ n = 2 ∨ n = 3 ∨ n = 4 ∨ n = 5 ∨ n = 6:=by
        have h5 : 1 ≤ n:=h5
        have h6 : n ≤ 6:=h6
        omega
      rcases h with rfl | rfl | rfl | rfl | rfl | rfl <;> exact ref5_Show _ w
  · have e1 : k = 4:=congrArg (fun v : VlL => v.1) hg
    have e2 : n = 7:=congrArg (fun v : VlL => v.2.1) hg
    have e3 : s.data.toList = []:=congrArg (fun v : VlL => v.2.2) hg
    clear hg
    subst e1 e2
    obtain rfl:=nil e3
    exact ref5_Show 7 w
set_option maxRecDepth 100000 in
set_option maxHeartbeats 8000000 in
theorem rn_value (k : Nat) (n : Int) (s : ByteArray) (hs : s.size ≤ 4611686018427387904) (h1 : -9223372036854775808 ≤ n) (h2 : n ≤ 9223372036854775807) (hg : goodL (k,n,s.data.toList)) (w : World) :
    Calls Tryz.prog 34 #[.agg #[.int .u8 (k : Nat),.int .i64 n,.string s]] w fun e w' => e = .returned (.string ⟨(valT (k,n,s.data.toList)).toArray⟩) ∧ Below w.heap.size w w':=by
  have HSH:=keep (fun g0 g3 W => rn_show k n s h1 h2 hg g0 g3 W)
  have HQ:=keep (show k = 3 → quoteT s.data.toList = quoteS s.data.toList from by
    intro g
    subst g
    rcases hg with hg | hg
    · rcases hg with ⟨h,-⟩ | ⟨h,-⟩ | ⟨h,-⟩ | ⟨-,-,h⟩ | ⟨h,-⟩
      · cases h
      · cases h
      · cases h
      · unfold quoteT
        rw [if_pos h]
      · cases h
    · cases hg)
  have HL:=keep (fun W => rn_literal s hs W)
  clear hs hg h1 h2
  by_cases g0 : k = 0
  · subst g0
    rw [show valT (0,n,s.data.toList) = [45] from rfl]
    have H1:=Lib.hid ((Ok.start w).alloc w.heap.size 59 [.int .u8 0,.int .i64 n,.string s] rfl)
    go_enter Tryz.func34,Tryz.ntmps34
    go_upto_region 1 with fail
    generalize (w.alloc (.cells #[.int .u8 0,.int .i64 n,.string s] 59)) = W2 at H1 ⊢
    have F3:=H1.out.sees
    simp only [sees,kBlk,cellsAt,Nat.reduceAdd] at F3
    obtain ⟨⟨z0,c0_0,c0_1,c0_2,-⟩,-⟩:=F3
    go_wp2_with fail
    go_ret
    exact ⟨rfl,H1.out.bel⟩
  by_cases g3 : k = 3
  · have hq:=HQ.out g3
    subst g3
    rw [show valT (3,n,s.data.toList) = quoteS s.data.toList from rfl,← hq]
    clear hq
    have H1:=Lib.hid ((Ok.start w).alloc w.heap.size 59 [.int .u8 3,.int .i64 n,.string s] rfl)
    go_enter Tryz.func34,Tryz.ntmps34
    go_upto_region 1 with fail
    generalize (w.alloc (.cells #[.int .u8 3,.int .i64 n,.string s] 59)) = W2 at H1 ⊢
    have F3:=H1.out.sees
    simp only [sees,kBlk,cellsAt,Nat.reduceAdd] at F3
    obtain ⟨⟨z0,c0_0,c0_1,c0_2,-⟩,-⟩:=F3
    go_wp2_with fail
    refine (HL.out _).mono ?_
    rintro e w4 ⟨rfl,hb5⟩
    clear z0 c0_0 c0_1 c0_2
    have H6:=Lib.hid (H1.out.below hb5)
    clear hb5 H1
    have F7:=H6.out.sees
    simp only [sees,kBlk,cellsAt,Nat.reduceAdd] at F7
    obtain ⟨⟨z0,c0_0,c0_1,c0_2,-⟩,-⟩:=F7
    go_wp2_with fail
    go_ret
    exact ⟨rfl,H6.out.bel⟩
  have HW:=keep (HSH.out g0 g3)
  have k0 : ((k : Int) == 0) = false:=by simp; omega
  have k3 : ((k : Int) == 3) = false:=by simp; omega
  rw [show valT (k,n,s.data.toList) = showV k n s.data.toList by unfold valT; rw [if_neg g0,if_neg g3]]
  clear g0 g3
  have H1:=Lib.hid ((Ok.start w).alloc w.heap.size 59 [.int .u8 (k : Nat),.int .i64 n,.string s] rfl)
  go_enter Tryz.func34,Tryz.ntmps34
  go_upto_region 1 with fail
  generalize (w.alloc (.cells #[.int .u8 (k : Nat),.int .i64 n,.string s] 59)) = W2 at H1 ⊢
  have F3:=H1.out.sees
  simp only [sees,kBlk,cellsAt,Nat.reduceAdd] at F3
  obtain ⟨⟨z0,c0_0,c0_1,c0_2,-⟩,-⟩:=F3
  go_wp2_with fail
  refine (HW.out _).mono ?_
  rintro e w4 ⟨rfl,hb5⟩
  clear z0 c0_0 c0_1 c0_2
  have H6:=Lib.hid (H1.out.below hb5)
  clear hb5 H1
  have F7:=H6.out.sees
  simp only [sees,kBlk,cellsAt,Nat.reduceAdd] at F7
  obtain ⟨⟨z0,c0_0,c0_1,c0_2,-⟩,-⟩:=F7
  go_wp2_with fail
  go_ret
  exact ⟨rfl,H6.out.bel⟩
end Go.Proofs.YtmalncmdfmoccaaGreatDoor
