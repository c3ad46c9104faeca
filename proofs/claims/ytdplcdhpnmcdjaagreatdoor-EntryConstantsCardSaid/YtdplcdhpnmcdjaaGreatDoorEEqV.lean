/- Equality of values and of nodes as one Bool; val.Check at any value. -/
import Derived.Test.YtdplcdhpnmcdjaaGreatDoorETreA
import Derived.Test.YtdplcdhpnmcdjaaGreatDoorETg
import Derived.Test.YtdplcdhpnmcdjaaGreatDoorELexO
import Derived.Laws.StructEq
namespace Go.Proofs.YtdplcdhpnmcdjaaGreatDoor
set_option maxRecDepth 100000
set_option maxHeartbeats 4000000
open Go.RowKit Go.Proofs.Tryz
def eq3 (k n k' n':Int) (s s':List UInt8):Bool:=decide (k=k') && (decide (n=n') && (decide (s=s')))
theorem dW (k n k' n':Int) (s s':List UInt8):eq3 k n k' n' s s'=true↔k=k'∧n=n'∧s=s':=by
 unfold eq3
 simp only [Bool.and_eq_true,decide_eq_true_eq]
@[local go_sem high] theorem ju (k n k' n':Int) (s s':ByteArray) (w:World):(Op.equalIn 10000 35 (.agg #[.int .u8 k,.int .i64 n,.string s]) (.agg #[.int .u8 k',.int .i64 n',.string s'])).run prog w=.ok (eq3 k n k' n' s.toList s'.toList) w:=by
 have u1:=underlying5
 have u2:=underlying2
 have u4:=underlying9
 have hS:prog.underlying 35=some (.struct (prog.fieldsOf 35)):=by kernel_rfl
 have hp:prog.stoodInHeld 35=false:=by kernel_rfl
 rw [show (10000:Nat)=9999+1 from rfl,run_equalIn_agg w 9999 _ _ _ hS hp]
 simp only [Program.fieldsOf,underlying35]
 unfold eq3
 go_simp
 by_cases h:k=k'
 rotate_left
 ·rw [if_neg h,decide_eq_false h]; rfl
 rw [if_pos h,decide_eq_true h,Bool.true_and]
 clear h
 by_cases h:n=n'
 rotate_left
 ·rw [if_neg h,decide_eq_false h]; rfl
 rw [if_pos h,decide_eq_true h,Bool.true_and]
 clear h
 by_cases h:s.toList=s'.toList
 ·rw [if_pos h,decide_eq_true h]
 rw [if_neg h,decide_eq_false h]
def bY (k vk vn a1 a2 a3 a4 op fn n k' vk' vn' a1' a2' a3' a4' op' fn' n':Int) (s s':List UInt8):Bool:=decide (k=k') && (decide (vk=vk') && (decide (vn=vn') && (decide (s=s') && (decide (a1=a1') && (decide (a2=a2') && (decide (a3=a3') && (decide (a4=a4') && (decide (op=op') && (decide (fn=fn') && (decide (n=n')))))))))))
theorem tC (k vk vn a1 a2 a3 a4 op fn n k' vk' vn' a1' a2' a3' a4' op' fn' n':Int) (s s':ByteArray) (w:World):(Op.equalIn 10000 39 (.agg #[.int .u8 k,.int .u8 vk,.int .i64 vn,.string s,.int .i64 a1,.int .i64 a2,.int .i64 a3,.int .i64 a4,.int .i64 op,.int .u8 fn,.int .i64 n]) (.agg #[.int .u8 k',.int .u8 vk',.int .i64 vn',.string s',.int .i64 a1',.int .i64 a2',.int .i64 a3',.int .i64 a4',.int .i64 op',.int .u8 fn',.int .i64 n'])).run prog w=.ok (bY k vk vn a1 a2 a3 a4 op fn n k' vk' vn' a1' a2' a3' a4' op' fn' n' s.toList s'.toList) w:=by
 have u1:=underlying5
 have u2:=underlying2
 have u3:=underlying3
 have u4:=underlying9
 have u5:=underlying37
 have u6:=underlying35
 have hS:prog.underlying 39=some (.struct (prog.fieldsOf 39)):=by kernel_rfl
 have hp:prog.stoodInHeld 39=false:=by kernel_rfl
 rw [show (10000:Nat)=9999+1 from rfl,run_equalIn_agg w 9999 _ _ _ hS hp]
 simp only [Program.fieldsOf,underlying39]
 unfold bY
 go_simp
 by_cases h:k=k'
 rotate_left
 ·rw [if_neg h,decide_eq_false h]; rfl
 rw [if_pos h,decide_eq_true h,Bool.true_and]
 clear h
 by_cases h:vk=vk'
 rotate_left
 ·rw [if_neg h,decide_eq_false h]; rfl
 rw [if_pos h,decide_eq_true h,Bool.true_and]
 clear h
 by_cases h:vn=vn'
 rotate_left
 ·rw [if_neg h,decide_eq_false h]; rfl
 rw [if_pos h,decide_eq_true h,Bool.true_and]
 clear h
 by_cases h:s.toList=s'.toList
 rotate_left
 ·rw [if_neg h,decide_eq_false h]; rfl
 rw [if_pos h,decide_eq_true h,Bool.true_and]
 clear h
 by_cases h:a1=a1'
 rotate_left
 ·rw [if_neg h,decide_eq_false h]; rfl
 rw [if_pos h,decide_eq_true h,Bool.true_and]
 clear h
 by_cases h:a2=a2'
 rotate_left
 ·rw [if_neg h,decide_eq_false h]; rfl
 rw [if_pos h,decide_eq_true h,Bool.true_and]
 clear h
 by_cases h:a3=a3'
 rotate_left
 ·rw [if_neg h,decide_eq_false h]; rfl
 rw [if_pos h,decide_eq_true h,Bool.true_and]
 clear h
 by_cases h:a4=a4'
 rotate_left
 ·rw [if_neg h,decide_eq_false h]; rfl
 rw [if_pos h,decide_eq_true h,Bool.true_and]
 clear h
 by_cases h:op=op'
 rotate_left
 ·rw [if_neg h,decide_eq_false h]; rfl
 rw [if_pos h,decide_eq_true h,Bool.true_and]
 clear h
 by_cases h:fn=fn'
 rotate_left
 ·rw [if_neg h,decide_eq_false h]; rfl
 rw [if_pos h,decide_eq_true h,Bool.true_and]
 clear h
 by_cases h:n=n'
 ·rw [if_pos h,decide_eq_true h]
 rw [if_neg h,decide_eq_false h]
def cellV (k:Nat) (n:Int) (t:List UInt8):Prop :=
 (k=0∧n=0∧t=[])∨(k=1∧t=[]∧n≠-9223372036854775808)∨(k=2∧t=[]∧(n=0∨n=1))∨(k=3∧n=0∧aC t=0)∨(k=4∧t=[]∧1≤n∧n≤6)
open Classical in
noncomputable def bm (k:Nat) (n:Int) (t:List UInt8):Int:=if cellV k n t then 0 else 2
theorem aF {k:Nat} {n:Int} {t:List UInt8} (h:cellV k n t):bm k n t=0:=if_pos h
theorem aQ {k:Nat} {n:Int} {t:List UInt8} (h:¬ cellV k n t):bm k n t=2:=if_neg h
theorem toL (s:ByteArray):s.toList=s.data.toList:=ByteArray.toList_eq s
theorem dB {s:ByteArray} (h:s≠⟨#[]⟩):s.data.toList≠[]∧s.toList.isEmpty=false:=by
 have h1:s.data.toList≠[]:=by
  intro e
  apply h
  obtain ⟨⟨l⟩⟩:=s
  have e:l=[]:=e
  subst e; rfl
 refine ⟨h1,?_⟩
 rw [toL]
 cases hl:s.data.toList with
 | nil=>exact absurd hl h1
 | cons=>rfl
theorem vx (n:Int) (s:ByteArray) (V:Int) (hV:V=0) (hb:eq3 0 n 0 0 s.toList []=true) (w:World) :
  Calls prog 37 #[.agg #[.int .u8 0,.int .i64 n,.string s]] w fun e w'=>e=.returned (.int .i64 V)∧Below w.heap.size w w':=by
 have H1:=Lib.hid ((Ok.start w).alloc w.heap.size 35 [.int .u8 0,.int .i64 n,.string s] rfl)
 subst hV
 go_enter func37,ntmps37
 go_wp2_with fail
 generalize (w.alloc (.cells #[.int .u8 0,.int .i64 n,.string s] 35))=W2 at H1 ⊢
 all_goals go_ret
 all_goals exact ⟨rfl,H1.out.bel⟩
theorem xr (n:Int) (s:ByteArray) (V:Int) (hV:V=2) (hb:eq3 0 n 0 0 s.toList []=false) (w:World) :
  Calls prog 37 #[.agg #[.int .u8 0,.int .i64 n,.string s]] w fun e w'=>e=.returned (.int .i64 V)∧Below w.heap.size w w':=by
 have H1:=Lib.hid ((Ok.start w).alloc w.heap.size 35 [.int .u8 0,.int .i64 n,.string s] rfl)
 subst hV
 go_enter func37,ntmps37
 go_wp2_with fail
 generalize (w.alloc (.cells #[.int .u8 0,.int .i64 n,.string s] 35))=W2 at H1 ⊢
 all_goals go_ret
 all_goals exact ⟨rfl,H1.out.bel⟩
theorem yE (n:Int) (s:ByteArray) (V:Int) (hV:V=2) (hs:s.toList.isEmpty=false) (w:World) :
  Calls prog 37 #[.agg #[.int .u8 1,.int .i64 n,.string s]] w fun e w'=>e=.returned (.int .i64 V)∧Below w.heap.size w w':=by
 have H1:=Lib.hid ((Ok.start w).alloc w.heap.size 35 [.int .u8 1,.int .i64 n,.string s] rfl)
 subst hV
 go_enter func37,ntmps37
 go_wp2_with fail
 generalize (w.alloc (.cells #[.int .u8 1,.int .i64 n,.string s] 35))=W2 at H1 ⊢
 all_goals go_ret
 all_goals exact ⟨rfl,H1.out.bel⟩
theorem yH (n:Int) (s:ByteArray) (V:Int) (hV:V=2) (hs:s.toList.isEmpty=false) (w:World) :
  Calls prog 37 #[.agg #[.int .u8 2,.int .i64 n,.string s]] w fun e w'=>e=.returned (.int .i64 V)∧Below w.heap.size w w':=by
 have H1:=Lib.hid ((Ok.start w).alloc w.heap.size 35 [.int .u8 2,.int .i64 n,.string s] rfl)
 subst hV
 go_enter func37,ntmps37
 go_wp2_with fail
 generalize (w.alloc (.cells #[.int .u8 2,.int .i64 n,.string s] 35))=W2 at H1 ⊢
 all_goals go_ret
 all_goals exact ⟨rfl,H1.out.bel⟩
theorem yK (n:Int) (s:ByteArray) (V:Int) (hV:V=2) (hs:s.toList.isEmpty=false) (w:World) :
  Calls prog 37 #[.agg #[.int .u8 4,.int .i64 n,.string s]] w fun e w'=>e=.returned (.int .i64 V)∧Below w.heap.size w w':=by
 have H1:=Lib.hid ((Ok.start w).alloc w.heap.size 35 [.int .u8 4,.int .i64 n,.string s] rfl)
 subst hV
 go_enter func37,ntmps37
 go_wp2_with fail
 generalize (w.alloc (.cells #[.int .u8 4,.int .i64 n,.string s] 35))=W2 at H1 ⊢
 all_goals go_ret
 all_goals exact ⟨rfl,H1.out.bel⟩
theorem vy (n:Int) (V:Int) (hV:V=0) (hn:(n != -9223372036854775808)=true) (w:World) :
  Calls prog 37 #[.agg #[.int .u8 1,.int .i64 n,.string ⟨#[]⟩]] w fun e w'=>e=.returned (.int .i64 V)∧Below w.heap.size w w':=by
 have H1:=Lib.hid ((Ok.start w).alloc w.heap.size 35 [.int .u8 1,.int .i64 n,.string ⟨#[]⟩] rfl)
 subst hV
 go_enter func37,ntmps37
 go_wp2_with fail
 generalize (w.alloc (.cells #[.int .u8 1,.int .i64 n,.string ⟨#[]⟩] 35))=W2 at H1 ⊢
 all_goals go_ret
 all_goals exact ⟨rfl,H1.out.bel⟩
theorem xt (V:Int) (hV:V=2) (w:World) :
  Calls prog 37 #[.agg #[.int .u8 1,.int .i64 (-9223372036854775808),.string ⟨#[]⟩]] w fun e w'=>e=.returned (.int .i64 V)∧Below w.heap.size w w':=by
 have H1:=Lib.hid ((Ok.start w).alloc w.heap.size 35 [.int .u8 1,.int .i64 (-9223372036854775808),.string ⟨#[]⟩] rfl)
 subst hV
 go_enter func37,ntmps37
 go_wp2_with fail
 generalize (w.alloc (.cells #[.int .u8 1,.int .i64 (-9223372036854775808),.string ⟨#[]⟩] 35))=W2 at H1 ⊢
 all_goals go_ret
 all_goals exact ⟨rfl,H1.out.bel⟩
theorem yF (V:Int) (hV:V=0) (w:World) :
  Calls prog 37 #[.agg #[.int .u8 2,.int .i64 0,.string ⟨#[]⟩]] w fun e w'=>e=.returned (.int .i64 V)∧Below w.heap.size w w':=by
 have H1:=Lib.hid ((Ok.start w).alloc w.heap.size 35 [.int .u8 2,.int .i64 0,.string ⟨#[]⟩] rfl)
 subst hV
 go_enter func37,ntmps37
 go_wp2_with fail
 generalize (w.alloc (.cells #[.int .u8 2,.int .i64 0,.string ⟨#[]⟩] 35))=W2 at H1 ⊢
 all_goals go_ret
 all_goals exact ⟨rfl,H1.out.bel⟩
theorem yG (V:Int) (hV:V=0) (w:World) :
  Calls prog 37 #[.agg #[.int .u8 2,.int .i64 1,.string ⟨#[]⟩]] w fun e w'=>e=.returned (.int .i64 V)∧Below w.heap.size w w':=by
 have H1:=Lib.hid ((Ok.start w).alloc w.heap.size 35 [.int .u8 2,.int .i64 1,.string ⟨#[]⟩] rfl)
 subst hV
 go_enter func37,ntmps37
 go_wp2_with fail
 generalize (w.alloc (.cells #[.int .u8 2,.int .i64 1,.string ⟨#[]⟩] 35))=W2 at H1 ⊢
 all_goals go_ret
 all_goals exact ⟨rfl,H1.out.bel⟩
theorem xu (n:Int) (V:Int) (hV:V=2) (h0:(n / 2 == 0)=false) (w:World) :
  Calls prog 37 #[.agg #[.int .u8 2,.int .i64 n,.string ⟨#[]⟩]] w fun e w'=>e=.returned (.int .i64 V)∧Below w.heap.size w w':=by
 have H1:=Lib.hid ((Ok.start w).alloc w.heap.size 35 [.int .u8 2,.int .i64 n,.string ⟨#[]⟩] rfl)
 subst hV
 go_enter func37,ntmps37
 go_wp2_with fail
 generalize (w.alloc (.cells #[.int .u8 2,.int .i64 n,.string ⟨#[]⟩] 35))=W2 at H1 ⊢
 all_goals go_ret
 all_goals exact ⟨rfl,H1.out.bel⟩
theorem vz (n:Int) (V:Int) (hV:V=0) (h1:1≤n) (h6:n≤6) (w:World) :
  Calls prog 37 #[.agg #[.int .u8 4,.int .i64 n,.string ⟨#[]⟩]] w fun e w'=>e=.returned (.int .i64 V)∧Below w.heap.size w w':=by
 have H1:=Lib.hid ((Ok.start w).alloc w.heap.size 35 [.int .u8 4,.int .i64 n,.string ⟨#[]⟩] rfl)
 subst hV
 go_enter func37,ntmps37
 go_wp2_with fail
 generalize (w.alloc (.cells #[.int .u8 4,.int .i64 n,.string ⟨#[]⟩] 35))=W2 at H1 ⊢
 all_goals go_ret
 all_goals exact ⟨rfl,H1.out.bel⟩
theorem xw (n:Int) (V:Int) (hV:V=2) (h1:¬ 1≤n) (w:World) :
  Calls prog 37 #[.agg #[.int .u8 4,.int .i64 n,.string ⟨#[]⟩]] w fun e w'=>e=.returned (.int .i64 V)∧Below w.heap.size w w':=by
 have H1:=Lib.hid ((Ok.start w).alloc w.heap.size 35 [.int .u8 4,.int .i64 n,.string ⟨#[]⟩] rfl)
 subst hV
 go_enter func37,ntmps37
 go_wp2_with fail
 generalize (w.alloc (.cells #[.int .u8 4,.int .i64 n,.string ⟨#[]⟩] 35))=W2 at H1 ⊢
 all_goals go_ret
 all_goals exact ⟨rfl,H1.out.bel⟩
theorem xv (n:Int) (V:Int) (hV:V=2) (h1:1≤n) (h6:¬ n≤6) (w:World) :
  Calls prog 37 #[.agg #[.int .u8 4,.int .i64 n,.string ⟨#[]⟩]] w fun e w'=>e=.returned (.int .i64 V)∧Below w.heap.size w w':=by
 have H1:=Lib.hid ((Ok.start w).alloc w.heap.size 35 [.int .u8 4,.int .i64 n,.string ⟨#[]⟩] rfl)
 subst hV
 go_enter func37,ntmps37
 go_wp2_with fail
 generalize (w.alloc (.cells #[.int .u8 4,.int .i64 n,.string ⟨#[]⟩] 35))=W2 at H1 ⊢
 all_goals go_ret
 all_goals exact ⟨rfl,H1.out.bel⟩
theorem yJ (n:Int) (s:ByteArray) (V:Int) (hV:V=2) (hn:(n == 0)=false) (w:World) :
  Calls prog 37 #[.agg #[.int .u8 3,.int .i64 n,.string s]] w fun e w'=>e=.returned (.int .i64 V)∧Below w.heap.size w w':=by
 have H1:=Lib.hid ((Ok.start w).alloc w.heap.size 35 [.int .u8 3,.int .i64 n,.string s] rfl)
 subst hV
 go_enter func37,ntmps37
 go_wp2_with fail
 generalize (w.alloc (.cells #[.int .u8 3,.int .i64 n,.string s] 35))=W2 at H1 ⊢
 all_goals go_ret
 all_goals exact ⟨rfl,H1.out.bel⟩
theorem yI (s:ByteArray) (V c:Int) (hc:aC s.data.toList=c) (hV:(c=0∧V=0)∨((c == 0)=false∧V=2)) (hs:s.size≤4611686018427387904) (w:World) :
  Calls prog 37 #[.agg #[.int .u8 3,.int .i64 0,.string s]] w fun e w'=>e=.returned (.int .i64 V)∧Below w.heap.size w w':=by
 have H1:=Lib.hid ((Ok.start w).alloc w.heap.size 35 [.int .u8 3,.int .i64 0,.string s] rfl)
 have HS:=Lib.hid hs
 have HC:=keep hc
 have HV:=keep hV
 clear hs hc hV
 go_enter func37,ntmps37
 go_wp2_with fail
 generalize (w.alloc (.cells #[.int .u8 3,.int .i64 0,.string s] 35))=W2 at H1 ⊢
 refine cM (fp s _ HS.out) H1 fun w3 H5=>?_
 rw [HC.out]
 clear H1
 have F6:=sE H5
 rcases HV.out with ⟨hc0,hV⟩ | ⟨hc0,hV⟩
 ·subst hV
  subst hc0
  clear HC HV
  go_wp2_with fail
  go_ret
  exact ⟨rfl,H5.out.bel⟩
 subst hV
 clear HC HV
 go_wp2_with fail
 go_ret
 exact ⟨rfl,H5.out.bel⟩
theorem so (k:Nat) (n:Int) (s:ByteArray) (V:Int) (hV:V=2) (h0:((k:Int) == 0)=false) (h1:((k:Int) == 1)=false) (h2:((k:Int) == 2)=false) (h3:((k:Int) == 3)=false) (h4:((k:Int) == 4)=false) (w:World) :
  Calls prog 37 #[.agg #[.int .u8 (k:Nat),.int .i64 n,.string s]] w fun e w'=>e=.returned (.int .i64 V)∧Below w.heap.size w w':=by
 have H1:=Lib.hid ((Ok.start w).alloc w.heap.size 35 [.int .u8 (k:Nat),.int .i64 n,.string s] rfl)
 subst hV
 go_enter func37,ntmps37
 go_wp2_with fail
 generalize (w.alloc (.cells #[.int .u8 (k:Nat),.int .i64 n,.string s] 35))=W2 at H1 ⊢
 all_goals go_ret
 all_goals exact ⟨rfl,H1.out.bel⟩
theorem aY (k:Nat) (n:Int) (s:ByteArray) (hs:s.size≤4611686018427387904) (w:World) :
  Calls prog 37 #[.agg #[.int .u8 (k:Nat),.int .i64 n,.string s]] w fun e w'=>e=.returned (.int .i64 (bm k n s.data.toList))∧Below w.heap.size w w':=by
 have nope:∀ {j:Nat},k≠j→((k:Int) == (j:Int))=false:=by intro j h; simp; omega
 by_cases k0:k=0
 ·subst k0
  cases hb:eq3 0 n 0 0 s.toList [] with
  | true=>exact vx n s _ (aF (.inl ⟨rfl,by have:=(dW ..).1 hb; exact ⟨this.2.1,by rw [← toL]; exact this.2.2⟩⟩)) hb w
  | false => exact xr n s _ (aQ (fun h => by
    rcases h with ⟨-,h1,h2⟩ | ⟨h,-⟩ | ⟨h,-⟩ | ⟨h,-⟩ | ⟨h,-⟩
    ·have:=(dW 0 n 0 0 s.toList []).2 ⟨rfl,h1,by rw [toL]; exact h2⟩
     rw [hb] at this; cases this
    all_goals exact absurd h (by decide))) hb w
 by_cases k1:k=1
 ·subst k1
  by_cases he:s=⟨#[]⟩
  ·subst he
   by_cases hn:n=-9223372036854775808
   ·subst hn; exact xt _ (aQ (fun h=>by
     rcases h with ⟨h,-⟩ | ⟨-,-,h⟩ | ⟨h,-⟩ | ⟨h,-⟩ | ⟨h,-⟩
     ·exact absurd h (by decide)
     ·exact h rfl
     all_goals exact absurd h (by decide))) w
   exact vy n _ (aF (.inr (.inl ⟨rfl,rfl,hn⟩))) (by simpa using hn) w
  exact yE n s _ (aQ (fun h=>by
   rcases h with ⟨h,-⟩ | ⟨-,h,-⟩ | ⟨h,-⟩ | ⟨h,-⟩ | ⟨h,-⟩
   ·exact absurd h (by decide)
   ·exact (dB he).1 h
   all_goals exact absurd h (by decide))) (dB he).2 w
 by_cases k2:k=2
 ·subst k2
  by_cases he:s=⟨#[]⟩
  ·subst he
   by_cases hn:n=0
   ·subst hn; exact yF _ (aF (.inr (.inr (.inl ⟨rfl,rfl,.inl rfl⟩)))) w
   by_cases hn1:n=1
   ·subst hn1; exact yG _ (aF (.inr (.inr (.inl ⟨rfl,rfl,.inr rfl⟩)))) w
   exact xu n _ (aQ (fun h=>by
    rcases h with ⟨h,-⟩ | ⟨h,-⟩ | ⟨-,-,h⟩ | ⟨h,-⟩ | ⟨h,-⟩
    ·exact absurd h (by decide)
    ·exact absurd h (by decide)
    ·exact h.elim hn hn1
    all_goals exact absurd h (by decide))) (by simp; omega) w
  exact yH n s _ (aQ (fun h=>by
   rcases h with ⟨h,-⟩ | ⟨h,-⟩ | ⟨-,h,-⟩ | ⟨h,-⟩ | ⟨h,-⟩
   ·exact absurd h (by decide)
   ·exact absurd h (by decide)
   ·exact (dB he).1 h
   all_goals exact absurd h (by decide))) (dB he).2 w
 by_cases k3:k=3
 ·subst k3
  by_cases hn:n=0
  ·subst hn
   refine yI s _ _ rfl ?_ hs w
   by_cases hc:aC s.data.toList=0
   ·exact .inl ⟨hc,aF (.inr (.inr (.inr (.inl ⟨rfl,rfl,hc⟩))))⟩
   refine .inr ⟨by simpa using hc,aQ (fun h => ?_)⟩
   rcases h with ⟨h,-⟩ | ⟨h,-⟩ | ⟨h,-⟩ | ⟨-,-,h⟩ | ⟨h,-⟩
   ·exact absurd h (by decide)
   ·exact absurd h (by decide)
   ·exact absurd h (by decide)
   ·exact hc h
   exact absurd h (by decide)
  refine yJ n s _ (aQ (fun h => ?_)) (by simpa using hn) w
  rcases h with ⟨h,-⟩ | ⟨h,-⟩ | ⟨h,-⟩ | ⟨-,h,-⟩ | ⟨h,-⟩
  ·exact absurd h (by decide)
  ·exact absurd h (by decide)
  ·exact absurd h (by decide)
  ·exact hn h
  exact absurd h (by decide)
 by_cases k4:k=4
 ·subst k4
  by_cases he:s=⟨#[]⟩
  ·subst he
   by_cases h1:1≤n
   ·by_cases h6:n≤6
    ·exact vz n _ (aF (.inr (.inr (.inr (.inr ⟨rfl,rfl,h1,h6⟩))))) h1 h6 w
    refine xv n _ (aQ (fun h => ?_)) h1 h6 w
    rcases h with ⟨h,-⟩ | ⟨h,-⟩ | ⟨h,-⟩ | ⟨h,-⟩ | ⟨-,-,-,h⟩
    iterate 4 exact absurd h (by decide)
    exact h6 h
   refine xw n _ (aQ (fun h => ?_)) h1 w
   rcases h with ⟨h,-⟩ | ⟨h,-⟩ | ⟨h,-⟩ | ⟨h,-⟩ | ⟨-,-,h,-⟩
   iterate 4 exact absurd h (by decide)
   exact h1 h
  refine yK n s _ (aQ (fun h => ?_)) (dB he).2 w
  rcases h with ⟨h,-⟩ | ⟨h,-⟩ | ⟨h,-⟩ | ⟨h,-⟩ | ⟨-,h,-⟩
  iterate 4 exact absurd h (by decide)
  exact (dB he).1 h
 refine so k n s _ (aQ (fun h => ?_)) (nope k0) (nope k1) (nope k2) (nope k3) (nope k4) w
 rcases h with ⟨h,-⟩ | ⟨h,-⟩ | ⟨h,-⟩ | ⟨h,-⟩ | ⟨h,-⟩ <;> contradiction
