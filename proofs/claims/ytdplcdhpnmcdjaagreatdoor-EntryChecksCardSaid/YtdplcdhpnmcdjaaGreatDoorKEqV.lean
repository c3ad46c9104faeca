/- The reference's parser: the append of a node, and what a method comes to. Contracts of the reference: numbers as text, quotes, ranges as text, names. Equality of values and of nodes as one Bool; val.Check at any value. Contracts of tree.below and tree.fits. -/
import Derived.Test.YtdplcdhpnmcdjaaGreatDoorKRpA
import Derived.Test.YtdplcdhpnmcdjaaGreatDoorKR8A
import Derived.Test.YtdplcdhpnmcdjaaGreatDoorKRefC
import Derived.Test.YtdplcdhpnmcdjaaGreatDoorKLexG
import Derived.Test.YtdplcdhpnmcdjaaGreatDoorKLexD
import Derived.Test.YtdplcdhpnmcdjaaGreatDoorKVal
import Derived.Test.YtdplcdhpnmcdjaaGreatDoorKTreA
import Derived.Test.YtdplcdhpnmcdjaaGreatDoorKTg
import Derived.Laws.StructEq
import Derived.Test.YtdplcdhpnmcdjaaGreatDoorKParK
namespace Go.Proofs.YtdplcdhpnmcdjaaGreatDoor
open Go.RowKit
section
variable {w1 w w':World} {ps:List aS} {pb i:Nat} {S:ByteArray} {all:List Tk} {ns:List Nd} {a c:Int}
theorem RSt.put {la:Option Addr} {lc g cap ln:Nat} {tv:Value} (hln:ns.length=ln) (h1:w1.heap.size≤pb) (h2:∀ x∈ps,x.far (some pb)) (hT:gI w1 la lc all) (hO:an w1 (af pb 205 [.string S,.slice la all.length lc,.int .i64 (i:Int),tv,.int .i64 a,.int .i64 c]::ps) 39 11 tv ln (de ns) w) (n:Nd)
  (hown:w'.ownsRow w1.heap.size 39 11 (.slice (some ⟨g,0,none⟩) (ln+1) cap) (ln+1) (de ns++du n)) (hg:w.grownBy w' tv.ownBlock) (hat:tv.ownBlock=some g∨g=w.heap.size) :
  RSt w1 ps pb S all i (ns++[n]) a c (w'.setCell ⟨pb,3,none⟩ (.slice (some ⟨g,0,none⟩) (ln+1) cap)):=by
 subst hln
 have h:=(hO.appended hown hg hat).set_ (i:=3) (u:=.slice (some ⟨g,0,none⟩) (ns.length+1) cap) h1 h2
 refine ⟨h1,h2,la,lc,.slice (some ⟨g,0,none⟩) (ns.length+1) cap,hT,?_⟩
 rw [gU,List.length_append]
 exact h
end
def EK (w1:World) (ps:List aS) (pb:Nat) (S:ByteArray) (all:List Tk) (i n0:Nat) (a c:Int) (w:World):Prop :=
 ∃ i' ns',i≤i'∧i'≤all.length+1∧ns'.length+i≤i'+n0∧RSt w1 ps pb S all i' ns' a c w
def DN (w1:World) (ps:List aS) (pb:Nat) (S:ByteArray) (all:List Tk) (i:Nat) (ns:List Nd) (a c:Int) (r:Rs) (w:World):Prop :=
 if c=0 then match r with
  | .bad a' c'=>EK w1 ps pb S all i ns.length a' c' w
  | .ok ts' ns' _=>∃ i',ts'=all.drop i'∧i≤i'∧i'≤all.length∧ns'.length+i≤i'∧RSt w1 ps pb S all i' (ns++ns') 0 0 w
 else EK w1 ps pb S all i ns.length a c w
theorem DN.of {w1 w:World} {ps:List aS} {pb i:Nat} {S:ByteArray} {all:List Tk} {ns:List Nd} {a c:Int} {r r2:Rs} (h:DN w1 ps pb S all i ns a c r2 w) (hr:c=0→r=r2):DN w1 ps pb S all i ns a c r w:=by
 unfold DN at h ⊢
 by_cases hc:c=0
 ·rw [hr hc]; exact h
 rw [if_neg hc] at h ⊢; exact h
open Go.RowKit
open Go.Lib (decDigits)
set_option maxRecDepth 100000
set_option maxHeartbeats 4000000
open Go.RowKit Go.Proofs.Tryz
def eq3 (k n k' n':Int) (s s':List UInt8):Bool:=decide (k=k') && (decide (n=n') && (decide (s=s')))
theorem dW (k n k' n':Int) (s s':List UInt8):eq3 k n k' n' s s'=true↔k=k'∧n=n'∧s=s':=by
 unfold eq3
 simp only [Bool.and_eq_true,decide_eq_true_eq]
@[local go_sem high] theorem ju (k n k' n':Int) (s s':ByteArray) (w:World):(Op.equalIn 10000 35 (.agg #[.int .u8 k,.int .i64 n,.string s]) (.agg #[.int .u8 k',.int .i64 n',.string s'])).run prog w=.ok (eq3 k n k' n' s.toList s'.toList) w:=by
 have u1:=underlying5
 have u2:=underlying2
 have u4:=underlying9
 have hS:prog.underlying 35=some (.struct (prog.fieldsOf 35)):=by kernel_rfl
 have hp:prog.stoodInHeld 35=false:=by kernel_rfl
 rw [show (10000:Nat)=9999+1 from rfl,run_equalIn_agg w 9999 _ _ _ hS hp]
 simp only [Program.fieldsOf,underlying35]
 unfold eq3
 go_simp
 by_cases h:k=k'
 rotate_left
 ·rw [if_neg h,decide_eq_false h]; rfl
 rw [if_pos h,decide_eq_true h,Bool.true_and]
 clear h
 by_cases h:n=n'
 rotate_left
 ·rw [if_neg h,decide_eq_false h]; rfl
 rw [if_pos h,decide_eq_true h,Bool.true_and]
 clear h
 by_cases h:s.toList=s'.toList
 ·rw [if_pos h,decide_eq_true h]
 rw [if_neg h,decide_eq_false h]
def bY (k vk vn a1 a2 a3 a4 op fn n k' vk' vn' a1' a2' a3' a4' op' fn' n':Int) (s s':List UInt8):Bool:=decide (k=k') && (decide (vk=vk') && (decide (vn=vn') && (decide (s=s') && (decide (a1=a1') && (decide (a2=a2') && (decide (a3=a3') && (decide (a4=a4') && (decide (op=op') && (decide (fn=fn') && (decide (n=n')))))))))))
theorem tC (k vk vn a1 a2 a3 a4 op fn n k' vk' vn' a1' a2' a3' a4' op' fn' n':Int) (s s':ByteArray) (w:World):(Op.equalIn 10000 39 (.agg #[.int .u8 k,.int .u8 vk,.int .i64 vn,.string s,.int .i64 a1,.int .i64 a2,.int .i64 a3,.int .i64 a4,.int .i64 op,.int .u8 fn,.int .i64 n]) (.agg #[.int .u8 k',.int .u8 vk',.int .i64 vn',.string s',.int .i64 a1',.int .i64 a2',.int .i64 a3',.int .i64 a4',.int .i64 op',.int .u8 fn',.int .i64 n'])).run prog w=.ok (bY k vk vn a1 a2 a3 a4 op fn n k' vk' vn' a1' a2' a3' a4' op' fn' n' s.toList s'.toList) w:=by
 have u1:=underlying5
 have u2:=underlying2
 have u3:=underlying3
 have u4:=underlying9
 have u5:=underlying37
 have u6:=underlying35
 have hS:prog.underlying 39=some (.struct (prog.fieldsOf 39)):=by kernel_rfl
 have hp:prog.stoodInHeld 39=false:=by kernel_rfl
 rw [show (10000:Nat)=9999+1 from rfl,run_equalIn_agg w 9999 _ _ _ hS hp]
 simp only [Program.fieldsOf,underlying39]
 unfold bY
 go_simp
 by_cases h:k=k'
 rotate_left
 ·rw [if_neg h,decide_eq_false h]; rfl
 rw [if_pos h,decide_eq_true h,Bool.true_and]
 clear h
 by_cases h:vk=vk'
 rotate_left
 ·rw [if_neg h,decide_eq_false h]; rfl
 rw [if_pos h,decide_eq_true h,Bool.true_and]
 clear h
 by_cases h:vn=vn'
 rotate_left
 ·rw [if_neg h,decide_eq_false h]; rfl
 rw [if_pos h,decide_eq_true h,Bool.true_and]
 clear h
 by_cases h:s.toList=s'.toList
 rotate_left
 ·rw [if_neg h,decide_eq_false h]; rfl
 rw [if_pos h,decide_eq_true h,Bool.true_and]
 clear h
 by_cases h:a1=a1'
 rotate_left
 ·rw [if_neg h,decide_eq_false h]; rfl
 rw [if_pos h,decide_eq_true h,Bool.true_and]
 clear h
 by_cases h:a2=a2'
 rotate_left
 ·rw [if_neg h,decide_eq_false h]; rfl
 rw [if_pos h,decide_eq_true h,Bool.true_and]
 clear h
 by_cases h:a3=a3'
 rotate_left
 ·rw [if_neg h,decide_eq_false h]; rfl
 rw [if_pos h,decide_eq_true h,Bool.true_and]
 clear h
 by_cases h:a4=a4'
 rotate_left
 ·rw [if_neg h,decide_eq_false h]; rfl
 rw [if_pos h,decide_eq_true h,Bool.true_and]
 clear h
 by_cases h:op=op'
 rotate_left
 ·rw [if_neg h,decide_eq_false h]; rfl
 rw [if_pos h,decide_eq_true h,Bool.true_and]
 clear h
 by_cases h:fn=fn'
 rotate_left
 ·rw [if_neg h,decide_eq_false h]; rfl
 rw [if_pos h,decide_eq_true h,Bool.true_and]
 clear h
 by_cases h:n=n'
 ·rw [if_pos h,decide_eq_true h]
 rw [if_neg h,decide_eq_false h]
def cellV (k:Nat) (n:Int) (t:List UInt8):Prop :=
 (k=0∧n=0∧t=[])∨(k=1∧t=[]∧n≠-9223372036854775808)∨(k=2∧t=[]∧(n=0∨n=1))∨(k=3∧n=0∧aC t=0)∨(k=4∧t=[]∧1≤n∧n≤6)
open Classical in
noncomputable def bm (k:Nat) (n:Int) (t:List UInt8):Int:=if cellV k n t then 0 else 2
theorem aF {k:Nat} {n:Int} {t:List UInt8} (h:cellV k n t):bm k n t=0:=if_pos h
theorem aQ {k:Nat} {n:Int} {t:List UInt8} (h:¬ cellV k n t):bm k n t=2:=if_neg h
theorem toL (s:ByteArray):s.toList=s.data.toList:=ByteArray.toList_eq s
theorem dB {s:ByteArray} (h:s≠⟨#[]⟩):s.data.toList≠[]∧s.toList.isEmpty=false:=by
 have h1:s.data.toList≠[]:=by
  intro e
  apply h
  obtain ⟨⟨l⟩⟩:=s
  have e:l=[]:=e
  subst e; rfl
 refine ⟨h1,?_⟩
 rw [toL]
 cases hl:s.data.toList with
 | nil=>exact absurd hl h1
 | cons=>rfl
theorem vx (n:Int) (s:ByteArray) (V:Int) (hV:V=0) (hb:eq3 0 n 0 0 s.toList []=true) (w:World) :
  Calls prog 37 #[.agg #[.int .u8 0,.int .i64 n,.string s]] w fun e w'=>e=.returned (.int .i64 V)∧Below w.heap.size w w':=by
 have H1:=Lib.hid ((Ok.start w).alloc w.heap.size 35 [.int .u8 0,.int .i64 n,.string s] rfl)
 subst hV
 go_enter func37,ntmps37
 go_wp2_with fail
 generalize (w.alloc (.cells #[.int .u8 0,.int .i64 n,.string s] 35))=W2 at H1 ⊢
 all_goals go_ret
 all_goals exact ⟨rfl,H1.out.bel⟩
theorem xr (n:Int) (s:ByteArray) (V:Int) (hV:V=2) (hb:eq3 0 n 0 0 s.toList []=false) (w:World) :
  Calls prog 37 #[.agg #[.int .u8 0,.int .i64 n,.string s]] w fun e w'=>e=.returned (.int .i64 V)∧Below w.heap.size w w':=by
 have H1:=Lib.hid ((Ok.start w).alloc w.heap.size 35 [.int .u8 0,.int .i64 n,.string s] rfl)
 subst hV
 go_enter func37,ntmps37
 go_wp2_with fail
 generalize (w.alloc (.cells #[.int .u8 0,.int .i64 n,.string s] 35))=W2 at H1 ⊢
 all_goals go_ret
 all_goals exact ⟨rfl,H1.out.bel⟩
theorem yE (n:Int) (s:ByteArray) (V:Int) (hV:V=2) (hs:s.toList.isEmpty=false) (w:World) :
  Calls prog 37 #[.agg #[.int .u8 1,.int .i64 n,.string s]] w fun e w'=>e=.returned (.int .i64 V)∧Below w.heap.size w w':=by
 have H1:=Lib.hid ((Ok.start w).alloc w.heap.size 35 [.int .u8 1,.int .i64 n,.string s] rfl)
 subst hV
 go_enter func37,ntmps37
 go_wp2_with fail
 generalize (w.alloc (.cells #[.int .u8 1,.int .i64 n,.string s] 35))=W2 at H1 ⊢
 all_goals go_ret
 all_goals exact ⟨rfl,H1.out.bel⟩
theorem yH (n:Int) (s:ByteArray) (V:Int) (hV:V=2) (hs:s.toList.isEmpty=false) (w:World) :
  Calls prog 37 #[.agg #[.int .u8 2,.int .i64 n,.string s]] w fun e w'=>e=.returned (.int .i64 V)∧Below w.heap.size w w':=by
 have H1:=Lib.hid ((Ok.start w).alloc w.heap.size 35 [.int .u8 2,.int .i64 n,.string s] rfl)
 subst hV
 go_enter func37,ntmps37
 go_wp2_with fail
 generalize (w.alloc (.cells #[.int .u8 2,.int .i64 n,.string s] 35))=W2 at H1 ⊢
 all_goals go_ret
 all_goals exact ⟨rfl,H1.out.bel⟩
theorem yK (n:Int) (s:ByteArray) (V:Int) (hV:V=2) (hs:s.toList.isEmpty=false) (w:World) :
  Calls prog 37 #[.agg #[.int .u8 4,.int .i64 n,.string s]] w fun e w'=>e=.returned (.int .i64 V)∧Below w.heap.size w w':=by
 have H1:=Lib.hid ((Ok.start w).alloc w.heap.size 35 [.int .u8 4,.int .i64 n,.string s] rfl)
 subst hV
 go_enter func37,ntmps37
 go_wp2_with fail
 generalize (w.alloc (.cells #[.int .u8 4,.int .i64 n,.string s] 35))=W2 at H1 ⊢
 all_goals go_ret
 all_goals exact ⟨rfl,H1.out.bel⟩
theorem vy (n:Int) (V:Int) (hV:V=0) (hn:(n != -9223372036854775808)=true) (w:World) :
  Calls prog 37 #[.agg #[.int .u8 1,.int .i64 n,.string ⟨#[]⟩]] w fun e w'=>e=.returned (.int .i64 V)∧Below w.heap.size w w':=by
 have H1:=Lib.hid ((Ok.start w).alloc w.heap.size 35 [.int .u8 1,.int .i64 n,.string ⟨#[]⟩] rfl)
 subst hV
 go_enter func37,ntmps37
 go_wp2_with fail
 generalize (w.alloc (.cells #[.int .u8 1,.int .i64 n,.string ⟨#[]⟩] 35))=W2 at H1 ⊢
 all_goals go_ret
 all_goals exact ⟨rfl,H1.out.bel⟩
theorem xt (V:Int) (hV:V=2) (w:World) :
  Calls prog 37 #[.agg #[.int .u8 1,.int .i64 (-9223372036854775808),.string ⟨#[]⟩]] w fun e w'=>e=.returned (.int .i64 V)∧Below w.heap.size w w':=by
 have H1:=Lib.hid ((Ok.start w).alloc w.heap.size 35 [.int .u8 1,.int .i64 (-9223372036854775808),.string ⟨#[]⟩] rfl)
 subst hV
 go_enter func37,ntmps37
 go_wp2_with fail
 generalize (w.alloc (.cells #[.int .u8 1,.int .i64 (-9223372036854775808),.string ⟨#[]⟩] 35))=W2 at H1 ⊢
 all_goals go_ret
 all_goals exact ⟨rfl,H1.out.bel⟩
theorem yF (V:Int) (hV:V=0) (w:World) :
  Calls prog 37 #[.agg #[.int .u8 2,.int .i64 0,.string ⟨#[]⟩]] w fun e w'=>e=.returned (.int .i64 V)∧Below w.heap.size w w':=by
 have H1:=Lib.hid ((Ok.start w).alloc w.heap.size 35 [.int .u8 2,.int .i64 0,.string ⟨#[]⟩] rfl)
 subst hV
 go_enter func37,ntmps37
 go_wp2_with fail
 generalize (w.alloc (.cells #[.int .u8 2,.int .i64 0,.string ⟨#[]⟩] 35))=W2 at H1 ⊢
 all_goals go_ret
 all_goals exact ⟨rfl,H1.out.bel⟩
theorem yG (V:Int) (hV:V=0) (w:World) :
  Calls prog 37 #[.agg #[.int .u8 2,.int .i64 1,.string ⟨#[]⟩]] w fun e w'=>e=.returned (.int .i64 V)∧Below w.heap.size w w':=by
 have H1:=Lib.hid ((Ok.start w).alloc w.heap.size 35 [.int .u8 2,.int .i64 1,.string ⟨#[]⟩] rfl)
 subst hV
 go_enter func37,ntmps37
 go_wp2_with fail
 generalize (w.alloc (.cells #[.int .u8 2,.int .i64 1,.string ⟨#[]⟩] 35))=W2 at H1 ⊢
 all_goals go_ret
 all_goals exact ⟨rfl,H1.out.bel⟩
theorem xu (n:Int) (V:Int) (hV:V=2) (h0:(n / 2 == 0)=false) (w:World) :
  Calls prog 37 #[.agg #[.int .u8 2,.int .i64 n,.string ⟨#[]⟩]] w fun e w'=>e=.returned (.int .i64 V)∧Below w.heap.size w w':=by
 have H1:=Lib.hid ((Ok.start w).alloc w.heap.size 35 [.int .u8 2,.int .i64 n,.string ⟨#[]⟩] rfl)
 subst hV
 go_enter func37,ntmps37
 go_wp2_with fail
 generalize (w.alloc (.cells #[.int .u8 2,.int .i64 n,.string ⟨#[]⟩] 35))=W2 at H1 ⊢
 all_goals go_ret
 all_goals exact ⟨rfl,H1.out.bel⟩
theorem vz (n:Int) (V:Int) (hV:V=0) (h1:1≤n) (h6:n≤6) (w:World) :
  Calls prog 37 #[.agg #[.int .u8 4,.int .i64 n,.string ⟨#[]⟩]] w fun e w'=>e=.returned (.int .i64 V)∧Below w.heap.size w w':=by
 have H1:=Lib.hid ((Ok.start w).alloc w.heap.size 35 [.int .u8 4,.int .i64 n,.string ⟨#[]⟩] rfl)
 subst hV
 go_enter func37,ntmps37
 go_wp2_with fail
 generalize (w.alloc (.cells #[.int .u8 4,.int .i64 n,.string ⟨#[]⟩] 35))=W2 at H1 ⊢
 all_goals go_ret
 all_goals exact ⟨rfl,H1.out.bel⟩
theorem xw (n:Int) (V:Int) (hV:V=2) (h1:¬ 1≤n) (w:World) :
  Calls prog 37 #[.agg #[.int .u8 4,.int .i64 n,.string ⟨#[]⟩]] w fun e w'=>e=.returned (.int .i64 V)∧Below w.heap.size w w':=by
 have H1:=Lib.hid ((Ok.start w).alloc w.heap.size 35 [.int .u8 4,.int .i64 n,.string ⟨#[]⟩] rfl)
 subst hV
 go_enter func37,ntmps37
 go_wp2_with fail
 generalize (w.alloc (.cells #[.int .u8 4,.int .i64 n,.string ⟨#[]⟩] 35))=W2 at H1 ⊢
 all_goals go_ret
 all_goals exact ⟨rfl,H1.out.bel⟩
theorem xv (n:Int) (V:Int) (hV:V=2) (h1:1≤n) (h6:¬ n≤6) (w:World) :
  Calls prog 37 #[.agg #[.int .u8 4,.int .i64 n,.string ⟨#[]⟩]] w fun e w'=>e=.returned (.int .i64 V)∧Below w.heap.size w w':=by
 have H1:=Lib.hid ((Ok.start w).alloc w.heap.size 35 [.int .u8 4,.int .i64 n,.string ⟨#[]⟩] rfl)
 subst hV
 go_enter func37,ntmps37
 go_wp2_with fail
 generalize (w.alloc (.cells #[.int .u8 4,.int .i64 n,.string ⟨#[]⟩] 35))=W2 at H1 ⊢
 all_goals go_ret
 all_goals exact ⟨rfl,H1.out.bel⟩
theorem yJ (n:Int) (s:ByteArray) (V:Int) (hV:V=2) (hn:(n == 0)=false) (w:World) :
  Calls prog 37 #[.agg #[.int .u8 3,.int .i64 n,.string s]] w fun e w'=>e=.returned (.int .i64 V)∧Below w.heap.size w w':=by
 have H1:=Lib.hid ((Ok.start w).alloc w.heap.size 35 [.int .u8 3,.int .i64 n,.string s] rfl)
 subst hV
 go_enter func37,ntmps37
 go_wp2_with fail
 generalize (w.alloc (.cells #[.int .u8 3,.int .i64 n,.string s] 35))=W2 at H1 ⊢
 all_goals go_ret
 all_goals exact ⟨rfl,H1.out.bel⟩
theorem yI (s:ByteArray) (V c:Int) (hc:aC s.data.toList=c) (hV:(c=0∧V=0)∨((c == 0)=false∧V=2)) (hs:s.size≤4611686018427387904) (w:World) :
  Calls prog 37 #[.agg #[.int .u8 3,.int .i64 0,.string s]] w fun e w'=>e=.returned (.int .i64 V)∧Below w.heap.size w w':=by
 have H1:=Lib.hid ((Ok.start w).alloc w.heap.size 35 [.int .u8 3,.int .i64 0,.string s] rfl)
 have HS:=Lib.hid hs
 have HC:=keep hc
 have HV:=keep hV
 clear hs hc hV
 go_enter func37,ntmps37
 go_wp2_with fail
 generalize (w.alloc (.cells #[.int .u8 3,.int .i64 0,.string s] 35))=W2 at H1 ⊢
 refine cM (fp s _ HS.out) H1 fun w3 H5=>?_
 rw [HC.out]
 clear H1
 have F6:=sE H5
 rcases HV.out with ⟨hc0,hV⟩ | ⟨hc0,hV⟩
 ·subst hV
  subst hc0
  clear HC HV
  go_wp2_with fail
  go_ret
  exact ⟨rfl,H5.out.bel⟩
 subst hV
 clear HC HV
 go_wp2_with fail
 go_ret
 exact ⟨rfl,H5.out.bel⟩
theorem so (k:Nat) (n:Int) (s:ByteArray) (V:Int) (hV:V=2) (h0:((k:Int) == 0)=false) (h1:((k:Int) == 1)=false) (h2:((k:Int) == 2)=false) (h3:((k:Int) == 3)=false) (h4:((k:Int) == 4)=false) (w:World) :
  Calls prog 37 #[.agg #[.int .u8 (k:Nat),.int .i64 n,.string s]] w fun e w'=>e=.returned (.int .i64 V)∧Below w.heap.size w w':=by
 have H1:=Lib.hid ((Ok.start w).alloc w.heap.size 35 [.int .u8 (k:Nat),.int .i64 n,.string s] rfl)
 subst hV
 go_enter func37,ntmps37
 go_wp2_with fail
 generalize (w.alloc (.cells #[.int .u8 (k:Nat),.int .i64 n,.string s] 35))=W2 at H1 ⊢
 all_goals go_ret
 all_goals exact ⟨rfl,H1.out.bel⟩
theorem aY (k:Nat) (n:Int) (s:ByteArray) (hs:s.size≤4611686018427387904) (w:World) :
  Calls prog 37 #[.agg #[.int .u8 (k:Nat),.int .i64 n,.string s]] w fun e w'=>e=.returned (.int .i64 (bm k n s.data.toList))∧Below w.heap.size w w':=by
 have nope:∀ {j:Nat},k≠j→((k:Int) == (j:Int))=false:=by intro j h; simp; omega
 by_cases k0:k=0
 ·subst k0
  cases hb:eq3 0 n 0 0 s.toList [] with
  | true=>exact vx n s _ (aF (.inl ⟨rfl,by have:=(dW ..).1 hb; exact ⟨this.2.1,by rw [← toL]; exact this.2.2⟩⟩)) hb w
  | false => exact xr n s _ (aQ (fun h => by
    rcases h with ⟨-,h1,h2⟩ | ⟨h,-⟩ | ⟨h,-⟩ | ⟨h,-⟩ | ⟨h,-⟩
    ·have:=(dW 0 n 0 0 s.toList []).2 ⟨rfl,h1,by rw [toL]; exact h2⟩
     rw [hb] at this; cases this
    all_goals exact absurd h (by decide))) hb w
 by_cases k1:k=1
 ·subst k1
  by_cases he:s=⟨#[]⟩
  ·subst he
   by_cases hn:n=-9223372036854775808
   ·subst hn; exact xt _ (aQ (fun h=>by
     rcases h with ⟨h,-⟩ | ⟨-,-,h⟩ | ⟨h,-⟩ | ⟨h,-⟩ | ⟨h,-⟩
     ·exact absurd h (by decide)
     ·exact h rfl
     all_goals exact absurd h (by decide))) w
   exact vy n _ (aF (.inr (.inl ⟨rfl,rfl,hn⟩))) (by simpa using hn) w
  exact yE n s _ (aQ (fun h=>by
   rcases h with ⟨h,-⟩ | ⟨-,h,-⟩ | ⟨h,-⟩ | ⟨h,-⟩ | ⟨h,-⟩
   ·exact absurd h (by decide)
   ·exact (dB he).1 h
   all_goals exact absurd h (by decide))) (dB he).2 w
 by_cases k2:k=2
 ·subst k2
  by_cases he:s=⟨#[]⟩
  ·subst he
   by_cases hn:n=0
   ·subst hn; exact yF _ (aF (.inr (.inr (.inl ⟨rfl,rfl,.inl rfl⟩)))) w
   by_cases hn1:n=1
   ·subst hn1; exact yG _ (aF (.inr (.inr (.inl ⟨rfl,rfl,.inr rfl⟩)))) w
   exact xu n _ (aQ (fun h=>by
    rcases h with ⟨h,-⟩ | ⟨h,-⟩ | ⟨-,-,h⟩ | ⟨h,-⟩ | ⟨h,-⟩
    ·exact absurd h (by decide)
    ·exact absurd h (by decide)
    ·exact h.elim hn hn1
    all_goals exact absurd h (by decide))) (by simp; omega) w
  exact yH n s _ (aQ (fun h=>by
   rcases h with ⟨h,-⟩ | ⟨h,-⟩ | ⟨-,h,-⟩ | ⟨h,-⟩ | ⟨h,-⟩
   ·exact absurd h (by decide)
   ·exact absurd h (by decide)
   ·exact (dB he).1 h
   all_goals exact absurd h (by decide))) (dB he).2 w
 by_cases k3:k=3
 ·subst k3
  by_cases hn:n=0
  ·subst hn
   refine yI s _ _ rfl ?_ hs w
   by_cases hc:aC s.data.toList=0
   ·exact .inl ⟨hc,aF (.inr (.inr (.inr (.inl ⟨rfl,rfl,hc⟩))))⟩
   refine .inr ⟨by simpa using hc,aQ (fun h => ?_)⟩
   rcases h with ⟨h,-⟩ | ⟨h,-⟩ | ⟨h,-⟩ | ⟨-,-,h⟩ | ⟨h,-⟩
   ·exact absurd h (by decide)
   ·exact absurd h (by decide)
   ·exact absurd h (by decide)
   ·exact hc h
   exact absurd h (by decide)
  refine yJ n s _ (aQ (fun h => ?_)) (by simpa using hn) w
  rcases h with ⟨h,-⟩ | ⟨h,-⟩ | ⟨h,-⟩ | ⟨-,h,-⟩ | ⟨h,-⟩
  ·exact absurd h (by decide)
  ·exact absurd h (by decide)
  ·exact absurd h (by decide)
  ·exact hn h
  exact absurd h (by decide)
 by_cases k4:k=4
 ·subst k4
  by_cases he:s=⟨#[]⟩
  ·subst he
   by_cases h1:1≤n
   ·by_cases h6:n≤6
    ·exact vz n _ (aF (.inr (.inr (.inr (.inr ⟨rfl,rfl,h1,h6⟩))))) h1 h6 w
    refine xv n _ (aQ (fun h => ?_)) h1 h6 w
    rcases h with ⟨h,-⟩ | ⟨h,-⟩ | ⟨h,-⟩ | ⟨h,-⟩ | ⟨-,-,-,h⟩
    iterate 4 exact absurd h (by decide)
    exact h6 h
   refine xw n _ (aQ (fun h => ?_)) h1 w
   rcases h with ⟨h,-⟩ | ⟨h,-⟩ | ⟨h,-⟩ | ⟨h,-⟩ | ⟨-,-,h,-⟩
   iterate 4 exact absurd h (by decide)
   exact h1 h
  refine yK n s _ (aQ (fun h => ?_)) (dB he).2 w
  rcases h with ⟨h,-⟩ | ⟨h,-⟩ | ⟨h,-⟩ | ⟨h,-⟩ | ⟨-,h,-⟩
  iterate 4 exact absurd h (by decide)
  exact (dB he).1 h
 refine so k n s _ (aQ (fun h => ?_)) (nope k0) (nope k1) (nope k2) (nope k3) (nope k4) w
 rcases h with ⟨h,-⟩ | ⟨h,-⟩ | ⟨h,-⟩ | ⟨h,-⟩ | ⟨h,-⟩ <;> contradiction
set_option maxRecDepth 100000
set_option maxHeartbeats 4000000
def bi (w:World) (a:Option Addr) (s:Nat) (l:List (List Value)):Prop :=
 l≠[]→∃ b o,a=some ⟨b,o,none⟩∧b<w.heap.size∧∀ i r,l[i]?=some r→∀ j v,r[j]?=some v→w.cell? ⟨b,o+(i * s+j),none⟩=some v
theorem bi.below {w w':World} {a:Option Addr} {s:Nat} {l:List (List Value)} (h:bi w a s l) (hb:Below w.heap.size w w'):bi w' a s l:=by
 intro hl
 obtain ⟨b,o,e,h1,h2⟩:=h hl
 exact ⟨b,o,e,Nat.lt_of_lt_of_le h1 hb.size,fun i r hi j v hj=>(hb.cell h1).trans (h2 i r hi j v hj)⟩
def eB (p:Pt):List Value:=[.int .i64 (p.root:Nat),.int .i64 (p.depth:Nat),.bool p.wide]
def ak (l:List Pt):List Value:=l.flatMap eB
theorem lX (n:Nd):(n.kind=4∧aw n=1)∨(n.kind=5∧aw n=1)∨(n.kind=6∧aw n=2)∨(n.kind=7∧aw n=n.n)∨(n.kind≠4∧n.kind≠5∧n.kind≠6∧n.kind≠7∧aw n=0):=by
 unfold aw
 by_cases h4:n.kind=4
 ·exact .inl ⟨h4,if_pos (.inl h4)⟩
 by_cases h5:n.kind=5
 ·exact .inr (.inl ⟨h5,if_pos (.inr h5)⟩)
 rw [if_neg (by omega)]
 by_cases h6:n.kind=6
 ·exact .inr (.inr (.inl ⟨h6,if_pos h6⟩))
 rw [if_neg h6]
 by_cases h7:n.kind=7
 ·exact .inr (.inr (.inr (.inl ⟨h7,if_pos h7⟩)))
 exact .inr (.inr (.inr (.inr ⟨h4,h5,h6,h7,if_neg h7⟩)))
theorem oz (n:Nd) (w:World) :
  Calls prog 138 #[ndA n] w fun e w'=>e=.returned (.int .i64 (aw n:Nat))∧Below w.heap.size w w':=by
 have hc:=lX n
 obtain ⟨nk,vk,vn,vt,⟨r1,r2,r3,r4⟩,op,fn,nn⟩:=n
 obtain ⟨k,hk⟩:=ex (aw ⟨nk,vk,vn,vt,⟨r1,r2,r3,r4⟩,op,fn,nn⟩)
 rw [hk] at hc ⊢
 clear hk
 simp only [] at hc
 unfold ndA du
 simp only []
 have H1:=Lib.hid ((Ok.start w).alloc w.heap.size 39 [.int .u8 nk,.int .u8 vk,.int .i64 vn,.string ⟨vt.toArray⟩,.int .i64 r1,.int .i64 r2,.int .i64 r3,.int .i64 r4,.int .i64 op,.int .u8 fn,.int .i64 nn] rfl)
 rcases hc with ⟨rfl,rfl⟩ | ⟨rfl,rfl⟩ | ⟨rfl,rfl⟩ | ⟨rfl,rfl⟩ | ⟨a4,a5,a6,a7,rfl⟩
 ·go_enter func138,ntmps138
  go_wp2_with fail
  go_ret
  exact ⟨rfl,H1.out.bel⟩
 ·go_enter func138,ntmps138
  go_wp2_with fail
  go_ret
  exact ⟨rfl,H1.out.bel⟩
 ·go_enter func138,ntmps138
  go_wp2_with fail
  go_ret
  exact ⟨rfl,H1.out.bel⟩
 ·go_enter func138,ntmps138
  go_wp2_with fail
  go_ret
  exact ⟨rfl,H1.out.bel⟩
 have b4:((nk:Int) == 4)=false:=by simp; omega
 have b5:((nk:Int) == 5)=false:=by simp; omega
 have b6:((nk:Int) == 6)=false:=by simp; omega
 have b7:((nk:Int) == 7)=false:=by simp; omega
 clear a4 a5 a6 a7
 go_enter func138,ntmps138
 go_wp2_with fail
 go_ret
 exact ⟨rfl,H1.out.bel⟩
theorem pZ (t:List Nd) (n:Nd) (l:List Pt) (i:Nat) (h:i<l.length):ek t n i (l.drop i)=(d8 t n i l[i] && ek t n (i+1) (l.drop (i+1))):=by
 rw [List.drop_eq_getElem_cons h]
 rfl
theorem oA (ts:List (List Value)) (t:List Nd) (n:Nd) (l:List Pt) (ta la:Option Addr) (tc lc:Nat) (w:World) (hts:ts.length=t.length) (hkd:∀ (i:Nat) (q:Nd),t[i]?=some q→∃ r:List Value,ts[i]?=some r∧r[0]?=some (.int .u8 (q.kind:Nat))) (ht:bi w ta 11 ts) (hl:bi w la 3 (l.map eB)) (_htl:t.length≤1000) (hll:l.length≤1000) (hroot:∀ p∈l,p.root<t.length) (hfn:n.kind=7→1≤n.fn∧n.fn≤50) :
  Calls prog 139 #[.slice ta t.length tc,ndA n,.slice la l.length lc] w fun e w'=>e=.returned (.bool (ek t n 0 l))∧Below w.heap.size w w':=by
 have HR:=keep hroot
 have HT:=keep ht
 have HTS:=keep hts
 have HKD:=keep hkd
 clear hts hkd
 have HLR:=keep hl
 have HFN:=keep hfn
 clear hroot ht hl hfn
 obtain ⟨tl,htl2⟩:=ex (t.length)
 obtain ⟨ll,hll2⟩:=ex (l.length)
 rw [htl2]
 rw [hll2] at hll ⊢
 have HTL:=keep htl2
 have HLL:=keep hll2
 clear htl2 hll2
 obtain ⟨nd,hnd⟩:=ex (n)
 have HND:=keep hnd
 obtain ⟨nk,vk,vn,vt,⟨r1,r2,r3,r4⟩,op,fn,nn⟩:=n
 clear hnd
 have HN:=keep (show ndA ⟨nk,vk,vn,vt,⟨r1,r2,r3,r4⟩,op,fn,nn⟩=.agg #[.int .u8 nk,.int .u8 vk,.int .i64 vn,.string ⟨vt.toArray⟩,.int .i64 r1,.int .i64 r2,.int .i64 r3,.int .i64 r4,.int .i64 op,.int .u8 fn,.int .i64 nn] from rfl)
 unfold ndA du
 simp only []
 obtain ⟨FF,hFF⟩:∃ FF:Nat→List Pt→Bool,FF=ek t ⟨nk,vk,vn,vt,⟨r1,r2,r3,r4⟩,op,fn,nn⟩:=⟨_,rfl⟩
 have HFF:=keep hFF
 rw [← hFF]
 clear hFF
 simp only [] at HFN
 have H1:=Lib.hid ((Ok.start w).alloc w.heap.size 39 [.int .u8 nk,.int .u8 vk,.int .i64 vn,.string ⟨vt.toArray⟩,.int .i64 r1,.int .i64 r2,.int .i64 r3,.int .i64 r4,.int .i64 op,.int .u8 fn,.int .i64 nn] rfl)
 obtain ⟨V,hV⟩:=ex (FF 0 l)
 rw [hV]
 have HV:=keep hV
 clear hV
 go_enter func139,ntmps139
 go_wp2_with fail
 generalize (w.alloc (.cells #[.int .u8 nk,.int .u8 vk,.int .i64 vn,.string ⟨vt.toArray⟩,.int .i64 r1,.int .i64 r2,.int .i64 r3,.int .i64 r4,.int .i64 op,.int .u8 fn,.int .i64 nn] 39))=W2 at H1 ⊢
 go_loopw [13] (fun iv wr=>∃ i:Nat,i≤ll∧iv=.int .i64 (i:Int)∧ao (FF i (l.drop i)=V)∧Hid (Ok w [ac (w.heap.size) 39 [.int .u8 nk,.int .u8 vk,.int .i64 vn,.string ⟨vt.toArray⟩,.int .i64 r1,.int .i64 r2,.int .i64 r3,.int .i64 r4,.int .i64 op,.int .u8 fn,.int .i64 nn]] wr)) (fun iv _=>ll - (intOf iv).toNat)
 case atStart=>exact ⟨0,Nat.zero_le _,rfl,HV,H1⟩
 case round =>
  clear H1 HV
  obtain ⟨i,hi,rfl,HK,HW⟩:=hrel
  obtain ⟨wp,rfl⟩:∃ wp:World,wp=wr:=⟨_,rfl⟩
  by_cases hlt:(i:Int)<ll
  ·have hil:i<l.length:=by rw [HLL.out]; omega
   have HIL:=keep hil
   have hstep:=HK.out
   rw [HFF.out,pZ _ _ _ _ hil,← HFF.out] at hstep
   obtain ⟨p,hp⟩:=ex (l[i])
   rw [hp] at hstep
   have hpm:p∈l:=by rw [← hp]; exact List.getElem_mem _
   have hroot:=HR.out p hpm
   obtain ⟨lb,lo,hla,hlb,hlcell⟩:=HLR.out (by intro e; have h9:=congrArg List.length e; rw [List.length_map] at h9; simp only [List.length_nil] at h9; omega)
   have hlc:=hlcell i (eB p) (by rw [List.getElem?_map,List.getElem?_eq_getElem hil,hp]; rfl)
   obtain ⟨tb,tz,hta,htb,htcell⟩:=HT.out (by intro e; have h9:=congrArg List.length e; rw [HTS.out] at h9; simp only [List.length_nil] at h9; omega)
   obtain ⟨q,hq⟩:=ex (t[p.root])
   obtain ⟨rq,hrq,hrq0⟩:=HKD.out p.root q (by rw [List.getElem?_eq_getElem hroot,hq])
   have htc:=htcell p.root rq hrq 0 (.int .u8 (q.kind:Nat)) hrq0
   have hkat:lz t p.root=q.kind:=by unfold lz; rw [List.getElem?_eq_getElem hroot,hq]; rfl
   subst hla hta
   obtain ⟨pr,pd,pw⟩:=p
   simp only [] at htc hkat hroot
   have hbel:=HW.out.bel
   have hl0:=(hbel.cell hlb).trans (hlc 0 (.int .i64 (pr:Nat)) rfl)
   have hl1:=(hbel.cell hlb).trans (hlc 1 (.int .i64 (pd:Nat)) rfl)
   have hl2:=(hbel.cell hlb).trans (hlc 2 (.bool pw) rfl)
   have ht0:=(hbel.cell htb).trans htc
   simp only [Nat.add_zero] at hl0 ht0
   have hlbw:lb<wp.heap.size:=Nat.lt_of_lt_of_le hlb hbel.size
   have htbw:tb<wp.heap.size:=Nat.lt_of_lt_of_le htb hbel.size
   have hprt:(pr:Int)<tl:=by have:=HTL.out; omega
   obtain ⟨kq,hkq⟩:=ex (q.kind)
   rw [hkq] at ht0 hkat
   have HST:=keep hstep
   have HKAT:=keep hkat
   have H1:=Lib.hid (((HW.out.add (ae lb (lo+i * 3) [.int .i64 (pr:Nat),.int .i64 (pd:Nat),.bool pw]) ⟨hlbw,by simpa [ag] using hl0,by simpa [ag,Nat.add_assoc] using hl1,by simpa [ag,Nat.add_assoc] using hl2,trivial⟩).add (ae tb (tz+pr * 11) [.int .u8 (kq:Nat)]) ⟨htbw,by simpa [ag] using ht0,trivial⟩))
   clear hil hstep hp hpm hlcell hlc htcell hq htc hkat hbel hl0 hl1 hl2 ht0 hlbw htbw hlb htb hkq HW
   have F3:=sE H1
   go_upto_region 4 with fail
   clear F3
   have H4:=Lib.hid (H1.out.alloc wp.heap.size 167 [.int .i64 (pr:Nat),.int .i64 (pd:Nat),.bool pw] rfl)
   clear H1
   generalize (wp.alloc (.cells #[.int .i64 (pr:Nat),.int .i64 (pd:Nat),.bool pw] 167))=W5 at H4 ⊢
   have F6:=sE H4
   by_cases h7:nk=7
   ·have h7b:((nk:Int) == 7)=true:=by rw [h7]; rfl
    have hfn:=HFN.out h7
    obtain ⟨hf1,hf2⟩:=hfn
    obtain ⟨wi,hwi⟩:=ex (cE fn i)
    have HWI:=keep hwi
    clear hwi
    obtain ⟨rl,hrl⟩:=ex (decide (46≤fn∧fn≤50))
    have HRL:=keep hrl
    clear hrl
    have HV7:=keep (show d8 t ⟨nk,vk,vn,vt,⟨r1,r2,r3,r4⟩,op,fn,nn⟩ i ⟨pr,pd,pw⟩=(!(pw && !wi) && !(rl && decide (kq≠2∧kq≠3))) by unfold d8 lx yi; simp only [h7,HWI.out,HRL.out,HKAT.out,decide_true,Bool.true_and])
    clear h7
    go_wp2_with fail
    refine (iC fn i _ hf1 hf2).mono ?_
    rintro e w9 ⟨rfl,hw⟩
    obtain rfl:W5=w9:=hw.symm
    rw [HWI.out]
    cases hpw:(pw && !wi)
    ·have hpw2:pw=false∨wi=true:=by cases pw <;> cases wi <;> simp at hpw ⊢
     rcases hpw2 with rfl | rfl
     ·clear hpw
      go_wp2_with fail
      refine (dh fn _).mono ?_
      rintro e w10 ⟨rfl,hw⟩
      obtain rfl:W5=w10:=hw.symm
      rw [HRL.out]
      cases rl
      ·go_wp2_with fail
       go_roundw
       case rel=>exact ⟨i+1,by omega,by go_num,keep (by have h9:=HST.out; rw [show d8 t _ i _=true by rw [HV7.out]; simp,Bool.true_and] at h9; exact h9),H4.out.drop _ (by simp)⟩
       case measure=>simp [intOf]; omega
      by_cases k2:kq=2
      ·have k2b:((kq:Int) != 2)=false:=by rw [k2]; rfl
       have KK:=keep k2
       clear k2
       go_wp2_with fail
       go_roundw
       case rel=>exact ⟨i+1,by omega,by go_num,keep (by have h9:=HST.out; rw [show d8 t _ i _=true by rw [HV7.out]; simp [KK.out],Bool.true_and] at h9; exact h9),H4.out.drop _ (by simp)⟩
       case measure=>simp [intOf]; omega
      have k2b:((kq:Int) != 2)=true:=by simp; omega
      by_cases k3:kq=3
      ·have k3b:((kq:Int) != 3)=false:=by rw [k3]; rfl
       have KK:=keep k3
       clear k3 k2
       go_wp2_with fail
       go_roundw
       case rel=>exact ⟨i+1,by omega,by go_num,keep (by have h9:=HST.out; rw [show d8 t _ i _=true by rw [HV7.out]; simp [KK.out],Bool.true_and] at h9; exact h9),H4.out.drop _ (by simp)⟩
       case measure=>simp [intOf]; omega
      have k3b:((kq:Int) != 3)=true:=by simp; omega
      have KK:=keep (And.intro k2 k3)
      clear k2 k3
      go_wp2_with fail
      go_ret
      exact ⟨by have h9:=HST.out; rw [show d8 t _ i _=false by rw [HV7.out]; simp [KK.out.1,KK.out.2],Bool.false_and] at h9; rw [← h9]; rfl,H4.out.bel⟩
     clear hpw
     cases pw
     ·go_wp2_with fail
      refine (dh fn _).mono ?_
      rintro e w10 ⟨rfl,hw⟩
      obtain rfl:W5=w10:=hw.symm
      rw [HRL.out]
      cases rl
      ·go_wp2_with fail
       go_roundw
       case rel=>exact ⟨i+1,by omega,by go_num,keep (by have h9:=HST.out; rw [show d8 t _ i _=true by rw [HV7.out]; simp,Bool.true_and] at h9; exact h9),H4.out.drop _ (by simp)⟩
       case measure=>simp [intOf]; omega
      by_cases k2:kq=2
      ·have k2b:((kq:Int) != 2)=false:=by rw [k2]; rfl
       have KK:=keep k2
       clear k2
       go_wp2_with fail
       go_roundw
       case rel=>exact ⟨i+1,by omega,by go_num,keep (by have h9:=HST.out; rw [show d8 t _ i _=true by rw [HV7.out]; simp [KK.out],Bool.true_and] at h9; exact h9),H4.out.drop _ (by simp)⟩
       case measure=>simp [intOf]; omega
      have k2b:((kq:Int) != 2)=true:=by simp; omega
      by_cases k3:kq=3
      ·have k3b:((kq:Int) != 3)=false:=by rw [k3]; rfl
       have KK:=keep k3
       clear k3 k2
       go_wp2_with fail
       go_roundw
       case rel=>exact ⟨i+1,by omega,by go_num,keep (by have h9:=HST.out; rw [show d8 t _ i _=true by rw [HV7.out]; simp [KK.out],Bool.true_and] at h9; exact h9),H4.out.drop _ (by simp)⟩
       case measure=>simp [intOf]; omega
      have k3b:((kq:Int) != 3)=true:=by simp; omega
      have KK:=keep (And.intro k2 k3)
      clear k2 k3
      go_wp2_with fail
      go_ret
      exact ⟨by have h9:=HST.out; rw [show d8 t _ i _=false by rw [HV7.out]; simp [KK.out.1,KK.out.2],Bool.false_and] at h9; rw [← h9]; rfl,H4.out.bel⟩
     go_wp2_with fail
     refine (dh fn _).mono ?_
     rintro e w10 ⟨rfl,hw⟩
     obtain rfl:W5=w10:=hw.symm
     rw [HRL.out]
     cases rl
     ·go_wp2_with fail
      go_roundw
      case rel=>exact ⟨i+1,by omega,by go_num,keep (by have h9:=HST.out; rw [show d8 t _ i _=true by rw [HV7.out]; simp,Bool.true_and] at h9; exact h9),H4.out.drop _ (by simp)⟩
      case measure=>simp [intOf]; omega
     by_cases k2:kq=2
     ·have k2b:((kq:Int) != 2)=false:=by rw [k2]; rfl
      have KK:=keep k2
      clear k2
      go_wp2_with fail
      go_roundw
      case rel=>exact ⟨i+1,by omega,by go_num,keep (by have h9:=HST.out; rw [show d8 t _ i _=true by rw [HV7.out]; simp [KK.out],Bool.true_and] at h9; exact h9),H4.out.drop _ (by simp)⟩
      case measure=>simp [intOf]; omega
     have k2b:((kq:Int) != 2)=true:=by simp; omega
     by_cases k3:kq=3
     ·have k3b:((kq:Int) != 3)=false:=by rw [k3]; rfl
      have KK:=keep k3
      clear k3 k2
      go_wp2_with fail
      go_roundw
      case rel=>exact ⟨i+1,by omega,by go_num,keep (by have h9:=HST.out; rw [show d8 t _ i _=true by rw [HV7.out]; simp [KK.out],Bool.true_and] at h9; exact h9),H4.out.drop _ (by simp)⟩
      case measure=>simp [intOf]; omega
     have k3b:((kq:Int) != 3)=true:=by simp; omega
     have KK:=keep (And.intro k2 k3)
     clear k2 k3
     go_wp2_with fail
     go_ret
     exact ⟨by have h9:=HST.out; rw [show d8 t _ i _=false by rw [HV7.out]; simp [KK.out.1,KK.out.2],Bool.false_and] at h9; rw [← h9]; rfl,H4.out.bel⟩
    have hpw2:pw=true∧wi=false:=by cases pw <;> cases wi <;> simp at hpw ⊢
    obtain ⟨rfl,rfl⟩:=hpw2
    clear hpw
    go_wp2_with fail
    go_ret
    exact ⟨by have h9:=HST.out; rw [show d8 t _ i _=false by rw [HV7.out]; simp,Bool.false_and] at h9; rw [← h9]; rfl,H4.out.bel⟩
   have h7b:((nk:Int) == 7)=false:=by simp; omega
   have HV7:=keep (show d8 t ⟨nk,vk,vn,vt,⟨r1,r2,r3,r4⟩,op,fn,nn⟩ i ⟨pr,pd,pw⟩=!pw by unfold d8 lx; simp [h7])
   clear h7
   cases pw
   ·go_wp2_with fail
    go_roundw
    case rel=>exact ⟨i+1,by omega,by go_num,keep (by have h9:=HST.out; rw [show d8 t _ i _=true by rw [HV7.out]; rfl,Bool.true_and] at h9; exact h9),H4.out.drop _ (by simp)⟩
    case measure=>simp [intOf]; omega
   go_wp2_with fail
   go_ret
   exact ⟨by have h9:=HST.out; rw [show d8 t _ i _=false by rw [HV7.out]; rfl,Bool.false_and] at h9; rw [← h9]; rfl,H4.out.bel⟩
  obtain rfl:i=ll:=by omega
  have hend:=HK.out
  rw [HFF.out,List.drop_of_length_le (by rw [HLL.out]; exact Nat.le_refl _)] at hend
  have HE:=keep (show V=true from hend.symm)
  clear hend
  go_wp2_with fail
  go_ret
  exact ⟨by rw [HE.out]; rfl,HW.out.bel⟩
