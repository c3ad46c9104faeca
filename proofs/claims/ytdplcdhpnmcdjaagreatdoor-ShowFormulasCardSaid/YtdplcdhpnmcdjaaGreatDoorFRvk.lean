/- The reference's checks of a value, at any value. The parser's formula and argument. The reference's below. -/
import Derived.Test.YtdplcdhpnmcdjaaGreatDoorFEqV
import Derived.Test.YtdplcdhpnmcdjaaGreatDoorFRefG
import Derived.Test.YtdplcdhpnmcdjaaGreatDoorFParF
import Derived.Test.YtdplcdhpnmcdjaaGreatDoorFTg
import Derived.Test.YtdplcdhpnmcdjaaGreatDoorFGiv
namespace Go.Proofs.YtdplcdhpnmcdjaaGreatDoor
set_option maxRecDepth 100000
set_option maxHeartbeats 4000000
open Go.RowKit Go.Proofs.Tryz
theorem ww  (w:World) :
  Calls prog 40 #[.agg #[.int .u8 0,.int .i64 0,.string ⟨#[]⟩]] w fun e w'=>e=.returned (.int .i64 0)∧Below w.heap.size w w':=by
 have H1:=Lib.hid ((Ok.start w).alloc w.heap.size 35 [.int .u8 0,.int .i64 0,.string ⟨#[]⟩] rfl)
 go_enter func40,ntmps40
 go_wp2_with fail
 generalize (w.alloc (.cells #[.int .u8 0,.int .i64 0,.string ⟨#[]⟩] 35))=W2 at H1 ⊢
 go_ret
 exact ⟨rfl,H1.out.bel⟩
theorem wu (s:ByteArray) (hs:s.toList.isEmpty=false) (w:World) :
  Calls prog 40 #[.agg #[.int .u8 0,.int .i64 0,.string s]] w fun e w'=>e=.returned (.int .i64 2)∧Below w.heap.size w w':=by
 have H1:=Lib.hid ((Ok.start w).alloc w.heap.size 35 [.int .u8 0,.int .i64 0,.string s] rfl)
 go_enter func40,ntmps40
 go_wp2_with fail
 generalize (w.alloc (.cells #[.int .u8 0,.int .i64 0,.string s] 35))=W2 at H1 ⊢
 go_ret
 exact ⟨rfl,H1.out.bel⟩
theorem wt (n:Int) (s:ByteArray) (hn:(n == 0)=false) (w:World) :
  Calls prog 40 #[.agg #[.int .u8 0,.int .i64 n,.string s]] w fun e w'=>e=.returned (.int .i64 2)∧Below w.heap.size w w':=by
 have H1:=Lib.hid ((Ok.start w).alloc w.heap.size 35 [.int .u8 0,.int .i64 n,.string s] rfl)
 go_enter func40,ntmps40
 go_wp2_with fail
 generalize (w.alloc (.cells #[.int .u8 0,.int .i64 n,.string s] 35))=W2 at H1 ⊢
 go_ret
 exact ⟨rfl,H1.out.bel⟩
theorem wC (n:Int) (hn : -9223372036854775807≤n) (w:World) :
  Calls prog 40 #[.agg #[.int .u8 1,.int .i64 n,.string ⟨#[]⟩]] w fun e w'=>e=.returned (.int .i64 0)∧Below w.heap.size w w':=by
 have H1:=Lib.hid ((Ok.start w).alloc w.heap.size 35 [.int .u8 1,.int .i64 n,.string ⟨#[]⟩] rfl)
 go_enter func40,ntmps40
 go_wp2_with fail
 generalize (w.alloc (.cells #[.int .u8 1,.int .i64 n,.string ⟨#[]⟩] 35))=W2 at H1 ⊢
 go_ret
 exact ⟨rfl,H1.out.bel⟩
theorem wB (n:Int) (s:ByteArray) (hn : -9223372036854775807≤n) (hs:s.toList.isEmpty=false) (w:World) :
  Calls prog 40 #[.agg #[.int .u8 1,.int .i64 n,.string s]] w fun e w'=>e=.returned (.int .i64 2)∧Below w.heap.size w w':=by
 have H1:=Lib.hid ((Ok.start w).alloc w.heap.size 35 [.int .u8 1,.int .i64 n,.string s] rfl)
 go_enter func40,ntmps40
 go_wp2_with fail
 generalize (w.alloc (.cells #[.int .u8 1,.int .i64 n,.string s] 35))=W2 at H1 ⊢
 go_ret
 exact ⟨rfl,H1.out.bel⟩
theorem wA (n:Int) (s:ByteArray) (hn:decide (-9223372036854775807≤n)=false) (w:World) :
  Calls prog 40 #[.agg #[.int .u8 1,.int .i64 n,.string s]] w fun e w'=>e=.returned (.int .i64 2)∧Below w.heap.size w w':=by
 have H1:=Lib.hid ((Ok.start w).alloc w.heap.size 35 [.int .u8 1,.int .i64 n,.string s] rfl)
 go_enter func40,ntmps40
 go_wp2_with fail
 generalize (w.alloc (.cells #[.int .u8 1,.int .i64 n,.string s] 35))=W2 at H1 ⊢
 go_ret
 exact ⟨rfl,H1.out.bel⟩
theorem ue  (w:World) :
  Calls prog 40 #[.agg #[.int .u8 2,.int .i64 0,.string ⟨#[]⟩]] w fun e w'=>e=.returned (.int .i64 0)∧Below w.heap.size w w':=by
 have H1:=Lib.hid ((Ok.start w).alloc w.heap.size 35 [.int .u8 2,.int .i64 0,.string ⟨#[]⟩] rfl)
 go_enter func40,ntmps40
 go_wp2_with fail
 generalize (w.alloc (.cells #[.int .u8 2,.int .i64 0,.string ⟨#[]⟩] 35))=W2 at H1 ⊢
 go_ret
 exact ⟨rfl,H1.out.bel⟩
theorem uc (s:ByteArray) (hs:s.toList.isEmpty=false) (w:World) :
  Calls prog 40 #[.agg #[.int .u8 2,.int .i64 0,.string s]] w fun e w'=>e=.returned (.int .i64 2)∧Below w.heap.size w w':=by
 have H1:=Lib.hid ((Ok.start w).alloc w.heap.size 35 [.int .u8 2,.int .i64 0,.string s] rfl)
 go_enter func40,ntmps40
 go_wp2_with fail
 generalize (w.alloc (.cells #[.int .u8 2,.int .i64 0,.string s] 35))=W2 at H1 ⊢
 go_ret
 exact ⟨rfl,H1.out.bel⟩
theorem uf  (w:World) :
  Calls prog 40 #[.agg #[.int .u8 2,.int .i64 1,.string ⟨#[]⟩]] w fun e w'=>e=.returned (.int .i64 0)∧Below w.heap.size w w':=by
 have H1:=Lib.hid ((Ok.start w).alloc w.heap.size 35 [.int .u8 2,.int .i64 1,.string ⟨#[]⟩] rfl)
 go_enter func40,ntmps40
 go_wp2_with fail
 generalize (w.alloc (.cells #[.int .u8 2,.int .i64 1,.string ⟨#[]⟩] 35))=W2 at H1 ⊢
 go_ret
 exact ⟨rfl,H1.out.bel⟩
theorem ud (s:ByteArray) (hs:s.toList.isEmpty=false) (w:World) :
  Calls prog 40 #[.agg #[.int .u8 2,.int .i64 1,.string s]] w fun e w'=>e=.returned (.int .i64 2)∧Below w.heap.size w w':=by
 have H1:=Lib.hid ((Ok.start w).alloc w.heap.size 35 [.int .u8 2,.int .i64 1,.string s] rfl)
 go_enter func40,ntmps40
 go_wp2_with fail
 generalize (w.alloc (.cells #[.int .u8 2,.int .i64 1,.string s] 35))=W2 at H1 ⊢
 go_ret
 exact ⟨rfl,H1.out.bel⟩
theorem wD (n:Int) (s:ByteArray) (hn:(n == 0)=false) (hm:(n == 1)=false) (w:World) :
  Calls prog 40 #[.agg #[.int .u8 2,.int .i64 n,.string s]] w fun e w'=>e=.returned (.int .i64 2)∧Below w.heap.size w w':=by
 have H1:=Lib.hid ((Ok.start w).alloc w.heap.size 35 [.int .u8 2,.int .i64 n,.string s] rfl)
 go_enter func40,ntmps40
 go_wp2_with fail
 generalize (w.alloc (.cells #[.int .u8 2,.int .i64 n,.string s] 35))=W2 at H1 ⊢
 go_ret
 exact ⟨rfl,H1.out.bel⟩
theorem wG (s:ByteArray) (hs:s.size≤4611686018427387904) (hc:bm s.data.toList=0) (w:World) :
  Calls prog 40 #[.agg #[.int .u8 3,.int .i64 0,.string s]] w fun e w'=>e=.returned (.int .i64 0)∧Below w.heap.size w w':=by
 have HC:=keep hc
 clear hc
 have H1:=Lib.hid ((Ok.start w).alloc w.heap.size 35 [.int .u8 3,.int .i64 0,.string s] rfl)
 go_enter func40,ntmps40
 go_wp2_with fail
 generalize (w.alloc (.cells #[.int .u8 3,.int .i64 0,.string s] 35))=W2 at H1 ⊢
 refine (fU _ _ hs).mono ?_
 rintro e w3 ⟨rfl,rfl⟩
 rw [HC.out]
 go_wp2_with fail
 go_ret
 exact ⟨rfl,H1.out.bel⟩
theorem wF (s:ByteArray) (c:Int) (hs:s.size≤4611686018427387904) (hc:bm s.data.toList=c) (h0:(c == 0)=false) (w:World) :
  Calls prog 40 #[.agg #[.int .u8 3,.int .i64 0,.string s]] w fun e w'=>e=.returned (.int .i64 2)∧Below w.heap.size w w':=by
 have HC:=keep hc
 clear hc
 have H1:=Lib.hid ((Ok.start w).alloc w.heap.size 35 [.int .u8 3,.int .i64 0,.string s] rfl)
 go_enter func40,ntmps40
 go_wp2_with fail
 generalize (w.alloc (.cells #[.int .u8 3,.int .i64 0,.string s] 35))=W2 at H1 ⊢
 refine (fU _ _ hs).mono ?_
 rintro e w3 ⟨rfl,rfl⟩
 rw [HC.out]
 go_wp2_with fail
 go_ret
 exact ⟨rfl,H1.out.bel⟩
theorem wE (n:Int) (s:ByteArray) (hn:(n == 0)=false) (w:World) :
  Calls prog 40 #[.agg #[.int .u8 3,.int .i64 n,.string s]] w fun e w'=>e=.returned (.int .i64 2)∧Below w.heap.size w w':=by
 have H1:=Lib.hid ((Ok.start w).alloc w.heap.size 35 [.int .u8 3,.int .i64 n,.string s] rfl)
 go_enter func40,ntmps40
 go_wp2_with fail
 generalize (w.alloc (.cells #[.int .u8 3,.int .i64 n,.string s] 35))=W2 at H1 ⊢
 go_ret
 exact ⟨rfl,H1.out.bel⟩
theorem wJ (n:Int) (h1:1≤n) (h6:n≤6) (w:World) :
  Calls prog 40 #[.agg #[.int .u8 4,.int .i64 n,.string ⟨#[]⟩]] w fun e w'=>e=.returned (.int .i64 0)∧Below w.heap.size w w':=by
 have H1:=Lib.hid ((Ok.start w).alloc w.heap.size 35 [.int .u8 4,.int .i64 n,.string ⟨#[]⟩] rfl)
 go_enter func40,ntmps40
 go_wp2_with fail
 generalize (w.alloc (.cells #[.int .u8 4,.int .i64 n,.string ⟨#[]⟩] 35))=W2 at H1 ⊢
 go_ret
 exact ⟨rfl,H1.out.bel⟩
theorem wI (n:Int) (s:ByteArray) (h1:1≤n) (h6:n≤6) (hs:s.toList.isEmpty=false) (w:World) :
  Calls prog 40 #[.agg #[.int .u8 4,.int .i64 n,.string s]] w fun e w'=>e=.returned (.int .i64 2)∧Below w.heap.size w w':=by
 have H1:=Lib.hid ((Ok.start w).alloc w.heap.size 35 [.int .u8 4,.int .i64 n,.string s] rfl)
 go_enter func40,ntmps40
 go_wp2_with fail
 generalize (w.alloc (.cells #[.int .u8 4,.int .i64 n,.string s] 35))=W2 at H1 ⊢
 go_ret
 exact ⟨rfl,H1.out.bel⟩
theorem wH (n:Int) (s:ByteArray) (h1:decide (1≤n)=false) (w:World) :
  Calls prog 40 #[.agg #[.int .u8 4,.int .i64 n,.string s]] w fun e w'=>e=.returned (.int .i64 2)∧Below w.heap.size w w':=by
 have H1:=Lib.hid ((Ok.start w).alloc w.heap.size 35 [.int .u8 4,.int .i64 n,.string s] rfl)
 go_enter func40,ntmps40
 go_wp2_with fail
 generalize (w.alloc (.cells #[.int .u8 4,.int .i64 n,.string s] 35))=W2 at H1 ⊢
 go_ret
 exact ⟨rfl,H1.out.bel⟩
theorem ug (n:Int) (s:ByteArray) (h1:1≤n) (h6:decide (n≤6)=false) (w:World) :
  Calls prog 40 #[.agg #[.int .u8 4,.int .i64 n,.string s]] w fun e w'=>e=.returned (.int .i64 2)∧Below w.heap.size w w':=by
 have H1:=Lib.hid ((Ok.start w).alloc w.heap.size 35 [.int .u8 4,.int .i64 n,.string s] rfl)
 go_enter func40,ntmps40
 go_wp2_with fail
 generalize (w.alloc (.cells #[.int .u8 4,.int .i64 n,.string s] 35))=W2 at H1 ⊢
 go_ret
 exact ⟨rfl,H1.out.bel⟩
theorem zF (k n:Int) (s:ByteArray) (h0:(k == 0)=false) (h1:(k == 1)=false) (h2:(k == 2)=false) (h3:(k == 3)=false) (h4:(k == 4)=false) (w:World) :
  Calls prog 40 #[.agg #[.int .u8 k,.int .i64 n,.string s]] w fun e w'=>e=.returned (.int .i64 2)∧Below w.heap.size w w':=by
 have H1:=Lib.hid ((Ok.start w).alloc w.heap.size 35 [.int .u8 k,.int .i64 n,.string s] rfl)
 go_enter func40,ntmps40
 go_wp2_with fail
 generalize (w.alloc (.cells #[.int .u8 k,.int .i64 n,.string s] 35))=W2 at H1 ⊢
 go_ret
 exact ⟨rfl,H1.out.bel⟩
theorem eA (s:ByteArray):s=⟨#[]⟩∨(s.toList.isEmpty=false∧s.data.toList≠[]):=by
 by_cases h:s=⟨#[]⟩
 ·exact .inl h
 obtain ⟨h1,h2⟩:=f7 h
 exact .inr ⟨h2,h1⟩
theorem gK (k:Nat) (n:Int) (s:ByteArray) (hs:s.size≤4611686018427387904) (hlo : -9223372036854775808≤n) (w:World) :
  Calls prog 40 #[.agg #[.int .u8 (k:Nat),.int .i64 n,.string s]] w fun e w'=>e=.returned (.int .i64 (fJ k n s.data.toList))∧Below w.heap.size w w':=by
 have ne:∀ {a b:Int},a≠b→(a == b)=false:=fun h=>beq_eq_false_iff_ne.2 h
 have nn:(⟨#[]⟩:ByteArray).data.toList=[]:=rfl
 by_cases k0:k=0
 ·subst k0
  by_cases hn:n=0
  ·subst hn
   rcases eA s with rfl | ⟨g1,g2⟩
   ·rw [bA (.inl ⟨rfl,rfl,nn⟩)]; exact ww w
   rw [bg (by rintro (⟨-,-,h⟩ | ⟨h,-⟩ | ⟨h,-⟩ | ⟨h,-⟩ | ⟨h,-⟩) <;> first | exact g2 h | cases h)]; exact wu s g1 w
  rw [bg (by rintro (⟨-,h,-⟩ | ⟨h,-⟩ | ⟨h,-⟩ | ⟨h,-⟩ | ⟨h,-⟩) <;> first | exact hn h | cases h)]; exact wt n s (ne hn) w
 by_cases k1:k=1
 ·subst k1
  by_cases hn:n=-9223372036854775808
  ·rw [bg (by rintro (⟨h,-⟩ | ⟨-,-,h⟩ | ⟨h,-⟩ | ⟨h,-⟩ | ⟨h,-⟩) <;> first | exact h hn | cases h)]; exact wA n s (by simp; omega) w
  rcases eA s with rfl | ⟨g1,g2⟩
  ·rw [bA (.inr (.inl ⟨rfl,nn,hn⟩))]; exact wC n (by omega) w
  rw [bg (by rintro (⟨h,-⟩ | ⟨-,h,-⟩ | ⟨h,-⟩ | ⟨h,-⟩ | ⟨h,-⟩) <;> first | exact g2 h | cases h)]; exact wB n s (by omega) g1 w
 by_cases k2:k=2
 ·subst k2
  by_cases hn:n=0
  ·subst hn
   rcases eA s with rfl | ⟨g1,g2⟩
   ·rw [bA (.inr (.inr (.inl ⟨rfl,nn,.inl rfl⟩)))]; exact ue w
   rw [bg (by rintro (⟨h,-⟩ | ⟨h,-⟩ | ⟨-,h,-⟩ | ⟨h,-⟩ | ⟨h,-⟩) <;> first | exact g2 h | cases h)]; exact uc s g1 w
  by_cases hm:n=1
  ·subst hm
   rcases eA s with rfl | ⟨g1,g2⟩
   ·rw [bA (.inr (.inr (.inl ⟨rfl,nn,.inr rfl⟩)))]; exact uf w
   rw [bg (by rintro (⟨h,-⟩ | ⟨h,-⟩ | ⟨-,h,-⟩ | ⟨h,-⟩ | ⟨h,-⟩) <;> first | exact g2 h | cases h)]; exact ud s g1 w
  rw [bg (by rintro (⟨h,-⟩ | ⟨h,-⟩ | ⟨-,-,h⟩ | ⟨h,-⟩ | ⟨h,-⟩) <;> first | omega | cases h)]; exact wD n s (ne hn) (ne hm) w
 by_cases k3:k=3
 ·subst k3
  by_cases hn:n=0
  ·subst hn
   by_cases hc:bm s.data.toList=0
   ·rw [bA (.inr (.inr (.inr (.inl ⟨rfl,rfl,hc⟩))))]; exact wG s hs hc w
   rw [bg (by rintro (⟨h,-⟩ | ⟨h,-⟩ | ⟨h,-⟩ | ⟨-,-,h⟩ | ⟨h,-⟩) <;> first | exact hc h | cases h)]; exact wF s _ hs rfl (ne hc) w
  rw [bg (by rintro (⟨h,-⟩ | ⟨h,-⟩ | ⟨h,-⟩ | ⟨-,h,-⟩ | ⟨h,-⟩) <;> first | exact hn h | cases h)]; exact wE n s (ne hn) w
 by_cases k4:k=4
 ·subst k4
  by_cases h1:1≤n
  ·by_cases h6:n≤6
   ·rcases eA s with rfl | ⟨g1,g2⟩
    ·rw [bA (.inr (.inr (.inr (.inr ⟨rfl,nn,h1,h6⟩))))]; exact wJ n h1 h6 w
    rw [bg (by rintro (⟨h,-⟩ | ⟨h,-⟩ | ⟨h,-⟩ | ⟨h,-⟩ | ⟨-,h,-⟩) <;> first | exact g2 h | cases h)]; exact wI n s h1 h6 g1 w
   rw [bg (by rintro (⟨h,-⟩ | ⟨h,-⟩ | ⟨h,-⟩ | ⟨h,-⟩ | ⟨-,-,-,h⟩) <;> first | exact h6 h | cases h)]; exact ug n s h1 (by simp; omega) w
  rw [bg (by rintro (⟨h,-⟩ | ⟨h,-⟩ | ⟨h,-⟩ | ⟨h,-⟩ | ⟨-,-,h,-⟩) <;> first | exact h1 h | cases h)]; exact wH n s (by simp; omega) w
 rw [bg (by rintro (⟨h,-⟩ | ⟨h,-⟩ | ⟨h,-⟩ | ⟨h,-⟩ | ⟨h,-⟩) <;> omega)]
 exact zF k n s (ne (by omega)) (ne (by omega)) (ne (by omega)) (ne (by omega)) (ne (by omega)) w
set_option maxRecDepth 100000
set_option maxHeartbeats 2000000
theorem mW {f:Nat} (h:∀ g,g≤f→Con g) {k:Nat} (h1:1≤k) (h4:k≤4) {w1:World} {ps:List bf} {pb en:Nat} {ts:List Tk} {r:Rs} {ns:List Nd} {w:World} (hr:ai en f (.lv k) ts=some r) (hn:ns.length+ts.length≤1000) (hs:St w1 ps pb en ts ns w) :
  Calls prog 108 #[.pointer (some ⟨pb,0,none⟩),.int .i64 (k:Nat)] w (gn w1 ps pb en (dh ns r)) :=
 h f (Nat.le_refl _) w1 ps pb en (.lv k) ts r ns w hr hn hs h1 h4
theorem fB (w1:World) (ps:List bf) (pb en:Nat) (r:Rs) (w:World) (h:Calls prog 108 #[.pointer (some ⟨pb,0,none⟩),.int .i64 ((1:Nat):Int)] w (gn w1 ps pb en r)) :
  Calls prog 63 #[.pointer (some ⟨pb,0,none⟩)] w (gn w1 ps pb en r):=by
 have HC:=keep h
 clear h
 go_enter func63,ntmps63
 go_wp2_with fail
 refine HC.out.mono ?_
 intro e w' hp
 cases r with
 | bad a c =>
  obtain ⟨rfl,hz⟩:=hp
  have HZ:=Lib.hid hz
  clear hz
  go_wp2_with fail
  exact ⟨rfl,rfl,HZ.out⟩
 | ok ts ns n =>
  obtain ⟨rfl,hz⟩:=hp
  have HZ:=Lib.hid hz
  clear hz
  go_wp2_with fail
  first
   | go_end0
   | refine bodyPost_ret (results_none rfl _ _ _) rfl ?_
  exact ⟨rfl,HZ.out⟩
def pJ (e f fn i:Nat) (ts:List Tk):Option Rs:=if (hdS e ts).kind≠6 then ai e f (.lv 1) ts else if bZ fn i then some (.ok (ts.drop 1) [aK (hdS e ts).r] 0) else some (.bad (hdS e ts).at_ 4)
theorem Ba {fn i:Nat} (h:bZ fn i=true):rZ fn i=0:=by
 unfold bZ at h
 split at h
 ·cases h
 rename_i hn
 exact if_neg hn
theorem lB (f fn i:Nat) (IH:∀ g,g≤f→Con g) (hf1:1≤fn) (hf2:fn≤50) (w1:World) (ps:List bf) (pb en:Nat) (ts:List Tk) (r:Rs) (ns:List Nd) (w:World) (hr:pJ en f fn i ts=some r) (hn:ns.length+ts.length≤1000) (h:St w1 ps pb en ts ns w) :
  Calls prog 246 #[.pointer (some ⟨pb,0,none⟩),.int .u8 (fn:Nat),.int .i64 (i:Nat)] w (gn w1 ps pb en (dh ns r)):=by
 unfold pJ at hr
 have H:=Lib.hid h
 clear h
 by_cases h6:(hdS en ts).kind=6
 ·rw [if_neg (by simpa using h6)] at hr
  cases ts with
  | nil=>exact absurd h6 (by simp [hdS])
  | cons t ts =>
   obtain ⟨tk,tn,tt,⟨t1,t2,t3,t4⟩,ta⟩:=t
   have hk6:tk=6:=h6
   subst hk6
   clear h6
   simp only [hdS,List.drop_succ_cons,List.drop_zero] at hr
   simp only [List.length_cons] at hn
   cases hw:bZ fn i
   ·rw [if_neg (by rw [hw]; decide)] at hr
    simp only [Option.some.injEq] at hr
    subst hr
    have HWI:=keep hw
    clear hw
    go_enter func246,ntmps246
    go_wp2_with fail
    refine cMg (bo w1 _ pb en _ ns _ H.out) (fun _=>H.out.below) fun wa1 H3=>?_
    clear H
    simp only [hdS,tkA]
    go_upto_region 1 with fail
    have H4:=Lib.hid (H3.out.alloc 97 [.int .u8 ((6:Nat):Int),.int .i64 tn,.string ⟨tt.toArray⟩,.int .i64 t1,.int .i64 t2,.int .i64 t3,.int .i64 t4,.int .i64 ta])
    clear H3
    have H4a:Hid (St w1 (af wa1.heap.size 97 [.int .u8 ((6:Nat):Int),.int .i64 tn,.string ⟨tt.toArray⟩,.int .i64 t1,.int .i64 t2,.int .i64 t3,.int .i64 t4,.int .i64 ta]::ps) pb en (⟨6,tn,tt,⟨t1,t2,t3,t4⟩,ta⟩::ts) ns (wa1.alloc (.cells #[.int .u8 ((6:Nat):Int),.int .i64 tn,.string ⟨tt.toArray⟩,.int .i64 t1,.int .i64 t2,.int .i64 t3,.int .i64 t4,.int .i64 ta] 97))):=H4
    clear H4
    generalize (wa1.alloc (.cells #[.int .u8 ((6:Nat):Int),.int .i64 tn,.string ⟨tt.toArray⟩,.int .i64 t1,.int .i64 t2,.int .i64 t3,.int .i64 t4,.int .i64 ta] 97))=Wa5 at H4a ⊢
    have F6:=H4a.out.sees
    simp only [sees,af,ac,Nat.reduceAdd] at F6
    obtain ⟨zp,⟨z0,c00,c01,c02,c03,c04,c05,c06,c07,-⟩,-⟩:=F6
    go_wp2_with fail
    refine (j3 fn i _ hf1 hf2).mono ?_
    rintro e wa7 ⟨rfl,hw8⟩
    obtain rfl:Wa5=wa7:=hw8.symm
    rw [HWI.out]
    go_wp2_with fail
    refine (eI w1 pb _ _ _ H4a.out.bel).mono ?_
    rintro e wz ⟨rfl,hb⟩
    have HZ:=Lib.hid hb
    clear hb
    go_wp2_with fail
    exact ⟨rfl,rfl,HZ.out⟩
   rw [if_pos hw] at hr
   simp only [Option.some.injEq] at hr
   subst hr
   have HWE:=keep (Ba hw)
   have HWI:=keep hw
   clear hw
   go_enter func246,ntmps246
   go_wp2_with fail
   refine cMg (bo w1 _ pb en _ ns _ H.out) (fun _=>H.out.below) fun wa1 H3=>?_
   clear H
   simp only [hdS,tkA]
   go_upto_region 1 with fail
   have H4:=Lib.hid (H3.out.alloc 97 [.int .u8 ((6:Nat):Int),.int .i64 tn,.string ⟨tt.toArray⟩,.int .i64 t1,.int .i64 t2,.int .i64 t3,.int .i64 t4,.int .i64 ta])
   clear H3
   have H4a:Hid (St w1 (af wa1.heap.size 97 [.int .u8 ((6:Nat):Int),.int .i64 tn,.string ⟨tt.toArray⟩,.int .i64 t1,.int .i64 t2,.int .i64 t3,.int .i64 t4,.int .i64 ta]::ps) pb en (⟨6,tn,tt,⟨t1,t2,t3,t4⟩,ta⟩::ts) ns (wa1.alloc (.cells #[.int .u8 ((6:Nat):Int),.int .i64 tn,.string ⟨tt.toArray⟩,.int .i64 t1,.int .i64 t2,.int .i64 t3,.int .i64 t4,.int .i64 ta] 97))):=H4
   clear H4
   generalize (wa1.alloc (.cells #[.int .u8 ((6:Nat):Int),.int .i64 tn,.string ⟨tt.toArray⟩,.int .i64 t1,.int .i64 t2,.int .i64 t3,.int .i64 t4,.int .i64 ta] 97))=Wa5 at H4a ⊢
   have F6:=H4a.out.sees
   simp only [sees,af,ac,Nat.reduceAdd] at F6
   obtain ⟨zp,⟨z0,c00,c01,c02,c03,c04,c05,c06,c07,-⟩,-⟩:=F6
   go_wp2_with fail
   refine (j3 fn i _ hf1 hf2).mono ?_
   rintro e wa7 ⟨rfl,hw8⟩
   obtain rfl:Wa5=wa7:=hw8.symm
   rw [HWI.out,HWE.out]
   go_wp2_with fail
   refine (bS w1 _ pb en _ ts _ _ H4a.out).mono ?_
   rintro e wa9 ⟨rfl,hd9⟩
   clear zp z0 c00 c01 c02 c03 c04 c05 c06 c07
   have H10:=Lib.hid hd9
   clear hd9 H4a
   have F11:=H10.out.sees
   simp only [sees,af,ac,Nat.reduceAdd] at F11
   obtain ⟨zp,⟨z0,c00,c01,c02,c03,c04,c05,c06,c07,-⟩,-⟩:=F11
   go_wp2_with fail
   refine (gH w1 _ pb en ts _ (aK ⟨t1,t2,t3,t4⟩) _ (by omega) H10.out).mono ?_
   rintro e wa12 ⟨rfl,hd9⟩
   clear zp z0 c00 c01 c02 c03 c04 c05 c06 c07
   have H13:=Lib.hid hd9
   clear hd9 H10
   have F14:=H13.out.sees
   simp only [sees,af,ac,Nat.reduceAdd] at F14
   obtain ⟨zp,⟨z0,c00,c01,c02,c03,c04,c05,c06,c07,-⟩,-⟩:=F14
   go_wp2_with fail
   first
    | go_end0
    | refine bodyPost_ret (results_none rfl _ _ _) rfl ?_
   exact ⟨rfl,H13.out.tail⟩
 rw [if_pos (by simpa using h6)] at hr
 have HC:=keep (fun ps w hs=>fB w1 ps pb en _ w (mW IH (k:=1) (Nat.le_refl _) (by omega) (w1:=w1) (ps:=ps) (pb:=pb) (w:=w) hr hn hs))
 clear IH
 have HH:=keep (fun wv h=>bo w1 ps pb en ts ns wv h)
 obtain ⟨⟨tk,tn,tt,⟨t1,t2,t3,t4⟩,ta⟩,ht⟩:∃ t,hdS en ts=t:=⟨_,rfl⟩
 rw [ht] at HH h6
 have h6b:((tk:Int) != 6)=true:=by simp only [] at h6; simp; omega
 clear ht h6
 go_enter func246,ntmps246
 go_wp2_with fail
 refine cMg (HH.out _ H.out) (fun _=>H.out.below) fun wa1 H3=>?_
 clear H
 clear HH
 simp only [tkA]
 go_upto_region 1 with fail
 have H4:=Lib.hid (H3.out.alloc 97 [.int .u8 tk,.int .i64 tn,.string ⟨tt.toArray⟩,.int .i64 t1,.int .i64 t2,.int .i64 t3,.int .i64 t4,.int .i64 ta])
 clear H3
 have H4a:Hid (St w1 (af wa1.heap.size 97 [.int .u8 tk,.int .i64 tn,.string ⟨tt.toArray⟩,.int .i64 t1,.int .i64 t2,.int .i64 t3,.int .i64 t4,.int .i64 ta]::ps) pb en ts ns (wa1.alloc (.cells #[.int .u8 tk,.int .i64 tn,.string ⟨tt.toArray⟩,.int .i64 t1,.int .i64 t2,.int .i64 t3,.int .i64 t4,.int .i64 ta] 97))):=H4
 clear H4
 generalize (wa1.alloc (.cells #[.int .u8 tk,.int .i64 tn,.string ⟨tt.toArray⟩,.int .i64 t1,.int .i64 t2,.int .i64 t3,.int .i64 t4,.int .i64 ta] 97))=Wa5 at H4a ⊢
 have F6:=H4a.out.sees
 simp only [sees,af,ac,Nat.reduceAdd] at F6
 obtain ⟨zp,⟨z0,c00,c01,c02,c03,c04,c05,c06,c07,-⟩,-⟩:=F6
 go_wp2_with fail
 clear hr
 refine (HC.out _ _ H4a.out).mono ?_
 intro e w9 hp
 clear HC
 cases r with
 | bad a c =>
  obtain ⟨rfl,hz⟩:=hp
  have HZ:=Lib.hid hz
  clear hz
  go_wp2_with fail
  exact ⟨rfl,rfl,HZ.out⟩
 | ok ts9 ns9 n9 =>
  obtain ⟨rfl,hz⟩:=hp
  have HZ:=Lib.hid hz
  clear hz
  go_wp2_with fail
  first
   | go_end0
   | refine bodyPost_ret (results_none rfl _ _ _) rfl ?_
  exact ⟨rfl,HZ.out.tail⟩
set_option maxRecDepth 100000
theorem eL (n:Nd) (w:World) :
  Calls prog 59 #[ndA n] w fun e w'=>e=.returned (.int .i64 (al n:Nat))∧Below w.heap.size w w':=by
 have hc:=kf n
 obtain ⟨nk,vk,vn,vt,⟨r1,r2,r3,r4⟩,op,fn,nn⟩:=n
 obtain ⟨k,hk⟩:=ex (al ⟨nk,vk,vn,vt,⟨r1,r2,r3,r4⟩,op,fn,nn⟩)
 rw [hk] at hc ⊢
 clear hk
 simp only [] at hc
 unfold ndA bj
 simp only []
 have H1:=Lib.hid ((Ok.start w).alloc w.heap.size 39 [.int .u8 nk,.int .u8 vk,.int .i64 vn,.string ⟨vt.toArray⟩,.int .i64 r1,.int .i64 r2,.int .i64 r3,.int .i64 r4,.int .i64 op,.int .u8 fn,.int .i64 nn] rfl)
 rcases hc with ⟨rfl,rfl⟩ | ⟨rfl,rfl⟩ | ⟨rfl,rfl⟩ | ⟨rfl,rfl⟩ | ⟨a4,a5,a6,a7,rfl⟩
 ·go_enter func59,ntmps59
  go_wp2_with fail
  go_ret
  exact ⟨rfl,H1.out.bel⟩
 ·go_enter func59,ntmps59
  go_wp2_with fail
  go_ret
  exact ⟨rfl,H1.out.bel⟩
 ·go_enter func59,ntmps59
  go_wp2_with fail
  go_ret
  exact ⟨rfl,H1.out.bel⟩
 ·go_enter func59,ntmps59
  go_wp2_with fail
  go_ret
  exact ⟨rfl,H1.out.bel⟩
 have b4:((nk:Int) == 4)=false:=by simp; omega
 have b5:((nk:Int) == 5)=false:=by simp; omega
 have b6:((nk:Int) == 6)=false:=by simp; omega
 have b7:((nk:Int) == 7)=false:=by simp; omega
 clear a4 a5 a6 a7
 go_enter func59,ntmps59
 go_wp2_with fail
 go_ret
 exact ⟨rfl,H1.out.bel⟩
