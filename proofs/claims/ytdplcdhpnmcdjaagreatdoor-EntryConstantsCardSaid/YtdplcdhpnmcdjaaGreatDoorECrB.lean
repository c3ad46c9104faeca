/- Contracts of the reference's tests of bytes, and of the end of a word. The contract of the reference's Upper. Contracts of the reference lexer's number and text. Contracts of the reference lexer's text, address and begins. Plain: the number that the reference's Parse (louvreref01) builds place by place, against parD. No program stands here. The reference's decimal reader: digits, sums and products of 128 bits, Parse (louvreref01). -/
import Derived.Test.YtdplcdhpnmcdjaaGreatDoorELexC
import Derived.Test.YtdplcdhpnmcdjaaGreatDoorEAddrP
import Derived.Test.YtdplcdhpnmcdjaaGreatDoorELexJ
import Derived.Test.YtdplcdhpnmcdjaaGreatDoorELexI
import Derived.Test.YtdplcdhpnmcdjaaGreatDoorELexK
import Derived.Test.YtdplcdhpnmcdjaaGreatDoorELexO
import Derived.Test.YtdplcdhpnmcdjaaGreatDoorETg
import Derived.Test.YtdplcdhpnmcdjaaGreatDoorEShc
import Derived.Deep.DeepCutAuto
namespace Go.Proofs.YtdplcdhpnmcdjaaGreatDoor
set_option maxHeartbeats 1000000
section
open Go.RowKit Go.Proofs.Tryz
end
section
open Go.RowKit Go.Proofs.Tryz
theorem jR (s:ByteArray) (w:World) (hs:s.size≤4611686018427387904) :
  Calls prog 78 #[.string s] w fun e w'=>e=.returned (.string ⟨(s.data.toList.map upB).toArray⟩)∧Below w.heap.size w w':=by
 have hcv:=run_bytes_of_string (P:=prog) w 9 42 5 s underlying9 underlying42 underlying5
 have hm:=bd.made w.drew s 5 (grownCap w s.size 0 5)
 have hbl:Below w.heap.size w (w.drew.alloc (.cells (bytesRow s (grownCap w s.size 0 5)) 5 ((bytesRow s (grownCap w s.size 0 5)).size,(bytesRow s (grownCap w s.size 0 5)).size+1))):=(Below.refl _ _).drew.alloc (Nat.le_refl _) _
 generalize (w.drew.alloc (.cells (bytesRow s (grownCap w s.size 0 5)) 5 ((bytesRow s (grownCap w s.size 0 5)).size,(bytesRow s (grownCap w s.size 0 5)).size+1)))=W0 at hcv hm hbl
 generalize grownCap w s.size 0 5=cap at hcv
 have HM:Hid (bd W0 w.heap.size s.data.toList):=hm
 have HB:=Lib.hid hbl
 clear hm hbl
 have hlen:s.data.toList.length=s.size:=by simp
 have HL:=Lib.hid hlen
 clear hlen
 go_enter func78,ntmps78
 go_wp2_with fail
 go_loopw [4] (fun i wr=>∃ k:Nat,k≤s.size∧i=.int .i64 k∧Hid (bd wr w.heap.size (fL s.data.toList k))∧Hid (Below w.heap.size w wr)) (fun i _=>s.size - (intOf i).toNat)
 case atStart=>exact ⟨0,Nat.zero_le _,rfl,by simpa [fL] using HM,HB⟩
 case round =>
  obtain ⟨k,hk,rfl,H1,H2⟩:=hrel
  clear HM HB hcv
  by_cases hlt:k<s.size
  ·have hlt':k<s.data.toList.length:=by rw [HL.out]; exact hlt
   have hcell:=(H1.out k (by rw [dS]; exact hlt')).1
   have hfroz:=(H1.out k (by rw [dS]; exact hlt')).2
   rw [lU _ _ hlt'] at hcell
   obtain ⟨b,hb⟩:∃ b,b=s.data.toList[k]:=⟨_,rfl⟩
   rw [← hb] at hcell
   have HBy:=Lib.hid hb
   have HLT:=Lib.hid hlt'
   have hb8:b.toNat<256:=b.toNat_lt
   clear hb
   rcases (show (97≤b.toNat∧b.toNat≤122)∨b.toNat<97∨122<b.toNat from by omega) with ⟨h1,h2⟩ | h1 | h1
   ·go_wp2_with fail
    go_roundw
    case rel =>
     refine ⟨k+1,by omega,by go_num,?_,Lib.hid (H2.out.setCell (Nat.le_refl _) _)⟩
     show bd _ _ _
     rw [iG _ _ HLT.out,← HBy.out]
     exact H1.out.set_ k (by rw [dS]; exact HLT.out) _ _ (by rw [pz b ⟨h1,h2⟩]; omega)
    case measure=>simp [intOf]; omega
   ·go_wp2_with fail
    go_roundw
    case rel=>exact ⟨k+1,by omega,by go_num,by rw [kT _ _ HLT.out (by rw [← HBy.out]; exact ii b (by omega))]; exact H1,H2⟩
    case measure=>simp [intOf]; omega
   go_wp2_with fail
   go_roundw
   case rel=>exact ⟨k+1,by omega,by go_num,by rw [kT _ _ HLT.out (by rw [← HBy.out]; exact ii b (by omega))]; exact H1,H2⟩
   case measure=>simp [intOf]; omega
  have hke:fL s.data.toList k=s.data.toList.map upB:=by
   have:k=s.data.toList.length:=by rw [HL.out]; omega
   unfold fL
   rw [List.take_of_length_le (by omega),List.drop_eq_nil_of_le (by omega),List.append_nil]
  have h1:=H1.out
  rw [hke] at h1
  have hcv2:=h1.string (P:=prog) 42 9 5 underlying42 underlying5 underlying9 cap
  rw [List.length_map,HL.out] at hcv2
  clear h1 hke
  go_wp2_with fail
  go_ret
  exact ⟨rfl,H2.out⟩
end
section
open Go.RowKit Go.Proofs.Tryz
theorem qI (l:List UInt8) (b:UInt8):cz (l++[b])=10 * cz l+(b.toNat - 48):=by
 unfold cz
 rw [List.foldl_append]
 rfl
theorem vw (l m:List UInt8):cz l≤cz (l++m):=by
 induction m generalizing l with
 | nil=>simp
 | cons b m ih =>
  have h1:=ih (l++[b])
  rw [qI,List.append_assoc] at h1
  simp at h1
  omega
end
section
open Go.RowKit Go.Proofs.Tryz
def fg (s:ByteArray) (a k:Nat) (t:List UInt8):Prop:=aP (s.data.toList.drop a)=(aP (s.data.toList.drop k)).map fun p=>(t++p.1,p.2+(k - a))
theorem fg.start (s:ByteArray) (a:Nat):fg s a a []:=by
 unfold fg
 simp
theorem fg.step {s : ByteArray} {a k : Nat} {t : List UInt8} (h : fg s a k t) (ha : a ≤ k) (hk : k < s.size) (h1 : s[k]'hk ≠ 34) : fg s a (k + 1) (t ++ [s[k]'hk]):=by
 have hsl:s.data.toList.length=s.size:=by rw [Array.length_toList]; rfl
 have hd : s.data.toList.drop k = s[k]'hk :: s.data.toList.drop (k + 1):=List.drop_eq_getElem_cons (by omega)
 unfold fg at h ⊢
 rw [h,hd]
 cases hr:s.data.toList.drop (k+1) with
 | nil=>rw [di,if_neg h1]; rfl
 | cons c r =>
  rw [bR,if_neg h1]
  cases aP (c::r) with
  | none=>rfl
  | some y=>simp; omega
theorem fg.pair {s : ByteArray} {a k : Nat} {t : List UInt8} (h : fg s a k t) (ha : a ≤ k) (hk : k + 1 < s.size) (h1 : s[k]'(by omega) = 34) (h2 : s[k + 1]'hk = 34) : fg s a (k + 2) (t ++ [34]):=by
 have hsl:s.data.toList.length=s.size:=by rw [Array.length_toList]; rfl
 have hd : s.data.toList.drop k = s[k]'(by omega) :: s[k + 1]'hk :: s.data.toList.drop (k + 2):=by
  rw [List.drop_eq_getElem_cons (by omega),List.drop_eq_getElem_cons (by omega)]
  rfl
 unfold fg at h ⊢
 rw [h,hd,bR,if_pos h1,if_pos h2]
 cases aP (s.data.toList.drop (k+2)) with
 | none=>rfl
 | some y=>simp; omega
theorem fg.last {s : ByteArray} {a k : Nat} {t : List UInt8} (h : fg s a k t) (ha : a ≤ k) (hk : k < s.size) (h1 : s[k]'hk = 34) (h2 : ∀ h : k + 1 < s.size,s[k + 1]'h ≠ 34) : aP (s.data.toList.drop a) = some (t,k + 1 - a):=by
 have hsl:s.data.toList.length=s.size:=by rw [Array.length_toList]; rfl
 have hu:aP (s.data.toList.drop k)=some ([],1):=by
  have hd : s.data.toList.drop k = s[k]'hk :: s.data.toList.drop (k + 1):=List.drop_eq_getElem_cons (by omega)
  rw [hd]
  by_cases hk1:k+1<s.size
  ·have hd2 : s.data.toList.drop (k + 1) = s[k + 1]'hk1 :: s.data.toList.drop (k + 2):=List.drop_eq_getElem_cons (by omega)
   rw [hd2,bR,if_pos h1,if_neg (h2 hk1)]
  rw [List.drop_eq_nil_of_le (by omega),di,if_pos h1]
 unfold fg at h
 rw [h,hu]
 simp; omega
theorem fg.out {s:ByteArray} {a:Nat} {t:List UInt8} (h:fg s a s.size t):aP (s.data.toList.drop a)=none:=by
 have hsl:s.data.toList.length=s.size:=by rw [Array.length_toList]; rfl
 unfold fg at h
 rw [h,List.drop_eq_nil_of_le (by omega)]
 rfl
end
open Go.RowKit
def gN (f P i:Nat):Nat:=if i≤P then i - f else i - f - 1
def nq (l:List UInt8) (i:Nat):Nat:=(l[i]?.getD 48).toNat - 48
def gA (D:List UInt8) (f P i:Nat):Nat:=cz (D.take (gN f P i))
def gX (w p:List UInt8):List UInt8:=w++(p++ik).take 4
theorem o9 (w p:List UInt8):(gX w p).length=w.length+4:=by
 unfold gX ik
 rw [List.length_append,List.length_take,List.length_append]
 simp only [List.length_cons,List.length_nil]
 omega
theorem qi (D:List UInt8) (f P:Nat) (h:f≤P):gA D f P f=0:=by
 unfold gA gN
 rw [if_pos h,Nat.sub_self]; rfl
theorem qh (D:List UInt8) (f P:Nat) (h:f≤P):gA D f P (P+1)=gA D f P P:=by
 unfold gA gN
 rw [if_neg (by omega),if_pos (Nat.le_refl _),show P+1 - f - 1=P - f by omega]
theorem wR (D:List UInt8) (f P i:Nat):gA D f P i≤cz D:=by
 unfold gA
 have:=vw (D.take (gN f P i)) (D.drop (gN f P i))
 rwa [List.take_append_drop] at this
theorem uY (w p:List UInt8) (f:Nat):gA (gX w p) f (f+w.length) (f+w.length+5)=cz (gX w p):=by
 unfold gA gN
 rw [if_neg (by omega),List.take_of_length_le (by rw [o9]; omega)]
theorem rM {l s w z p:List UInt8} {f i:Nat} (hl:l=s++(w++z)) (hs:s.length=f) (hz:z=[]∧p=[]∨z=46::p) (h1:f≤i) (h2:i<f+w.length+5) (h3:i≠f+w.length) :
  gA (gX w p) f (f+w.length) (i+1)=10 * gA (gX w p) f (f+w.length) i+nq l i:=by
 have hk:gN f (f+w.length) (i+1)=gN f (f+w.length) i+1:=by
  unfold gN
  by_cases h:i<f+w.length
  ·rw [if_pos (by omega),if_pos (by omega)]; omega
  rw [if_neg (by omega),if_neg (by omega)]; omega
 have hlt:gN f (f+w.length) i<(gX w p).length:=by
  rw [o9]
  unfold gN
  split <;> omega
 unfold gA
 rw [hk,f7 _ _ hlt]
 congr 1
 have e:(gX w p)[gN f (f+w.length) i]?=some (l[i]?.getD 48):=by
  subst hl
  rw [List.getElem?_append_right (by omega),hs]
  unfold gX
  by_cases h:i<f+w.length
  ·have hc:gN f (f+w.length) i=i - f:=if_pos (by omega)
   rw [hc,List.getElem?_append_left (by omega),List.getElem?_append_left (by omega),List.getElem?_eq_getElem (by omega)]
   rfl
  have hc:gN f (f+w.length) i=i - f - 1:=if_neg (by omega)
  rw [hc,List.getElem?_append_right (by omega),List.getElem?_append_right (by omega),List.getElem?_take_of_lt (by omega)]
  obtain ⟨j,hj⟩:=ex (i - f - 1 - w.length)
  rw [hj,show i - f - w.length=j+1 by omega]
  have hj4:j<4:=by omega
  have hzj:z[j+1]?=p[j]?:=by
   rcases hz with ⟨rfl,rfl⟩ | rfl
   ·rfl
   rw [List.getElem?_cons_succ]
  rw [hzj]
  by_cases hp:j<p.length
  ·rw [List.getElem?_append_left hp,List.getElem?_eq_getElem hp]; rfl
  rw [List.getElem?_append_right (by omega),List.getElem?_eq_none (by omega:p.length≤j)]
  have key:∀ q:Fin 5,ik[q.1]?=some 48:=by decide
  exact key ⟨j - p.length,by omega⟩
 rw [List.getElem?_eq_getElem hlt] at e
 rw [Option.some.inj e]; rfl
theorem yD {l s w z p:List UInt8} {f:Nat} (hl:l=s++(w++z)) (hs:s.length=f) (hz:z=[]∧p=[]∨z=46::p) :
  upD p=decide (53≤(l[f+w.length+5]?.getD 48).toNat):=by
 subst hl
 unfold upD
 rw [List.getElem?_append_right (by omega),hs,List.getElem?_append_right (by omega),show f+w.length+5 - f - w.length=4+1 by omega]
 have hzj:z[4+1]?=p[4]?:=by
  rcases hz with ⟨rfl,rfl⟩ | rfl
  ·rfl
  rw [List.getElem?_cons_succ]
 rw [hzj,List.getD_eq_getElem?_getD]
 by_cases hp:4<p.length
 ·rw [List.getElem?_append_left hp]
  rw [List.getElem?_eq_getElem hp]; rfl
 rw [List.getElem?_append_right (by omega),List.getElem?_eq_none (by omega:p.length≤4)]
 have key:∀ q:Fin 5,ik[q.1]?.getD 0=48:=by decide
 rw [key ⟨4 - p.length,by omega⟩]; rfl
theorem wZ {l s w z p:List UInt8} {M:Nat} (hl:l=s++(w++z)) (hs:(l.head?=some 45∧s=[45])∨(l.head?≠some 45∧s=[])) (hw:w.all ah=true) (hz:z=[]∧p=[]∨(z=46::p∧p≠[]∧p.all ah=true)) (hne:w≠[]) (hM:it w p=M) :
  cx l=if M≤aD then ((if l.head?=some 45 then -(M:Int) else M),0) else (0,3):=by
 have hu:bT l=w++z:=by
  unfold bT
  rcases hs with ⟨h,rfl⟩ | ⟨h,rfl⟩
  ·rw [if_pos h,hl]; rfl
  rw [if_neg h,hl]; rfl
 have hst:stops ah z=true:=by
  rcases hz with ⟨rfl,-⟩ | ⟨rfl,-,-⟩ <;> rfl
 obtain ⟨h1,h2⟩:=cg ah w z (fun b hb=>List.all_eq_true.1 hw b hb) hst
 have hp:jI ((bT l).dropWhile ah)=some p:=by
  rw [hu,h2]
  rcases hz with ⟨rfl,rfl⟩ | ⟨rfl,h3,h4⟩
  ·rfl
  exact if_pos ⟨rfl,h3,h4⟩
 have hq:(bT l).takeWhile ah=w:=by rw [hu,h1]
 rw [pa (by rw [hq]; exact hne) hp,hq,hM]
set_option maxRecDepth 100000
set_option maxHeartbeats 8000000
open Go.RowKit Go.Proofs.Tryz
theorem fY (a b c d x y:Int) (hb:0≤b∧b≤18446744073709551615∧0≤d∧d≤18446744073709551615) (ha:0≤a∧a≤1000∧0≤c∧c≤1000) (h:(x=a+c∧y=b+d∧b+d≤18446744073709551615)∨(x=a+c+1∧y=b+d - 18446744073709551616∧18446744073709551615<b+d)) (w:World) :
  Calls prog 133 #[.agg #[.int .u64 a,.int .u64 b],.agg #[.int .u64 c,.int .u64 d]] w fun e w'=>e=.returned (.agg #[.int .u64 x,.int .u64 y])∧Below w.heap.size w w':=by
 obtain ⟨z,hz⟩:=ex (a+c)
 have hw2:IntKind.u64.wrap (a+c)=z:=by rw [Go.IntWalk.u64_in _ (by omega)]; exact hz
 have H1:=Lib.hid ((((Ok.start w).alloc w.heap.size 158 [.int .u64 a,.int .u64 b] rfl).alloc (w.heap.size+1) 158 [.int .u64 c,.int .u64 d] (by simp)).var (w.heap.size+1+1) 158 [.int .u64 0,.int .u64 0] (by simp))
 rcases h with ⟨hx,hy,hs⟩ | ⟨hx,hy,hs⟩
 ·obtain rfl:x=z:=by omega
  have hw1:IntKind.u64.wrap (b+d)=y:=by rw [Go.IntWalk.u64_in _ (by omega)]; omega
  have hlt:¬ (y<b):=by omega
  clear hx hy hs hb ha hz
  go_enter func133,ntmps133
  go_upto_region 1 with fail
  generalize (((w.alloc (.cells #[.int .u64 a,.int .u64 b] 158)).alloc (.cells #[.int .u64 c,.int .u64 d] 158)).alloc (.cells #[.int .u64 0,.int .u64 0] 158))=W2 at H1 ⊢
  have F3:=sE H1
  go_wp2_with fail
  have hK:=H1.out.get (af (w.heap.size+2) 158 [.int .u64 0,.int .u64 0]) (by simp)
  have hB:=H1.out.bel
  have hE:=(((show Blk W2 (w.heap.size+2) 158 _ from hK).set_ 0 (.int .u64 x)).set_ 1 (.int .u64 y))
  exact bodyPost_ret (v:=.agg #[.int .u64 x,.int .u64 y]) (by simp [results,results133,go_sem,hE.cell]) rfl ⟨rfl,((hB.setCell (by simp; omega) _).setCell (by simp; omega) _)⟩
 have hw1:IntKind.u64.wrap (b+d)=y:=by rw [IntKind.wrap_u64]; omega
 have hlt:y<b:=by omega
 have hw3:IntKind.u64.wrap (z+1)=x:=by rw [Go.IntWalk.u64_in _ (by omega)]; omega
 clear hx hy hs hb ha hz
 go_enter func133,ntmps133
 go_upto_region 1 with fail
 generalize (((w.alloc (.cells #[.int .u64 a,.int .u64 b] 158)).alloc (.cells #[.int .u64 c,.int .u64 d] 158)).alloc (.cells #[.int .u64 0,.int .u64 0] 158))=W2 at H1 ⊢
 have F3:=sE H1
 go_wp2_with fail
 have hK:=H1.out.get (af (w.heap.size+2) 158 [.int .u64 0,.int .u64 0]) (by simp)
 have hB:=H1.out.bel
 have hE:=(((show Blk W2 (w.heap.size+2) 158 _ from hK).set_ 0 (.int .u64 x)).set_ 1 (.int .u64 y))
 exact bodyPost_ret (v:=.agg #[.int .u64 x,.int .u64 y]) (by simp [results,results133,go_sem,hE.cell]) rfl ⟨rfl,((hB.setCell (by simp; omega) _).setCell (by simp; omega) _)⟩
theorem rW (n:Nat) (hn:n≤9223372036854775807) (w:World) :
  Calls prog 134 #[.int .u64 (n:Int),.int .u64 10] w fun e w'=>e=.returned (.agg #[.int .u64 ((10 * n / 18446744073709551616:Nat):Int),.int .u64 ((10 * n % 18446744073709551616:Nat):Int)])∧Below w.heap.size w w':=by
 obtain ⟨x,hx⟩:∃ x:Nat,10 * n / 18446744073709551616=x:=⟨_,rfl⟩
 obtain ⟨y,hy⟩:∃ y:Nat,10 * n % 18446744073709551616=y:=⟨_,rfl⟩
 rw [hx,hy]
 have HP1:=keep (fun W=>fY 0 ((n:Int) % 4294967296 * 10) ((n:Int) / 4294967296 * 10 / 4294967296) ((n:Int) / 4294967296 * 10 % 4294967296 * 4294967296) x y (by omega) (by omega) (by omega) W)
 have HP2:=keep (fun W=>fY x y 0 0 x y (by omega) (by omega) (by omega) W)
 clear hx hy
 have H0:=Lib.hid (Ok.start w)
 go_enter func134,ntmps134
 go_upto_region 1 with fail
 have H1:=Lib.hid (H0.out.var w.heap.size 158 [.int .u64 0,.int .u64 0] rfl)
 clear H0
 generalize (w.alloc (.cells #[.int .u64 0,.int .u64 0] 158))=W2 at H1 ⊢
 have F3:=H1.out.sees
 simp only [sees,af,aa,Nat.reduceAdd] at F3
 obtain ⟨⟨⟨z0,fz0⟩,c00,c01,-⟩,-⟩:=F3
 go_upto_region 3 with fail
 have y4:=z0
 clear z0 fz0 c00 c01
 have H5:=Lib.hid (H1.out.var W2.heap.size 158 [.int .u64 0,.int .u64 ((n:Int) % 4294967296 * 10)] rfl)
 clear H1
 generalize (W2.alloc (.cells #[.int .u64 0,.int .u64 ((n:Int) % 4294967296 * 10)] 158))=W6 at H5 ⊢
 have F7:=sE H5
 go_wp2_with fail
 refine cM (HP1.out _) H5 fun w8 H10=>?_
 clear F7 H5
 have F11:=sE H10
 go_wp2_with fail
 have H12:=Lib.hid (H10.out.drop [af (W2.heap.size) 158 [.int .u64 0,.int .u64 ((n:Int) % 4294967296 * 10)],af (w.heap.size) 158 [.int .u64 0,.int .u64 0]] (by simp))
 have hfar:∀ x∈[af (w.heap.size) 158 [.int .u64 0,.int .u64 0]],x.far (some (W2.heap.size)):=by
  simp [af]; omega
 have H13:Hid (Ok w [af (W2.heap.size) 158 [.int .u64 (x:Nat),.int .u64 (y:Nat)],af (w.heap.size) 158 [.int .u64 0,.int .u64 0]] ((w8.setCell ⟨W2.heap.size,0,none⟩ (.int .u64 (x:Nat))).setCell ⟨W2.heap.size,1,none⟩ (.int .u64 (y:Nat)))):=((H12.out.set_ (i:=0) (u:=.int .u64 (x:Nat)) (by omega) hfar).set_ (i:=1) (u:=.int .u64 (y:Nat)) (by omega) hfar)
 clear F11
 clear H10 H12 hfar
 generalize ((w8.setCell ⟨W2.heap.size,0,none⟩ (.int .u64 (x:Nat))).setCell ⟨W2.heap.size,1,none⟩ (.int .u64 (y:Nat)))=W14 at H13 ⊢
 have F15:=sE H13
 go_wp2_with fail
 refine cM (HP2.out _) H13 fun w16 H18=>?_
 clear F15 H13
 have F19:=sE H18
 go_wp2_with fail
 have hK:=H18.out.get (af (w.heap.size) 158 [.int .u64 0,.int .u64 0]) (by simp)
 have hB:=H18.out.bel
 have hE:=(((show Blk w16 (w.heap.size) 158 _ from hK).set_ 0 (.int .u64 (x:Nat))).set_ 1 (.int .u64 (y:Nat)))
 exact bodyPost_ret (v:=.agg #[.int .u64 (x:Nat),.int .u64 (y:Nat)]) (by simp [results,results134,go_sem,hE.cell]) rfl ⟨rfl,(sC (sC hB _) _)⟩
theorem mN (n:Nat) (hn:n≤1000000000000000000000) (neg:Bool) (w:World) :
  Calls prog 135 #[.agg #[.int .u64 ((n / 18446744073709551616:Nat):Int),.int .u64 ((n % 18446744073709551616:Nat):Int)],.bool neg] w fun e w'=>e=.returned (.tuple #[.int .i64 (if n≤9223372036854775807 then (if neg=true then -(n:Int) else n) else 0),.bool (decide (n≤9223372036854775807))])∧Below w.heap.size w w':=by
 obtain ⟨h,hh⟩:∃ h:Nat,n / 18446744073709551616=h:=⟨_,rfl⟩
 obtain ⟨l,hl⟩:∃ l:Nat,n % 18446744073709551616=l:=⟨_,rfl⟩
 rw [hh,hl]
 by_cases hb:n≤9223372036854775807
 ·rw [if_pos hb,decide_eq_true hb]
  obtain rfl:n=l:=by omega
  obtain rfl:h=0:=by omega
  have ec:IntKind.i64.wrap (n:Int)=n:=Go.IntWalk.i64_in _ (by omega)
  have en:IntKind.i64.wrap (-(n:Int))=-n:=Go.IntWalk.i64_in _ (by omega)
  have hg:¬ ((n:Int)>9223372036854775807):=by omega
  clear hh hl hn
  cases neg
  ·rw [if_neg (by decide)]
   have H1:=Lib.hid ((Ok.start w).alloc w.heap.size 158 [.int .u64 0,.int .u64 (n:Nat)] rfl)
   go_enter func135,ntmps135
   go_upto_region 1 with fail
   generalize (w.alloc (.cells #[.int .u64 0,.int .u64 (n:Nat)] 158))=W2 at H1 ⊢
   have F3:=sE H1
   go_wp2_with fail
   exact bodyPost_ret (v:=.tuple #[.int .i64 (n:Int),.bool true]) (by simp [results,results135,go_sem]) rfl ⟨rfl,H1.out.bel⟩
  rw [if_pos rfl]
  have H1:=Lib.hid ((Ok.start w).alloc w.heap.size 158 [.int .u64 0,.int .u64 (n:Nat)] rfl)
  go_enter func135,ntmps135
  go_upto_region 1 with fail
  generalize (w.alloc (.cells #[.int .u64 0,.int .u64 (n:Nat)] 158))=W2 at H1 ⊢
  have F3:=sE H1
  go_wp2_with fail
  exact bodyPost_ret (v:=.tuple #[.int .i64 (-(n:Int)),.bool true]) (by simp [results,results135,go_sem]) rfl ⟨rfl,H1.out.bel⟩
 rw [if_neg hb,decide_eq_false hb]
 by_cases h0:h=0
 ·subst h0
  have hg:(l:Int)>9223372036854775807:=by omega
  clear hh hl hn hb
  have H1:=Lib.hid ((Ok.start w).alloc w.heap.size 158 [.int .u64 0,.int .u64 (l:Nat)] rfl)
  go_enter func135,ntmps135
  go_upto_region 1 with fail
  generalize (w.alloc (.cells #[.int .u64 0,.int .u64 (l:Nat)] 158))=W2 at H1 ⊢
  have F3:=sE H1
  go_wp2_with fail
  exact bodyPost_ret (v:=.tuple #[.int .i64 0,.bool false]) (by simp [results,results135,go_sem]) rfl ⟨rfl,H1.out.bel⟩
 have hg:((h:Int) != 0)=true:=by simp; omega
 clear hh hl hn hb h0
 have H1:=Lib.hid ((Ok.start w).alloc w.heap.size 158 [.int .u64 (h:Nat),.int .u64 (l:Nat)] rfl)
 go_enter func135,ntmps135
 go_upto_region 1 with fail
 generalize (w.alloc (.cells #[.int .u64 (h:Nat),.int .u64 (l:Nat)] 158))=W2 at H1 ⊢
 have F3:=sE H1
 go_wp2_with fail
 exact bodyPost_ret (v:=.tuple #[.int .i64 0,.bool false]) (by simp [results,results135,go_sem]) rfl ⟨rfl,H1.out.bel⟩
theorem rk (l : List UInt8) (f : Nat) : ∀ i,f ≤ i → i < f + ((l.drop f).takeWhile ah).length → ∃ h : i < l.length,ah (l[i]'h) = true:=by
 intro i h1 h2
 obtain ⟨e,hw,-⟩:=br ah (l.drop f)
 generalize (l.drop f).takeWhile ah=w at e hw h2
 have hlen:=congrArg List.length e
 rw [List.length_drop,List.length_append] at hlen
 refine ⟨by omega,?_⟩
 have h3:(l.drop f)[i - f]?=w[i - f]?:=by rw [e,List.getElem?_append_left (by omega)]
 rw [List.getElem?_drop,show f+(i - f)=i by omega,List.getElem?_eq_getElem (by omega),List.getElem?_eq_getElem (by omega)] at h3
 rw [Option.some.inj h3]
 exact hw _ (List.getElem_mem _)
theorem pT (l : List UInt8) (f z : Nat) (hf : f ≤ l.length) (hz : f + ((l.drop f).takeWhile ah).length = z) : z ≤ l.length ∧ ∀ h : z < l.length,ah (l[z]'h) = false:=by
 obtain ⟨e,-,hs⟩:=br ah (l.drop f)
 generalize (l.drop f).takeWhile ah=w at e hz
 generalize (l.drop f).dropWhile ah=d at e hs
 have hlen:=congrArg List.length e
 rw [List.length_drop,List.length_append] at hlen
 refine ⟨by omega,fun h => ?_⟩
 have h3:(l.drop f)[z - f]?=d[0]?:=by rw [e,List.getElem?_append_right (by omega),show z - f - w.length=0 by omega]
 rw [List.getElem?_drop,show f+(z - f)=z by omega,List.getElem?_eq_getElem h] at h3
 cases d with
 | nil=>cases h3
 | cons b r =>
  have:l[z]=b:=by simpa using h3
  rw [this]
  simpa [stops] using hs
theorem iT (s:ByteArray) (hs:s.size≤4611686018427387904) (f:Nat) (hf:f≤s.size) (w:World) :
  Calls prog 132 #[.string s,.int .i64 (f:Int)] w fun e w'=>e=.returned (.int .i64 ((f+((s.data.toList.drop f).takeWhile ah).length:Nat):Int))∧w'=w:=by
 obtain ⟨z,hz⟩:=ex (f+((s.data.toList.drop f).takeWhile ah).length)
 have hl:s.data.toList.length=s.size:=Array.length_toList
 have HR:=keep (show ∀ i,f ≤ i → i < z → ∃ h : i < s.size,ah (s[i]'h) = true from fun i h1 h2 => by
  obtain ⟨h,h3⟩:=rk s.data.toList f i h1 (by omega)
  exact ⟨by omega,h3⟩)
 have HS:=keep (show z ≤ s.size ∧ ∀ h : z < s.size,ah (s[z]'h) = false from by
  obtain ⟨h1,h2⟩:=pT s.data.toList f z (by omega) hz
  exact ⟨by omega,fun h=>h2 (by omega)⟩)
 have hfz:f≤z:=by omega
 have hzs:=HS.out.1
 rw [hz]
 clear hz hl
 obtain ⟨N,hN⟩:=ex (s.size)
 rw [hN] at hs hf hzs
 go_enter func132,ntmps132
 go_wp2_with fail
 go_loopw [1] (fun iv wr=>∃ i:Nat,f≤i∧i≤z∧iv=.int .i64 (i:Int)∧wr=w) (fun iv _=>z - (intOf iv).toNat)
 case atStart=>exact ⟨f,Nat.le_refl _,hfz,rfl,by trivial⟩
 case round =>
  obtain ⟨i,h1,h2,rfl,rfl⟩:=hrel
  by_cases hlt:i<z
  ·obtain ⟨hi,hd⟩:=HR.out i h1 hlt
   rw [dw,Bool.and_eq_true,decide_eq_true_eq,decide_eq_true_eq] at hd
   have hd1:=hd.1
   have hd2:=hd.2
   have hi2:(i:Int)<(s.size:Int):=by omega
   clear hd
   go_wp2_with fail
   go_roundw
   case rel=>exact ⟨i+1,by omega,by omega,by go_num,by trivial⟩
   case measure=>simp [intOf]; omega
  obtain rfl:i=z:=by omega
  by_cases hi:i<s.size
  ·have hd:=HS.out.2 hi
   rw [dw,Bool.and_eq_false_iff,decide_eq_false_iff_not,decide_eq_false_iff_not] at hd
   have hi2:(i:Int)<(s.size:Int):=by omega
   by_cases hd1 : 48 ≤ ((s[i]'hi).toNat : Int)
   ·have hd2 : ¬ (((s[i]'hi).toNat : Int) ≤ 57):=by omega
    clear hd
    go_wp2_with fail
    go_ret
    exact ⟨rfl,rfl⟩
   clear hd
   go_wp2_with fail
   go_ret
   exact ⟨rfl,rfl⟩
  have hi2:¬ ((i:Int)<(s.size:Int)):=by omega
  go_wp2_with fail
  go_ret
  exact ⟨rfl,rfl⟩
