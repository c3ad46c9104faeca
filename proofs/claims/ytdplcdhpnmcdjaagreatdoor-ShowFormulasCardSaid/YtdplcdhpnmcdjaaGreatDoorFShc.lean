/- Contracts of the reference's tests of bytes, and of the end of a word. The contract of the reference's Upper. Contracts of the reference lexer's number and text. Contracts of the reference lexer's text, address and begins. Plain: different trees have different canonical texts; what parsing the canonical text comes to. No program stands here. Plain: the outline of a tree. No program stands here. Plain: the outline's lines begin with no blank of their own. No program stands here. Plain: the outline's deepest line. No program stands here. Plain: what stands directly below a node; texts and outlines node by node. No program stands here. -/
import Derived.Test.YtdplcdhpnmcdjaaGreatDoorFLexC
import Derived.Test.YtdplcdhpnmcdjaaGreatDoorFAddrP
import Derived.Test.YtdplcdhpnmcdjaaGreatDoorFLexJ
import Derived.Test.YtdplcdhpnmcdjaaGreatDoorFLexI
import Derived.Test.YtdplcdhpnmcdjaaGreatDoorFLexK
namespace Go.Proofs.YtdplcdhpnmcdjaaGreatDoor
section
open Go.RowKit
end
section
open Go.RowKit
end
section
open Go.RowKit
end
section
open Go.RowKit
def gm (s:ByteArray) (a k:Nat) (t:List UInt8):Prop:=be (s.data.toList.drop a)=(be (s.data.toList.drop k)).map fun p=>(t++p.1,p.2+(k - a))
theorem gm.start (s:ByteArray) (a:Nat):gm s a a []:=by
 unfold gm
 simp
theorem gm.step {s : ByteArray} {a k : Nat} {t : List UInt8} (h : gm s a k t) (ha : a ≤ k) (hk : k < s.size) (h1 : s[k]'hk ≠ 34) : gm s a (k + 1) (t ++ [s[k]'hk]):=by
 have hsl:s.data.toList.length=s.size:=by rw [Array.length_toList]; rfl
 have hd : s.data.toList.drop k = s[k]'hk :: s.data.toList.drop (k + 1):=List.drop_eq_getElem_cons (by omega)
 unfold gm at h ⊢
 rw [h,hd]
 cases hr:s.data.toList.drop (k+1) with
 | nil=>rw [d9,if_neg h1]; rfl
 | cons c r =>
  rw [cg,if_neg h1]
  cases be (c::r) with
  | none=>rfl
  | some y=>simp; omega
theorem gm.pair {s : ByteArray} {a k : Nat} {t : List UInt8} (h : gm s a k t) (ha : a ≤ k) (hk : k + 1 < s.size) (h1 : s[k]'(by omega) = 34) (h2 : s[k + 1]'hk = 34) : gm s a (k + 2) (t ++ [34]):=by
 have hsl:s.data.toList.length=s.size:=by rw [Array.length_toList]; rfl
 have hd : s.data.toList.drop k = s[k]'(by omega) :: s[k + 1]'hk :: s.data.toList.drop (k + 2):=by
  rw [List.drop_eq_getElem_cons (by omega),List.drop_eq_getElem_cons (by omega)]
  rfl
 unfold gm at h ⊢
 rw [h,hd,cg,if_pos h1,if_pos h2]
 cases be (s.data.toList.drop (k+2)) with
 | none=>rfl
 | some y=>simp; omega
theorem gm.last {s : ByteArray} {a k : Nat} {t : List UInt8} (h : gm s a k t) (ha : a ≤ k) (hk : k < s.size) (h1 : s[k]'hk = 34) (h2 : ∀ h : k + 1 < s.size,s[k + 1]'h ≠ 34) : be (s.data.toList.drop a) = some (t,k + 1 - a):=by
 have hsl:s.data.toList.length=s.size:=by rw [Array.length_toList]; rfl
 have hu:be (s.data.toList.drop k)=some ([],1):=by
  have hd : s.data.toList.drop k = s[k]'hk :: s.data.toList.drop (k + 1):=List.drop_eq_getElem_cons (by omega)
  rw [hd]
  by_cases hk1:k+1<s.size
  ·have hd2 : s.data.toList.drop (k + 1) = s[k + 1]'hk1 :: s.data.toList.drop (k + 2):=List.drop_eq_getElem_cons (by omega)
   rw [hd2,cg,if_pos h1,if_neg (h2 hk1)]
  rw [List.drop_eq_nil_of_le (by omega),d9,if_pos h1]
 unfold gm at h
 rw [h,hu]
 simp; omega
theorem gm.out {s:ByteArray} {a:Nat} {t:List UInt8} (h:gm s a s.size t):be (s.data.toList.drop a)=none:=by
 have hsl:s.data.toList.length=s.size:=by rw [Array.length_toList]; rfl
 unfold gm at h
 rw [h,List.drop_eq_nil_of_le (by omega)]
 rfl
end
open Go.RowKit
abbrev Ol:=List (Nat×List UInt8)
def bn (n:Nd):List UInt8:=if n.kind=4 then [110,101,103] else if n.kind=5 then [112,101,114,99,101,110,116] else gi n
def mm (l:Ol):Ol:=l.map fun x=>(x.1+1,x.2)
def lf (n:Nd) (es:List Ol):Ol:=(0,bn n)::es.flatMap mm
def olW:List Nd→List Ol→List Ol
 | [],es=>es
 | n::l,es=>olW l (es.take (es.length - al n)++[lf n (es.drop (es.length - al n))])
def oF (t:List Nd):Ol:=(olW t []).headD []
def eH (x:Nat×List UInt8):List UInt8:=List.replicate (2 * x.1) 32++x.2
def Steps:Nat→Ol→Prop
 | _,[]=>True
 | p,x::r=>1≤x.1∧x.1≤p+1∧Steps x.1 r
def WfO (l:Ol):Prop:=∃ a r,l=(0,a)::r∧Steps 0 r
theorem Steps.any {l:Ol} (h:Steps 0 l) (q:Nat):Steps q l:=by
 cases l with
 | nil=>trivial
 | cons x r=>exact ⟨h.1,by have:=h.2.1; omega,h.2.2⟩
theorem Steps.app {p:Nat} {a b:Ol} (h:Steps p a) (g:Steps 0 b):Steps p (a++b):=by
 induction a generalizing p with
 | nil=>exact g.any p
 | cons x a ih=>exact ⟨h.1,h.2.1,ih h.2.2⟩
theorem Steps.down {p:Nat} {a:Ol} (h:Steps p a):Steps (p+1) (mm a):=by
 induction a generalizing p with
 | nil=>trivial
 | cons x a ih=>exact ⟨by show 1≤x.1+1; omega,by have:=h.2.1; show x.1+1≤p+1+1; omega,ih h.2.2⟩
theorem WfO.down {l:Ol} (h:WfO l):Steps 0 (mm l):=by
 obtain ⟨a,r,rfl,hr⟩:=h
 exact ⟨Nat.le_refl _,Nat.le_refl _,hr.down⟩
theorem A9 (n:Nd) (es:List Ol) (h:∀ l∈es,WfO l):WfO (lf n es):=by
 refine ⟨bn n,es.flatMap mm,rfl,?_⟩
 induction es with
 | nil=>trivial
 | cons l es ih =>
  rw [List.flatMap_cons]
  exact (h l (by simp)).down.app (ih fun x hx=>h x (by simp [hx]))
theorem rY:∀ (l:List Nd) (es:List Ol),(∀ x∈es,WfO x)→∀ x∈olW l es,WfO x
 | [],_,h=>h
 | n::l,es,h=>by
  rw [olW]
  refine rY l _ fun x hx => ?_
  rcases List.mem_append.1 hx with hx | hx
  ·exact h x (List.mem_of_mem_take hx)
  rw [List.mem_singleton] at hx
  subst hx
  exact A9 n _ fun y hy=>h y (List.mem_of_mem_drop hy)
def iR (es:List Ol):Nat:=(es.map List.length).sum
theorem rS (a b:List Ol):iR (a++b)=iR a+iR b:=by unfold iR; rw [List.map_append,List.sum_append]
theorem wl (n:Nd) (es:List Ol):(lf n es).length=iR es+1:=by
 unfold lf
 rw [List.length_cons]
 congr 1
 induction es with
 | nil=>rfl
 | cons l es ih =>
  rw [List.flatMap_cons,List.length_append,ih]
  unfold mm iR
  simp
theorem pg:∀ (l:List Nd) (es:List Ol),iR (olW l es)=iR es+l.length
 | [],_=>rfl
 | n::l,es=>by
  rw [olW,pg l,rS]
  have h1:iR [lf n (es.drop (es.length - al n))]=iR (es.drop (es.length - al n))+1:=by
   show (lf n _).length+0=_
   rw [wl]
  have h2:iR es=iR (es.take (es.length - al n))+iR (es.drop (es.length - al n)):=by rw [← rS,List.take_append_drop]
  rw [h1,h2,List.length_cons]
  omega
theorem mO:∀ (l:List Nd) (es:List Ol) (fs:List En),es.length=fs.length→(olW l es).length=(sx l fs).length
 | [],_,_,h=>h
 | n::l,es,fs,h=>by
  rw [olW,sx]
  exact mO l _ _ (by simp [h])
theorem jS (t:List Nd) (ht:∀ n∈t,NdC n) (h:dc t=0):(oF t).length=t.length∧WfO (oF t):=by
 obtain ⟨e,he,-,-⟩:=yT t ht h
 have hl:=mO t [] [] rfl
 rw [he] at hl
 have hw:=rY t [] (by simp)
 have hs:=pg t []
 unfold oF
 cases ho:olW t [] with
 | nil=>rw [ho] at hl; cases hl
 | cons x r =>
  rw [ho] at hl hw hs
  cases r with
  | cons y r=>simp at hl
  | nil =>
   refine ⟨?_,hw x (by simp)⟩
   show x.length=t.length
   have:iR [x]=x.length:=by show x.length+0=_; omega
   rw [this] at hs
   have h0:iR []=0:=rfl
   omega
def iQ:List Nd→Nat→List Nat→List Nat
 | [],_,rs=>rs
 | n::l,i,rs=>iQ l (i+1) (rs.take (rs.length - al n)++[i])
def an (t:List Nd) (i:Nat):List Nat:=iQ (t.take i) 0 []
def An (rs:List Nat) (n:Nd):List Nat:=rs.drop (rs.length - al n)
def ae (t:List Nd) (i:Nat):List Nat:=match t[i]? with
 | none=>[]
 | some n=>An (an t i) n
theorem lJ:∀ (l:List Nd) (n:Nd) (i:Nat) (rs:List Nat),iQ (l++[n]) i rs=(iQ l i rs).take ((iQ l i rs).length - al n)++[i+l.length]
 | [],n,i,rs=>rfl
 | m::l,n,i,rs=>by
  show iQ (l++[n]) (i+1) _=_
  rw [lJ l n (i+1)]
  show _=(iQ l (i+1) _).take _++[i+(l.length+1)]
  rw [show i+1+l.length=i+(l.length+1) by omega]
  rfl
theorem cx {t:List Nd} {i:Nat} {n:Nd} (h:t[i]?=some n):an t (i+1)=(an t i).take ((an t i).length - al n)++[i]:=by
 obtain ⟨hi,hn⟩:=List.getElem?_eq_some_iff.1 h
 unfold an
 rw [List.take_succ_eq_append_getElem hi,hn,lJ,List.length_take,Nat.min_eq_left (by omega),Nat.zero_add]
theorem cZ {t:List Nd} {i:Nat} {n:Nd} (h:t[i]?=some n):ae t i=(an t i).drop ((an t i).length - al n):=by
 unfold ae
 rw [h]; rfl
theorem eM (t:List Nd):∀ i,(an t i).Pairwise (· < ·)∧∀ r∈an t i,r<i:=by
 intro i
 induction i with
 | zero=>exact ⟨.nil,by intro r hr; cases hr⟩
 | succ i ih =>
  cases h:t[i]? with
  | none =>
   have hl:t.length≤i:=List.getElem?_eq_none_iff.1 h
   have e:an t (i+1)=an t i:=by unfold an; rw [List.take_of_length_le hl,List.take_of_length_le (by omega)]
   rw [e]
   exact ⟨ih.1,fun r hr=>Nat.lt_succ_of_lt (ih.2 r hr)⟩
  | some n =>
   rw [cx h]
   refine ⟨List.pairwise_append.2 ⟨ih.1.sublist (List.take_sublist _ _),List.pairwise_singleton _ _,fun a ha b hb => ?_⟩,fun r hr => ?_⟩
   ·rw [List.mem_singleton] at hb; subst hb
    exact ih.2 a (List.mem_of_mem_take ha)
   rcases List.mem_append.1 hr with hr | hr
   ·exact Nat.lt_succ_of_lt (ih.2 r (List.mem_of_mem_take hr))
   rw [List.mem_singleton] at hr; omega
theorem bw (t:List Nd) (i:Nat):∀ k∈ae t i,k<i:=by
 intro k hk
 unfold ae at hk
 split at hk
 ·cases hk
 exact (eM t i).2 k (List.mem_of_mem_drop hk)
def aD (t:List Nd) (i:Nat):Tx:=((txW (t.take (i+1)) []).getLast?).getD ([],8)
theorem fI:∀ (l:List Nd) (n:Nd) (xs:List Tx),txW (l++[n]) xs=(txW l xs).take ((txW l xs).length - al n)++[iI n ((txW l xs).drop ((txW l xs).length - al n))]
 | [],_,_=>rfl
 | _::l,n,_=>fI l n _
theorem lX (t:List Nd):∀ i,i≤t.length→txW (t.take i) []=(an t i).map (aD t)∧∀ n,t[i]?=some n→aD t i=iI n ((ae t i).map (aD t)):=by
 intro i
 induction i with
 | zero =>
  intro _
  refine ⟨rfl,fun n hn => ?_⟩
  obtain ⟨hi,e⟩:=List.getElem?_eq_some_iff.1 hn
  have e1:aD t 0=((txW (t.take 1) []).getLast?).getD ([],8):=rfl
  have e2:t.take 1=[n]:=by
   have:=List.take_succ_eq_append_getElem hi
   rw [e] at this
   simpa using this
  rw [e1,e2,cZ hn,show an t 0=[] from rfl,List.drop_nil]
  show (([]:List Tx).take (0 - al n)++[_]).getLast?.getD _=_
  rw [List.take_nil]
  show iI n (List.drop (0 - al n) [])=_
  rw [List.drop_nil]
  rfl
 | succ i ih =>
  intro hi
  obtain ⟨n,hn⟩:∃ n,t[i]?=some n:=⟨_,List.getElem?_eq_getElem (by omega)⟩
  obtain ⟨h1,h2⟩:=ih (by omega)
  obtain ⟨hl,e⟩:=List.getElem?_eq_some_iff.1 hn
  have h3:txW (t.take (i+1)) []=(an t (i+1)).map (aD t):=by
   rw [cx hn,List.map_append,List.take_succ_eq_append_getElem hl,e,fI,h1]
   simp only [List.length_map,List.map_take,List.map_cons,List.map_nil]
   rw [h2 n hn,cZ hn,List.map_drop]
  refine ⟨h3,fun m hm => ?_⟩
  obtain ⟨hl2,e2⟩:=List.getElem?_eq_some_iff.1 hm
  show ((txW (t.take (i+1+1)) []).getLast?).getD ([],8)=_
  rw [List.take_succ_eq_append_getElem hl2,e2,fI,h3,cZ hm]
  simp only [List.length_map]
  rw [List.map_drop]
  simp
theorem kJ {t:List Nd} {i:Nat} {n:Nd} (h:t[i]?=some n):aD t i=iI n ((ae t i).map (aD t)) :=
 (lX t i (Nat.le_of_lt (List.getElem?_eq_some_iff.1 h).1)).2 n h
def np (t:List Nd) (i:Nat):Ol:=((olW (t.take (i+1)) []).getLast?).getD []
theorem lz:∀ (l:List Nd) (n:Nd) (xs:List Ol),olW (l++[n]) xs=(olW l xs).take ((olW l xs).length - al n)++[lf n ((olW l xs).drop ((olW l xs).length - al n))]
 | [],_,_=>rfl
 | _::l,n,_=>lz l n _
theorem oy (t:List Nd):∀ i,i≤t.length→olW (t.take i) []=(an t i).map (np t)∧∀ n,t[i]?=some n→np t i=lf n ((ae t i).map (np t)):=by
 intro i
 induction i with
 | zero =>
  intro _
  refine ⟨rfl,fun n hn => ?_⟩
  obtain ⟨hi,e⟩:=List.getElem?_eq_some_iff.1 hn
  have e1:np t 0=((olW (t.take 1) []).getLast?).getD []:=rfl
  have e2:t.take 1=[n]:=by
   have:=List.take_succ_eq_append_getElem hi
   rw [e] at this
   simpa using this
  rw [e1,e2,cZ hn,show an t 0=[] from rfl,List.drop_nil]
  show (([]:List Ol).take (0 - al n)++[_]).getLast?.getD _=_
  rw [List.take_nil]
  show lf n (List.drop (0 - al n) [])=_
  rw [List.drop_nil]
  rfl
 | succ i ih =>
  intro hi
  obtain ⟨n,hn⟩:∃ n,t[i]?=some n:=⟨_,List.getElem?_eq_getElem (by omega)⟩
  obtain ⟨h1,h2⟩:=ih (by omega)
  obtain ⟨hl,e⟩:=List.getElem?_eq_some_iff.1 hn
  have h3:olW (t.take (i+1)) []=(an t (i+1)).map (np t):=by
   rw [cx hn,List.map_append,List.take_succ_eq_append_getElem hl,e,lz,h1]
   simp only [List.length_map,List.map_take,List.map_cons,List.map_nil]
   rw [h2 n hn,cZ hn,List.map_drop]
  refine ⟨h3,fun m hm => ?_⟩
  obtain ⟨hl2,e2⟩:=List.getElem?_eq_some_iff.1 hm
  show ((olW (t.take (i+1+1)) []).getLast?).getD []=_
  rw [List.take_succ_eq_append_getElem hl2,e2,lz,h3,cZ hm]
  simp only [List.length_map]
  rw [List.map_drop]
  simp
theorem Br {t:List Nd} {i:Nat} {n:Nd} (h:t[i]?=some n):np t i=lf n ((ae t i).map (np t)) :=
 (oy t i (Nat.le_of_lt (List.getElem?_eq_some_iff.1 h).1)).2 n h
theorem lZ (t:List Nd):∀ (l:List Nd) (i:Nat) (st st2:List Pt),t.drop i=l→i≤t.length→cO t i l st=.ok st2→st.map (·.root)=an t i →
  st2.map (·.root)=an t t.length∧∀ k n,i≤k→t[k]?=some n→(ae t k).length=al n
 | [],i,st,st2,hd,hi,h,hr=>by
  rw [cO] at h
  injection h with h
  have hl:t.length≤i:=by have:=congrArg List.length hd; rw [List.length_drop] at this; simp at this; omega
  obtain rfl:i=t.length:=by omega
  refine ⟨by rw [← h]; exact hr,fun k n hk hn => ?_⟩
  have:=(List.getElem?_eq_some_iff.1 hn).1
  omega
 | n::l,i,st,st2,hd,hi,h,hr=>by
  obtain ⟨hn,hd2⟩:=nR hd
  have hlt:=(List.getElem?_eq_some_iff.1 hn).1
  have hlen:st.length=(an t i).length:=by have:=congrArg List.length hr; rwa [List.length_map] at this
  rw [cO] at h
  cases hs:stepW t st i n with
  | error c=>rw [hs] at h; cases h
  | ok s1 =>
   rw [hs] at h
   unfold stepW at hs
   split at hs
   ·cases hs
   next hge =>
   split at hs
   ·cases hs
   split at hs
   ·cases hs
   injection hs with hs
   obtain ⟨g1,g2⟩:=lZ t l (i+1) s1 st2 hd2 (by omega) h (by
    rw [cx hn,← hs,List.map_append,List.map_take,hr,hlen]
    rfl)
   refine ⟨g1,fun k m hk hm => ?_⟩
   by_cases e:k=i
   ·subst e
    rw [hn] at hm
    obtain rfl:=Option.some.inj hm
    rw [cZ hn,List.length_drop]
    omega
   exact g2 k m (by omega) hm
theorem eQ {t:List Nd} {p:Pt} (h:cO t 0 t []=.ok [p]) (h0:t≠[]):an t t.length=[t.length - 1]∧(∀ k n,t[k]?=some n→(ae t k).length=al n)∧ck t=(aD t (t.length - 1)).1∧oF t=np t (t.length - 1):=by
 obtain ⟨g1,g2⟩:=lZ t t 0 [] [p] rfl (Nat.zero_le _) h rfl
 have hpos:0<t.length:=List.length_pos_iff.2 h0
 obtain ⟨n,hn⟩:∃ n,t[t.length - 1]?=some n:=⟨_,List.getElem?_eq_getElem (by omega)⟩
 have e:an t t.length=[t.length - 1]:=by
  have:=cx hn
  rw [show t.length - 1+1=t.length by omega] at this
  rw [this] at g1 ⊢
  have hl:=congrArg List.length g1
  rw [List.length_append] at hl
  simp only [List.length_map,List.length_cons,List.length_nil] at hl
  have:(an t (t.length - 1)).take ((an t (t.length - 1)).length - al n)=[]:=List.length_eq_zero_iff.1 (by omega)
  rw [this]; rfl
 refine ⟨e,fun k m hm=>g2 k m (Nat.zero_le _) hm,?_,?_⟩
 ·have:=(lX t t.length (Nat.le_refl _)).1
  rw [List.take_of_length_le (Nat.le_refl _),e] at this
  unfold ck
  rw [this]; rfl
 have:=(oy t t.length (Nat.le_refl _)).1
 rw [List.take_of_length_le (Nat.le_refl _),e] at this
 unfold oF
 rw [this]; rfl
