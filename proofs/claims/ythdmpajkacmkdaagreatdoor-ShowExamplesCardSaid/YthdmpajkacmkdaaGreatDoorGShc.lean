/- Contracts of the reference's tests of bytes, and of the end of a word. The contract of the reference's Upper. Contracts of the reference lexer's number and text. Contracts of the reference lexer's text, address and begins. Plain: different trees have different canonical texts; what parsing the canonical text comes to. No program stands here. Plain: the outline of a tree. No program stands here. Plain: the outline's lines begin with no blank of their own. No program stands here. Plain: the outline's deepest line. No program stands here. Plain: what stands directly below a node; texts and outlines node by node. No program stands here. -/
import Derived.Test.YthdmpajkacmkdaaGreatDoorGLexC
import Derived.Test.YthdmpajkacmkdaaGreatDoorGAddrP
import Derived.Test.YthdmpajkacmkdaaGreatDoorGLexJ
import Derived.Test.YthdmpajkacmkdaaGreatDoorGLexI
import Derived.Test.YthdmpajkacmkdaaGreatDoorGLexK
namespace Go.Proofs.YthdmpajkacmkdaaGreatDoor
section
open Go.RowKit
end
section
open Go.RowKit
end
section
open Go.RowKit
end
section
open Go.RowKit
def gC (s:ByteArray) (a k:Nat) (t:List UInt8):Prop:=be (s.data.toList.drop a)=(be (s.data.toList.drop k)).map fun p=>(t++p.1,p.2+(k - a))
theorem gC.start (s:ByteArray) (a:Nat):gC s a a []:=by
 unfold gC
 simp
theorem gC.step {s : ByteArray} {a k : Nat} {t : List UInt8} (h : gC s a k t) (ha : a ≤ k) (hk : k < s.size) (h1 : s[k]'hk ≠ 34) : gC s a (k + 1) (t ++ [s[k]'hk]):=by
 have hsl:s.data.toList.length=s.size:=by rw [Array.length_toList]; rfl
 have hd : s.data.toList.drop k = s[k]'hk :: s.data.toList.drop (k + 1):=List.drop_eq_getElem_cons (by omega)
 unfold gC at h ⊢
 rw [h,hd]
 cases hr:s.data.toList.drop (k+1) with
 | nil=>rw [ed,if_neg h1]; rfl
 | cons c r =>
  rw [cj,if_neg h1]
  cases be (c::r) with
  | none=>rfl
  | some y=>simp; omega
theorem gC.pair {s : ByteArray} {a k : Nat} {t : List UInt8} (h : gC s a k t) (ha : a ≤ k) (hk : k + 1 < s.size) (h1 : s[k]'(by omega) = 34) (h2 : s[k + 1]'hk = 34) : gC s a (k + 2) (t ++ [34]):=by
 have hsl:s.data.toList.length=s.size:=by rw [Array.length_toList]; rfl
 have hd : s.data.toList.drop k = s[k]'(by omega) :: s[k + 1]'hk :: s.data.toList.drop (k + 2):=by
  rw [List.drop_eq_getElem_cons (by omega),List.drop_eq_getElem_cons (by omega)]
  rfl
 unfold gC at h ⊢
 rw [h,hd,cj,if_pos h1,if_pos h2]
 cases be (s.data.toList.drop (k+2)) with
 | none=>rfl
 | some y=>simp; omega
theorem gC.last {s : ByteArray} {a k : Nat} {t : List UInt8} (h : gC s a k t) (ha : a ≤ k) (hk : k < s.size) (h1 : s[k]'hk = 34) (h2 : ∀ h : k + 1 < s.size,s[k + 1]'h ≠ 34) : be (s.data.toList.drop a) = some (t,k + 1 - a):=by
 have hsl:s.data.toList.length=s.size:=by rw [Array.length_toList]; rfl
 have hu:be (s.data.toList.drop k)=some ([],1):=by
  have hd : s.data.toList.drop k = s[k]'hk :: s.data.toList.drop (k + 1):=List.drop_eq_getElem_cons (by omega)
  rw [hd]
  by_cases hk1:k+1<s.size
  ·have hd2 : s.data.toList.drop (k + 1) = s[k + 1]'hk1 :: s.data.toList.drop (k + 2):=List.drop_eq_getElem_cons (by omega)
   rw [hd2,cj,if_pos h1,if_neg (h2 hk1)]
  rw [List.drop_eq_nil_of_le (by omega),ed,if_pos h1]
 unfold gC at h
 rw [h,hu]
 simp; omega
theorem gC.out {s:ByteArray} {a:Nat} {t:List UInt8} (h:gC s a s.size t):be (s.data.toList.drop a)=none:=by
 have hsl:s.data.toList.length=s.size:=by rw [Array.length_toList]; rfl
 unfold gC at h
 rw [h,List.drop_eq_nil_of_le (by omega)]
 rfl
end
open Go.RowKit
abbrev Ol:=List (Nat×List UInt8)
def bn (n:Nd):List UInt8:=if n.kind=4 then [110,101,103] else if n.kind=5 then [112,101,114,99,101,110,116] else gy n
def mL (l:Ol):Ol:=l.map fun x=>(x.1+1,x.2)
def lK (n:Nd) (es:List Ol):Ol:=(0,bn n)::es.flatMap mL
def olW:List Nd→List Ol→List Ol
 | [],es=>es
 | n::l,es=>olW l (es.take (es.length - am n)++[lK n (es.drop (es.length - am n))])
def oZ (t:List Nd):Ol:=(olW t []).headD []
def eN (x:Nat×List UInt8):List UInt8:=List.replicate (2 * x.1) 32++x.2
def Steps:Nat→Ol→Prop
 | _,[]=>True
 | p,x::r=>1≤x.1∧x.1≤p+1∧Steps x.1 r
def WfO (l:Ol):Prop:=∃ a r,l=(0,a)::r∧Steps 0 r
theorem Steps.any {l:Ol} (h:Steps 0 l) (q:Nat):Steps q l:=by
 cases l with
 | nil=>trivial
 | cons x r=>exact ⟨h.1,by have:=h.2.1; omega,h.2.2⟩
theorem Steps.app {p:Nat} {a b:Ol} (h:Steps p a) (g:Steps 0 b):Steps p (a++b):=by
 induction a generalizing p with
 | nil=>exact g.any p
 | cons x a ih=>exact ⟨h.1,h.2.1,ih h.2.2⟩
theorem Steps.down {p:Nat} {a:Ol} (h:Steps p a):Steps (p+1) (mL a):=by
 induction a generalizing p with
 | nil=>trivial
 | cons x a ih=>exact ⟨by show 1≤x.1+1; omega,by have:=h.2.1; show x.1+1≤p+1+1; omega,ih h.2.2⟩
theorem WfO.down {l:Ol} (h:WfO l):Steps 0 (mL l):=by
 obtain ⟨a,r,rfl,hr⟩:=h
 exact ⟨Nat.le_refl _,Nat.le_refl _,hr.down⟩
theorem Bz (n:Nd) (es:List Ol) (h:∀ l∈es,WfO l):WfO (lK n es):=by
 refine ⟨bn n,es.flatMap mL,rfl,?_⟩
 induction es with
 | nil=>trivial
 | cons l es ih =>
  rw [List.flatMap_cons]
  exact (h l (by simp)).down.app (ih fun x hx=>h x (by simp [hx]))
theorem sB:∀ (l:List Nd) (es:List Ol),(∀ x∈es,WfO x)→∀ x∈olW l es,WfO x
 | [],_,h=>h
 | n::l,es,h=>by
  rw [olW]
  refine sB l _ fun x hx => ?_
  rcases List.mem_append.1 hx with hx | hx
  ·exact h x (List.mem_of_mem_take hx)
  rw [List.mem_singleton] at hx
  subst hx
  exact Bz n _ fun y hy=>h y (List.mem_of_mem_drop hy)
def jf (es:List Ol):Nat:=(es.map List.length).sum
theorem ss (a b:List Ol):jf (a++b)=jf a+jf b:=by unfold jf; rw [List.map_append,List.sum_append]
theorem wR (n:Nd) (es:List Ol):(lK n es).length=jf es+1:=by
 unfold lK
 rw [List.length_cons]
 congr 1
 induction es with
 | nil=>rfl
 | cons l es ih =>
  rw [List.flatMap_cons,List.length_append,ih]
  unfold mL jf
  simp
theorem pJ:∀ (l:List Nd) (es:List Ol),jf (olW l es)=jf es+l.length
 | [],_=>rfl
 | n::l,es=>by
  rw [olW,pJ l,ss]
  have h1:jf [lK n (es.drop (es.length - am n))]=jf (es.drop (es.length - am n))+1:=by
   show (lK n _).length+0=_
   rw [wR]
  have h2:jf es=jf (es.take (es.length - am n))+jf (es.drop (es.length - am n)):=by rw [← ss,List.take_append_drop]
  rw [h1,h2,List.length_cons]
  omega
theorem nm:∀ (l:List Nd) (es:List Ol) (fs:List En),es.length=fs.length→(olW l es).length=(sY l fs).length
 | [],_,_,h=>h
 | n::l,es,fs,h=>by
  rw [olW,sY]
  exact nm l _ _ (by simp [h])
theorem kj (t:List Nd) (ht:∀ n∈t,NdC n) (h:de t=0):(oZ t).length=t.length∧WfO (oZ t):=by
 obtain ⟨e,he,-,-⟩:=zr t ht h
 have hl:=nm t [] [] rfl
 rw [he] at hl
 have hw:=sB t [] (by simp)
 have hs:=pJ t []
 unfold oZ
 cases ho:olW t [] with
 | nil=>rw [ho] at hl; cases hl
 | cons x r =>
  rw [ho] at hl hw hs
  cases r with
  | cons y r=>simp at hl
  | nil =>
   refine ⟨?_,hw x (by simp)⟩
   show x.length=t.length
   have:jf [x]=x.length:=by show x.length+0=_; omega
   rw [this] at hs
   have h0:jf []=0:=rfl
   omega
def je:List Nd→Nat→List Nat→List Nat
 | [],_,rs=>rs
 | n::l,i,rs=>je l (i+1) (rs.take (rs.length - am n)++[i])
def ao (t:List Nd) (i:Nat):List Nat:=je (t.take i) 0 []
def AM (rs:List Nat) (n:Nd):List Nat:=rs.drop (rs.length - am n)
def ae (t:List Nd) (i:Nat):List Nat:=match t[i]? with
 | none=>[]
 | some n=>AM (ao t i) n
theorem l7:∀ (l:List Nd) (n:Nd) (i:Nat) (rs:List Nat),je (l++[n]) i rs=(je l i rs).take ((je l i rs).length - am n)++[i+l.length]
 | [],n,i,rs=>rfl
 | m::l,n,i,rs=>by
  show je (l++[n]) (i+1) _=_
  rw [l7 l n (i+1)]
  show _=(je l (i+1) _).take _++[i+(l.length+1)]
  rw [show i+1+l.length=i+(l.length+1) by omega]
  rfl
theorem cA {t:List Nd} {i:Nat} {n:Nd} (h:t[i]?=some n):ao t (i+1)=(ao t i).take ((ao t i).length - am n)++[i]:=by
 obtain ⟨hi,hn⟩:=List.getElem?_eq_some_iff.1 h
 unfold ao
 rw [List.take_succ_eq_append_getElem hi,hn,l7,List.length_take,Nat.min_eq_left (by omega),Nat.zero_add]
theorem db {t:List Nd} {i:Nat} {n:Nd} (h:t[i]?=some n):ae t i=(ao t i).drop ((ao t i).length - am n):=by
 unfold ae
 rw [h]; rfl
theorem eS (t:List Nd):∀ i,(ao t i).Pairwise (· < ·)∧∀ r∈ao t i,r<i:=by
 intro i
 induction i with
 | zero=>exact ⟨.nil,by intro r hr; cases hr⟩
 | succ i ih =>
  cases h:t[i]? with
  | none =>
   have hl:t.length≤i:=List.getElem?_eq_none_iff.1 h
   have e:ao t (i+1)=ao t i:=by unfold ao; rw [List.take_of_length_le hl,List.take_of_length_le (by omega)]
   rw [e]
   exact ⟨ih.1,fun r hr=>Nat.lt_succ_of_lt (ih.2 r hr)⟩
  | some n =>
   rw [cA h]
   refine ⟨List.pairwise_append.2 ⟨ih.1.sublist (List.take_sublist _ _),List.pairwise_singleton _ _,fun a ha b hb => ?_⟩,fun r hr => ?_⟩
   ·rw [List.mem_singleton] at hb; subst hb
    exact ih.2 a (List.mem_of_mem_take ha)
   rcases List.mem_append.1 hr with hr | hr
   ·exact Nat.lt_succ_of_lt (ih.2 r (List.mem_of_mem_take hr))
   rw [List.mem_singleton] at hr; omega
theorem bw (t:List Nd) (i:Nat):∀ k∈ae t i,k<i:=by
 intro k hk
 unfold ae at hk
 split at hk
 ·cases hk
 exact (eS t i).2 k (List.mem_of_mem_drop hk)
def aF (t:List Nd) (i:Nat):Tx:=((txW (t.take (i+1)) []).getLast?).getD ([],8)
theorem fR:∀ (l:List Nd) (n:Nd) (xs:List Tx),txW (l++[n]) xs=(txW l xs).take ((txW l xs).length - am n)++[i6 n ((txW l xs).drop ((txW l xs).length - am n))]
 | [],_,_=>rfl
 | _::l,n,_=>fR l n _
theorem mo (t:List Nd):∀ i,i≤t.length→txW (t.take i) []=(ao t i).map (aF t)∧∀ n,t[i]?=some n→aF t i=i6 n ((ae t i).map (aF t)):=by
 intro i
 induction i with
 | zero =>
  intro _
  refine ⟨rfl,fun n hn => ?_⟩
  obtain ⟨hi,e⟩:=List.getElem?_eq_some_iff.1 hn
  have e1:aF t 0=((txW (t.take 1) []).getLast?).getD ([],8):=rfl
  have e2:t.take 1=[n]:=by
   have:=List.take_succ_eq_append_getElem hi
   rw [e] at this
   simpa using this
  rw [e1,e2,db hn,show ao t 0=[] from rfl,List.drop_nil]
  show (([]:List Tx).take (0 - am n)++[_]).getLast?.getD _=_
  rw [List.take_nil]
  show i6 n (List.drop (0 - am n) [])=_
  rw [List.drop_nil]
  rfl
 | succ i ih =>
  intro hi
  obtain ⟨n,hn⟩:∃ n,t[i]?=some n:=⟨_,List.getElem?_eq_getElem (by omega)⟩
  obtain ⟨h1,h2⟩:=ih (by omega)
  obtain ⟨hl,e⟩:=List.getElem?_eq_some_iff.1 hn
  have h3:txW (t.take (i+1)) []=(ao t (i+1)).map (aF t):=by
   rw [cA hn,List.map_append,List.take_succ_eq_append_getElem hl,e,fR,h1]
   simp only [List.length_map,List.map_take,List.map_cons,List.map_nil]
   rw [h2 n hn,db hn,List.map_drop]
  refine ⟨h3,fun m hm => ?_⟩
  obtain ⟨hl2,e2⟩:=List.getElem?_eq_some_iff.1 hm
  show ((txW (t.take (i+1+1)) []).getLast?).getD ([],8)=_
  rw [List.take_succ_eq_append_getElem hl2,e2,fR,h3,db hm]
  simp only [List.length_map]
  rw [List.map_drop]
  simp
theorem li {t:List Nd} {i:Nat} {n:Nd} (h:t[i]?=some n):aF t i=i6 n ((ae t i).map (aF t)) :=
 (mo t i (Nat.le_of_lt (List.getElem?_eq_some_iff.1 h).1)).2 n h
def nP (t:List Nd) (i:Nat):Ol:=((olW (t.take (i+1)) []).getLast?).getD []
theorem lV:∀ (l:List Nd) (n:Nd) (xs:List Ol),olW (l++[n]) xs=(olW l xs).take ((olW l xs).length - am n)++[lK n ((olW l xs).drop ((olW l xs).length - am n))]
 | [],_,_=>rfl
 | _::l,n,_=>lV l n _
theorem oS (t:List Nd):∀ i,i≤t.length→olW (t.take i) []=(ao t i).map (nP t)∧∀ n,t[i]?=some n→nP t i=lK n ((ae t i).map (nP t)):=by
 intro i
 induction i with
 | zero =>
  intro _
  refine ⟨rfl,fun n hn => ?_⟩
  obtain ⟨hi,e⟩:=List.getElem?_eq_some_iff.1 hn
  have e1:nP t 0=((olW (t.take 1) []).getLast?).getD []:=rfl
  have e2:t.take 1=[n]:=by
   have:=List.take_succ_eq_append_getElem hi
   rw [e] at this
   simpa using this
  rw [e1,e2,db hn,show ao t 0=[] from rfl,List.drop_nil]
  show (([]:List Ol).take (0 - am n)++[_]).getLast?.getD _=_
  rw [List.take_nil]
  show lK n (List.drop (0 - am n) [])=_
  rw [List.drop_nil]
  rfl
 | succ i ih =>
  intro hi
  obtain ⟨n,hn⟩:∃ n,t[i]?=some n:=⟨_,List.getElem?_eq_getElem (by omega)⟩
  obtain ⟨h1,h2⟩:=ih (by omega)
  obtain ⟨hl,e⟩:=List.getElem?_eq_some_iff.1 hn
  have h3:olW (t.take (i+1)) []=(ao t (i+1)).map (nP t):=by
   rw [cA hn,List.map_append,List.take_succ_eq_append_getElem hl,e,lV,h1]
   simp only [List.length_map,List.map_take,List.map_cons,List.map_nil]
   rw [h2 n hn,db hn,List.map_drop]
  refine ⟨h3,fun m hm => ?_⟩
  obtain ⟨hl2,e2⟩:=List.getElem?_eq_some_iff.1 hm
  show ((olW (t.take (i+1+1)) []).getLast?).getD []=_
  rw [List.take_succ_eq_append_getElem hl2,e2,lV,h3,db hm]
  simp only [List.length_map]
  rw [List.map_drop]
  simp
theorem BS {t:List Nd} {i:Nat} {n:Nd} (h:t[i]?=some n):nP t i=lK n ((ae t i).map (nP t)) :=
 (oS t i (Nat.le_of_lt (List.getElem?_eq_some_iff.1 h).1)).2 n h
theorem mq (t:List Nd):∀ (l:List Nd) (i:Nat) (st st2:List Pt),t.drop i=l→i≤t.length→cQ t i l st=.ok st2→st.map (·.root)=ao t i →
  st2.map (·.root)=ao t t.length∧∀ k n,i≤k→t[k]?=some n→(ae t k).length=am n
 | [],i,st,st2,hd,hi,h,hr=>by
  rw [cQ] at h
  injection h with h
  have hl:t.length≤i:=by have:=congrArg List.length hd; rw [List.length_drop] at this; simp at this; omega
  obtain rfl:i=t.length:=by omega
  refine ⟨by rw [← h]; exact hr,fun k n hk hn => ?_⟩
  have:=(List.getElem?_eq_some_iff.1 hn).1
  omega
 | n::l,i,st,st2,hd,hi,h,hr=>by
  obtain ⟨hn,hd2⟩:=ow hd
  have hlt:=(List.getElem?_eq_some_iff.1 hn).1
  have hlen:st.length=(ao t i).length:=by have:=congrArg List.length hr; rwa [List.length_map] at this
  rw [cQ] at h
  cases hs:stepW t st i n with
  | error c=>rw [hs] at h; cases h
  | ok s1 =>
   rw [hs] at h
   unfold stepW at hs
   split at hs
   ·cases hs
   next hge =>
   split at hs
   ·cases hs
   split at hs
   ·cases hs
   injection hs with hs
   obtain ⟨g1,g2⟩:=mq t l (i+1) s1 st2 hd2 (by omega) h (by
    rw [cA hn,← hs,List.map_append,List.map_take,hr,hlen]
    rfl)
   refine ⟨g1,fun k m hk hm => ?_⟩
   by_cases e:k=i
   ·subst e
    rw [hn] at hm
    obtain rfl:=Option.some.inj hm
    rw [db hn,List.length_drop]
    omega
   exact g2 k m (by omega) hm
theorem eW {t:List Nd} {p:Pt} (h:cQ t 0 t []=.ok [p]) (h0:t≠[]):ao t t.length=[t.length - 1]∧(∀ k n,t[k]?=some n→(ae t k).length=am n)∧co t=(aF t (t.length - 1)).1∧oZ t=nP t (t.length - 1):=by
 obtain ⟨g1,g2⟩:=mq t t 0 [] [p] rfl (Nat.zero_le _) h rfl
 have hpos:0<t.length:=List.length_pos_iff.2 h0
 obtain ⟨n,hn⟩:∃ n,t[t.length - 1]?=some n:=⟨_,List.getElem?_eq_getElem (by omega)⟩
 have e:ao t t.length=[t.length - 1]:=by
  have:=cA hn
  rw [show t.length - 1+1=t.length by omega] at this
  rw [this] at g1 ⊢
  have hl:=congrArg List.length g1
  rw [List.length_append] at hl
  simp only [List.length_map,List.length_cons,List.length_nil] at hl
  have:(ao t (t.length - 1)).take ((ao t (t.length - 1)).length - am n)=[]:=List.length_eq_zero_iff.1 (by omega)
  rw [this]; rfl
 refine ⟨e,fun k m hm=>g2 k m (Nat.zero_le _) hm,?_,?_⟩
 ·have:=(mo t t.length (Nat.le_refl _)).1
  rw [List.take_of_length_le (Nat.le_refl _),e] at this
  unfold co
  rw [this]; rfl
 have:=(oS t t.length (Nat.le_refl _)).1
 rw [List.take_of_length_le (Nat.le_refl _),e] at this
 unfold oZ
 rw [this]; rfl
