/- How long numbers and operators are as text. Plain: different trees have different canonical texts; what parsing the canonical text comes to. No program stands here. Plain: the outline of a tree. No program stands here. Plain: the outline's lines begin with no blank of their own. No program stands here. Plain: the outline's deepest line. No program stands here. Plain: what stands directly below a node; texts and outlines node by node. No program stands here. -/
import Derived.Test.YtdplcdhpnmcdjaaGreatDoorELexP
import Derived.Test.YtdplcdhpnmcdjaaGreatDoorEDecF
import Derived.Test.YtdplcdhpnmcdjaaGreatDoorELexJ
namespace Go.Proofs.YtdplcdhpnmcdjaaGreatDoor
open Go.RowKit
open Go.Lib (decDigits)
theorem qF (l:List UInt8):(cd l).length≤l.length:=by
 unfold cd
 rw [List.length_reverse]
 refine Nat.le_trans (List.dropWhile_suffix _).length_le ?_
 rw [List.length_reverse]
 exact Nat.le_refl _
theorem l6 (n:Int) (h1 : -9223372036854775808≤n) (h2:n≤9223372036854775807):(cD n).length≤60:=by
 unfold cD
 have e1:=dD (n.natAbs / 10000) (by omega)
 have e2:=dD (10000+n.natAbs % 10000) (by omega)
 have e3:=qF ((decDigits (10000+n.natAbs % 10000)).drop 1)
 rw [List.length_drop] at e3
 rw [List.length_append,List.length_append]
 have e4:(if n<0 then [45] else []:List UInt8).length≤1:=by split <;> simp
 have e5:(if n.natAbs % 10000=0 then [] else 46::cd ((decDigits (10000+n.natAbs % 10000)).drop 1):List UInt8).length≤21:=by
  split
  ·simp
  rw [List.length_cons]; omega
 omega
theorem tW {p:Prop} [Decidable p] {a b:List UInt8} (ha:a.length≤2) (hb:b.length≤2):(if p then a else b).length≤2:=by
 split
 ·exact ha
 exact hb
theorem nU (n:Int):(fA n).length≤2:=by
 unfold fA
 iterate 13 (refine tW (by decide) ?_)
 decide
abbrev Ol:=List (Nat×List UInt8)
def cU (n:Nd):List UInt8:=if n.kind=4 then [110,101,103] else if n.kind=5 then [112,101,114,99,101,110,116] else fb n
def rm (l:Ol):Ol:=l.map fun x=>(x.1+1,x.2)
def sN (n:Nd) (es:List Ol):Ol:=(0,cU n)::es.flatMap rm
def olW:List Nd→List Ol→List Ol
 | [],es=>es
 | n::l,es=>olW l (es.take (es.length - aw n)++[sN n (es.drop (es.length - aw n))])
def yc (t:List Nd):Ol:=(olW t []).headD []
def Steps:Nat→Ol→Prop
 | _,[]=>True
 | p,x::r=>1≤x.1∧x.1≤p+1∧Steps x.1 r
def WfO (l:Ol):Prop:=∃ a r,l=(0,a)::r∧Steps 0 r
theorem Steps.any {l:Ol} (h:Steps 0 l) (q:Nat):Steps q l:=by
 cases l with
 | nil=>trivial
 | cons x r=>exact ⟨h.1,by have:=h.2.1; omega,h.2.2⟩
theorem Steps.app {p:Nat} {a b:Ol} (h:Steps p a) (g:Steps 0 b):Steps p (a++b):=by
 induction a generalizing p with
 | nil=>exact g.any p
 | cons x a ih=>exact ⟨h.1,h.2.1,ih h.2.2⟩
theorem Steps.down {p:Nat} {a:Ol} (h:Steps p a):Steps (p+1) (rm a):=by
 induction a generalizing p with
 | nil=>trivial
 | cons x a ih=>exact ⟨by show 1≤x.1+1; omega,by have:=h.2.1; show x.1+1≤p+1+1; omega,ih h.2.2⟩
theorem WfO.down {l:Ol} (h:WfO l):Steps 0 (rm l):=by
 obtain ⟨a,r,rfl,hr⟩:=h
 exact ⟨Nat.le_refl _,Nat.le_refl _,hr.down⟩
def gD:List Nd→Nat→List Nat→List Nat
 | [],_,rs=>rs
 | n::l,i,rs=>gD l (i+1) (rs.take (rs.length - aw n)++[i])
def aH (t:List Nd) (i:Nat):List Nat:=gD (t.take i) 0 []
def wD (rs:List Nat) (n:Nd):List Nat:=rs.drop (rs.length - aw n)
def ai (t:List Nd) (i:Nat):List Nat:=match t[i]? with
 | none=>[]
 | some n=>wD (aH t i) n
theorem jU:∀ (l:List Nd) (n:Nd) (i:Nat) (rs:List Nat),gD (l++[n]) i rs=(gD l i rs).take ((gD l i rs).length - aw n)++[i+l.length]
 | [],n,i,rs=>rfl
 | m::l,n,i,rs=>by
  show gD (l++[n]) (i+1) _=_
  rw [jU l n (i+1)]
  show _=(gD l (i+1) _).take _++[i+(l.length+1)]
  rw [show i+1+l.length=i+(l.length+1) by omega]
  rfl
theorem db {t:List Nd} {i:Nat} {n:Nd} (h:t[i]?=some n):aH t (i+1)=(aH t i).take ((aH t i).length - aw n)++[i]:=by
 obtain ⟨hi,hn⟩:=List.getElem?_eq_some_iff.1 h
 unfold aH
 rw [List.take_succ_eq_append_getElem hi,hn,jU,List.length_take,Nat.min_eq_left (by omega),Nat.zero_add]
theorem dy {t:List Nd} {i:Nat} {n:Nd} (h:t[i]?=some n):ai t i=(aH t i).drop ((aH t i).length - aw n):=by
 unfold ai
 rw [h]; rfl
theorem rX (t:List Nd):∀ i,(aH t i).Pairwise (· < ·)∧∀ r∈aH t i,r<i:=by
 intro i
 induction i with
 | zero=>exact ⟨.nil,by intro r hr; cases hr⟩
 | succ i ih =>
  cases h:t[i]? with
  | none =>
   have hl:t.length≤i:=List.getElem?_eq_none_iff.1 h
   have e:aH t (i+1)=aH t i:=by unfold aH; rw [List.take_of_length_le hl,List.take_of_length_le (by omega)]
   rw [e]
   exact ⟨ih.1,fun r hr=>Nat.lt_succ_of_lt (ih.2 r hr)⟩
  | some n =>
   rw [db h]
   refine ⟨List.pairwise_append.2 ⟨ih.1.sublist (List.take_sublist _ _),List.pairwise_singleton _ _,fun a ha b hb => ?_⟩,fun r hr => ?_⟩
   ·rw [List.mem_singleton] at hb; subst hb
    exact ih.2 a (List.mem_of_mem_take ha)
   rcases List.mem_append.1 hr with hr | hr
   ·exact Nat.lt_succ_of_lt (ih.2 r (List.mem_of_mem_take hr))
   rw [List.mem_singleton] at hr; omega
theorem eK (t:List Nd) (i:Nat):∀ k∈ai t i,k<i:=by
 intro k hk
 unfold ai at hk
 split at hk
 ·cases hk
 exact (rX t i).2 k (List.mem_of_mem_drop hk)
def aR (t:List Nd) (i:Nat):Tx:=((txW (t.take (i+1)) []).getLast?).getD ([],8)
theorem eG:∀ (l:List Nd) (n:Nd) (xs:List Tx),txW (l++[n]) xs=(txW l xs).take ((txW l xs).length - aw n)++[gn n ((txW l xs).drop ((txW l xs).length - aw n))]
 | [],_,_=>rfl
 | _::l,n,_=>eG l n _
theorem j9 (t:List Nd):∀ i,i≤t.length→txW (t.take i) []=(aH t i).map (aR t)∧∀ n,t[i]?=some n→aR t i=gn n ((ai t i).map (aR t)):=by
 intro i
 induction i with
 | zero =>
  intro _
  refine ⟨rfl,fun n hn => ?_⟩
  obtain ⟨hi,e⟩:=List.getElem?_eq_some_iff.1 hn
  have e1:aR t 0=((txW (t.take 1) []).getLast?).getD ([],8):=rfl
  have e2:t.take 1=[n]:=by
   have:=List.take_succ_eq_append_getElem hi
   rw [e] at this
   simpa using this
  rw [e1,e2,dy hn,show aH t 0=[] from rfl,List.drop_nil]
  show (([]:List Tx).take (0 - aw n)++[_]).getLast?.getD _=_
  rw [List.take_nil]
  show gn n (List.drop (0 - aw n) [])=_
  rw [List.drop_nil]
  rfl
 | succ i ih =>
  intro hi
  obtain ⟨n,hn⟩:∃ n,t[i]?=some n:=⟨_,List.getElem?_eq_getElem (by omega)⟩
  obtain ⟨h1,h2⟩:=ih (by omega)
  obtain ⟨hl,e⟩:=List.getElem?_eq_some_iff.1 hn
  have h3:txW (t.take (i+1)) []=(aH t (i+1)).map (aR t):=by
   rw [db hn,List.map_append,List.take_succ_eq_append_getElem hl,e,eG,h1]
   simp only [List.length_map,List.map_take,List.map_cons,List.map_nil]
   rw [h2 n hn,dy hn,List.map_drop]
  refine ⟨h3,fun m hm => ?_⟩
  obtain ⟨hl2,e2⟩:=List.getElem?_eq_some_iff.1 hm
  show ((txW (t.take (i+1+1)) []).getLast?).getD ([],8)=_
  rw [List.take_succ_eq_append_getElem hl2,e2,eG,h3,dy hm]
  simp only [List.length_map]
  rw [List.map_drop]
  simp
theorem j8 {t:List Nd} {i:Nat} {n:Nd} (h:t[i]?=some n):aR t i=gn n ((ai t i).map (aR t)) :=
 (j9 t i (Nat.le_of_lt (List.getElem?_eq_some_iff.1 h).1)).2 n h
def qj (t:List Nd) (i:Nat):Ol:=((olW (t.take (i+1)) []).getLast?).getD []
theorem jC:∀ (l:List Nd) (n:Nd) (xs:List Ol),olW (l++[n]) xs=(olW l xs).take ((olW l xs).length - aw n)++[sN n ((olW l xs).drop ((olW l xs).length - aw n))]
 | [],_,_=>rfl
 | _::l,n,_=>jC l n _
theorem rN (t:List Nd):∀ i,i≤t.length→olW (t.take i) []=(aH t i).map (qj t)∧∀ n,t[i]?=some n→qj t i=sN n ((ai t i).map (qj t)):=by
 intro i
 induction i with
 | zero =>
  intro _
  refine ⟨rfl,fun n hn => ?_⟩
  obtain ⟨hi,e⟩:=List.getElem?_eq_some_iff.1 hn
  have e1:qj t 0=((olW (t.take 1) []).getLast?).getD []:=rfl
  have e2:t.take 1=[n]:=by
   have:=List.take_succ_eq_append_getElem hi
   rw [e] at this
   simpa using this
  rw [e1,e2,dy hn,show aH t 0=[] from rfl,List.drop_nil]
  show (([]:List Ol).take (0 - aw n)++[_]).getLast?.getD _=_
  rw [List.take_nil]
  show sN n (List.drop (0 - aw n) [])=_
  rw [List.drop_nil]
  rfl
 | succ i ih =>
  intro hi
  obtain ⟨n,hn⟩:∃ n,t[i]?=some n:=⟨_,List.getElem?_eq_getElem (by omega)⟩
  obtain ⟨h1,h2⟩:=ih (by omega)
  obtain ⟨hl,e⟩:=List.getElem?_eq_some_iff.1 hn
  have h3:olW (t.take (i+1)) []=(aH t (i+1)).map (qj t):=by
   rw [db hn,List.map_append,List.take_succ_eq_append_getElem hl,e,jC,h1]
   simp only [List.length_map,List.map_take,List.map_cons,List.map_nil]
   rw [h2 n hn,dy hn,List.map_drop]
  refine ⟨h3,fun m hm => ?_⟩
  obtain ⟨hl2,e2⟩:=List.getElem?_eq_some_iff.1 hm
  show ((olW (t.take (i+1+1)) []).getLast?).getD []=_
  rw [List.take_succ_eq_append_getElem hl2,e2,jC,h3,dy hm]
  simp only [List.length_map]
  rw [List.map_drop]
  simp
theorem ke (t:List Nd):∀ (l:List Nd) (i:Nat) (st st2:List Pt),t.drop i=l→i≤t.length→dT t i l st=.ok st2→st.map (·.root)=aH t i →
  st2.map (·.root)=aH t t.length∧∀ k n,i≤k→t[k]?=some n→(ai t k).length=aw n
 | [],i,st,st2,hd,hi,h,hr=>by
  rw [dT] at h
  injection h with h
  have hl:t.length≤i:=by have:=congrArg List.length hd; rw [List.length_drop] at this; simp at this; omega
  obtain rfl:i=t.length:=by omega
  refine ⟨by rw [← h]; exact hr,fun k n hk hn => ?_⟩
  have:=(List.getElem?_eq_some_iff.1 hn).1
  omega
 | n::l,i,st,st2,hd,hi,h,hr=>by
  obtain ⟨hn,hd2⟩:=rn hd
  have hlt:=(List.getElem?_eq_some_iff.1 hn).1
  have hlen:st.length=(aH t i).length:=by have:=congrArg List.length hr; rwa [List.length_map] at this
  rw [dT] at h
  cases hs:stepW t st i n with
  | error c=>rw [hs] at h; cases h
  | ok s1 =>
   rw [hs] at h
   unfold stepW at hs
   split at hs
   ·cases hs
   next hge =>
   split at hs
   ·cases hs
   split at hs
   ·cases hs
   injection hs with hs
   obtain ⟨g1,g2⟩:=ke t l (i+1) s1 st2 hd2 (by omega) h (by
    rw [db hn,← hs,List.map_append,List.map_take,hr,hlen]
    rfl)
   refine ⟨g1,fun k m hk hm => ?_⟩
   by_cases e:k=i
   ·subst e
    rw [hn] at hm
    obtain rfl:=Option.some.inj hm
    rw [dy hn,List.length_drop]
    omega
   exact g2 k m (by omega) hm
theorem j6 {t:List Nd} {p:Pt} (h:dT t 0 t []=.ok [p]) (h0:t≠[]):aH t t.length=[t.length - 1]∧(∀ k n,t[k]?=some n→(ai t k).length=aw n)∧eZ t=(aR t (t.length - 1)).1∧yc t=qj t (t.length - 1):=by
 obtain ⟨g1,g2⟩:=ke t t 0 [] [p] rfl (Nat.zero_le _) h rfl
 have hpos:0<t.length:=List.length_pos_iff.2 h0
 obtain ⟨n,hn⟩:∃ n,t[t.length - 1]?=some n:=⟨_,List.getElem?_eq_getElem (by omega)⟩
 have e:aH t t.length=[t.length - 1]:=by
  have:=db hn
  rw [show t.length - 1+1=t.length by omega] at this
  rw [this] at g1 ⊢
  have hl:=congrArg List.length g1
  rw [List.length_append] at hl
  simp only [List.length_map,List.length_cons,List.length_nil] at hl
  have:(aH t (t.length - 1)).take ((aH t (t.length - 1)).length - aw n)=[]:=List.length_eq_zero_iff.1 (by omega)
  rw [this]; rfl
 refine ⟨e,fun k m hm=>g2 k m (Nat.zero_le _) hm,?_,?_⟩
 ·have:=(j9 t t.length (Nat.le_refl _)).1
  rw [List.take_of_length_le (Nat.le_refl _),e] at this
  unfold eZ
  rw [this]; rfl
 have:=(rN t t.length (Nat.le_refl _)).1
 rw [List.take_of_length_le (Nat.le_refl _),e] at this
 unfold yc
 rw [this]; rfl
