/- Plain: different trees have different canonical texts; what parsing the canonical text comes to. No program stands here. Plain: the outline of a tree. No program stands here. Plain: the outline's lines begin with no blank of their own. No program stands here. Plain: the outline's deepest line. No program stands here. Plain: no tokens of a tree have fewer parentheses than the canonical ones. No program stands here. Plain: what stands directly below a node; texts and outlines node by node. No program stands here. Plain: no tokens of a tree have fewer parentheses than the canonical ones, proved. No program stands here. -/
import Derived.Test.YtfffihcadhfplaaGreatDoorPShT
namespace Go.Proofs.YtfffihcadhfplaaGreatDoor
open Go.RowKit
abbrev Ol:=List (Nat×List UInt8)
def ownO (n:Nd):List UInt8:=if n.kind=4 then [110,101,103] else if n.kind=5 then [112,101,114,99,101,110,116] else ownT n
def downO (l:Ol):Ol:=l.map fun x=>(x.1+1,x.2)
def comO (n:Nd) (es:List Ol):Ol:=(0,ownO n)::es.flatMap downO
def olW:List Nd→List Ol→List Ol
 | [],es=>es
 | n::l,es=>olW l (es.take (es.length - belowS n)++[comO n (es.drop (es.length - belowS n))])
def outS (t:List Nd):Ol:=(olW t []).headD []
def Steps:Nat→Ol→Prop
 | _,[]=>True
 | p,x::r=>1≤x.1∧x.1≤p+1∧Steps x.1 r
def WfO (l:Ol):Prop:=∃ a r,l=(0,a)::r∧Steps 0 r
theorem Steps.any {l:Ol} (h:Steps 0 l) (q:Nat):Steps q l:=by
 cases l with
 | nil=>trivial
 | cons x r=>exact ⟨h.1,by have:=h.2.1; omega,h.2.2⟩
theorem Steps.app {p:Nat} {a b:Ol} (h:Steps p a) (g:Steps 0 b):Steps p (a++b):=by
 induction a generalizing p with
 | nil=>exact g.any p
 | cons x a ih=>exact ⟨h.1,h.2.1,ih h.2.2⟩
theorem Steps.down {p:Nat} {a:Ol} (h:Steps p a):Steps (p+1) (downO a):=by
 induction a generalizing p with
 | nil=>trivial
 | cons x a ih=>exact ⟨by show 1≤x.1+1; omega,by have:=h.2.1; show x.1+1≤p+1+1; omega,ih h.2.2⟩
theorem WfO.down {l:Ol} (h:WfO l):Steps 0 (downO l):=by
 obtain ⟨a,r,rfl,hr⟩:=h
 exact ⟨Nat.le_refl _,Nat.le_refl _,hr.down⟩
theorem comW_app:∀ (a b:List Nd) (es:List En),comW (a++b) es=comW b (comW a es)
 | [],_,_=>rfl
 | n::a,b,es=>by rw [List.cons_append,comW,comW,comW_app a b]
theorem comW_0 (n:Nd) (h:belowS n=0) (es:List En):comW [n] es=es++[comE n []]:=by
 rw [comW,comW,h]
 simp
theorem comW_1 (n:Nd) (h:belowS n=1) (es:List En) (x:En):comW [n] (es++[x])=es++[comE n [x]]:=by
 rw [comW,comW,h]
 simp
theorem comW_2 (n:Nd) (h:belowS n=2) (es:List En) (x y:En):comW [n] (es++[x]++[y])=es++[comE n [x,y]]:=by
 rw [comW,comW,h]
 simp
theorem comW_n (n:Nd) (es xs:List En) (h:belowS n=xs.length):comW [n] (es++xs)=es++[comE n xs]:=by
 rw [comW,comW,h]
 simp
def lvM:Md→Nat
 | .lv k=>min k 5
 | .ops k=>k
 | .sg=>5
 | .pc=>7
 | .pr=>8
 | .args _ _=>0
def rootsW:List Nd→Nat→List Nat→List Nat
 | [],_,rs=>rs
 | n::l,i,rs=>rootsW l (i+1) (rs.take (rs.length - belowS n)++[i])
def rootsAt (t:List Nd) (i:Nat):List Nat:=rootsW (t.take i) 0 []
def kidsOf (rs:List Nat) (n:Nd):List Nat:=rs.drop (rs.length - belowS n)
def kidsS (t:List Nd) (i:Nat):List Nat:=match t[i]? with
 | none=>[]
 | some n=>kidsOf (rootsAt t i) n
theorem roots_snoc:∀ (l:List Nd) (n:Nd) (i:Nat) (rs:List Nat),rootsW (l++[n]) i rs=(rootsW l i rs).take ((rootsW l i rs).length - belowS n)++[i+l.length]
 | [],n,i,rs=>rfl
 | m::l,n,i,rs=>by
  show rootsW (l++[n]) (i+1) _=_
  rw [roots_snoc l n (i+1)]
  show _=(rootsW l (i+1) _).take _++[i+(l.length+1)]
  rw [show i+1+l.length=i+(l.length+1) by omega]
  rfl
theorem roots_step {t:List Nd} {i:Nat} {n:Nd} (h:t[i]?=some n):rootsAt t (i+1)=(rootsAt t i).take ((rootsAt t i).length - belowS n)++[i]:=by
 obtain ⟨hi,hn⟩:=List.getElem?_eq_some_iff.1 h
 unfold rootsAt
 rw [List.take_succ_eq_append_getElem hi,hn,roots_snoc,List.length_take,Nat.min_eq_left (by omega),Nat.zero_add]
theorem kids_eq {t:List Nd} {i:Nat} {n:Nd} (h:t[i]?=some n):kidsS t i=(rootsAt t i).drop ((rootsAt t i).length - belowS n):=by
 unfold kidsS
 rw [h]; rfl
theorem roots_lt (t:List Nd):∀ i,(rootsAt t i).Pairwise (· < ·)∧∀ r∈rootsAt t i,r<i:=by
 intro i
 induction i with
 | zero=>exact ⟨.nil,by intro r hr; cases hr⟩
 | succ i ih =>
  cases h:t[i]? with
  | none =>
   have hl:t.length≤i:=List.getElem?_eq_none_iff.1 h
   have e:rootsAt t (i+1)=rootsAt t i:=by unfold rootsAt; rw [List.take_of_length_le hl,List.take_of_length_le (by omega)]
   rw [e]
   exact ⟨ih.1,fun r hr=>Nat.lt_succ_of_lt (ih.2 r hr)⟩
  | some n =>
   rw [roots_step h]
   refine ⟨List.pairwise_append.2 ⟨ih.1.sublist (List.take_sublist _ _),List.pairwise_singleton _ _,fun a ha b hb => ?_⟩,fun r hr => ?_⟩
   ·rw [List.mem_singleton] at hb; subst hb
    exact ih.2 a (List.mem_of_mem_take ha)
   ·rcases List.mem_append.1 hr with hr | hr
    ·exact Nat.lt_succ_of_lt (ih.2 r (List.mem_of_mem_take hr))
    ·rw [List.mem_singleton] at hr; omega
theorem kids_lt (t:List Nd) (i:Nat):∀ k∈kidsS t i,k<i:=by
 intro k hk
 unfold kidsS at hk
 split at hk
 ·cases hk
 ·exact (roots_lt t i).2 k (List.mem_of_mem_drop hk)
def txAt (t:List Nd) (i:Nat):Tx:=((txW (t.take (i+1)) []).getLast?).getD ([],8)
theorem txW_snoc:∀ (l:List Nd) (n:Nd) (xs:List Tx),txW (l++[n]) xs=(txW l xs).take ((txW l xs).length - belowS n)++[comT n ((txW l xs).drop ((txW l xs).length - belowS n))]
 | [],_,_=>rfl
 | _::l,n,_=>txW_snoc l n _
theorem tx_roots (t:List Nd):∀ i,i≤t.length→txW (t.take i) []=(rootsAt t i).map (txAt t)∧∀ n,t[i]?=some n→txAt t i=comT n ((kidsS t i).map (txAt t)):=by
 intro i
 induction i with
 | zero =>
  intro _
  refine ⟨rfl,fun n hn => ?_⟩
  obtain ⟨hi,e⟩:=List.getElem?_eq_some_iff.1 hn
  have e1:txAt t 0=((txW (t.take 1) []).getLast?).getD ([],8):=rfl
  have e2:t.take 1=[n]:=by
   have:=List.take_succ_eq_append_getElem hi
   rw [e] at this
   simpa using this
  rw [e1,e2,kids_eq hn,show rootsAt t 0=[] from rfl,List.drop_nil]
  show (([]:List Tx).take (0 - belowS n)++[_]).getLast?.getD _=_
  rw [List.take_nil]
  show comT n (List.drop (0 - belowS n) [])=_
  rw [List.drop_nil]
  rfl
 | succ i ih =>
  intro hi
  obtain ⟨n,hn⟩:∃ n,t[i]?=some n:=⟨_,List.getElem?_eq_getElem (by omega)⟩
  obtain ⟨h1,h2⟩:=ih (by omega)
  obtain ⟨hl,e⟩:=List.getElem?_eq_some_iff.1 hn
  have h3:txW (t.take (i+1)) []=(rootsAt t (i+1)).map (txAt t):=by
   rw [roots_step hn,List.map_append,List.take_succ_eq_append_getElem hl,e,txW_snoc,h1]
   simp only [List.length_map,List.map_take,List.map_cons,List.map_nil]
   rw [h2 n hn,kids_eq hn,List.map_drop]
  refine ⟨h3,fun m hm => ?_⟩
  obtain ⟨hl2,e2⟩:=List.getElem?_eq_some_iff.1 hm
  show ((txW (t.take (i+1+1)) []).getLast?).getD ([],8)=_
  rw [List.take_succ_eq_append_getElem hl2,e2,txW_snoc,h3,kids_eq hm]
  simp only [List.length_map]
  rw [List.map_drop]
  simp
theorem tx_eq {t:List Nd} {i:Nat} {n:Nd} (h:t[i]?=some n):txAt t i=comT n ((kidsS t i).map (txAt t)) :=
 (tx_roots t i (Nat.le_of_lt (List.getElem?_eq_some_iff.1 h).1)).2 n h
def olAt (t:List Nd) (i:Nat):Ol:=((olW (t.take (i+1)) []).getLast?).getD []
theorem olW_snoc:∀ (l:List Nd) (n:Nd) (xs:List Ol),olW (l++[n]) xs=(olW l xs).take ((olW l xs).length - belowS n)++[comO n ((olW l xs).drop ((olW l xs).length - belowS n))]
 | [],_,_=>rfl
 | _::l,n,_=>olW_snoc l n _
theorem ol_roots (t:List Nd):∀ i,i≤t.length→olW (t.take i) []=(rootsAt t i).map (olAt t)∧∀ n,t[i]?=some n→olAt t i=comO n ((kidsS t i).map (olAt t)):=by
 intro i
 induction i with
 | zero =>
  intro _
  refine ⟨rfl,fun n hn => ?_⟩
  obtain ⟨hi,e⟩:=List.getElem?_eq_some_iff.1 hn
  have e1:olAt t 0=((olW (t.take 1) []).getLast?).getD []:=rfl
  have e2:t.take 1=[n]:=by
   have:=List.take_succ_eq_append_getElem hi
   rw [e] at this
   simpa using this
  rw [e1,e2,kids_eq hn,show rootsAt t 0=[] from rfl,List.drop_nil]
  show (([]:List Ol).take (0 - belowS n)++[_]).getLast?.getD _=_
  rw [List.take_nil]
  show comO n (List.drop (0 - belowS n) [])=_
  rw [List.drop_nil]
  rfl
 | succ i ih =>
  intro hi
  obtain ⟨n,hn⟩:∃ n,t[i]?=some n:=⟨_,List.getElem?_eq_getElem (by omega)⟩
  obtain ⟨h1,h2⟩:=ih (by omega)
  obtain ⟨hl,e⟩:=List.getElem?_eq_some_iff.1 hn
  have h3:olW (t.take (i+1)) []=(rootsAt t (i+1)).map (olAt t):=by
   rw [roots_step hn,List.map_append,List.take_succ_eq_append_getElem hl,e,olW_snoc,h1]
   simp only [List.length_map,List.map_take,List.map_cons,List.map_nil]
   rw [h2 n hn,kids_eq hn,List.map_drop]
  refine ⟨h3,fun m hm => ?_⟩
  obtain ⟨hl2,e2⟩:=List.getElem?_eq_some_iff.1 hm
  show ((olW (t.take (i+1+1)) []).getLast?).getD []=_
  rw [List.take_succ_eq_append_getElem hl2,e2,olW_snoc,h3,kids_eq hm]
  simp only [List.length_map]
  rw [List.map_drop]
  simp
theorem walk_roots (t:List Nd):∀ (l:List Nd) (i:Nat) (st st2:List Pt),t.drop i=l→i≤t.length→walkW t i l st=.ok st2→st.map (·.root)=rootsAt t i →
  st2.map (·.root)=rootsAt t t.length∧∀ k n,i≤k→t[k]?=some n→(kidsS t k).length=belowS n
 | [],i,st,st2,hd,hi,h,hr=>by
  rw [walkW] at h
  injection h with h
  have hl:t.length≤i:=by have:=congrArg List.length hd; rw [List.length_drop] at this; simp at this; omega
  obtain rfl:i=t.length:=by omega
  refine ⟨by rw [← h]; exact hr,fun k n hk hn => ?_⟩
  have:=(List.getElem?_eq_some_iff.1 hn).1
  omega
 | n::l,i,st,st2,hd,hi,h,hr=>by
  obtain ⟨hn,hd2⟩:=drop_at_ hd
  have hlt:=(List.getElem?_eq_some_iff.1 hn).1
  have hlen:st.length=(rootsAt t i).length:=by have:=congrArg List.length hr; rwa [List.length_map] at this
  rw [walkW] at h
  cases hs:stepW t st i n with
  | error c=>rw [hs] at h; cases h
  | ok s1 =>
   rw [hs] at h
   unfold stepW at hs
   split at hs
   ·cases hs
   next hge =>
   split at hs
   ·cases hs
   split at hs
   ·cases hs
   injection hs with hs
   obtain ⟨g1,g2⟩:=walk_roots t l (i+1) s1 st2 hd2 (by omega) h (by
    rw [roots_step hn,← hs,List.map_append,List.map_take,hr,hlen]
    rfl)
   refine ⟨g1,fun k m hk hm => ?_⟩
   by_cases e:k=i
   ·subst e
    rw [hn] at hm
    obtain rfl:=Option.some.inj hm
    rw [kids_eq hn,List.length_drop]
    omega
   ·exact g2 k m (by omega) hm
theorem tree_roots {t:List Nd} {p:Pt} (h:walkW t 0 t []=.ok [p]) (h0:t≠[]):rootsAt t t.length=[t.length - 1]∧(∀ k n,t[k]?=some n→(kidsS t k).length=belowS n)∧showT t=(txAt t (t.length - 1)).1∧outS t=olAt t (t.length - 1):=by
 obtain ⟨g1,g2⟩:=walk_roots t t 0 [] [p] rfl (Nat.zero_le _) h rfl
 have hpos:0<t.length:=List.length_pos_iff.2 h0
 obtain ⟨n,hn⟩:∃ n,t[t.length - 1]?=some n:=⟨_,List.getElem?_eq_getElem (by omega)⟩
 have e:rootsAt t t.length=[t.length - 1]:=by
  have:=roots_step hn
  rw [show t.length - 1+1=t.length by omega] at this
  rw [this] at g1 ⊢
  have hl:=congrArg List.length g1
  rw [List.length_append] at hl
  simp only [List.length_map,List.length_cons,List.length_nil] at hl
  have:(rootsAt t (t.length - 1)).take ((rootsAt t (t.length - 1)).length - belowS n)=[]:=List.length_eq_zero_iff.1 (by omega)
  rw [this]; rfl
 refine ⟨e,fun k m hm=>g2 k m (Nat.zero_le _) hm,?_,?_⟩
 ·have:=(tx_roots t t.length (Nat.le_refl _)).1
  rw [List.take_of_length_le (Nat.le_refl _),e] at this
  unfold showT
  rw [this]; rfl
 ·have:=(ol_roots t t.length (Nat.le_refl _)).1
  rw [List.take_of_length_le (Nat.le_refl _),e] at this
  unfold outS
  rw [this]; rfl
def okK:Md→Prop
 | .lv k=>1≤k
 | .ops k=>1≤k∧k≤4
 | _=>True
