/- Plain: a checked tree has canonical tokens. No program stands here. Plain: every checked tree has canonical tokens, which are lexed and parsed back. No program stands here. Plain: the canonical text of a checked tree has its canonical tokens, and these are parsed as the tree. No program stands here. Plain: the canonical text as a function of the nodes. No program stands here. Plain: different trees have different canonical texts; what parsing the canonical text comes to. No program stands here. Plain: the outline of a tree. No program stands here. How long numbers and operators are as text. Plain: the outline's lines begin with no blank of their own. No program stands here. Plain: what dec.Parse makes of a number's text. No program stands here. -/
import Derived.Test.YtfffihcadhfplaaGreatDoorQDpV
import Derived.Test.YtfffihcadhfplaaGreatDoorQLexP
import Derived.Test.YtfffihcadhfplaaGreatDoorQDecF
import Derived.Test.YtfffihcadhfplaaGreatDoorQLexO
import Derived.Test.YtfffihcadhfplaaGreatDoorQLexD
namespace Go.Proofs.YtfffihcadhfplaaGreatDoor
open Go.RowKit
inductive NdC:Nd→Prop
 | num (n:Int) (h0:0≤n) (h1:n≤9223372036854775807):NdC ⟨1,1,n,[],R4.zero,0,0,0⟩
 | yes:NdC ⟨1,2,1,[],R4.zero,0,0,0⟩
 | no:NdC ⟨1,2,0,[],R4.zero,0,0,0⟩
 | text (s:List UInt8) (hp:s.all plainB=true):NdC ⟨1,3,0,s,R4.zero,0,0,0⟩
 | err (c:Nat) (h1:1≤c) (h5:c≤5):NdC ⟨1,4,(c:Int),[],R4.zero,0,0,0⟩
 | ref (c r:Int) (h:validN c r=true):NdC (ndRef ⟨c,r,c,r⟩)
 | rng (r:R4) (h:checkB r=true) (hn:¬ (r.c1=r.c2∧r.r1=r.r2)):NdC (ndRange r)
 | neg:NdC ndNeg
 | pct:NdC ndPct
 | bin (op:Int) (h1:1≤op) (h12:op≤12):NdC (ndBin op)
 | call (fn k:Nat) (h1:1≤fn) (h50:fn≤50) (ha:(arS fn).1≤k) (hb:k≤(arS fn).2):NdC (ndCall fn k)
structure En where
 ts:List Tk
 s:Nat
def nameF (fn:Nat):List UInt8:=(fnNames[fn - 1]?).getD []
def tkV (n:Nd):Tk:=⟨if n.vk=3 then 2 else if n.vk=2 then 3 else n.vk,n.vn,n.vt,R4.zero,0⟩
theorem drop_at_ {α:Type} {t:List α} {i:Nat} {n:α} {l:List α} (h:t.drop i=n::l):t[i]?=some n∧t.drop (i+1)=l:=by
 constructor
 ·have:=congrArg (·[0]?) h
  simpa using this
 ·have:=congrArg (List.drop 1) h
  rw [List.drop_drop] at this
  exact this
open Go.Lib (decDigits)
abbrev Tx:=List UInt8×Nat
def opT (l:Nat) (x:Tx):List UInt8:=if l≤x.2 then x.1 else 40::(x.1++[41])
def jnT:List Tx→List UInt8
 | []=>[]
 | [x]=>x.1
 | x::y::r=>x.1++44::jnT (y::r)
def ownT (n:Nd):List UInt8 :=
 if n.kind=1 then tkT (tkV n) else if n.kind=2 then rngT n.r else if n.kind=3 then rngT n.r else if n.kind=6 then opText n.op else nameF n.fn
def comT (n:Nd) (xs:List Tx):Tx :=
 if n.kind=1 then (ownT n,8)
 else if n.kind=2 then (ownT n,8)
 else if n.kind=3 then (ownT n,8)
 else if n.kind=4 then (45::opT 5 (xs.getD 0 ([],8)),5)
 else if n.kind=5 then (opT 7 (xs.getD 0 ([],8))++[37],7)
 else if n.kind=6 then (if n.op=5 then (opT 7 (xs.getD 0 ([],8))++(ownT n++opT 5 (xs.getD 1 ([],8))),6)
  else (opT (bindS n.op) (xs.getD 0 ([],8))++(ownT n++opT (bindS n.op+1) (xs.getD 1 ([],8))),bindS n.op))
 else (ownT n++40::(jnT xs++[41]),8)
def txW:List Nd→List Tx→List Tx
 | [],xs=>xs
 | n::l,xs=>txW l (xs.take (xs.length - belowS n)++[comT n (xs.drop (xs.length - belowS n))])
def showT (t:List Nd):List UInt8:=((txW t []).headD ([],8)).1
abbrev Ol:=List (Nat×List UInt8)
def ownO (n:Nd):List UInt8:=if n.kind=4 then [110,101,103] else if n.kind=5 then [112,101,114,99,101,110,116] else ownT n
def downO (l:Ol):Ol:=l.map fun x=>(x.1+1,x.2)
def comO (n:Nd) (es:List Ol):Ol:=(0,ownO n)::es.flatMap downO
def olW:List Nd→List Ol→List Ol
 | [],es=>es
 | n::l,es=>olW l (es.take (es.length - belowS n)++[comO n (es.drop (es.length - belowS n))])
def outS (t:List Nd):Ol:=(olW t []).headD []
def Steps:Nat→Ol→Prop
 | _,[]=>True
 | p,x::r=>1≤x.1∧x.1≤p+1∧Steps x.1 r
def WfO (l:Ol):Prop:=∃ a r,l=(0,a)::r∧Steps 0 r
theorem Steps.any {l:Ol} (h:Steps 0 l) (q:Nat):Steps q l:=by
 cases l with
 | nil=>trivial
 | cons x r=>exact ⟨h.1,by have:=h.2.1; omega,h.2.2⟩
theorem Steps.app {p:Nat} {a b:Ol} (h:Steps p a) (g:Steps 0 b):Steps p (a++b):=by
 induction a generalizing p with
 | nil=>exact g.any p
 | cons x a ih=>exact ⟨h.1,h.2.1,ih h.2.2⟩
theorem Steps.down {p:Nat} {a:Ol} (h:Steps p a):Steps (p+1) (downO a):=by
 induction a generalizing p with
 | nil=>trivial
 | cons x a ih=>exact ⟨by show 1≤x.1+1; omega,by have:=h.2.1; show x.1+1≤p+1+1; omega,ih h.2.2⟩
theorem WfO.down {l:Ol} (h:WfO l):Steps 0 (downO l):=by
 obtain ⟨a,r,rfl,hr⟩:=h
 exact ⟨Nat.le_refl _,Nat.le_refl _,hr.down⟩
theorem trimZ_len (l:List UInt8):(trimZ l).length≤l.length:=by
 unfold trimZ
 rw [List.length_reverse]
 refine Nat.le_trans (List.dropWhile_suffix _).length_le ?_
 rw [List.length_reverse]
 exact Nat.le_refl _
theorem decS_len (n:Int) (h1 : -9223372036854775808≤n) (h2:n≤9223372036854775807):(decS n).length≤60:=by
 unfold decS
 have e1:=digits_le (n.natAbs / 10000) (by omega)
 have e2:=digits_le (10000+n.natAbs % 10000) (by omega)
 have e3:=trimZ_len ((decDigits (10000+n.natAbs % 10000)).drop 1)
 rw [List.length_drop] at e3
 rw [List.length_append,List.length_append]
 have e4:(if n<0 then [45] else []:List UInt8).length≤1:=by split <;> simp
 have e5:(if n.natAbs % 10000=0 then [] else 46::trimZ ((decDigits (10000+n.natAbs % 10000)).drop 1):List UInt8).length≤21:=by
  split
  ·simp
  ·rw [List.length_cons]; omega
 omega
theorem ite_len {p:Prop} [Decidable p] {a b:List UInt8} (ha:a.length≤2) (hb:b.length≤2):(if p then a else b).length≤2:=by
 split
 ·exact ha
 ·exact hb
theorem opText_len (n:Int):(opText n).length≤2:=by
 unfold opText
 iterate 13 (refine ite_len (by decide) ?_)
 decide
theorem len4 {p:List UInt8} {j:Nat} {f:Nat} (h:fourD f=p++List.replicate j 48):p.length+j=4:=by
 have:=congrArg List.length h
 rw [List.length_append,List.length_replicate] at this
 exact this.symm
theorem places4 {p:List UInt8} {j:Nat} (h:p.length+j=4):(p++zer5).take 4=p++List.replicate j 48∧upD p=false:=by
 match p,h with
 | [],h => obtain rfl : j = 4:=by simpa using h
           exact ⟨rfl,rfl⟩
 | [a],h => obtain rfl : j = 3:=by simp at h; omega
            exact ⟨rfl,rfl⟩
 | [a,b],h => obtain rfl : j = 2:=by simp at h; omega
              exact ⟨rfl,rfl⟩
 | [a,b,c],h => obtain rfl : j = 1:=by simp at h; omega
                exact ⟨rfl,rfl⟩
 | [a,b,c,d],h => obtain rfl : j = 0:=by simp at h; omega
                  exact ⟨rfl,rfl⟩
 | a::b::c::d::e::r,h=>simp at h; omega
theorem dec_cut (n:Int):∃ (b:UInt8) (w p:List UInt8) (j:Nat),isDig b=true∧decDigits (n.natAbs / 10000)=b::w∧(∀ x∈b::w,isDig x=true)∧p.length+j=4∧(∀ x∈p,isDig x=true)∧valD (b::w++(p++List.replicate j 48))=n.natAbs ∧
  decS n=(if n<0 then [45] else [])++(b::w)++if p=[] then [] else 46::p:=by
 obtain ⟨N,hN⟩:∃ N,n.natAbs=N:=⟨_,rfl⟩
 have hd:∃ b w,decDigits (N / 10000)=b::w:=by
  cases h:decDigits (N / 10000) with
  | nil=>rw [decDigits] at h; split at h <;> simp at h
  | cons b w=>exact ⟨b,w,rfl⟩
 obtain ⟨b,w,hd⟩:=hd
 have hq:∀ x∈b::w,isDig x=true:=by
  rw [← hd]
  exact fun x hx=>List.all_eq_true.1 (dec_dig _) x hx
 have hv:=vD_dec (N / 10000)
 rw [hd] at hv
 unfold decS
 rw [hN,hd]
 by_cases h0:N % 10000=0
 ·refine ⟨b,w,[],4,hq b (by simp),rfl,hq,rfl,by simp,?_,?_⟩
  ·rw [List.nil_append,zeros_val,hv]; omega
  ·rw [if_pos h0,if_pos rfl]
 ·rw [four_eq _ (by omega)]
  obtain ⟨j,hj⟩:=trim_split (fourD (N % 10000))
  have hne:trimZ (fourD (N % 10000))≠[]:=by
   intro g
   rw [g,List.nil_append] at hj
   have h1:=four_val [] (N % 10000) (by omega)
   have h2:=len4 (p:=[]) hj
   obtain rfl:j=4:=by simpa using h2
   rw [hj] at h1
   have h3:=zeros_val []
   rw [h3] at h1
   exact h0 (by have:valD []=0:=rfl; omega)
  refine ⟨b,w,trimZ (fourD (N % 10000)),j,hq b (by simp),rfl,hq,len4 hj,?_,?_,?_⟩
  ·intro x hx
   refine four_dig (N % 10000) (by omega) x ?_
   rw [hj]
   exact List.mem_append_left _ hx
  ·rw [← hj,four_val _ _ (by omega),hv]; omega
  ·rw [if_neg h0,if_neg hne]
theorem parD_dec (n:Int) (h1 : -9223372036854775807≤n) (h2:n≤9223372036854775807):parD (decS n)=(n,0):=by
 obtain ⟨b,w,p,j,hb,-,hq,hl,hp,hv,e⟩:=dec_cut n
 have hb45:b≠45:=by rintro rfl; exact absurd hb (by decide)
 have hu:unsgD (decS n)=(b::w)++(if p=[] then [] else 46::p)∧((decS n).head?=some 45↔n<0):=by
  rw [e]
  by_cases h:n<0
  ·rw [if_pos h]; exact ⟨rfl,fun _=>h,fun _=>rfl⟩
  ·rw [if_neg h]
   refine ⟨?_,fun g => ?_,fun g=>absurd g h⟩
   ·show (if some b=some 45 then _ else _)=_
    rw [if_neg (by simpa using hb45)]; rfl
   ·have g:some b=some 45:=g
    exact absurd (Option.some.inj g) hb45
 have hrest:stops isDig (if p=[] then [] else 46::p)=true:=by
  by_cases g:p=[]
  ·rw [if_pos g]; rfl
  ·rw [if_neg g]; rfl
 obtain ⟨g1,g2⟩:=take_stop isDig _ _ hq hrest
 rw [← hu.1] at g1 g2
 have hpl:plcD (if p=[] then [] else 46::p)=some p:=by
  by_cases g:p=[]
  ·rw [if_pos g,g]; rfl
  ·rw [if_neg g]
   exact if_pos ⟨rfl,g,List.all_eq_true.2 hp⟩
 rw [parD_ok (by rw [g1]; simp) (by rw [g2]; exact hpl),g1]
 have hm:magD (b::w) p=n.natAbs:=by
  unfold magD
  obtain ⟨e1,e2⟩:=places4 hl
  rw [e1,e2,hv]; rfl
 rw [hm,if_pos (show n.natAbs≤mostN by unfold mostN; omega)]
 by_cases h:n<0
 ·rw [if_pos (hu.2.2 h)]
  congr 1
  omega
 ·rw [if_neg fun g=>h (hu.2.1 g)]
  congr 1
  omega
theorem decS_head (n:Int):∃ (b:UInt8) (r:List UInt8),decS n=b::r∧45≤b.toNat∧b.toNat≤57:=by
 obtain ⟨b,w,p,j,hb,-,-,-,-,-,e⟩:=dec_cut n
 by_cases h:n<0
 ·rw [if_pos h] at e
  exact ⟨45,_,e,by decide,by decide⟩
 ·rw [if_neg h] at e
  have:=of_decide_eq_true hb
  exact ⟨b,_,e,by omega,this.2⟩
theorem decS_plain (n:Int):(decS n).all plainB=true:=by
 obtain ⟨b,w,p,j,hb,-,hq,-,hp,-,e⟩:=dec_cut n
 have key:∀ x,isDig x=true→plainB x=true:=by
  intro x hx
  have:=of_decide_eq_true hx
  exact decide_eq_true (by omega)
 rw [e,List.all_eq_true]
 intro x hx
 rw [List.mem_append,List.mem_append] at hx
 rcases hx with (hx | hx) | hx
 ·split at hx
  ·rw [List.mem_singleton] at hx; subst hx; decide
  ·cases hx
 ·exact key x (hq x hx)
 ·split at hx
  ·cases hx
  ·rcases List.mem_cons.1 hx with rfl | hx
   ·decide
   ·exact key x (hp x hx)
