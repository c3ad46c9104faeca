/- Plain: the text of a token is read as the token. No program stands here. How long numbers and operators are as text. Plain: the texts of ranges and of numbers are read as the tokens. No program stands here. Plain: the texts of numbers are read as the tokens. No program stands here. Plain: the text of canonical tokens is read as these tokens. No program stands here. Plain: a checked tree has canonical tokens. No program stands here. -/
import Derived.Test.YthdmpajkacmkdaaGreatDoorGLexJ
import Derived.Test.YthdmpajkacmkdaaGreatDoorGLexP
import Derived.Test.YthdmpajkacmkdaaGreatDoorGDecF
import Derived.Test.YthdmpajkacmkdaaGreatDoorGTg
namespace Go.Proofs.YthdmpajkacmkdaaGreatDoor
open Go.RowKit
def Bl (b:UInt8):Bool:=[37,38,41,42,43,44,45,47,60,61,62,94].contains b
def Sep (l:List UInt8):Prop:=∀ b r,l=b::r→Bl b=true
theorem Bm:∀ b:UInt8,Bl b=true→aH b=false∧b≠34∧b≠40∧b≠46∧b≠58∧al b=false:=by
 intro b h
 unfold Bl at h
 simp only [List.contains_eq_mem,List.mem_cons,List.not_mem_nil,or_false,decide_eq_true_eq] at h
 rcases h with rfl | rfl | rfl | rfl | rfl | rfl | rfl | rfl | rfl | rfl | rfl | rfl <;> decide
theorem Sep.stop {r:List UInt8} (h:Sep r):stops aH r=true:=by
 cases r with
 | nil=>rfl
 | cons b r=>simp [stops,(Bm b (h b r rfl)).1]
def Opn (l:List UInt8):Prop:=∀ b r,l=b::r→b≠61∧b≠62
open Go.Lib (decDigits)
theorem uc (l:List UInt8):(cG l).length≤l.length:=by
 unfold cG
 rw [List.length_reverse]
 refine Nat.le_trans (List.dropWhile_suffix _).length_le ?_
 rw [List.length_reverse]
 exact Nat.le_refl _
theorem uH (n:Int) (h1 : -9223372036854775808≤n) (h2:n≤9223372036854775807):(eK n).length≤60:=by
 unfold eK
 have e1:=eD (n.natAbs / 10000) (by omega)
 have e2:=eD (10000+n.natAbs % 10000) (by omega)
 have e3:=uc ((decDigits (10000+n.natAbs % 10000)).drop 1)
 rw [List.length_drop] at e3
 rw [List.length_append,List.length_append]
 have e4:(if n<0 then [45] else []:List UInt8).length≤1:=by split <;> simp
 have e5:(if n.natAbs % 10000=0 then [] else 46::cG ((decDigits (10000+n.natAbs % 10000)).drop 1):List UInt8).length≤21:=by
  split
  ·simp
  rw [List.length_cons]; omega
 omega
theorem xN {p:Prop} [Decidable p] {a b:List UInt8} (ha:a.length≤2) (hb:b.length≤2):(if p then a else b).length≤2:=by
 split
 ·exact ha
 exact hb
theorem qP (n:Int):(dS n).length≤2:=by
 unfold dS
 iterate 13 (refine xN (by decide) ?_)
 decide
def jL (r:R4):List UInt8:=(aP r.c1 r.r1).1++(if r.c1=r.c2∧r.r1=r.r2 then [] else 58::(aP r.c2 r.r2).1)
def tkT (t:Tk):List UInt8 :=
 if t.kind=1 then eK t.num else if t.kind=2 then cY t.text else if t.kind=3 then (if t.num=1 then jS else gJ)
 else if t.kind=4 then (bD[t.num.toNat - 1]?).getD [] else if t.kind=5 then jL t.r else if t.kind=6 then jL t.r else if t.kind=7 then t.text
 else if t.kind=8 then dS t.num else if t.kind=9 then [40] else if t.kind=10 then [41] else [44]
inductive OkC:Tk→Prop
 | num (n:Int) (a:Nat) (h0:0≤n) (h1:n≤9223372036854775807):OkC ⟨1,n,[],R4.zero,a⟩
 | text (s:List UInt8) (a:Nat) (hp:s.all aB=true):OkC ⟨2,0,s,R4.zero,a⟩
 | yes (a:Nat):OkC ⟨3,1,[],R4.zero,a⟩
 | no (a:Nat):OkC ⟨3,0,[],R4.zero,a⟩
 | err (c a:Nat) (h1:1≤c) (h5:c≤5):OkC ⟨4,(c:Int),[],R4.zero,a⟩
 | ref (c r:Int) (a:Nat) (h:aW c r=true):OkC ⟨5,0,[],⟨c,r,c,r⟩,a⟩
 | rng (r:R4) (a:Nat) (h:aG r=true) (hn:¬ (r.c1=r.c2∧r.r1=r.r2)):OkC ⟨6,0,[],r,a⟩
 | name (s:List UInt8) (a:Nat) (h:mV s=true):OkC ⟨7,0,s,R4.zero,a⟩
 | op (n:Int) (a:Nat) (h1:1≤n) (h13:n≤13):OkC ⟨8,n,[],R4.zero,a⟩
 | lp (a:Nat):OkC ⟨9,0,[],R4.zero,a⟩
 | rp (a:Nat):OkC ⟨10,0,[],R4.zero,a⟩
 | comma (a:Nat):OkC ⟨11,0,[],R4.zero,a⟩
def After (t:Tk) (y:List UInt8):Prop:=(t.kind≤6→Sep y)∧(t.kind=7→∃ r,y=40::r)∧(t.kind=8→t.num=9∨t.num=11→Opn y)
def Tk.at (t:Tk) (k:Nat):Tk:={ t with at_:=k }
def txT (ts:List Tk):List UInt8:=ts.flatMap tkT
def oh:List Tk→List UInt8→Prop
 | [],_=>True
 | t::ts,y=>OkC t∧After t (txT ts++y)∧oh ts y
theorem sw (a b:List Tk):txT (a++b)=txT a++txT b:=by unfold txT; rw [List.flatMap_append]
theorem oh.app {a b:List Tk} {y:List UInt8} (h:oh a (txT b++y)) (g:oh b y):oh (a++b) y:=by
 induction a with
 | nil=>exact g
 | cons t a ih =>
  obtain ⟨h1,h2,h3⟩:=h
  exact ⟨h1,by show After t (txT (a++b)++y); rw [sw,List.append_assoc]; exact h2,ih h3⟩
def Fst (ts:List Tk):Prop:=∀ y b r,txT ts++y=b::r→b≠61∧b≠62
theorem Fst.app {a:List Tk} (h:Fst a) (_hn:a≠[]) (b:List Tk):Fst (a++b):=by
 intro y c r e
 rw [sw,List.append_assoc] at e
 exact h _ c r e
inductive NdC:Nd→Prop
 | num (n:Int) (h0:0≤n) (h1:n≤9223372036854775807):NdC ⟨1,1,n,[],R4.zero,0,0,0⟩
 | yes:NdC ⟨1,2,1,[],R4.zero,0,0,0⟩
 | no:NdC ⟨1,2,0,[],R4.zero,0,0,0⟩
 | text (s:List UInt8) (hp:s.all aB=true):NdC ⟨1,3,0,s,R4.zero,0,0,0⟩
 | err (c:Nat) (h1:1≤c) (h5:c≤5):NdC ⟨1,4,(c:Int),[],R4.zero,0,0,0⟩
 | ref (c r:Int) (h:aW c r=true):NdC (cL ⟨c,r,c,r⟩)
 | rng (r:R4) (h:aG r=true) (hn:¬ (r.c1=r.c2∧r.r1=r.r2)):NdC (aM r)
 | neg:NdC ck
 | pct:NdC bS
 | bin (op:Int) (h1:1≤op) (h12:op≤12):NdC (aI op)
 | call (fn k:Nat) (h1:1≤fn) (h50:fn≤50) (ha:(arS fn).1≤k) (hb:k≤(arS fn).2):NdC (bI fn k)
structure En where
 ts:List Tk
 s:Nat
def tkL:Tk:=⟨9,0,[],R4.zero,0⟩
def tkR:Tk:=⟨10,0,[],R4.zero,0⟩
def tkC:Tk:=⟨11,0,[],R4.zero,0⟩
def tkO (n:Int):Tk:=⟨8,n,[],R4.zero,0⟩
def aE (fn:Nat):List UInt8:=(dm[fn - 1]?).getD []
def tkN (fn:Nat):Tk:=⟨7,0,aE fn,R4.zero,0⟩
theorem yK (fn:Nat) (h1:1≤fn) (h50:fn≤50):fnS (aE fn)=fn∧mV (aE fn)=true:=by
 have key:∀ k:Fin 50,fnS (aE (k.1+1))=k.1+1∧mV (aE (k.1+1))=true:=by decide +kernel
 have:=key ⟨fn - 1,by omega⟩
 simp only [show fn - 1+1=fn by omega] at this
 exact this
def prO (l:Nat) (e:En):List Tk:=if l≤e.s then e.ts else tkL::(e.ts++[tkR])
def arJ:List En→List Tk
 | []=>[]
 | [e]=>e.ts
 | e::f::r=>e.ts++tkC::arJ (f::r)
def jW (e:En) (ns:List Nd):Prop:=Cn (.tr e.s) e.ts ns 0∧∀ t∈e.ts,OkC t
def zD (e:En) (ns:List Nd):Prop:=∃ r,e.ts=[⟨6,0,[],r,0⟩]∧ns=[aM r]∧OkC ⟨6,0,[],r,0⟩
theorem jW.od {e:En} {ns:List Nd} (h:jW e ns) (l:Nat):Cn (.od l) (prO l e) ns 0∧∀ t∈prO l e,OkC t:=by
 unfold prO
 by_cases g:l≤e.s
 ·rw [if_pos g]; exact ⟨.bare g h.1,h.2⟩
 rw [if_neg g]
 refine ⟨.par rfl rfl h.1,fun t ht => ?_⟩
 rcases List.mem_cons.1 ht with rfl | ht
 ·exact .lp 0
 rcases List.mem_append.1 ht with ht | ht
 ·exact h.2 t ht
 rw [List.mem_singleton] at ht; subst ht; exact .rp 0
abbrev Jt:=Pt×En×List Nd
def JOk (t:List Nd) (x:Jt):Prop:=((x.1.wide=true∧zD x.2.1 x.2.2)∨(x.1.wide=false∧jW x.2.1 x.2.2))∧x.2.2.getLast?.map (·.kind)=some (bR t x.1.root)
theorem rH (t:List Nd) (fn k:Nat):∀ (js:List Jt) (i:Nat),js≠[]→(∀ x∈js,JOk t x)→br t (bI fn k) i (js.map (·.1))=true →
  Cn (.ar fn i) (arJ (js.map (·.2.1))) (js.flatMap (·.2.2)) (i+js.length)∧∀ q∈arJ (js.map (·.2.1)),OkC q
 | [],_,h,_,_=>absurd rfl h
 | [x],i,_,hj,hf=>by
  have hx:=hj x (by simp)
  simp only [List.map,br,Bool.and_true,dE,Bool.and_eq_true] at hf
  simp only [List.map,arJ,List.flatMap_cons,List.flatMap_nil,List.append_nil,List.length_singleton]
  rcases hx.1 with ⟨hw,r,e1,e2,ok⟩ | ⟨hw,hc,ok⟩
  ·rw [hw] at hf
   have hwd:b8 fn i=true:=by simpa [ek,bI] using hf.1
   rw [e1,e2]
   exact ⟨.rngE (t:=⟨6,0,[],r,0⟩) rfl hwd,fun q hq=>by rw [List.mem_singleton] at hq; subst hq; exact ok⟩
  exact ⟨.argE hc,ok⟩
 | x::y::js,i,_,hj,hf=>by
  have hx:=hj x (by simp)
  have hf1:dE t (bI fn k) i x.1=true∧br t (bI fn k) (i+1) ((y::js).map (·.1))=true:=by
   have:=hf
   rw [List.map_cons,br,Bool.and_eq_true] at this
   exact this
  obtain ⟨g1,g2⟩:=rH t fn k (y::js) (i+1) (by simp) (fun z hz=>hj z (by simp [List.mem_cons.1 hz])) hf1.2
  have e3:i+(x::y::js).length=i+1+(y::js).length:=by simp only [List.length_cons]; omega
  rw [e3,List.flatMap_cons]
  have h1:=hf1.1
  simp only [dE,Bool.and_eq_true] at h1
  have ha:arJ ((x::y::js).map (·.2.1))=x.2.1.ts++tkC::arJ ((y::js).map (·.2.1)):=rfl
  rw [ha]
  rcases hx.1 with ⟨hw,r,e1,e2,ok⟩ | ⟨hw,hc,ok⟩
  ·rw [hw] at h1
   have hwd:b8 fn i=true:=by simpa [ek,bI] using h1.1
   rw [e1,e2]
   refine ⟨.rngC (t:=⟨6,0,[],r,0⟩) (c:=tkC) rfl hwd rfl g1,fun q hq => ?_⟩
   rcases List.mem_cons.1 hq with rfl | hq
   ·exact ok
   rcases List.mem_cons.1 hq with rfl | hq
   ·exact .comma 0
   exact g2 q hq
  refine ⟨.argC hc rfl g1,fun q hq => ?_⟩
  rcases List.mem_append.1 hq with hq | hq
  ·exact ok q hq
  rcases List.mem_cons.1 hq with rfl | hq
  ·exact .comma 0
  exact g2 q hq
theorem mM (t:List Nd) (n:Nd):∀ (l:List Pt) (i:Nat),br t n i l=true→∀ p∈l,(ek n=false→p.wide=false)∧(ek n=true→nV n.fn=true→bR t p.root=2∨bR t p.root=3)
 | [],_,_,p,hp=>by cases hp
 | q::l,i,h,p,hp=>by
  rw [br,Bool.and_eq_true] at h
  rcases List.mem_cons.1 hp with rfl | hp
  ·have h1:=h.1
   simp only [dE,Bool.and_eq_true] at h1
   refine ⟨fun g => ?_,fun g r => ?_⟩
   ·have:=h1.1
    rw [g] at this
    simpa using this
   have:=h1.2
   rw [g,r] at this
   simp at this
   omega
  exact mM t n l (i+1) h.2 p hp
theorem rX {t:List Nd} {x:Jt} (h:JOk t x) (hw:x.1.wide=false):jW x.2.1 x.2.2:=by
 rcases h.1 with ⟨g,-⟩ | ⟨-,g⟩
 ·rw [hw] at g; cases g
 exact g
theorem jw {q:Tk} {n:Nd} (ok:OkC q) (hk:1≤q.kind∧q.kind≤4) (e:fF q=n):jW ⟨[q],8⟩ [n]:=by
 subst e
 exact ⟨.val hk.1 hk.2,fun t ht=>by rw [List.mem_singleton] at ht; subst ht; exact ok⟩
def tkV (n:Nd):Tk:=⟨if n.vk=3 then 2 else if n.vk=2 then 3 else n.vk,n.vn,n.vt,R4.zero,0⟩
def BE (n:Nd) (es:List En):En :=
 if n.kind=1 then ⟨[tkV n],8⟩
 else if n.kind=2 then ⟨[⟨5,0,[],n.r,0⟩],8⟩
 else if n.kind=3 then ⟨[⟨6,0,[],n.r,0⟩],8⟩
 else if n.kind=4 then ⟨tkO 2::prO 5 (es.getD 0 ⟨[],8⟩),5⟩
 else if n.kind=5 then ⟨prO 7 (es.getD 0 ⟨[],8⟩)++[tkO 13],7⟩
 else if n.kind=6 then (if n.op=5 then ⟨prO 7 (es.getD 0 ⟨[],8⟩)++tkO n.op::prO 5 (es.getD 1 ⟨[],8⟩),6⟩
  else ⟨prO (aJ n.op) (es.getD 0 ⟨[],8⟩)++tkO n.op::prO (aJ n.op+1) (es.getD 1 ⟨[],8⟩),aJ n.op⟩)
 else ⟨tkN n.fn::tkL::(arJ es++[tkR]),8⟩
theorem A9 {n:Nd} (hn:NdC n) (t:List Nd) (js:List Jt) (hl:js.length=am n) (hj:∀ x∈js,JOk t x) (hf:br t n 0 (js.map (·.1))=true) :
  ∃ e:En,e=BE n (js.map (·.2.1))∧(n.kind=3→zD e (js.flatMap (·.2.2)++[n]))∧(n.kind≠3→jW e (js.flatMap (·.2.2)++[n])):=by
 have hfa:=mM t n _ 0 hf
 have none:js.length=0→js=[]:=List.length_eq_zero_iff.1
 cases hn with
 | num m h0 h1=>obtain rfl:=none hl; exact ⟨⟨[⟨1,m,[],R4.zero,0⟩],8⟩,rfl,fun g=>by simp at g,fun _=>jw (.num m 0 h0 h1) ⟨by simp,by simp⟩ (by simp [fF])⟩
 | yes=>obtain rfl:=none hl; exact ⟨⟨[⟨3,1,[],R4.zero,0⟩],8⟩,rfl,fun g=>by simp at g,fun _=>jw (.yes 0) ⟨by simp,by simp⟩ (by simp [fF])⟩
 | no=>obtain rfl:=none hl; exact ⟨⟨[⟨3,0,[],R4.zero,0⟩],8⟩,rfl,fun g=>by simp at g,fun _=>jw (.no 0) ⟨by simp,by simp⟩ (by simp [fF])⟩
 | text s hp=>obtain rfl:=none hl; exact ⟨⟨[⟨2,0,s,R4.zero,0⟩],8⟩,rfl,fun g=>by simp at g,fun _=>jw (.text s 0 hp) ⟨by simp,by simp⟩ (by simp [fF])⟩
 | err c h1 h5=>obtain rfl:=none hl; exact ⟨⟨[⟨4,(c:Int),[],R4.zero,0⟩],8⟩,rfl,fun g=>by simp at g,fun _=>jw (.err c 0 h1 h5) ⟨by simp,by simp⟩ (by simp [fF])⟩
 | ref c r h =>
  obtain rfl:=none hl
  exact ⟨⟨[⟨5,0,[],⟨c,r,c,r⟩,0⟩],8⟩,rfl,fun g=>by simp [cL] at g,fun _=>⟨.ref (t:=⟨5,0,[],⟨c,r,c,r⟩,0⟩) rfl,fun q hq=>by rw [List.mem_singleton] at hq; subst hq; exact .ref c r 0 h⟩⟩
 | rng r h hne =>
  obtain rfl:=none hl
  exact ⟨⟨[⟨6,0,[],r,0⟩],8⟩,rfl,fun _=>⟨r,rfl,rfl,.rng r 0 h hne⟩,fun g=>absurd rfl g⟩
 | neg =>
  match js,hl with
  | [x],_ =>
   have hx:=(rX (hj x (by simp)) ((hfa x.1 (by simp)).1 rfl)).od 5
   refine ⟨⟨tkO 2::prO 5 x.2.1,5⟩,rfl,fun g=>by simp [ck] at g,fun _=>⟨?_,fun q hq => ?_⟩⟩
   ·simpa using Cn.neg (t:=tkO 2) rfl rfl hx.1
   rcases List.mem_cons.1 hq with rfl | hq
   ·exact .op 2 0 (by decide) (by decide)
   exact hx.2 q hq
 | pct =>
  match js,hl with
  | [x],_ =>
   have hx:=(rX (hj x (by simp)) ((hfa x.1 (by simp)).1 rfl)).od 7
   refine ⟨⟨prO 7 x.2.1++[tkO 13],7⟩,rfl,fun g=>by simp [bS] at g,fun _=>⟨?_,fun q hq => ?_⟩⟩
   ·simpa using Cn.pct (t:=tkO 13) rfl rfl hx.1
   rcases List.mem_append.1 hq with hq | hq
   ·exact hx.2 q hq
   rw [List.mem_singleton] at hq; subst hq; exact .op 13 0 (by decide) (by decide)
 | bin op h1 h12 =>
  match js,hl with
  | [x,y],_ =>
   have tx:=rX (hj x (by simp)) ((hfa x.1 (by simp)).1 rfl)
   have ty:=rX (hj y (by simp)) ((hfa y.1 (by simp)).1 rfl)
   have mem:∀ {a b:List Tk},(∀ q∈a,OkC q)→(∀ q∈b,OkC q)→∀ q∈a++tkO op::b,OkC q:=by
    intro a b ha hb q hq
    rcases List.mem_append.1 hq with hq | hq
    ·exact ha q hq
    rcases List.mem_cons.1 hq with rfl | hq
    ·exact .op op 0 h1 (by omega)
    exact hb q hq
   by_cases h5:op=5
   ·have hx:=tx.od 7
    have hy:=ty.od 5
    refine ⟨⟨prO 7 x.2.1++tkO op::prO 5 y.2.1,6⟩,(if_pos h5).symm,fun g=>by simp [aI] at g,fun _=>⟨?_,mem hx.2 hy.2⟩⟩
    have:=Cn.pow (t:=tkO op) rfl h5 hx.1 hy.1
    rw [← h5] at this
    simpa using this
   obtain ⟨k,hk⟩:=ex (aJ op)
   have hk4:1≤k∧k≤4:=by
    rw [← hk]
    have:op=1∨op=2∨op=3∨op=4∨op=6∨op=7∨op=8∨op=9∨op=10∨op=11∨op=12:=by omega
    rcases this with rfl | rfl | rfl | rfl | rfl | rfl | rfl | rfl | rfl | rfl | rfl <;> decide
   have hx:=tx.od k
   have hy:=ty.od (k+1)
   refine ⟨⟨prO k x.2.1++tkO op::prO (k+1) y.2.1,k⟩,by rw [← hk]; exact (if_neg h5).symm,fun g=>by simp [aI] at g,fun _=>⟨?_,mem hx.2 hy.2⟩⟩
   have:=Cn.bin (t:=tkO op) rfl hk hk4.1 hk4.2 hx.1 hy.1
   simpa [tkO] using this
 | call fn k h1 h50 ha hb =>
  obtain ⟨f1,f2⟩:=yK fn h1 h50
  have hlk:js.length=k:=by rw [hl]; rfl
  have hne:js≠[]:=by
   rintro rfl
   have:=nu fn
   simp at hlk
   omega
  obtain ⟨g1,g2⟩:=rH t fn k js 0 hne hj hf
  rw [Nat.zero_add,hlk] at g1
  refine ⟨⟨tkN fn::tkL::(arJ (js.map (·.2.1))++[tkR]),8⟩,rfl,fun g=>by simp [bI] at g,fun _=>⟨?_,fun q hq => ?_⟩⟩
  ·have hd:46≤fn→((js.flatMap (·.2.2)).getLast?.map (·.kind))=some 2∨((js.flatMap (·.2.2)).getLast?.map (·.kind))=some 3:=by
    intro h46
    obtain ⟨init,x,rfl⟩:∃ init x,js=init++[x]:=⟨js.dropLast,js.getLast hne,(List.dropLast_concat_getLast hne).symm⟩
    have hx:=hj x (by simp)
    have hr:=(hfa x.1 (by simp)).2 rfl (by show nV fn=true; unfold nV; rw [decide_eq_true_eq]; omega)
    rw [List.flatMap_append,List.flatMap_cons,List.flatMap_nil,List.append_nil]
    obtain ⟨v,hv⟩:∃ v,x.2.2.getLast?=some v:=by
     cases hz:x.2.2.getLast? with
     | none=>have:=hx.2; rw [hz] at this; cases this
     | some v=>exact ⟨v,rfl⟩
    have h2:=hx.2
    rw [hv] at h2
    rw [List.getLast?_append,hv,Option.some_or,h2]
    rcases hr with hr | hr
    ·exact .inl (congrArg some hr)
    exact .inr (congrArg some hr)
   have:=Cn.call (t:=tkN fn) (o:=tkL) (c:=tkR) rfl (by show fnS (aE fn)≠0; rw [f1]; omega) rfl (ts:=arJ (js.map (·.2.1))) (ns:=js.flatMap (·.2.2)) (n:=k) (by show Cn (.ar (fnS (aE fn)) 0) _ _ _; rw [f1]; exact g1) rfl (by show (arS (fnS (aE fn))).1≤k; rw [f1]; exact ha) (by show k≤(arS (fnS (aE fn))).2; rw [f1]; exact hb) (by show 46≤fnS (aE fn)→_; rw [f1]; exact hd)
   have e:fnS (tkN fn).text=fn:=f1
   rw [e] at this
   exact this
  rcases List.mem_cons.1 hq with rfl | hq
  ·exact .name _ 0 f2
  rcases List.mem_cons.1 hq with rfl | hq
  ·exact .lp 0
  rcases List.mem_append.1 hq with hq | hq
  ·exact g2 q hq
  rw [List.mem_singleton] at hq; subst hq; exact .rp 0
