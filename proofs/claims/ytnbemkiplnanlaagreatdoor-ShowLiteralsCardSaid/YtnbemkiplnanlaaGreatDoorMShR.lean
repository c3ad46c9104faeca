/- Plain: a checked tree has canonical tokens. No program stands here. Plain: every checked tree has canonical tokens, which are lexed and parsed back. No program stands here. -/
import Derived.Test.YtnbemkiplnanlaaGreatDoorMShO
namespace Go.Proofs.YtnbemkiplnanlaaGreatDoor
open Go.RowKit
inductive NdC : Nd → Prop
 | num (n : Int) (h0 : 0 ≤ n) (h1 : n ≤ 9223372036854775807) : NdC ⟨1,1,n,[],R4.zero,0,0,0⟩
 | yes : NdC ⟨1,2,1,[],R4.zero,0,0,0⟩
 | no : NdC ⟨1,2,0,[],R4.zero,0,0,0⟩
 | text (s : List UInt8) (hp : s.all plainB = true) : NdC ⟨1,3,0,s,R4.zero,0,0,0⟩
 | err (c : Nat) (h1 : 1 ≤ c) (h5 : c ≤ 5) : NdC ⟨1,4,(c : Int),[],R4.zero,0,0,0⟩
 | ref (c r : Int) (h : validN c r = true) : NdC (ndRef ⟨c,r,c,r⟩)
 | rng (r : R4) (h : checkB r = true) (hn : ¬ (r.c1 = r.c2 ∧ r.r1 = r.r2)) : NdC (ndRange r)
 | neg : NdC ndNeg
 | pct : NdC ndPct
 | bin (op : Int) (h1 : 1 ≤ op) (h12 : op ≤ 12) : NdC (ndBin op)
 | call (fn k : Nat) (h1 : 1 ≤ fn) (h50 : fn ≤ 50) (ha : (arS fn).1 ≤ k) (hb : k ≤ (arS fn).2) : NdC (ndCall fn k)
structure En where
 ts : List Tk
 s : Nat
def tkL : Tk:=⟨9,0,[],R4.zero,0⟩
def tkR : Tk:=⟨10,0,[],R4.zero,0⟩
def tkC : Tk:=⟨11,0,[],R4.zero,0⟩
def tkO (n : Int) : Tk:=⟨8,n,[],R4.zero,0⟩
def nameF (fn : Nat) : List UInt8:=(fnNames[fn - 1]?).getD []
def tkN (fn : Nat) : Tk:=⟨7,0,nameF fn,R4.zero,0⟩
theorem name_fn (fn : Nat) (h1 : 1 ≤ fn) (h50 : fn ≤ 50) : fnS (nameF fn) = fn ∧ nameB (nameF fn) = true:=by
 have key : ∀ k : Fin 50,fnS (nameF (k.1 + 1)) = k.1 + 1 ∧ nameB (nameF (k.1 + 1)) = true:=by decide +kernel
 have:=key ⟨fn - 1,by omega⟩
 simp only [show fn - 1 + 1 = fn by omega] at this
 exact this
def prO (l : Nat) (e : En) : List Tk:=if l ≤ e.s then e.ts else tkL :: (e.ts ++ [tkR])
def arJ : List En → List Tk
 | [] => []
 | [e] => e.ts
 | e :: f :: r => e.ts ++ tkC :: arJ (f :: r)
def TreeOk (e : En) (ns : List Nd) : Prop:=Cn (.tr e.s) e.ts ns 0 ∧ ∀ t ∈ e.ts,OkC t
def RngOk (e : En) (ns : List Nd) : Prop:=∃ r,e.ts = [⟨6,0,[],r,0⟩] ∧ ns = [ndRange r] ∧ OkC ⟨6,0,[],r,0⟩
theorem TreeOk.od {e : En} {ns : List Nd} (h : TreeOk e ns) (l : Nat) : Cn (.od l) (prO l e) ns 0 ∧ ∀ t ∈ prO l e,OkC t:=by
 unfold prO
 by_cases g : l ≤ e.s
 ·rw [if_pos g]; exact ⟨.bare g h.1,h.2⟩
 ·rw [if_neg g]
  refine ⟨.par rfl rfl h.1,fun t ht => ?_⟩
  rcases List.mem_cons.1 ht with rfl | ht
  ·exact .lp 0
  rcases List.mem_append.1 ht with ht | ht
  ·exact h.2 t ht
  ·rw [List.mem_singleton] at ht; subst ht; exact .rp 0
abbrev Jt:=Pt × En × List Nd
def JOk (t : List Nd) (x : Jt) : Prop:=((x.1.wide = true ∧ RngOk x.2.1 x.2.2) ∨ (x.1.wide = false ∧ TreeOk x.2.1 x.2.2)) ∧ x.2.2.getLast?.map (·.kind) = some (kindAt t x.1.root)
theorem args_cn (t : List Nd) (fn k : Nat) : ∀ (js : List Jt) (i : Nat),js ≠ [] → (∀ x ∈ js,JOk t x) → fitsF t (ndCall fn k) i (js.map (·.1)) = true →
  Cn (.ar fn i) (arJ (js.map (·.2.1))) (js.flatMap (·.2.2)) (i + js.length) ∧ ∀ q ∈ arJ (js.map (·.2.1)),OkC q
 | [],_,h,_,_ => absurd rfl h
 | [x],i,_,hj,hf => by
  have hx:=hj x (by simp)
  simp only [List.map,fitsF,Bool.and_true,fit1,Bool.and_eq_true] at hf
  simp only [List.map,arJ,List.flatMap_cons,List.flatMap_nil,List.append_nil,List.length_singleton]
  rcases hx.1 with ⟨hw,r,e1,e2,ok⟩ | ⟨hw,hc,ok⟩
  ·rw [hw] at hf
   have hwd : wideS fn i = true:=by simpa [isCall,ndCall] using hf.1
   rw [e1,e2]
   exact ⟨.rngE (t:=⟨6,0,[],r,0⟩) rfl hwd,fun q hq => by rw [List.mem_singleton] at hq; subst hq; exact ok⟩
  ·exact ⟨.argE hc,ok⟩
 | x :: y :: js,i,_,hj,hf => by
  have hx:=hj x (by simp)
  have hf1 : fit1 t (ndCall fn k) i x.1 = true ∧ fitsF t (ndCall fn k) (i + 1) ((y :: js).map (·.1)) = true:=by
   have:=hf
   rw [List.map_cons,fitsF,Bool.and_eq_true] at this
   exact this
  obtain ⟨g1,g2⟩:=args_cn t fn k (y :: js) (i + 1) (by simp) (fun z hz => hj z (by simp [List.mem_cons.1 hz])) hf1.2
  have e3 : i + (x :: y :: js).length = i + 1 + (y :: js).length:=by simp only [List.length_cons]; omega
  rw [e3,List.flatMap_cons]
  have h1:=hf1.1
  simp only [fit1,Bool.and_eq_true] at h1
  have ha : arJ ((x :: y :: js).map (·.2.1)) = x.2.1.ts ++ tkC :: arJ ((y :: js).map (·.2.1)):=rfl
  rw [ha]
  rcases hx.1 with ⟨hw,r,e1,e2,ok⟩ | ⟨hw,hc,ok⟩
  ·rw [hw] at h1
   have hwd : wideS fn i = true:=by simpa [isCall,ndCall] using h1.1
   rw [e1,e2]
   refine ⟨.rngC (t:=⟨6,0,[],r,0⟩) (c:=tkC) rfl hwd rfl g1,fun q hq => ?_⟩
   rcases List.mem_cons.1 hq with rfl | hq
   ·exact ok
   rcases List.mem_cons.1 hq with rfl | hq
   ·exact .comma 0
   ·exact g2 q hq
  ·refine ⟨.argC hc rfl g1,fun q hq => ?_⟩
   rcases List.mem_append.1 hq with hq | hq
   ·exact ok q hq
   rcases List.mem_cons.1 hq with rfl | hq
   ·exact .comma 0
   ·exact g2 q hq
theorem fits_each (t : List Nd) (n : Nd) : ∀ (l : List Pt) (i : Nat),fitsF t n i l = true → ∀ p ∈ l,(isCall n = false → p.wide = false) ∧ (isCall n = true → relS n.fn = true → kindAt t p.root = 2 ∨ kindAt t p.root = 3)
 | [],_,_,p,hp => by cases hp
 | q :: l,i,h,p,hp => by
  rw [fitsF,Bool.and_eq_true] at h
  rcases List.mem_cons.1 hp with rfl | hp
  ·have h1:=h.1
   simp only [fit1,Bool.and_eq_true] at h1
   refine ⟨fun g => ?_,fun g r => ?_⟩
   ·have:=h1.1
    rw [g] at this
    simpa using this
   ·have:=h1.2
    rw [g,r] at this
    simp at this
    omega
  ·exact fits_each t n l (i + 1) h.2 p hp
theorem jtree {t : List Nd} {x : Jt} (h : JOk t x) (hw : x.1.wide = false) : TreeOk x.2.1 x.2.2:=by
 rcases h.1 with ⟨g,-⟩ | ⟨-,g⟩
 ·rw [hw] at g; cases g
 ·exact g
theorem leaf_ok {q : Tk} {n : Nd} (ok : OkC q) (hk : 1 ≤ q.kind ∧ q.kind ≤ 4) (e : ndVal q = n) : TreeOk ⟨[q],8⟩ [n]:=by
 subst e
 exact ⟨.val hk.1 hk.2,fun t ht => by rw [List.mem_singleton] at ht; subst ht; exact ok⟩
def tkV (n : Nd) : Tk:=⟨if n.vk = 3 then 2 else if n.vk = 2 then 3 else n.vk,n.vn,n.vt,R4.zero,0⟩
def comE (n : Nd) (es : List En) : En :=
 if n.kind = 1 then ⟨[tkV n],8⟩
 else if n.kind = 2 then ⟨[⟨5,0,[],n.r,0⟩],8⟩
 else if n.kind = 3 then ⟨[⟨6,0,[],n.r,0⟩],8⟩
 else if n.kind = 4 then ⟨tkO 2 :: prO 5 (es.getD 0 ⟨[],8⟩),5⟩
 else if n.kind = 5 then ⟨prO 7 (es.getD 0 ⟨[],8⟩) ++ [tkO 13],7⟩
 else if n.kind = 6 then (if n.op = 5 then ⟨prO 7 (es.getD 0 ⟨[],8⟩) ++ tkO n.op :: prO 5 (es.getD 1 ⟨[],8⟩),6⟩
  else ⟨prO (bindS n.op) (es.getD 0 ⟨[],8⟩) ++ tkO n.op :: prO (bindS n.op + 1) (es.getD 1 ⟨[],8⟩),bindS n.op⟩)
 else ⟨tkN n.fn :: tkL :: (arJ es ++ [tkR]),8⟩
theorem own_cn {n : Nd} (hn : NdC n) (t : List Nd) (js : List Jt) (hl : js.length = belowS n) (hj : ∀ x ∈ js,JOk t x) (hf : fitsF t n 0 (js.map (·.1)) = true) :
  ∃ e : En,e = comE n (js.map (·.2.1)) ∧ (n.kind = 3 → RngOk e (js.flatMap (·.2.2) ++ [n])) ∧ (n.kind ≠ 3 → TreeOk e (js.flatMap (·.2.2) ++ [n])):=by
 have hfa:=fits_each t n _ 0 hf
 have none : js.length = 0 → js = []:=List.length_eq_zero_iff.1
 cases hn with
 | num m h0 h1 => obtain rfl:=none hl; exact ⟨⟨[⟨1,m,[],R4.zero,0⟩],8⟩,rfl,fun g => by simp at g,fun _ => leaf_ok (.num m 0 h0 h1) ⟨by simp,by simp⟩ (by simp [ndVal])⟩
 | yes => obtain rfl:=none hl; exact ⟨⟨[⟨3,1,[],R4.zero,0⟩],8⟩,rfl,fun g => by simp at g,fun _ => leaf_ok (.yes 0) ⟨by simp,by simp⟩ (by simp [ndVal])⟩
 | no => obtain rfl:=none hl; exact ⟨⟨[⟨3,0,[],R4.zero,0⟩],8⟩,rfl,fun g => by simp at g,fun _ => leaf_ok (.no 0) ⟨by simp,by simp⟩ (by simp [ndVal])⟩
 | text s hp => obtain rfl:=none hl; exact ⟨⟨[⟨2,0,s,R4.zero,0⟩],8⟩,rfl,fun g => by simp at g,fun _ => leaf_ok (.text s 0 hp) ⟨by simp,by simp⟩ (by simp [ndVal])⟩
 | err c h1 h5 => obtain rfl:=none hl; exact ⟨⟨[⟨4,(c : Int),[],R4.zero,0⟩],8⟩,rfl,fun g => by simp at g,fun _ => leaf_ok (.err c 0 h1 h5) ⟨by simp,by simp⟩ (by simp [ndVal])⟩
 | ref c r h =>
  obtain rfl:=none hl
  exact ⟨⟨[⟨5,0,[],⟨c,r,c,r⟩,0⟩],8⟩,rfl,fun g => by simp [ndRef] at g,fun _ => ⟨.ref (t:=⟨5,0,[],⟨c,r,c,r⟩,0⟩) rfl,fun q hq => by rw [List.mem_singleton] at hq; subst hq; exact .ref c r 0 h⟩⟩
 | rng r h hne =>
  obtain rfl:=none hl
  exact ⟨⟨[⟨6,0,[],r,0⟩],8⟩,rfl,fun _ => ⟨r,rfl,rfl,.rng r 0 h hne⟩,fun g => absurd rfl g⟩
 | neg =>
  match js,hl with
  | [x],_ =>
   have hx:=(jtree (hj x (by simp)) ((hfa x.1 (by simp)).1 rfl)).od 5
   refine ⟨⟨tkO 2 :: prO 5 x.2.1,5⟩,rfl,fun g => by simp [ndNeg] at g,fun _ => ⟨?_,fun q hq => ?_⟩⟩
   ·simpa using Cn.neg (t:=tkO 2) rfl rfl hx.1
   ·rcases List.mem_cons.1 hq with rfl | hq
    ·exact .op 2 0 (by decide) (by decide)
    ·exact hx.2 q hq
 | pct =>
  match js,hl with
  | [x],_ =>
   have hx:=(jtree (hj x (by simp)) ((hfa x.1 (by simp)).1 rfl)).od 7
   refine ⟨⟨prO 7 x.2.1 ++ [tkO 13],7⟩,rfl,fun g => by simp [ndPct] at g,fun _ => ⟨?_,fun q hq => ?_⟩⟩
   ·simpa using Cn.pct (t:=tkO 13) rfl rfl hx.1
   ·rcases List.mem_append.1 hq with hq | hq
    ·exact hx.2 q hq
    ·rw [List.mem_singleton] at hq; subst hq; exact .op 13 0 (by decide) (by decide)
 | bin op h1 h12 =>
  match js,hl with
  | [x,y],_ =>
   have tx:=jtree (hj x (by simp)) ((hfa x.1 (by simp)).1 rfl)
   have ty:=jtree (hj y (by simp)) ((hfa y.1 (by simp)).1 rfl)
   have mem : ∀ {a b : List Tk},(∀ q ∈ a,OkC q) → (∀ q ∈ b,OkC q) → ∀ q ∈ a ++ tkO op :: b,OkC q:=by
    intro a b ha hb q hq
    rcases List.mem_append.1 hq with hq | hq
    ·exact ha q hq
    rcases List.mem_cons.1 hq with rfl | hq
    ·exact .op op 0 h1 (by omega)
    ·exact hb q hq
   by_cases h5 : op = 5
   ·have hx:=tx.od 7
    have hy:=ty.od 5
    refine ⟨⟨prO 7 x.2.1 ++ tkO op :: prO 5 y.2.1,6⟩,(if_pos h5).symm,fun g => by simp [ndBin] at g,fun _ => ⟨?_,mem hx.2 hy.2⟩⟩
    have:=Cn.pow (t:=tkO op) rfl h5 hx.1 hy.1
    rw [← h5] at this
    simpa using this
   ·obtain ⟨k,hk⟩ : ∃ k,bindS op = k:=⟨_,rfl⟩
    have hk4 : 1 ≤ k ∧ k ≤ 4:=by
     rw [← hk]
     have : op = 1 ∨ op = 2 ∨ op = 3 ∨ op = 4 ∨ op = 6 ∨ op = 7 ∨ op = 8 ∨ op = 9 ∨ op = 10 ∨ op = 11 ∨ op = 12:=by omega
     rcases this with rfl | rfl | rfl | rfl | rfl | rfl | rfl | rfl | rfl | rfl | rfl <;> decide
    have hx:=tx.od k
    have hy:=ty.od (k + 1)
    refine ⟨⟨prO k x.2.1 ++ tkO op :: prO (k + 1) y.2.1,k⟩,by rw [← hk]; exact (if_neg h5).symm,fun g => by simp [ndBin] at g,fun _ => ⟨?_,mem hx.2 hy.2⟩⟩
    have:=Cn.bin (t:=tkO op) rfl hk hk4.1 hk4.2 hx.1 hy.1
    simpa [tkO] using this
 | call fn k h1 h50 ha hb =>
  obtain ⟨f1,f2⟩:=name_fn fn h1 h50
  have hlk : js.length = k:=by rw [hl]; rfl
  have hne : js ≠ []:=by
   rintro rfl
   have:=ar_pos fn
   simp at hlk
   omega
  obtain ⟨g1,g2⟩:=args_cn t fn k js 0 hne hj hf
  rw [Nat.zero_add,hlk] at g1
  refine ⟨⟨tkN fn :: tkL :: (arJ (js.map (·.2.1)) ++ [tkR]),8⟩,rfl,fun g => by simp [ndCall] at g,fun _ => ⟨?_,fun q hq => ?_⟩⟩
  ·have hd : 46 ≤ fn → ((js.flatMap (·.2.2)).getLast?.map (·.kind)) = some 2 ∨ ((js.flatMap (·.2.2)).getLast?.map (·.kind)) = some 3:=by
    intro h46
    obtain ⟨init,x,rfl⟩ : ∃ init x,js = init ++ [x]:=⟨js.dropLast,js.getLast hne,(List.dropLast_concat_getLast hne).symm⟩
    have hx:=hj x (by simp)
    have hr:=(hfa x.1 (by simp)).2 rfl (by show relS fn = true; unfold relS; rw [decide_eq_true_eq]; omega)
    rw [List.flatMap_append,List.flatMap_cons,List.flatMap_nil,List.append_nil]
    obtain ⟨v,hv⟩ : ∃ v,x.2.2.getLast? = some v:=by
     cases hz : x.2.2.getLast? with
     | none => have:=hx.2; rw [hz] at this; cases this
     | some v => exact ⟨v,rfl⟩
    have h2:=hx.2
    rw [hv] at h2
    rw [List.getLast?_append,hv,Option.some_or,h2]
    rcases hr with hr | hr
    ·exact .inl (congrArg some hr)
    ·exact .inr (congrArg some hr)
   have:=Cn.call (t:=tkN fn) (o:=tkL) (c:=tkR) rfl (by show fnS (nameF fn) ≠ 0; rw [f1]; omega) rfl (ts:=arJ (js.map (·.2.1))) (ns:=js.flatMap (·.2.2)) (n:=k) (by show Cn (.ar (fnS (nameF fn)) 0) _ _ _; rw [f1]; exact g1) rfl (by show (arS (fnS (nameF fn))).1 ≤ k; rw [f1]; exact ha) (by show k ≤ (arS (fnS (nameF fn))).2; rw [f1]; exact hb) (by show 46 ≤ fnS (nameF fn) → _; rw [f1]; exact hd)
   have e : fnS (tkN fn).text = fn:=f1
   rw [e] at this
   exact this
  ·rcases List.mem_cons.1 hq with rfl | hq
   ·exact .name _ 0 f2
   rcases List.mem_cons.1 hq with rfl | hq
   ·exact .lp 0
   rcases List.mem_append.1 hq with hq | hq
   ·exact g2 q hq
   ·rw [List.mem_singleton] at hq; subst hq; exact .rp 0
end Go.Proofs.YtnbemkiplnanlaaGreatDoor
namespace Go.Proofs.YtnbemkiplnanlaaGreatDoor
open Go.RowKit
theorem drop_at_ {α : Type} {t : List α} {i : Nat} {n : α} {l : List α} (h : t.drop i = n :: l) : t[i]? = some n ∧ t.drop (i + 1) = l:=by
 constructor
 ·have:=congrArg (·[0]?) h
  simpa using this
 ·have:=congrArg (List.drop 1) h
  rw [List.drop_drop] at this
  exact this
def comW : List Nd → List En → List En
 | [],es => es
 | n :: l,es => comW l (es.take (es.length - belowS n) ++ [comE n (es.drop (es.length - belowS n))])
theorem walk_cn (t : List Nd) (ht : ∀ n ∈ t,NdC n) : ∀ (l : List Nd) (i : Nat) (J : List Jt) (st2 : List Pt),(∀ x ∈ J,JOk t x) → t.drop i = l → walkW t i l (J.map (·.1)) = .ok st2 →
  ∃ J2 : List Jt,st2 = J2.map (·.1) ∧ (∀ x ∈ J2,JOk t x) ∧ J2.flatMap (·.2.2) = J.flatMap (·.2.2) ++ l ∧ J2.map (·.2.1) = comW l (J.map (·.2.1))
 | [],_,J,st2,hJ,_,h => ⟨J,by rw [walkW] at h; injection h with h; exact h.symm,hJ,by rw [List.append_nil],rfl⟩
 | n :: l,i,J,st2,hJ,hd,h => by
  obtain ⟨hi,hd2⟩:=drop_at_ hd
  have hnc:=ht n (List.mem_of_getElem? hi)
  rw [walkW] at h
  cases hs : stepW t (J.map (·.1)) i n with
  | error c => rw [hs] at h; cases h
  | ok st =>
   rw [hs] at h
   unfold stepW at hs
   split at hs
   ·cases hs
   next hlen =>
   split at hs
   ·cases hs
   next hfit =>
   split at hs
   ·cases hs
   injection hs with hs
   rw [List.length_map] at hlen hfit hs
   rw [← List.map_drop] at hfit hs
   rw [← List.map_take] at hs
   obtain ⟨js,hjs⟩ : ∃ js,J.drop (J.length - belowS n) = js:=⟨_,rfl⟩
   rw [hjs] at hfit hs
   have hjl : js.length = belowS n:=by rw [← hjs,List.length_drop]; omega
   have hjo : ∀ x ∈ js,JOk t x:=fun x hx => hJ x (List.mem_of_mem_drop (hjs ▸ hx))
   obtain ⟨e,he,h3,h4⟩:=own_cn hnc t js hjl hjo (by simpa using hfit)
   have hok : JOk t (⟨i,deepS (js.map (·.1)),decide (n.kind = 3)⟩,e,js.flatMap (·.2.2) ++ [n]):=by
    refine ⟨?_,?_⟩
    ·by_cases g : n.kind = 3
     ·exact .inl ⟨decide_eq_true g,h3 g⟩
     ·exact .inr ⟨decide_eq_false g,h4 g⟩
    ·show (js.flatMap (·.2.2) ++ [n]).getLast?.map (·.kind) = some (kindAt t i)
     rw [List.getLast?_append]
     unfold kindAt
     rw [hi]
     rfl
   obtain ⟨J2,e1,e2,e3,e4⟩:=walk_cn t ht l (i + 1) (J.take (J.length - belowS n) ++ [(⟨i,deepS (js.map (·.1)),decide (n.kind = 3)⟩,e,js.flatMap (·.2.2) ++ [n])]) st2
    (fun x hx => by
     rcases List.mem_append.1 hx with hx | hx
     ·exact hJ x (List.mem_of_mem_take hx)
     ·rw [List.mem_singleton] at hx; subst hx; exact hok) hd2 (by rw [List.map_append]; show walkW t (i + 1) l (_ ++ [_]) = _; rw [hs]; exact h)
   refine ⟨J2,e1,e2,?_,?_⟩
   case refine_2 =>
    rw [e4,comW]
    simp only [List.map_append,List.map_take,List.length_map,List.map_cons,List.map_nil]
    rw [he,← hjs,List.map_drop]
   rw [e3,List.flatMap_append]
   have hsp : J.flatMap (·.2.2) = (J.take (J.length - belowS n)).flatMap (·.2.2) ++ js.flatMap (·.2.2):=by
    rw [← hjs,← List.flatMap_append,List.take_append_drop]
   rw [hsp]
   simp [List.append_assoc]
theorem walk_err (t : List Nd) : ∀ (l : List Nd) (i : Nat) (st : List Pt) (c : Int),walkW t i l st = .error c → ¬ c = 0
 | [],_,_,_,h => by rw [walkW] at h; cases h
 | n :: l,i,st,c,h => by
  rw [walkW] at h
  cases hs : stepW t st i n with
  | ok st2 => rw [hs] at h; exact walk_err t l (i + 1) st2 c h
  | error d =>
   rw [hs] at h
   injection h with h
   subst h
   unfold stepW at hs
   split at hs
   ·injection hs with hs; omega
   split at hs
   ·injection hs with hs; omega
   split at hs
   ·injection hs with hs; omega
   ·cases hs
theorem tree_cn (t : List Nd) (ht : ∀ n ∈ t,NdC n) (h : checkS t = 0) : ∃ e : En,comW t [] = [e] ∧ Cn (.tr e.s) e.ts t 0 ∧ ∀ q ∈ e.ts,OkC q:=by
 unfold checkS at h
 split at h
 ·exact absurd h (by decide)
 split at h
 ·exact absurd h (by decide)
 split at h
 next hw => exact absurd h hw
 next hw =>
 split at h
 ·exact absurd h (by decide)
 next hl =>
 have hw0 : walkE t = 0:=by simpa using hw
 unfold walkE at hw0
 cases hst : walkW t 0 t [] with
 | error c =>
  rw [hst] at hw0
  exact absurd hw0 (walk_err t t 0 [] c hst)
 | ok st =>
  rw [hst] at hw0
  simp only at hw0
  have h1 : st.length = 1:=by
   by_cases g : st.length = 1
   ·exact g
   ·rw [if_neg g] at hw0; exact absurd hw0 (by decide)
  obtain ⟨J2,e1,e2,e3,e4⟩:=walk_cn t ht t 0 [] st (by simp) rfl hst
  rw [e1,List.length_map] at h1
  match J2,h1 with
  | [x],_ =>
   simp only [List.flatMap_cons,List.flatMap_nil,List.append_nil,List.nil_append] at e3
   have hx:=e2 x (by simp)
   rcases hx.1 with ⟨-,r,-,er,-⟩ | ⟨-,hc,ok⟩
   ·rw [← e3,er] at hl
    exact absurd rfl hl
   ·rw [e3] at hc
    exact ⟨_,e4.symm,hc,ok⟩
end Go.Proofs.YtnbemkiplnanlaaGreatDoor
