/- Plain: what parsing a list of tokens comes to. No program stands here. Plain: the numbers of tokens are in range. What the library's variables must hold: the names of the errors, the powers of ten, MaxLen. The rows' own conditions as facts of the world. -/
import Derived.Test.YtdplcdhpnmcdjaaGreatDoorKLexP
import Derived.Test.YtdplcdhpnmcdjaaGreatDoorKVal
import Derived.Test.YtdplcdhpnmcdjaaGreatDoorKShelf
namespace Go.Proofs.YtdplcdhpnmcdjaaGreatDoor
structure Nd where
 kind:Nat
 vk:Nat
 vn:Int
 vt:List UInt8
 r:R4
 op:Int
 fn:Nat
 n:Nat
def o6 (t:Tk):Nd:=⟨1,if t.kind=2 then 3 else if t.kind=3 then 2 else t.kind,if t.kind=2 then 0 else t.num,if t.kind=2 then t.text else [],R4.zero,0,0,0⟩
def eu (r:R4):Nd:=⟨2,0,0,[],r,0,0,0⟩
def cj (r:R4):Nd:=⟨3,0,0,[],r,0,0,0⟩
def fz:Nd:=⟨4,0,0,[],R4.zero,0,0,0⟩
def dt:Nd:=⟨5,0,0,[],R4.zero,0,0,0⟩
def cN (op:Int):Nd:=⟨6,0,0,[],R4.zero,op,0,0⟩
def da (fn n:Nat):Nd:=⟨7,0,0,[],R4.zero,0,fn,n⟩
def aT (op:Int):Nat :=
 if 7≤op∧op≤12 then 1 else if op=6 then 2 else if op=1∨op=2 then 3 else if op=3∨op=4 then 4 else if op=5 then 6 else if op=13 then 7 else 0
def dx:List (List UInt8):=[[65,66,83],[83,73,71,78],[73,78,84],[84,82,85,78,67],[82,79,85,78,68],[77,79,68],[80,79,87,69,82],[83,81,82,84],[83,85,77],[80,82,79,68,85,67,84],[67,79,85,78,84],[67,79,85,78,84,65],[67,79,85,78,84,66,76,65,78,75],[65,86,69,82,65,71,69],[77,73,78],[77,65,88],[77,69,68,73,65,78],[76,65,82,71,69],[83,77,65,76,76],[73,70],[65,78,68],[79,82],[88,79,82],[78,79,84],[73,70,69,82,82,79,82],[73,83,69,82,82,79,82],[73,83,66,76,65,78,75],[73,83,78,85,77,66,69,82],[73,83,84,69,88,84],[67,72,79,79,83,69],[76,69,78],[76,69,70,84],[82,73,71,72,84],[77,73,68],[85,80,80,69,82],[76,79,87,69,82],[84,82,73,77],[67,79,78,67,65,84],[82,69,80,84],[69,88,65,67,84],[70,73,78,68],[86,65,76,85,69],[73,78,68,69,88],[77,65,84,67,72],[67,79,85,78,84,73,70],[68,83,85,77],[68,67,79,85,78,84],[68,65,86,71],[68,77,73,78],[68,77,65,88]]
def fnS (t:List UInt8):Nat:=match dx.findIdx? (· == t) with
 | some i=>i+1
 | none=>0
def arS (fn:Nat):Nat×Nat :=
 if fn∈[5,6,7,25,39,40,18,19,45,44] then (2,2)
 else if fn∈[20,41,43] then (2,3)
 else if fn∈[32,33] then (1,2)
 else if fn=34 then (3,3)
 else if fn∈[21,22,23,38,9,10,11,12,14,15,16,17] then (1,16)
 else if fn=30 then (2,16)
 else (1,1)
def cE (fn i:Nat):Bool :=
 if (arS fn).2≤i then false
 else if fn∈[9,10,11,12,14,15,16,17] then true
 else if fn=44 then i == 1
 else if fn∈[18,19,45,43,13] then i == 0
 else decide (46≤fn∧fn≤50)
def hdS (e:Nat):List Tk→Tk
 | []=>⟨0,0,[],R4.zero,e⟩
 | t::_=>t
def bO (ts:List Tk) (op:Int):Bool:=match ts with
 | []=>false
 | t::_=>decide (t.kind=8∧t.num=op)
inductive Rs
 | bad (at_:Nat) (e:Int)
 | ok (ts:List Tk) (ns:List Nd) (n:Nat)
def cr:List Tk→List Tk×Nat
 | []=>([],0)
 | t::ts=>if t.kind=8∧t.num=13 then ((cr ts).1,(cr ts).2+1) else (t::ts,0)
inductive Md
 | lv (k:Nat)
 | ops (k:Nat)
 | sg
 | pc
 | pr
 | args (fn i:Nat)
def fe (x:Option Rs) (g:List Tk→Nat→Option Rs):Option Rs:=match x with
 | none=>none
 | some (.bad a c)=>some (.bad a c)
 | some (.ok ts ns n)=>match g ts n with
  | none=>none
  | some (.bad a c)=>some (.bad a c)
  | some (.ok ts' ns' n')=>some (.ok ts' (ns++ns') n')
def dH (e fn at_:Nat) (x:Option Rs):Option Rs:=match x with
 | none=>none
 | some (.bad a c)=>some (.bad a c)
 | some (.ok ts ns n) =>
  if (hdS e ts).kind≠10 then some (.bad (hdS e ts).at_ 4)
  else if n<(arS fn).1∨(arS fn).2<n then some (.bad at_ 11)
  else if 46≤fn∧(ns.getLast?.map (·.kind))≠some 2∧(ns.getLast?.map (·.kind))≠some 3 then some (.bad at_ 4)
  else some (.ok (ts.drop 1) (ns++[da fn n]) n)
def ap (e:Nat):Nat→Md→List Tk→Option Rs
 | 0,_,_=>none
 | f+1,.lv k,ts=>if 5≤k then ap e f .sg ts else fe (ap e f (.lv (k+1)) ts) fun ts _=>ap e f (.ops k) ts
 | _+1,.ops _,[]=>some (.ok [] [] 0)
 | f+1,.ops k,t::ts =>
  if t.kind=8∧aT t.num=k then fe (ap e f (.lv (k+1)) ts) fun ts2 _=>fe (some (.ok ts2 [cN t.num] 0)) fun ts3 _=>ap e f (.ops k) ts3
  else some (.ok (t::ts) [] 0)
 | f+1,.sg,ts =>
  if bO ts 2 then fe (ap e f .sg (ts.drop 1)) fun ts2 _=>some (.ok ts2 [fz] 0)
  else fe (ap e f .pc ts) fun ts2 _ =>
   if bO ts2 5 then fe (ap e f .sg (ts2.drop 1)) fun ts3 _=>some (.ok ts3 [cN 5] 0) else some (.ok ts2 [] 0)
 | f+1,.pc,ts=>fe (ap e f .pr ts) fun ts2 _=>some (.ok (cr ts2).1 (List.replicate (cr ts2).2 dt) 0)
 | _+1,.pr,[]=>some (.bad e 4)
 | f+1,.pr,t::ts =>
  if 1≤t.kind∧t.kind≤4 then some (.ok ts [o6 t] 0)
  else if t.kind=5 then some (.ok ts [eu t.r] 0)
  else if t.kind=9 then fe (ap e f (.lv 1) ts) fun ts2 _=>if (hdS e ts2).kind=10 then some (.ok (ts2.drop 1) [] 0) else some (.bad (hdS e ts2).at_ 4)
  else if t.kind=7 then
   if fnS t.text=0 then some (.bad t.at_ 10)
   else if (hdS e ts).kind≠9 then some (.bad (hdS e ts).at_ 4)
   else dH e (fnS t.text) t.at_ (if (hdS e (ts.drop 1)).kind=10 then some (.ok (ts.drop 1) [] 0) else ap e f (.args (fnS t.text) 0) (ts.drop 1))
  else some (.bad t.at_ 4)
 | f+1,.args fn i,ts =>
  fe (if (hdS e ts).kind≠6 then ap e f (.lv 1) ts else if cE fn i then some (.ok (ts.drop 1) [cj (hdS e ts).r] 0) else some (.bad (hdS e ts).at_ 4)) fun ts2 _ =>
   if (hdS e ts2).kind=11 then ap e f (.args fn (i+1)) (ts2.drop 1) else some (.ok ts2 [] (i+1))
theorem pg:∀ ts:List Tk,(cr ts).1.length≤ts.length
 | []=>Nat.le_refl _
 | t::ts=>by
  rw [cr]
  split
  ·exact Nat.le_trans (pg ts) (by simp)
  exact Nat.le_refl _
theorem seq_ok {x:Option Rs} {g:List Tk→Nat→Option Rs} {ts:List Tk} {ns:List Nd} {n:Nat} (h:fe x g=some (.ok ts ns n)) :
  ∃ ts1 ns1 n1 ns2,x=some (.ok ts1 ns1 n1)∧g ts1 n1=some (.ok ts ns2 n)∧ns=ns1++ns2:=by
 unfold fe at h
 split at h
 ·simp at h
 ·simp at h
 rename_i ts1 ns1 n1
 split at h
 ·simp at h
 ·simp at h
 rename_i ts2 ns2 n2 hg
 simp only [Option.some.injEq,Rs.ok.injEq] at h
 obtain ⟨rfl,rfl,rfl⟩:=h
 exact ⟨ts1,ns1,n1,ns2,rfl,hg,rfl⟩
theorem gM {e fn a:Nat} {x:Option Rs} {ts:List Tk} {ns:List Nd} {n:Nat} (h:dH e fn a x=some (.ok ts ns n)) :
  ∃ ts1 ns1,x=some (.ok ts1 ns1 n)∧(hdS e ts1).kind=10∧ts=ts1.drop 1∧ns=ns1++[da fn n]∧(arS fn).1≤n∧n≤(arS fn).2∧(46≤fn→(ns1.getLast?.map (·.kind))=some 2∨(ns1.getLast?.map (·.kind))=some 3):=by
 unfold dH at h
 split at h
 ·simp at h
 ·simp at h
 rename_i ts1 ns1 n1
 split at h
 ·simp at h
 rename_i h1
 split at h
 ·simp at h
 rename_i h2
 split at h
 ·simp at h
 rename_i h3
 simp only [Option.some.injEq,Rs.ok.injEq] at h
 obtain ⟨rfl,rfl,rfl⟩:=h
 refine ⟨ts1,ns1,rfl,by simpa using h1,rfl,rfl,by omega,by omega,fun h46 => ?_⟩
 by_cases h4:(ns1.getLast?.map (·.kind))=some 2
 ·exact .inl h4
 refine .inr ?_
 by_cases h5:(ns1.getLast?.map (·.kind))=some 3
 ·exact h5
 exact absurd ⟨h46,h4,h5⟩ h3
theorem bI {e:Nat}:∀ (f:Nat) (m:Md) (ts ts':List Tk) (ns:List Nd) (n:Nat),ap e f m ts=some (.ok ts' ns n)→ts'.length≤ts.length
 | 0,_,_,_,_,_,h=>by simp [ap] at h
 | f+1,.lv k,ts,ts',ns,n,h=>by
  rw [ap] at h
  split at h
  ·exact bI f _ _ _ _ _ h
  obtain ⟨t1,_,_,_,h1,h2,_⟩:=seq_ok h
  exact Nat.le_trans (bI f _ _ _ _ _ h2) (bI f _ _ _ _ _ h1)
 | f+1,.ops k,[],ts',ns,n,h=>by
  simp only [ap,Option.some.injEq,Rs.ok.injEq] at h
  obtain ⟨rfl,_,_⟩:=h
  exact Nat.le_refl _
 | f+1,.ops k,t::ts,ts',ns,n,h=>by
  rw [ap] at h
  split at h
  ·obtain ⟨t1,_,_,_,h1,h2,_⟩:=seq_ok h
   obtain ⟨t2,_,_,_,h3,h4,_⟩:=seq_ok h2
   simp only [Option.some.injEq,Rs.ok.injEq] at h3
   obtain ⟨rfl,_,_⟩:=h3
   exact Nat.le_trans (bI f _ _ _ _ _ h4) (Nat.le_trans (bI f _ _ _ _ _ h1) (by simp))
  simp only [Option.some.injEq,Rs.ok.injEq] at h
  obtain ⟨rfl,_,_⟩:=h
  exact Nat.le_refl _
 | f+1,.sg,ts,ts',ns,n,h=>by
  rw [ap] at h
  split at h
  ·obtain ⟨t1,_,_,_,h1,h2,_⟩:=seq_ok h
   simp only [Option.some.injEq,Rs.ok.injEq] at h2
   obtain ⟨rfl,_,_⟩:=h2
   exact Nat.le_trans (bI f _ _ _ _ _ h1) (by simp)
  obtain ⟨t1,_,_,_,h1,h2,_⟩:=seq_ok h
  have h0:=bI f _ _ _ _ _ h1
  split at h2
  ·obtain ⟨t3,_,_,_,h3,h4,_⟩:=seq_ok h2
   simp only [Option.some.injEq,Rs.ok.injEq] at h4
   obtain ⟨rfl,_,_⟩:=h4
   have h5:=bI f _ _ _ _ _ h3
   simp at h5
   omega
  simp only [Option.some.injEq,Rs.ok.injEq] at h2
  obtain ⟨rfl,_,_⟩:=h2
  exact h0
 | f+1,.pc,ts,ts',ns,n,h=>by
  rw [ap] at h
  obtain ⟨t1,_,_,_,h1,h2,_⟩:=seq_ok h
  simp only [Option.some.injEq,Rs.ok.injEq] at h2
  obtain ⟨rfl,_,_⟩:=h2
  exact Nat.le_trans (pg t1) (bI f _ _ _ _ _ h1)
 | f+1,.pr,[],ts',ns,n,h=>by simp [ap] at h
 | f+1,.pr,t::ts,ts',ns,n,h=>by
  rw [ap] at h
  split at h
  ·simp only [Option.some.injEq,Rs.ok.injEq] at h
   obtain ⟨rfl,_,_⟩:=h
   simp
  split at h
  ·simp only [Option.some.injEq,Rs.ok.injEq] at h
   obtain ⟨rfl,_,_⟩:=h
   simp
  split at h
  ·obtain ⟨t1,_,_,_,h1,h2,_⟩:=seq_ok h
   have h0:=bI f _ _ _ _ _ h1
   split at h2
   ·simp only [Option.some.injEq,Rs.ok.injEq] at h2
    obtain ⟨rfl,_,_⟩:=h2
    simp; omega
   simp at h2
  split at h
  ·split at h
   ·simp at h
   split at h
   ·simp at h
   obtain ⟨t1,_,h1,_,rfl,_⟩:=gM h
   split at h1
   ·simp only [Option.some.injEq,Rs.ok.injEq] at h1
    obtain ⟨rfl,_,_⟩:=h1
    simp; omega
   have h0:=bI f _ _ _ _ _ h1
   simp at h0
   simp; omega
  simp at h
 | f+1,.args fn i,ts,ts',ns,n,h=>by
  rw [ap] at h
  obtain ⟨t1,_,_,_,h1,h2,_⟩:=seq_ok h
  have h3:t1.length≤ts.length:=by
   split at h1
   ·exact bI f _ _ _ _ _ h1
   split at h1
   ·simp only [Option.some.injEq,Rs.ok.injEq] at h1
    obtain ⟨rfl,_,_⟩:=h1
    simp
   simp at h1
  split at h2
  ·have h0:=bI f _ _ _ _ _ h2
   simp at h0
   omega
  simp only [Option.some.injEq,Rs.ok.injEq] at h2
  obtain ⟨rfl,_,_⟩:=h2
  exact h3
def bM:Md→Nat
 | .lv k=>11 - k
 | .ops _=>1
 | .sg=>4
 | .pc=>3
 | .pr=>2
 | .args _ _=>11
theorem cW {x:Option Rs} {g:List Tk→Nat→Option Rs} (hx:∃ r,x=some r) (hg:∀ ts ns n,x=some (.ok ts ns n)→∃ r,g ts n=some r):∃ r,fe x g=some r:=by
 obtain ⟨r,rfl⟩:=hx
 unfold fe
 cases r with
 | bad a c=>exact ⟨_,rfl⟩
 | ok ts ns n =>
  obtain ⟨r2,h2⟩:=hg ts ns n rfl
  simp only [h2]
  cases r2 <;> exact ⟨_,rfl⟩
theorem close_some {e fn a:Nat} {x:Option Rs} (hx:∃ r,x=some r):∃ r,dH e fn a x=some r:=by
 obtain ⟨r,rfl⟩:=hx
 unfold dH
 cases r with
 | bad a c=>exact ⟨_,rfl⟩
 | ok ts ns n =>
  simp only []
  split
  ·exact ⟨_,rfl⟩
  split
  ·exact ⟨_,rfl⟩
  split <;> exact ⟨_,rfl⟩
theorem fP {e k:Nat} {ts:List Tk} (h:(hdS e ts).kind=k) (hk:k≠0):(ts.drop 1).length+1=ts.length:=by
 cases ts with
 | nil=>exact absurd h.symm hk
 | cons t ts=>simp
theorem fQ {ts:List Tk} {op:Int} (h:bO ts op=true):(ts.drop 1).length+1=ts.length:=by
 cases ts with
 | nil=>simp [bO] at h
 | cons t ts=>simp
theorem bJ {e:Nat}:∀ (f:Nat) (m:Md) (ts:List Tk),12 * ts.length+bM m≤f→(∀ k,m=.lv k→k≤5)→(∀ k,m=.ops k→k≤4)→∃ r,ap e f m ts=some r
 | 0,m,ts,h,hl,_=>by
  cases m with
  | lv k=>have:=hl k rfl; simp only [bM] at h; omega
  | ops k=>simp only [bM] at h; omega
  | sg=>simp only [bM] at h; omega
  | pc=>simp only [bM] at h; omega
  | pr=>simp only [bM] at h; omega
  | args fn i=>simp only [bM] at h; omega
 | f+1,.lv k,ts,h,hl,_=>by
  have hk:=hl k rfl
  simp only [bM] at h
  rw [ap]
  split
  ·exact bJ f _ _ (by simp only [bM]; omega) (by simp) (by simp)
  refine cW (bJ f _ _ (by simp only [bM]; omega) (by rintro j ⟨⟩; omega) (by simp)) fun ts1 ns n h1 => ?_
  have:=bI f _ _ _ _ _ h1
  exact bJ f _ _ (by simp only [bM]; omega) (by simp) (by rintro j ⟨⟩; omega)
 | f+1,.ops k,[],h,_,_=>⟨_,by rw [ap]⟩
 | f+1,.ops k,t::ts,h,_,hl=>by
  have hk:=hl k rfl
  simp only [bM,List.length_cons] at h
  rw [ap]
  split
  ·refine cW (bJ f _ _ (by simp only [bM]; omega) (by rintro j ⟨⟩; omega) (by simp)) fun ts1 ns n h1 => ?_
   have:=bI f _ _ _ _ _ h1
   refine cW ⟨_,rfl⟩ fun ts2 ns2 n2 h2 => ?_
   simp only [Option.some.injEq,Rs.ok.injEq] at h2
   obtain ⟨rfl,_,_⟩:=h2
   exact bJ f _ _ (by simp only [bM]; omega) (by simp) (by rintro j ⟨⟩; omega)
  exact ⟨_,rfl⟩
 | f+1,.sg,ts,h,_,_=>by
  simp only [bM] at h
  rw [ap]
  split
  ·rename_i ho
   have:=fQ ho
   exact cW (bJ f _ _ (by simp only [bM]; omega) (by simp) (by simp)) fun _ _ _ _=>⟨_,rfl⟩
  refine cW (bJ f _ _ (by simp only [bM]; omega) (by simp) (by simp)) fun ts1 ns n h1 => ?_
  have:=bI f _ _ _ _ _ h1
  split
  ·rename_i ho
   have:=fQ ho
   exact cW (bJ f _ _ (by simp only [bM]; omega) (by simp) (by simp)) fun _ _ _ _=>⟨_,rfl⟩
  exact ⟨_,rfl⟩
 | f+1,.pc,ts,h,_,_=>by
  simp only [bM] at h
  rw [ap]
  exact cW (bJ f _ _ (by simp only [bM]; omega) (by simp) (by simp)) fun _ _ _ _=>⟨_,rfl⟩
 | f+1,.pr,[],h,_,_=>⟨_,by rw [ap]⟩
 | f+1,.pr,t::ts,h,_,_=>by
  simp only [bM,List.length_cons] at h
  rw [ap]
  split
  ·exact ⟨_,rfl⟩
  split
  ·exact ⟨_,rfl⟩
  split
  ·refine cW (bJ f _ _ (by simp only [bM]; omega) (by rintro j ⟨⟩; omega) (by simp)) fun _ _ _ _ => ?_
   split <;> exact ⟨_,rfl⟩
  split
  ·split
   ·exact ⟨_,rfl⟩
   split
   ·exact ⟨_,rfl⟩
   refine close_some ?_
   split
   ·exact ⟨_,rfl⟩
   refine bJ f _ _ ?_ (by simp) (by simp)
   simp only [bM,List.length_drop]
   omega
  exact ⟨_,rfl⟩
 | f+1,.args fn i,ts,h,_,_=>by
  simp only [bM] at h
  rw [ap]
  refine cW ?_ fun ts1 ns n h1 => ?_
  ·split
   ·exact bJ f _ _ (by simp only [bM]; omega) (by rintro j ⟨⟩; omega) (by simp)
   split <;> exact ⟨_,rfl⟩
  have h3:ts1.length≤ts.length:=by
   split at h1
   ·exact bI f _ _ _ _ _ h1
   split at h1
   ·simp only [Option.some.injEq,Rs.ok.injEq] at h1
    obtain ⟨rfl,_,_⟩:=h1
    simp
   simp at h1
  split
  ·rename_i hc
   have:=fP hc (by decide)
   exact bJ f _ _ (by simp only [bM]; omega) (by simp) (by simp)
  exact ⟨_,rfl⟩
section
open Go.RowKit
end
open Go.RowKit
def dm (w:World):Prop:=Words w∧Pow w∧∃ m,w.cell? ⟨1,0,none⟩=some (.int .i64 m)
theorem dm.below {w w':World} (h:dm w) (hb:Below w.heap.size w w'):dm w' :=
 ⟨h.1.below hb,h.2.1.below hb,h.2.2.imp fun _ hm=>bn hb hm⟩
open Go.RowKit Go.Proofs.Tryz
theorem rr {W:World} {l:List (String×DataW Unit)} (h:laidMetH prog l W) (hS:W.ShapedOpen prog)
  (hl : l.filter (fun x => x.1 == "louvre/val.words") = [("louvre/val.words", Rows.laid_louvre_val_words)])
  (hp : l.filter (fun x => x.1 == "internal/strconv.uint64pow10") = [("internal/strconv.uint64pow10", Rows.laid_internal_strconv_uint64pow10)]) : dm W :=
 ⟨sH h hl hS,mH h hp,Tryz.laysM143.s1_3 W hS⟩
