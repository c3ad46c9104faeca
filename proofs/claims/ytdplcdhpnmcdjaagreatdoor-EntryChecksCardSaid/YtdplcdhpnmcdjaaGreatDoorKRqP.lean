/- Plain: what the reference's parser comes to: a fault is kept, and the walk goes on. No program is walked here. -/
import Derived.Test.YtdplcdhpnmcdjaaGreatDoorKEqV
import Derived.Test.YtdplcdhpnmcdjaaGreatDoorKParK
namespace Go.Proofs.YtdplcdhpnmcdjaaGreatDoor
open Go.RowKit
structure Q where
 i:Nat
 ns:List Nd
 a:Int
 c:Int
 n:Nat
def Q.flt (q:Q) (x y:Int):Q:=⟨q.i,q.ns,zw q.c x q.a,zw q.c y q.c,q.n⟩
def Q.inc (q:Q):Q:=⟨q.i+1,q.ns,q.a,q.c,q.n⟩
def Q.put (q:Q) (x:Nd):Q:=⟨q.i,q.ns++[x],q.a,q.c,q.n⟩
def Q.cnt (q:Q) (n:Nat):Q:=⟨q.i,q.ns,q.a,q.c,n⟩
def Q.hd (e:Nat) (all:List Tk) (q:Q):Tk:=hdS e (all.drop q.i)
def Q.want (e:Nat) (all:List Tk) (k:Nat) (q:Q):Q:=if (q.hd e all).kind=k then q.inc else q.flt ((q.hd e all).at_:Int) 4
inductive Mr
 | lv (k:Nat)
 | ops (k:Nat)
 | sg
 | pc
 | pct
 | pr
 | arg (fn i:Nat)
 | args (fn i:Nat)
 | call (t:Tk)
def zH (ns:List Nd):Nat:=(ns.getLast?.map (·.kind)).getD 0
def Q.arity (fn:Nat) (at_:Int) (n:Nat) (q:Q):Q:=if n<(arS fn).1∨(arS fn).2<n then q.flt at_ 11 else q
def Q.area (fn:Nat) (at_:Int) (q:Q):Q:=if 46≤fn∧zH q.ns≠2∧zH q.ns≠3 then q.flt at_ 4 else q
def Q.end2 (fn:Nat) (at_:Int) (n:Nat) (q:Q):Q:=if q.c≠0 then q else (q.area fn at_).put (da fn n)
def Q.close (e:Nat) (all:List Tk) (fn:Nat) (at_:Int) (q:Q):Q :=
 if q.c≠0 then q else ((q.want e all 10).arity fn at_ q.n).end2 fn at_ q.n
def rf (e:Nat) (all:List Tk):Nat→Mr→Q→Q
 | 0,_,q=>q.flt 0 4
 | f+1,.lv k,q=>if 5≤k then rf e all f .sg q else rf e all f (.ops k) (rf e all f (.lv (k+1)) q)
 | f+1,.ops k,q=>if q.c=0∧r7 (q.hd e all) k=true then rf e all f (.ops k) ((rf e all f (.lv (k+1)) q.inc).put (cN (q.hd e all).num)) else q
 | f+1,.sg,q =>
  if (q.hd e all).kind=8∧(q.hd e all).num=2 then (rf e all f .sg q.inc).put fz
  else if (rf e all f .pc q).c=0∧r7 ((rf e all f .pc q).hd e all) 6=true then (rf e all f .sg (rf e all f .pc q).inc).put (cN 5)
  else rf e all f .pc q
 | f+1,.pc,q=>rf e all f .pct (rf e all f .pr q)
 | f+1,.pct,q=>if q.c=0∧r7 (q.hd e all) 7=true then rf e all f .pct (q.inc.put dt) else q
 | f+1,.pr,q =>
  if 1≤(q.hd e all).kind∧(q.hd e all).kind≤4 then q.inc.put (o6 (q.hd e all))
  else if (q.hd e all).kind=5 then q.inc.put (eu (q.hd e all).r)
  else if (q.hd e all).kind=9 then (rf e all f (.lv 1) q.inc).want e all 10
  else if (q.hd e all).kind=7 then rf e all f (.call (q.hd e all)) q.inc
  else q.inc.flt ((q.hd e all).at_:Int) 4
 | f+1,.arg fn i,q =>
  if (q.hd e all).kind≠6 then rf e all f (.lv 1) q
  else if cE fn i=true then q.inc.put (cj (q.hd e all).r)
  else q.flt ((q.hd e all).at_:Int) 4
 | f+1,.args fn i,q =>
  if (rf e all f (.arg fn i) q).c=0∧((rf e all f (.arg fn i) q).hd e all).kind=11 then rf e all f (.args fn (i+1)) (rf e all f (.arg fn i) q).inc
  else (rf e all f (.arg fn i) q).cnt (i+1)
 | f+1,.call t,q =>
  if fnS t.text=0 then q.flt (t.at_:Int) 10
  else if ((q.want e all 9).hd e all).kind=10 then ((q.want e all 9).cnt 0).close e all (fnS t.text) (t.at_:Int)
  else (rf e all f (.args (fnS t.text) 0) (q.want e all 9)).close e all (fnS t.text) (t.at_:Int)
def e6:Mr→Nat
 | .lv k=>11 - k
 | .ops _=>1
 | .sg=>4
 | .pc=>3
 | .pct=>1
 | .pr=>2
 | .arg _ _=>11
 | .args _ _=>12
 | .call _=>13
section
variable {e:Nat} {all:List Tk}
def Kp (q q':Q):Prop:=q.c≠0→q'.c=q.c∧q'.a=q.a
theorem Kp.rfl_ (q:Q):Kp q q:=fun _=>⟨rfl,rfl⟩
theorem Kp.trans {q q1 q2:Q} (h:Kp q q1) (h2:Kp q1 q2):Kp q q2:=fun h0=>by
 obtain ⟨a,b⟩:=h h0
 obtain ⟨c,d⟩:=h2 (by rw [a]; exact h0)
 exact ⟨c.trans a,d.trans b⟩
theorem Kp.inc {q q':Q} (h:Kp q q'):Kp q q'.inc:=h
theorem Kp.put {q q':Q} (h:Kp q q') (x:Nd):Kp q (q'.put x):=h
theorem Kp.cnt {q q':Q} (h:Kp q q') (n:Nat):Kp q (q'.cnt n):=h
theorem Kp.of_inc {q q':Q} (h:Kp q.inc q'):Kp q q':=h
theorem Kp.flt {q q':Q} (h:Kp q q') (x y:Int):Kp q (q'.flt x y):=h.trans fun h0=>⟨by show zw q'.c y q'.c=_; exact if_neg h0,by show zw q'.c x q'.a=_; exact if_neg h0⟩
theorem Kp.want {q q':Q} (h:Kp q q') (k:Nat):Kp q (q'.want e all k):=by
 unfold Q.want
 split
 ·exact h
 exact h.flt _ _
theorem Kp.arity {q q':Q} (h:Kp q q') (fn:Nat) (x:Int) (n:Nat):Kp q (q'.arity fn x n):=by
 unfold Q.arity
 split
 ·exact h.flt _ _
 exact h
theorem Kp.area {q q':Q} (h:Kp q q') (fn:Nat) (x:Int):Kp q (q'.area fn x):=by
 unfold Q.area
 split
 ·exact h.flt _ _
 exact h
theorem Kp.end2 {q q':Q} (h:Kp q q') (fn:Nat) (x:Int) (n:Nat):Kp q (q'.end2 fn x n):=by
 unfold Q.end2
 split
 ·exact h
 exact (h.area fn x).put _
theorem Kp.close {q q':Q} (h:Kp q q') (fn:Nat) (x:Int):Kp q (q'.close e all fn x):=by
 unfold Q.close
 split
 ·exact h
 exact ((h.want 10).arity fn x _).end2 fn x _
theorem zZ {q:Q} {x y:Int} (hy:y≠0):(q.flt x y).c≠0:=by
 show zw q.c y q.c≠0
 unfold zw
 split
 ·exact hy
 assumption
theorem r6 {q:Q} {x y:Int} (h:q.c=0):(q.flt x y).a=x∧(q.flt x y).c=y:=⟨if_pos h,if_pos h⟩
theorem l1:∀ (f:Nat) (m:Mr) (q:Q),Kp q (rf e all f m q)
 | 0,_,q=>by rw [rf]; exact (Kp.rfl_ q).flt _ _
 | f+1,.lv k,q=>by
  rw [rf]
  split
  ·exact l1 f _ q
  exact (l1 f _ q).trans (l1 f _ _)
 | f+1,.ops k,q=>by
  rw [rf]
  split
  ·exact ((Kp.of_inc (l1 f _ q.inc)).put _).trans (l1 f _ _)
  exact Kp.rfl_ q
 | f+1,.sg,q=>by
  rw [rf]
  split
  ·exact (Kp.of_inc (l1 f _ q.inc)).put _
  split
  ·exact ((l1 f _ q).trans (Kp.of_inc (l1 f _ _))).put _
  exact l1 f _ q
 | f+1,.pc,q=>by rw [rf]; exact (l1 f _ q).trans (l1 f _ _)
 | f+1,.pct,q=>by
  rw [rf]
  split
  ·exact Kp.trans ((Kp.rfl_ q).inc.put _) (l1 f _ _)
  exact Kp.rfl_ q
 | f+1,.pr,q=>by
  rw [rf]
  split
  ·exact (Kp.rfl_ q).inc.put _
  split
  ·exact (Kp.rfl_ q).inc.put _
  split
  ·exact (Kp.of_inc (l1 f _ q.inc)).want 10
  split
  ·exact Kp.of_inc (l1 f _ q.inc)
  exact (Kp.rfl_ q).inc.flt _ _
 | f+1,.arg fn i,q=>by
  rw [rf]
  split
  ·exact l1 f _ q
  split
  ·exact (Kp.rfl_ q).inc.put _
  exact (Kp.rfl_ q).flt _ _
 | f+1,.args fn i,q=>by
  rw [rf]
  split
  ·exact (l1 f _ q).trans (Kp.of_inc (l1 f _ _))
  exact (l1 f _ q).cnt _
 | f+1,.call t,q=>by
  rw [rf]
  split
  ·exact (Kp.rfl_ q).flt _ _
  split
  ·exact (((Kp.rfl_ q).want 9).cnt 0).close _ _
  exact (((Kp.rfl_ q).want 9).trans (l1 f _ _)).close _ _
theorem zL {q:Q} (h:(q.hd e all).kind≠0):q.i<all.length:=by
 rcases Nat.lt_or_ge q.i all.length with h9 | h9
 ·exact h9
 unfold Q.hd at h
 rw [List.drop_eq_nil_of_le h9] at h
 exact absurd rfl h
theorem zQ {q:Q} {k:Nat} (h:r7 (q.hd e all) k=true):q.i<all.length:=by
 refine zL (e:=e) ?_
 unfold r7 at h
 simp at h
 omega
def Gd (all:List Tk) (q:Q):Prop:=q.i≤all.length∨(q.i≤all.length+1∧q.c≠0)
def Bd (all:List Tk) (s:Nat) (q q':Q):Prop:=Gd all q'∧q.i≤q'.i∧q'.ns.length+q.i≤q'.i+q.ns.length+s
theorem Bd.flt {s:Nat} {q q':Q} (h:Bd all s q q') (x:Int):Bd all s q (q'.flt x 4):=⟨by
  rcases h.1 with h1 | h1
  ·exact .inl h1
  exact .inr ⟨h1.1,zZ (by decide)⟩,h.2⟩
theorem Bd.flt_any {s:Nat} {q q':Q} (h:Bd all s q q') (x y:Int) (hy:y≠0):Bd all s q (q'.flt x y):=⟨by
  rcases h.1 with h1 | h1
  ·exact .inl h1
  exact .inr ⟨h1.1,zZ hy⟩,h.2⟩
theorem Bd.trans {s t:Nat} {q q1 q2:Q} (h:Bd all s q q1) (g:Bd all t q1 q2):Bd all (s+t) q q2:=by
 obtain ⟨_,a,b⟩:=h
 obtain ⟨c,d,f⟩:=g
 exact ⟨c,by omega,by omega⟩
theorem Bd.cnt {s:Nat} {q q':Q} (h:Bd all s q q') (n:Nat):Bd all s q (q'.cnt n):=h
theorem Bd.put {s:Nat} {q q':Q} (h:Bd all s q q') (x:Nd):Bd all (s+1) q (q'.put x):=by
 obtain ⟨a,b,c⟩:=h
 exact ⟨a,b,by simp only [Q.put,List.length_append,List.length_singleton]; omega⟩
theorem Bd.of_inc {s:Nat} {q q':Q} (h:Bd all (s+1) q.inc q'):Bd all s q q':=by
 obtain ⟨a,b,c⟩:=h
 simp only [Q.inc] at b c
 exact ⟨a,by omega,by omega⟩
theorem Bd.mono {s t:Nat} {q q':Q} (h:Bd all s q q') (hs:s≤t):Bd all t q q':=⟨h.1,h.2.1,by have:=h.2.2; omega⟩
theorem Bd.rfl_ {q:Q} (h:Gd all q):Bd all 0 q q:=⟨h,Nat.le_refl _,by omega⟩
theorem Bd.want {s:Nat} {q q':Q} (h:Bd all s q q') (k:Nat) (hk:k≠0):Bd all s q (q'.want e all k):=by
 unfold Q.want
 split
 ·rename_i h9
  have:=zL (e:=e) (all:=all) (q:=q') (by omega)
  obtain ⟨a,b,c⟩:=h
  exact ⟨.inl this,by simp only [Q.inc]; omega,by simp only [Q.inc]; omega⟩
 exact h.flt _
theorem Bd.arity {s:Nat} {q q':Q} (h:Bd all s q q') (fn:Nat) (x:Int) (n:Nat):Bd all s q (q'.arity fn x n):=by
 unfold Q.arity
 split
 ·exact h.flt_any _ _ (by decide)
 exact h
theorem Bd.area {s:Nat} {q q':Q} (h:Bd all s q q') (fn:Nat) (x:Int):Bd all s q (q'.area fn x):=by
 unfold Q.area
 split
 ·exact h.flt _
 exact h
theorem Bd.end2 {s:Nat} {q q':Q} (h:Bd all s q q') (fn:Nat) (x:Int) (n:Nat):Bd all (s+1) q (q'.end2 fn x n):=by
 unfold Q.end2
 split
 ·exact h.mono (by omega)
 exact (h.area fn x).put _
theorem Bd.close {s:Nat} {q q':Q} (h:Bd all s q q') (fn:Nat) (x:Int):Bd all (s+1) q (q'.close e all fn x):=by
 unfold Q.close
 split
 ·exact h.mono (by omega)
 exact ((h.want 10 (by decide)).arity fn x _).end2 fn x _
theorem Cy {q:Q} {k:Nat} (h:q.i≤all.length) (hk:k≠0):(q.want e all k).i≤all.length:=by
 unfold Q.want
 split
 ·exact zL (e:=e) (by omega)
 exact h
theorem Gd.le {q:Q} (h:Gd all q) (hc:q.c=0):q.i≤all.length:=by
 rcases h with h | h
 ·exact h
 exact absurd hc h.2
def Mr.ent:Mr→Bool
 | .ops _=>false
 | .pct=>false
 | _=>true
def Mr.sl:Mr→Nat
 | .call _=>1
 | _=>0
theorem zy:∀ (f:Nat) (m:Mr) (q:Q),Gd all q→(m.ent=true→q.i≤all.length)→Bd all m.sl q (rf e all f m q)
 | 0,m,q,hg,_=>by rw [rf]; exact ((Bd.rfl_ hg).flt _).mono (Nat.zero_le _)
 | f+1,.lv k,q,hg,he=>by
  have h:=he rfl
  rw [rf]
  split
  ·exact zy f .sg q hg fun _=>h
  have h1:=zy f (.lv (k+1)) q hg fun _=>h
  exact h1.trans (zy f (.ops k) _ h1.1 nofun)
 | f+1,.ops k,q,hg,he=>by
  rw [rf]
  split
  ·rename_i h9
   have hl:=zQ h9.2
   have h1:=zy f (.lv (k+1)) q.inc (.inl hl) fun _=>hl
   have h2:=Bd.of_inc (h1.put (cN (q.hd e all).num))
   exact h2.trans (zy f (.ops k) _ h2.1 nofun)
  exact Bd.rfl_ hg
 | f+1,.sg,q,hg,he=>by
  have h:=he rfl
  rw [rf]
  split
  ·rename_i h9
   have hl:=zL (e:=e) (all:=all) (q:=q) (by omega)
   have h1:=zy f .sg q.inc (.inl hl) fun _=>hl
   exact Bd.of_inc (h1.put fz)
  have h1:=zy f .pc q hg fun _=>h
  split
  ·rename_i h9
   have hl:=zQ h9.2
   have h2:=zy f .sg (rf e all f .pc q).inc (.inl hl) fun _=>hl
   exact h1.trans (Bd.of_inc (h2.put (cN 5)))
  exact h1
 | f+1,.pc,q,hg,he=>by
  rw [rf]
  have h1:=zy f .pr q hg fun _=>he rfl
  exact h1.trans (zy f .pct _ h1.1 nofun)
 | f+1,.pct,q,hg,he=>by
  rw [rf]
  split
  ·rename_i h9
   have hl:=zQ h9.2
   have h1:=Bd.of_inc ((Bd.rfl_ (all:=all) (q:=q.inc) (.inl hl)).put dt)
   exact h1.trans (zy f .pct _ h1.1 nofun)
  exact Bd.rfl_ hg
 | f+1,.pr,q,hg,he=>by
  have h:=he rfl
  rw [rf]
  split
  ·rename_i h9
   have hl:=zL (e:=e) (all:=all) (q:=q) (by omega)
   exact Bd.of_inc ((Bd.rfl_ (all:=all) (q:=q.inc) (.inl hl)).put _)
  split
  ·rename_i h9
   have hl:=zL (e:=e) (all:=all) (q:=q) (by omega)
   exact Bd.of_inc ((Bd.rfl_ (all:=all) (q:=q.inc) (.inl hl)).put _)
  split
  ·rename_i h9
   have hl:=zL (e:=e) (all:=all) (q:=q) (by omega)
   have h1:=zy f (.lv 1) q.inc (.inl hl) fun _=>hl
   exact Bd.of_inc ((h1.want 10 (by decide)).mono (by decide))
  split
  ·rename_i h9
   have hl:=zL (e:=e) (all:=all) (q:=q) (by omega)
   exact Bd.of_inc (zy f (.call (q.hd e all)) q.inc (.inl hl) fun _=>hl)
  exact ⟨.inr ⟨by simp only [Q.inc,Q.flt]; omega,zZ (by decide)⟩,by simp only [Q.inc,Q.flt]; omega,by simp only [Q.inc,Q.flt]; omega⟩
 | f+1,.arg fn i,q,hg,he=>by
  have h:=he rfl
  rw [rf]
  split
  ·exact zy f (.lv 1) q hg fun _=>h
  rename_i h9
  have h8:(q.hd e all).kind=6:=by simpa using h9
  split
  ·have hl:=zL (e:=e) (all:=all) (q:=q) (by omega)
   exact Bd.of_inc ((Bd.rfl_ (all:=all) (q:=q.inc) (.inl hl)).put _)
  exact (Bd.rfl_ hg).flt _
 | f+1,.args fn i,q,hg,he=>by
  rw [rf]
  have h1:=zy f (.arg fn i) q hg fun _=>he rfl
  split
  ·rename_i h9
   have hl:=zL (e:=e) (all:=all) (q:=(rf e all f (.arg fn i) q)) (by omega)
   have h2:=zy f (.args fn (i+1)) (rf e all f (.arg fn i) q).inc (.inl hl) fun _=>hl
   exact h1.trans (Bd.of_inc (s:=0) (h2.mono (Nat.zero_le _)))
  exact h1.cnt _
 | f+1,.call t,q,hg,he=>by
  have h:=he rfl
  rw [rf]
  split
  ·exact ((Bd.rfl_ hg).flt_any _ _ (by decide)).mono (Nat.zero_le _)
  have h1:=(Bd.rfl_ hg).want (e:=e) 9 (by decide)
  have hl:=Cy (e:=e) (q:=q) (k:=9) h (by decide)
  split
  ·exact (h1.cnt 0).close _ _
  exact (h1.trans (zy f (.args (fnS t.text) 0) _ h1.1 fun _=>hl)).close _ _
def Mr.gr:Mr→Nat
 | .ops _=>0
 | .pct=>0
 | _=>1
theorem Ap {q q':Q} (h:Kp q q') (hc:q'.c=0):q.c=0:=by
 rcases Int.decEq q.c 0 with h9 | h9
 ·exact absurd (hc▸(h h9).1).symm h9
 exact h9
theorem Ah (q:Q) (k:Nat):(q.want e all k).ns=q.ns:=by unfold Q.want; split <;> rfl
theorem C1 {q:Q} {k:Nat} (h:(q.want e all k).c=0):q.c=0∧(q.hd e all).kind=k:=by
 refine ⟨Ap ((Kp.rfl_ q).want k) h,?_⟩
 unfold Q.want at h
 split at h
 ·assumption
 exact absurd h (zZ (by decide))
theorem AH {q:Q} {fn:Nat} {x:Int} (h:(q.close e all fn x).c=0):q.ns.length+1≤(q.close e all fn x).ns.length:=by
 unfold Q.close at h ⊢
 split
 ·rename_i h9; rw [if_pos h9] at h; exact absurd h h9
 rename_i h9
 rw [if_neg h9] at h
 unfold Q.end2 at h ⊢
 split
 ·rename_i h8; rw [if_pos h8] at h; exact absurd h h8
 have ha:(((q.want e all 10).arity fn x q.n).area fn x).ns=q.ns:=by
  unfold Q.area Q.arity
  split <;> split <;> first | exact Ah q 10 | (show (q.want e all 10).ns=q.ns; exact Ah q 10)
 simp only [Q.put,ha,List.length_append,List.length_singleton]
 omega
theorem zz:∀ (f:Nat) (m:Mr) (q:Q),(rf e all f m q).c=0→q.ns.length+m.gr≤(rf e all f m q).ns.length
 | 0,m,q,h=>by rw [rf] at h; exact absurd h (zZ (by decide))
 | f+1,.lv k,q,h=>by
  rw [rf] at h ⊢
  split
  ·rename_i h9; rw [if_pos h9] at h; exact zz f .sg q h
  rename_i h9
  rw [if_neg h9] at h
  have h1:=zz f (.lv (k+1)) q (Ap (l1 f _ _) h)
  have h2:=zz f (.ops k) _ h
  simp only [Mr.gr] at h1 h2 ⊢
  omega
 | f+1,.ops k,q,h=>by
  rw [rf] at h ⊢
  split
  ·rename_i h9
   rw [if_pos h9] at h
   have h2:=zz f (.ops k) _ h
   have h1:=zz f (.lv (k+1)) q.inc (Ap (q:=rf e all f (.lv (k+1)) q.inc) (((Kp.rfl_ _).put _).trans (l1 f _ _)) h)
   simp only [Mr.gr,Q.inc,Q.put,List.length_append,List.length_singleton] at h1 h2 ⊢
   omega
  simp [Mr.gr]
 | f+1,.sg,q,h=>by
  rw [rf] at h ⊢
  split
  ·rename_i h9
   rw [if_pos h9] at h
   have h1:=zz f .sg q.inc h
   simp only [Mr.gr,Q.inc,Q.put,List.length_append,List.length_singleton] at h1 ⊢
   omega
  rename_i h9
  rw [if_neg h9] at h
  split
  ·rename_i h8
   rw [if_pos h8] at h
   have h1:=zz f .pc q h8.1
   have h2:=zz f .sg (rf e all f .pc q).inc h
   simp only [Mr.gr,Q.inc,Q.put,List.length_append,List.length_singleton] at h1 h2 ⊢
   omega
  rename_i h8
  rw [if_neg h8] at h
  exact zz f .pc q h
 | f+1,.pc,q,h=>by
  rw [rf] at h ⊢
  have h1:=zz f .pr q (Ap (l1 f _ _) h)
  have h2:=zz f .pct _ h
  simp only [Mr.gr] at h1 h2 ⊢
  omega
 | f+1,.pct,q,h=>by
  rw [rf] at h ⊢
  split
  ·rename_i h9
   rw [if_pos h9] at h
   have h2:=zz f .pct _ h
   simp only [Mr.gr,Q.inc,Q.put,List.length_append,List.length_singleton] at h2 ⊢
   omega
  simp [Mr.gr]
 | f+1,.pr,q,h=>by
  rw [rf] at h ⊢
  split
  ·simp [Mr.gr,Q.inc,Q.put]
  rename_i g1
  rw [if_neg g1] at h
  split
  ·simp [Mr.gr,Q.inc,Q.put]
  rename_i g2
  rw [if_neg g2] at h
  split
  ·rename_i g3
   rw [if_pos g3] at h
   have h1:=zz f (.lv 1) q.inc (C1 h).1
   rw [Ah]
   exact h1
  rename_i g3
  rw [if_neg g3] at h
  split
  ·rename_i g4
   rw [if_pos g4] at h
   exact zz f (.call _) q.inc h
  rename_i g4
  rw [if_neg g4] at h
  exact absurd h (zZ (by decide))
 | f+1,.arg fn i,q,h=>by
  rw [rf] at h ⊢
  split
  ·rename_i g1; rw [if_pos g1] at h; exact zz f (.lv 1) q h
  rename_i g1
  rw [if_neg g1] at h
  split
  ·simp [Mr.gr,Q.inc,Q.put]
  rename_i g2
  rw [if_neg g2] at h
  exact absurd h (zZ (by decide))
 | f+1,.args fn i,q,h=>by
  rw [rf] at h ⊢
  split
  ·rename_i h8
   rw [if_pos h8] at h
   have h1:=zz f (.arg fn i) q h8.1
   have h2:=zz f (.args fn (i+1)) (rf e all f (.arg fn i) q).inc h
   simp only [Mr.gr,Q.inc] at h1 h2 ⊢
   omega
  rename_i h8
  rw [if_neg h8] at h
  exact zz f (.arg fn i) q h
 | f+1,.call t,q,h=>by
  rw [rf] at h ⊢
  split
  ·rename_i g1; rw [if_pos g1] at h; exact absurd h (zZ (by decide))
  rename_i g1
  rw [if_neg g1] at h
  split
  ·rename_i g2
   rw [if_pos g2] at h
   have:=AH h
   have h8:((q.want e all 9).cnt 0).ns=q.ns:=Ah q 9
   rw [h8] at this
   exact this
  rename_i g2
  rw [if_neg g2] at h
  have h1:=AH h
  have h0:(rf e all f (.args (fnS t.text) 0) (q.want e all 9)).c=0:=Ap ((Kp.rfl_ _).close (e:=e) (all:=all) _ _) h
  have h2:=zz f (.args (fnS t.text) 0) _ h0
  rw [Ah] at h2
  simp only [Mr.gr] at h2 ⊢
  omega
end
theorem Cu (e:Nat) (ts:List Tk) (k:Nat) (x:Int) (h:∀ op:Int,aT op=k↔op=x):r7 (hdS e ts) k=bO ts x:=by
 rw [x8 e,r7]
 simp [h]
theorem EL (e:Nat) (ts:List Tk):r7 (hdS e ts) 6=bO ts 5:=by
 refine Cu e ts 6 5 fun op=>⟨fun h9 => ?_,by rintro rfl; decide⟩
 unfold aT at h9
 split at h9 <;> try omega
 split at h9 <;> try omega
 split at h9 <;> try omega
 split at h9 <;> try omega
 split at h9 <;> try omega
 split at h9 <;> omega
theorem EM (e:Nat) (ts:List Tk):r7 (hdS e ts) 7=bO ts 13:=by
 refine Cu e ts 7 13 fun op=>⟨fun h9 => ?_,by rintro rfl; decide⟩
 unfold aT at h9
 split at h9 <;> try omega
 split at h9 <;> try omega
 split at h9 <;> try omega
 split at h9 <;> try omega
 split at h9 <;> try omega
 split at h9 <;> omega
