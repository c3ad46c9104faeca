/- Plain: the reference's parser comes to what parsing comes to. No program is walked here. -/
import Derived.Test.YtdplcdhpnmcdjaaGreatDoorKRqP
import Derived.Test.YtdplcdhpnmcdjaaGreatDoorKParF
namespace Go.Proofs.YtdplcdhpnmcdjaaGreatDoor
open Go.RowKit
def emb:Md→Mr
 | .lv k=>.lv k
 | .ops k=>.ops k
 | .sg=>.sg
 | .pc=>.pc
 | .pr=>.pr
 | .args fn i=>.args fn i
def Agr (all:List Tk) (m:Md) (q:Q) (r:Rs) (q':Q):Prop:=match r with
 | .bad a c=>q'.a=(a:Int)∧q'.c=c∧c≠0
 | .ok ts ns n=>q'.c=0∧q'.a=0∧ts=all.drop q'.i∧q'.ns=q.ns++ns∧(∀ fn i,m=.args fn i→q'.n=n)
section
variable {e:Nat} {all:List Tk}
theorem Agr.md {m m2:Md} {q q':Q} {r:Rs} (h:Agr all m q r q') (hm:∀ fn i,m2≠.args fn i):Agr all m2 q r q':=by
 cases r with
 | bad a c=>exact h
 | ok ts ns n=>exact ⟨h.1,h.2.1,h.2.2.1,h.2.2.2.1,fun fn i h9=>absurd h9 (hm fn i)⟩
theorem Agr.kept {m m2:Md} {q p q1 q2:Q} {a:Nat} {c:Int} (h:Agr all m q (.bad a c) q1) (hk:Kp q1 q2):Agr all m2 p (.bad a c) q2:=by
 obtain ⟨h1,h2,h3⟩:=h
 obtain ⟨h4,h5⟩:=hk (by rw [h2]; exact h3)
 exact ⟨h5.trans h1,h4.trans h2,h3⟩
theorem Agr.add {m m1 m2:Md} {q q1 q2:Q} {ts1:List Tk} {ns1:List Nd} {n1:Nat} {r2:Rs} (h:Agr all m1 q (.ok ts1 ns1 n1) q1) (g:Agr all m2 q1 r2 q2) (hm:∀ fn i,m=.args fn i→∃ fn' i',m2=.args fn' i'):Agr all m q (cB ns1 r2) q2:=by
 cases r2 with
 | bad a c=>exact g
 | ok ts ns n =>
  refine ⟨g.1,g.2.1,g.2.2.1,?_,fun fn i h9 => ?_⟩
  ·rw [g.2.2.2.1,h.2.2.2.1,List.append_assoc]
  obtain ⟨fn',i',h8⟩:=hm fn i h9
  exact g.2.2.2.2 fn' i' h8
theorem DF:∀ (f:Nat) (q:Q),q.c=0→q.i≤all.length→12 * (all.length - q.i)+1≤f →
  (rf e all f .pct q).c=0∧(rf e all f .pct q).a=q.a∧(cr (all.drop q.i)).1=all.drop (rf e all f .pct q).i∧(rf e all f .pct q).ns=q.ns++List.replicate (cr (all.drop q.i)).2 dt
 | 0,q,_,_,h=>by omega
 | f+1,q,hc,hi,hf=>by
  rw [rf]
  have hb:r7 (q.hd e all) 7=bO (all.drop q.i) 13:=EM e _
  cases ho:bO (all.drop q.i) 13 with
  | false =>
   rw [if_neg (by rw [hb,ho]; simp),xa ho]
   exact ⟨hc,rfl,rfl,by simp⟩
  | true =>
   have hl:q.i<all.length:=zQ (e:=e) (q:=q) (hb.trans ho)
   rw [if_pos ⟨hc,hb.trans ho⟩,vd ho,List.drop_drop]
   obtain ⟨h1,h2,h3,h4⟩:=DF f (q.inc.put dt) hc hl (by show 12 * (all.length - (q.i+1))+1≤f; omega)
   refine ⟨h1,h2,h3,?_⟩
   rw [h4]
   show q.ns++[dt]++_=q.ns++List.replicate ((cr (all.drop (q.i+1))).2+1) dt
   rw [List.replicate_succ,List.append_assoc]
   rfl
theorem CJ {a b:List Nd} (h:b≠[]):zH (a++b)=zH b:=by
 unfold zH
 rw [List.getLast?_append]
 cases b with
 | nil=>exact absurd rfl h
 | cons x b=>simp [List.getLast?_cons]
theorem AZ {fn at_:Nat} {q0 q:Q} {ts:List Tk} {ns:List Nd} {n:Nat} {r:Rs} (hc:q.c=0) (ha:q.a=0) (ht:ts=all.drop q.i) (hns:q.ns=q0.ns++ns) (hn:q.n=n) (hne:n=0∨ns≠[])
  (h:dH e fn at_ (some (.ok ts ns n))=some r):Agr all .pr q0 r (q.close e all fn (at_:Int)):=by
 unfold dH at h
 simp only at h
 unfold Q.close
 rw [if_neg (by simp [hc])]
 have hhd:q.hd e all=hdS e ts:=by rw [ht]; rfl
 have hfin:∀ (p:Q) (x y:Int),p.c=y→p.a=x→y≠0→(p.end2 fn (at_:Int) q.n).c=y∧(p.end2 fn (at_:Int) q.n).a=x:=by
  intro p x y h1 h2 h3
  unfold Q.end2
  rw [if_pos (by rw [h1]; exact h3)]
  exact ⟨h1,h2⟩
 by_cases hk:(hdS e ts).kind=10
 ·rw [if_neg (by simp [hk])] at h
  have hw:q.want e all 10=q.inc:=if_pos (by rw [hhd]; exact hk)
  rw [hw]
  by_cases hr:n<(arS fn).1∨(arS fn).2<n
  ·rw [if_pos hr] at h
   cases h
   have ha2:q.inc.arity fn (at_:Int) q.n=q.inc.flt (at_:Int) 11:=if_pos (by rw [hn]; exact hr)
   rw [ha2]
   obtain ⟨h1,h2⟩:=hfin (q.inc.flt (at_:Int) 11) (at_:Int) 11 (r6 (q:=q.inc) hc).2 (r6 (q:=q.inc) hc).1 (by decide)
   exact ⟨h2,h1,by decide⟩
  rw [if_neg hr] at h
  have ha2:q.inc.arity fn (at_:Int) q.n=q.inc:=if_neg (by rw [hn]; exact hr)
  rw [ha2]
  unfold Q.end2
  rw [if_neg (by simp [Q.inc,hc])]
  have hne2:ns≠[]:=by
   rcases hne with h9 | h9
   ·have:=qV fn
    omega
   exact h9
  have hlk:zH q.inc.ns=zH ns:=by
   show zH q.ns=_
   rw [hns]
   exact CJ (a:=q0.ns) hne2
  have hmap:ns.getLast?.map (·.kind)=some (zH ns):=by
   unfold zH
   cases ns with
   | nil=>exact absurd rfl hne2
   | cons x b=>simp [List.getLast?_cons]
  rw [hmap] at h
  simp only [ne_eq,Option.some.injEq] at h
  by_cases h46:46≤fn∧¬ zH ns=2∧¬ zH ns=3
  ·rw [if_pos h46] at h
   cases h
   have ha3:q.inc.area fn (at_:Int)=q.inc.flt (at_:Int) 4:=if_pos (by rw [hlk]; exact h46)
   rw [ha3]
   exact ⟨(r6 (q:=q.inc) (x:=(at_:Int)) (y:=4) hc).1,(r6 (q:=q.inc) (x:=(at_:Int)) (y:=4) hc).2,by decide⟩
  rw [if_neg h46] at h
  cases h
  have ha3:q.inc.area fn (at_:Int)=q.inc:=if_neg (by rw [hlk]; exact h46)
  rw [ha3]
  refine ⟨hc,ha,?_,?_,nofun⟩
  ·rw [ht,List.drop_drop]
   rfl
  show q.ns++[_]=_
  rw [hns,hn,List.append_assoc]
 rw [if_pos (by simpa using hk)] at h
 cases h
 have hw:q.want e all 10=q.flt ((q.hd e all).at_:Int) 4:=if_neg (by rw [hhd]; exact hk)
 rw [hw,hhd]
 obtain ⟨h1,h2⟩:=((Kp.rfl_ (q.flt ((hdS e ts).at_:Int) 4)).arity fn (at_:Int) q.n) (zZ (by decide))
 obtain ⟨h3,h4⟩:=hfin _ ((hdS e ts).at_:Int) 4 (h1.trans (r6 hc).2) (h2.trans (r6 hc).1) (by decide)
 exact ⟨h4,h3,by decide⟩
def Pr (e:Nat) (all:List Tk) (f:Nat):Prop:=∀ (m:Md) (q:Q) (g:Nat) (r:Rs),q.c=0→q.a=0→q.i≤all.length→12 * (all.length - q.i)+e6 (emb m)≤f→(∀ k,m=.lv k→k≤5)→(∀ k,m=.ops k→k≤4)→ap e g m (all.drop q.i)=some r→Agr all m q r (rf e all f (emb m) q)
theorem A5 {i:Nat} {t:Tk} {ts:List Tk} (h:all.drop i=t::ts):ts=all.drop (i+1)∧i<all.length:=by
 refine ⟨?_,?_⟩
 ·have:=congrArg (List.drop 1) h
  rw [List.drop_drop] at this
  exact this.symm
 rcases Nat.lt_or_ge i all.length with h9 | h9
 ·exact h9
 rw [List.drop_eq_nil_of_le h9] at h
 cases h
theorem EN {f g k:Nat} (IH:Pr e all f) {q:Q} {r:Rs} (hc:q.c=0) (ha:q.a=0) (hi:q.i≤all.length) (hn:12 * (all.length - q.i)+(11 - k)≤f+1) (hk5:k≤5) (hp:ap e (g+1) (.lv k) (all.drop q.i)=some r):Agr all (.lv k) q r (rf e all (f+1) (.lv k) q):=by
 rw [ap] at hp
 rw [rf]
 by_cases h5:5≤k
 ·rw [if_pos h5] at hp ⊢
  exact (IH .sg q g r hc ha hi (by simp only [emb,e6]; omega) nofun nofun hp).md nofun
 rw [if_neg h5] at hp ⊢
 have hb:=zy f (e:=e) (.lv (k+1)) q (.inl hi) fun _=>hi
 rcases ce hp with ⟨a,c,h1,rfl⟩ | ⟨ts1,ns1,n1,r2,h1,h2,rfl⟩
 ·have A:=IH (.lv (k+1)) q g _ hc ha hi (by simp only [emb,e6]; omega) (by rintro j ⟨⟩; omega) nofun h1
  simp only [emb] at A
  exact A.kept (l1 f _ _)
 have A:=IH (.lv (k+1)) q g _ hc ha hi (by simp only [emb,e6]; omega) (by rintro j ⟨⟩; omega) nofun h1
 simp only [emb] at A
 obtain ⟨_,hb2,_⟩:=hb
 have B:=IH (.ops k) (rf e all f (.lv (k+1)) q) g r2 A.1 A.2.1 (Gd.le (by assumption) A.1) (by simp only [emb,e6]; omega) nofun (by rintro j ⟨⟩; omega) (by rw [← A.2.2.1]; exact h2)
 simp only [emb] at B
 exact A.add B nofun
theorem Ew {f g k:Nat} (IH:Pr e all f) {q:Q} {r:Rs} (hc:q.c=0) (ha:q.a=0) (hn:12 * (all.length - q.i)+1≤f+1) (hk4:k≤4) (hp:ap e (g+1) (.ops k) (all.drop q.i)=some r):Agr all (.ops k) q r (rf e all (f+1) (.ops k) q):=by
 rw [rf]
 cases hts:all.drop q.i with
 | nil =>
  rw [hts,ap] at hp
  have hb:r7 (q.hd e all) k=false:=by unfold Q.hd; rw [hts]; simp [hdS,r7]
  rw [if_neg (by simp [hb])]
  cases hp
  exact ⟨hc,ha,hts.symm,by simp,nofun⟩
 | cons t ts =>
  rw [hts,ap] at hp
  have hhd:q.hd e all=t:=by unfold Q.hd; rw [hts]; rfl
  obtain ⟨hd1,hl⟩:=A5 hts
  rw [hhd]
  by_cases h8:t.kind=8∧aT t.num=k
  ·rw [if_pos h8] at hp
   rw [if_pos ⟨hc,by simp [r7,h8]⟩]
   have hb:=zy f (e:=e) (.lv (k+1)) q.inc (.inl hl) fun _=>hl
   have hfu:12 * (all.length - q.inc.i)+e6 (emb (.lv (k+1)))≤f:=by simp only [emb,e6,Q.inc]; omega
   rcases ce hp with ⟨a,c,h1,rfl⟩ | ⟨ts1,ns1,n1,r2,h1,h2,rfl⟩
   ·rw [hd1] at h1
    have A:=IH (.lv (k+1)) q.inc g _ hc ha hl hfu (by rintro j ⟨⟩; omega) nofun h1
    simp only [emb] at A
    exact A.kept (((Kp.rfl_ _).put _).trans (l1 f _ _))
   rw [hd1] at h1
   have A:=IH (.lv (k+1)) q.inc g _ hc ha hl hfu (by rintro j ⟨⟩; omega) nofun h1
   simp only [emb] at A
   rcases ce h2 with ⟨a,c,h3,_⟩ | ⟨ts3,ns3,n3,r3,h3,h4,rfl⟩
   ·cases h3
   cases h3
   have A2:Agr all (.ops k) q (.ok ts1 (ns1++[cN t.num]) 0) ((rf e all f (.lv (k+1)) q.inc).put (cN t.num)):=⟨A.1,A.2.1,A.2.2.1,by show _++[_]=_; rw [A.2.2.2.1,List.append_assoc]; rfl,nofun⟩
   have hb2:=hb.2.1
   have B:=IH (.ops k) ((rf e all f (.lv (k+1)) q.inc).put (cN t.num)) g r3 A2.1 A2.2.1 (Gd.le hb.1 A.1) (by simp only [emb,e6,Q.put,Q.inc] at hb2 ⊢; omega) nofun (by rintro j ⟨⟩; omega) (by rw [← A2.2.2.1]; exact h4)
   simp only [emb] at B
   rw [ef]
   exact A2.add B nofun
  rw [if_neg h8] at hp
  cases hp
  rw [if_neg (fun h9=>h8 (by simpa [r7] using h9.2))]
  exact ⟨hc,ha,hts.symm,by simp,nofun⟩
theorem EQ {f g:Nat} (IH:Pr e all f) {q:Q} {r:Rs} (hc:q.c=0) (ha:q.a=0) (hi:q.i≤all.length) (hn:12 * (all.length - q.i)+4≤f+1) (hp:ap e (g+1) .sg (all.drop q.i)=some r):Agr all .sg q r (rf e all (f+1) .sg q):=by
 rw [ap] at hp
 rw [rf]
 by_cases hm:(q.hd e all).kind=8∧(q.hd e all).num=2
 ·have hm2:bO (all.drop q.i) 2=true:=by rw [x8 e]; simpa [Q.hd] using hm
  have hl:=zL (e:=e) (all:=all) (q:=q) (by omega)
  have hfu:12 * (all.length - q.inc.i)+e6 (emb .sg)≤f:=by simp only [emb,e6,Q.inc]; omega
  rw [if_pos hm2,List.drop_drop] at hp
  rw [if_pos hm]
  rcases ce hp with ⟨a,c,h1,rfl⟩ | ⟨ts1,ns1,n1,r2,h1,h2,rfl⟩
  ·have A:=IH .sg q.inc g _ hc ha hl hfu nofun nofun h1
   simp only [emb] at A
   exact A
  have A:=IH .sg q.inc g _ hc ha hl hfu nofun nofun h1
  simp only [emb] at A
  cases h2
  exact ⟨A.1,A.2.1,A.2.2.1,by show _++[_]=_; rw [A.2.2.2.1,List.append_assoc]; rfl,nofun⟩
 have hm2:¬ bO (all.drop q.i) 2=true:=by rw [x8 e]; simpa [Q.hd] using hm
 rw [if_neg hm2] at hp
 rw [if_neg hm]
 have hb:=zy f (e:=e) .pc q (.inl hi) fun _=>hi
 rcases ce hp with ⟨a,c,h1,rfl⟩ | ⟨ts1,ns1,n1,r2,h1,h2,rfl⟩
 ·have A:=IH .pc q g _ hc ha hi (by simp only [emb,e6]; omega) nofun nofun h1
  simp only [emb] at A
  rw [if_neg (fun h9=>A.2.2 (A.2.1.symm.trans h9.1))]
  exact A
 have A:=IH .pc q g _ hc ha hi (by simp only [emb,e6]; omega) nofun nofun h1
 simp only [emb] at A
 have hb6:r7 ((rf e all f .pc q).hd e all) 6=bO ts1 5:=by unfold Q.hd; rw [EL,← A.2.2.1]
 cases h5:bO ts1 5 with
 | false =>
  rw [if_neg (by rw [hb6,h5]; simp)]
  simp only [h5,Bool.false_eq_true,↓reduceIte] at h2
  cases h2
  exact ⟨A.1,A.2.1,A.2.2.1,by rw [List.append_nil]; exact A.2.2.2.1,nofun⟩
 | true =>
  rw [if_pos ⟨A.1,hb6.trans h5⟩]
  have hl:=zQ (hb6.trans h5)
  have hb2:=hb.2.1
  simp only [h5,↓reduceIte] at h2
  rw [A.2.2.1,List.drop_drop] at h2
  have hfu:12 * (all.length - (rf e all f .pc q).inc.i)+e6 (emb .sg)≤f:=by simp only [emb,e6,Q.inc]; omega
  rcases ce h2 with ⟨a,c,h3,rfl⟩ | ⟨ts3,ns3,n3,r3,h3,h4,rfl⟩
  ·have B:=IH .sg (rf e all f .pc q).inc g _ A.1 A.2.1 hl hfu nofun nofun h3
   simp only [emb] at B
   exact B
  have B:=IH .sg (rf e all f .pc q).inc g _ A.1 A.2.1 hl hfu nofun nofun h3
  simp only [emb] at B
  cases h4
  refine ⟨B.1,B.2.1,B.2.2.1,?_,nofun⟩
  show _++[_]=_
  rw [B.2.2.2.1]
  show (rf e all f .pc q).ns++ns3++[_]=_
  rw [A.2.2.2.1]
  simp only [List.append_assoc]
theorem EO {f g:Nat} (IH:Pr e all f) {q:Q} {r:Rs} (hc:q.c=0) (ha:q.a=0) (hi:q.i≤all.length) (hn:12 * (all.length - q.i)+3≤f+1) (hp:ap e (g+1) .pc (all.drop q.i)=some r):Agr all .pc q r (rf e all (f+1) .pc q):=by
 rw [ap] at hp
 rw [rf]
 have hb:=zy f (e:=e) .pr q (.inl hi) fun _=>hi
 rcases ce hp with ⟨a,c,h1,rfl⟩ | ⟨ts1,ns1,n1,r2,h1,h2,rfl⟩
 ·have A:=IH .pr q g _ hc ha hi (by simp only [emb,e6]; omega) nofun nofun h1
  simp only [emb] at A
  exact A.kept (l1 f _ _)
 have A:=IH .pr q g _ hc ha hi (by simp only [emb,e6]; omega) nofun nofun h1
 simp only [emb] at A
 have hb2:=hb.2.1
 obtain ⟨g1,g2,g3,g4⟩:=DF (e:=e) f (rf e all f .pr q) A.1 (Gd.le hb.1 A.1) (by omega)
 rw [← A.2.2.1] at g3 g4
 cases h2
 exact ⟨g1,g2.trans A.2.1,g3,by rw [g4,A.2.2.2.1,List.append_assoc],nofun⟩
theorem Eb {f g fn i:Nat} (IH:∀ f',f'≤f→Pr e all f') {q:Q} {r:Rs} (hc:q.c=0) (ha:q.a=0) (hi:q.i≤all.length) (hn:12 * (all.length - q.i)+12≤f+1) (hp:ap e (g+1) (.args fn i) (all.drop q.i)=some r):Agr all (.args fn i) q r (rf e all (f+1) (.args fn i) q):=by
 rw [ap] at hp
 rw [rf]
 have hb:=zy f (e:=e) (.arg fn i) q (.inl hi) fun _=>hi
 have hX:∀ r1,(if (hdS e (all.drop q.i)).kind≠6 then ap e g (.lv 1) (all.drop q.i) else if cE fn i then some (.ok ((all.drop q.i).drop 1) [cj (hdS e (all.drop q.i)).r] 0) else some (.bad (hdS e (all.drop q.i)).at_ 4))=some r1→Agr all .sg q r1 (rf e all f (.arg fn i) q):=by
  intro r1 h
  obtain ⟨f',rfl⟩:∃ f',f=f'+1:=⟨f - 1,by omega⟩
  rw [rf]
  have hh:q.hd e all=hdS e (all.drop q.i):=rfl
  rw [hh]
  split at h
  ·rename_i h6
   rw [if_pos h6]
   exact (IH f' (by omega) (.lv 1) q g r1 hc ha hi (by simp only [emb,e6]; omega) (by rintro j ⟨⟩; omega) nofun h).md nofun
  rename_i h6
  rw [if_neg h6]
  split at h
  ·rename_i hw
   rw [if_pos hw]
   cases h
   exact ⟨hc,ha,by rw [List.drop_drop]; rfl,rfl,nofun⟩
  rename_i hw
  rw [if_neg hw]
  cases h
  exact ⟨(r6 hc).1,(r6 hc).2,by decide⟩
 rcases ce hp with ⟨a,c,h1,rfl⟩ | ⟨ts1,ns1,n1,r2,h1,h2,rfl⟩
 ·have A:=hX _ h1
  rw [if_neg (fun h9=>A.2.2 (A.2.1.symm.trans h9.1))]
  exact A
 have A:=hX _ h1
 have hh:(rf e all f (.arg fn i) q).hd e all=hdS e ts1:=by rw [A.2.2.1]; rfl
 have hb2:=hb.2.1
 by_cases h11:(hdS e ts1).kind=11
 ·rw [if_pos h11] at h2
  rw [if_pos ⟨A.1,by rw [hh]; exact h11⟩]
  have hl:=zL (e:=e) (all:=all) (q:=rf e all f (.arg fn i) q) (by rw [hh]; omega)
  rw [A.2.2.1,List.drop_drop] at h2
  have B:=IH f (Nat.le_refl _) (.args fn (i+1)) (rf e all f (.arg fn i) q).inc g r2 A.1 A.2.1 hl (by simp only [emb,e6,Q.inc]; omega) nofun nofun h2
  simp only [emb] at B
  refine Agr.add (q1:=(rf e all f (.arg fn i) q).inc) (m1:=.sg) (ts1:=all.drop ((rf e all f (.arg fn i) q).i+1)) (n1:=0) ⟨A.1,A.2.1,rfl,A.2.2.2.1,nofun⟩ B fun fn' i' _=>⟨_,_,rfl⟩
 rw [if_neg h11] at h2
 rw [if_neg (fun h9=>h11 (by rw [← hh]; exact h9.2))]
 cases h2
 exact ⟨A.1,A.2.1,A.2.2.1,by rw [List.append_nil]; exact A.2.2.2.1,fun _ _ _=>rfl⟩
theorem EP {f g:Nat} (IH:∀ f',f'≤f→Pr e all f') {q:Q} {r:Rs} (hc:q.c=0) (ha:q.a=0) (_hi:q.i≤all.length) (hn:12 * (all.length - q.i)+2≤f+1) (hp:ap e (g+1) .pr (all.drop q.i)=some r):Agr all .pr q r (rf e all (f+1) .pr q):=by
 rw [rf]
 cases hts:all.drop q.i with
 | nil =>
  rw [hts,ap] at hp
  have hhd:q.hd e all=⟨0,0,[],R4.zero,e⟩:=by unfold Q.hd; rw [hts]; rfl
  rw [hhd,if_neg (by simp),if_neg (by simp),if_neg (by simp),if_neg (by simp)]
  cases hp
  exact ⟨(r6 (q:=q.inc) hc).1,(r6 (q:=q.inc) hc).2,by decide⟩
 | cons t ts =>
  rw [hts,ap] at hp
  have hhd:q.hd e all=t:=by unfold Q.hd; rw [hts]; rfl
  obtain ⟨hd1,hl⟩:=A5 hts
  rw [hhd]
  by_cases g1:1≤t.kind∧t.kind≤4
  ·rw [if_pos g1] at hp ⊢
   cases hp
   exact ⟨hc,ha,hd1,rfl,nofun⟩
  rw [if_neg g1] at hp ⊢
  by_cases g2:t.kind=5
  ·rw [if_pos g2] at hp ⊢
   cases hp
   exact ⟨hc,ha,hd1,rfl,nofun⟩
  rw [if_neg g2] at hp ⊢
  by_cases g3:t.kind=9
  ·rw [if_pos g3] at hp ⊢
   have hfu:12 * (all.length - q.inc.i)+e6 (emb (.lv 1))≤f:=by simp only [emb,e6,Q.inc]; omega
   rw [hd1] at hp
   rcases ce hp with ⟨a,c,h1,rfl⟩ | ⟨ts1,ns1,n1,r2,h1,h2,rfl⟩
   ·have A:=IH f (Nat.le_refl _) (.lv 1) q.inc g _ hc ha hl hfu (by rintro j ⟨⟩; omega) nofun h1
    simp only [emb] at A
    exact A.kept ((Kp.rfl_ _).want 10)
   have A:=IH f (Nat.le_refl _) (.lv 1) q.inc g _ hc ha hl hfu (by rintro j ⟨⟩; omega) nofun h1
   simp only [emb] at A
   have hh:(rf e all f (.lv 1) q.inc).hd e all=hdS e ts1:=by rw [A.2.2.1]; rfl
   have A1:(rf e all f (.lv 1) q.inc).c=0:=A.1
   have A2:(rf e all f (.lv 1) q.inc).a=0:=A.2.1
   have A3:(rf e all f (.lv 1) q.inc).ns=q.ns++ns1:=A.2.2.2.1
   have A4:ts1=all.drop (rf e all f (.lv 1) q.inc).i:=A.2.2.1
   clear A
   by_cases hk:(hdS e ts1).kind=10
   ·rw [if_pos hk] at h2
    have hw:(rf e all f (.lv 1) q.inc).want e all 10=(rf e all f (.lv 1) q.inc).inc:=if_pos (by rw [hh]; exact hk)
    rw [hw]
    cases h2
    exact ⟨A1,A2,by rw [A4,List.drop_drop]; rfl,by rw [List.append_nil]; exact A3,nofun⟩
   rw [if_neg hk] at h2
   have hw:(rf e all f (.lv 1) q.inc).want e all 10=(rf e all f (.lv 1) q.inc).flt ((hdS e ts1).at_:Int) 4:=by rw [← hh]; exact if_neg (by rw [hh]; exact hk)
   rw [hw]
   cases h2
   exact ⟨(r6 A1).1,(r6 A1).2,by decide⟩
  rw [if_neg g3] at hp ⊢
  by_cases g4:t.kind=7
  ·rw [if_pos g4] at hp ⊢
   obtain ⟨f',rfl⟩:∃ f',f=f'+1:=⟨f - 1,by omega⟩
   rw [rf]
   by_cases g5:fnS t.text=0
   ·rw [if_pos g5] at hp ⊢
    cases hp
    exact ⟨(r6 (q:=q.inc) hc).1,(r6 (q:=q.inc) hc).2,by decide⟩
   rw [if_neg g5] at hp ⊢
   have hh:q.inc.hd e all=hdS e ts:=by rw [hd1]; rfl
   by_cases g6:(hdS e ts).kind=9
   ·rw [if_neg (by simp [g6])] at hp
    have hw:q.inc.want e all 9=q.inc.inc:=if_pos (by rw [hh]; exact g6)
    rw [hw]
    have hl2:=zL (e:=e) (all:=all) (q:=q.inc) (by rw [hh]; omega)
    have hd2:ts.drop 1=all.drop q.inc.inc.i:=by rw [hd1,List.drop_drop]; rfl
    have hh2:q.inc.inc.hd e all=hdS e (ts.drop 1):=by rw [hd2]; rfl
    rw [hh2]
    by_cases g7:(hdS e (ts.drop 1)).kind=10
    ·rw [if_pos g7] at hp ⊢
     exact AZ (q0:=q) (q:=q.inc.inc.cnt 0) hc ha hd2 (by simp [Q.cnt,Q.inc]) rfl (.inl rfl) hp
    rw [if_neg g7] at hp ⊢
    have hfu:12 * (all.length - q.inc.inc.i)+e6 (emb (.args (fnS t.text) 0))≤f':=by simp only [emb,e6,Q.inc]; omega
    cases hx:ap e g (.args (fnS t.text) 0) (ts.drop 1) with
    | none=>rw [hx] at hp; simp [dH] at hp
    | some rx =>
     rw [hx] at hp
     rw [hd2] at hx
     have A:=IH f' (by omega) (.args (fnS t.text) 0) q.inc.inc g rx hc ha hl2 hfu nofun nofun hx
     simp only [emb] at A
     cases rx with
     | bad a c =>
      simp only [dH] at hp
      cases hp
      exact A.kept ((Kp.rfl_ _).close _ _)
     | ok ts1 ns1 n1 =>
      have hgr:=zz f' (.args (fnS t.text) 0) q.inc.inc A.1
      have A3:(rf e all f' (.args (fnS t.text) 0) q.inc.inc).ns=q.ns++ns1:=A.2.2.2.1
      refine AZ (q0:=q) (q:=rf e all f' (.args (fnS t.text) 0) q.inc.inc) A.1 A.2.1 A.2.2.1 A3 (A.2.2.2.2 _ _ rfl) (.inr ?_) hp
      rintro rfl
      rw [A3] at hgr
      simp [Mr.gr,Q.inc] at hgr
      omega
   rw [if_pos (by simpa using g6)] at hp
   cases hp
   have hw:q.inc.want e all 9=q.inc.flt ((hdS e ts).at_:Int) 4:=by rw [← hh]; exact if_neg (by rw [hh]; exact g6)
   rw [hw]
   have A:Agr all .pr q (.bad (hdS e ts).at_ 4) (q.inc.flt ((hdS e ts).at_:Int) 4):=⟨(r6 (q:=q.inc) hc).1,(r6 (q:=q.inc) hc).2,by decide⟩
   split
   ·exact A.kept (((Kp.rfl_ _).cnt 0).close _ _)
   exact A.kept ((l1 f' _ _).close _ _)
  rw [if_neg g4] at hp ⊢
  cases hp
  exact ⟨(r6 (q:=q.inc) hc).1,(r6 (q:=q.inc) hc).2,by decide⟩
theorem EF:∀ N f:Nat,f≤N→Pr e all f:=by
 intro N
 induction N with
 | zero =>
  intro f hf m q g r _ _ _ hn hk5 _ _
  cases m with
  | lv k=>have:=hk5 k rfl; simp only [emb,e6] at hn; omega
  | ops k=>simp only [emb,e6] at hn; omega
  | sg=>simp only [emb,e6] at hn; omega
  | pc=>simp only [emb,e6] at hn; omega
  | pr=>simp only [emb,e6] at hn; omega
  | args fn i=>simp only [emb,e6] at hn; omega
 | succ N ih =>
  intro f hf m q g r hc ha hi hn hk5 hk4 hp
  cases g with
  | zero=>simp [ap] at hp
  | succ g =>
   cases f with
   | zero=>exact ih 0 (Nat.zero_le _) m q _ r hc ha hi hn hk5 hk4 hp
   | succ f =>
    have IH:∀ f',f'≤f→Pr e all f':=fun f' h'=>ih f' (by omega)
    cases m with
    | lv k=>exact EN (IH f (Nat.le_refl _)) hc ha hi hn (hk5 k rfl) hp
    | ops k=>exact Ew (IH f (Nat.le_refl _)) hc ha hn (hk4 k rfl) hp
    | sg=>exact EQ (IH f (Nat.le_refl _)) hc ha hi hn hp
    | pc=>exact EO (IH f (Nat.le_refl _)) hc ha hi hn hp
    | pr=>exact EP IH hc ha hi hn hp
    | args fn i=>exact Eb IH hc ha hi hn hp
theorem EC {m:Nat} (hf:12 * all.length+10≤m) {r:Rs} (hp:ap e m (.lv 1) all=some r):Agr all (.lv 1) ⟨0,[],0,0,0⟩ r (rf e all m (.lv 1) ⟨0,[],0,0,0⟩) :=
 EF m m (Nat.le_refl _) (.lv 1) ⟨0,[],0,0,0⟩ m r rfl rfl (Nat.zero_le _) (by simpa [emb,e6] using hf) (by rintro j ⟨⟩; omega) nofun (by simpa using hp)
end
