/- Plain: a formula is parsed, or has its fault at one of its bytes, or at its end. No program stands here. Towards tree.walk: rows of parts, steps, tree.nothing. Plain: values and slices of flat types that were handed in: their cells. No program stands here. The reference's checks of a value, at any value. tree.fields at any node. val.ToText and val.Show at the values of a cell. -/
import Derived.Test.YtdplcdhpnmcdjaaGreatDoorKNdA
import Derived.Test.YtdplcdhpnmcdjaaGreatDoorKEqV
import Derived.IntWalk
import Derived.Deep.Slices
import Derived.ChangeArms
import Derived.Test.YtdplcdhpnmcdjaaGreatDoorKTg
import Derived.Test.YtdplcdhpnmcdjaaGreatDoorKLexG
import Derived.Test.YtdplcdhpnmcdjaaGreatDoorKVal
import Derived.Laws.EntriesVeiled
namespace Go.Proofs.YtdplcdhpnmcdjaaGreatDoor
open Go.RowKit
theorem j3:∀ (f k:Nat) (s:List UInt8) (i:Nat),bV f k s=.error i→k≤i∧i<k+s.length
 | 0,_,_,_,h=>by simp [bV] at h
 | _+1,_,[],_,h=>by simp [bV] at h
 | f+1,k,b::r,i,h=>by
  rw [bV] at h
  split at h
  ·have:=j3 f _ _ _ h
   simp only [List.length_cons]
   omega
  split at h
  ·simp only [Except.error.injEq] at h
   subst h
   simp
  rename_i t n ht
  have hn:=fI ht
  cases hr:bV f (k+n) ((b::r).drop n) with
  | error j =>
   rw [hr] at h
   simp only [Except.map,Except.error.injEq] at h
   subst h
   have:=j3 f _ _ _ hr
   rw [List.length_drop] at this
   omega
  | ok l=>rw [hr] at h; simp [Except.map] at h
theorem lN (L:List UInt8):(∃ a e,aM L=([],a,e)∧e≠0∧0≤a∧a≤L.length)∨∃ ts,aM L=(ts,0,0):=by
 unfold aM
 split
 ·exact .inl ⟨0,5,rfl,by decide,by omega,by omega⟩
 split
 ·rename_i i hf
  have hi:=(List.findIdx?_eq_some_iff_getElem.1 hf).1
  exact .inl ⟨i,4,rfl,by decide,by omega,by omega⟩
 split
 ·exact .inr ⟨_,rfl⟩
 rename_i i ht
 have:=j3 _ _ _ _ ht
 exact .inl ⟨i,4,rfl,by decide,by omega,by omega⟩
theorem o3 {L:List UInt8} {ts us:List Tk} {a:Nat} (h:Lex 0 L ts []) (hl:pC L.length us a) (hs:∀ t∈us,t∈ts):a≤L.length:=by
 rcases hl with rfl | ⟨t,ht,rfl⟩
 ·exact Nat.le_refl _
 obtain ⟨i,hi⟩:=List.getElem?_of_mem (hs t ht)
 exact Nat.le_of_lt (tT h i t hi).1
theorem gu (L:List UInt8):(∃ a e,bo L=([],a,e)∧e≠0∧0≤a∧a≤L.length) ∨
  ∃ ts ns n,bo L=(ns,0,0)∧aM L=(ts,0,0)∧Pk (.lv 1) ts [] ns n∧dp ns=0:=by
 rcases lN L with ⟨a,e,h,he,h1,h2⟩ | ⟨ts,h⟩
 ·exact .inl ⟨a,e,mg h he,he,h1,h2⟩
 obtain ⟨r,hr,hf⟩:=oX h
 obtain ⟨_,h256,hpl,hlex⟩:=fZ h
 rw [hf]
 unfold rS at hr
 cases r with
 | bad a c =>
  obtain ⟨hl,hc⟩:=ck _ _ _ _ _ hr
  refine .inl ⟨a,c,rfl,?_,by omega,?_⟩
  ·rcases hc with rfl | rfl | rfl <;> decide
  have:=o3 hlex hl (fun _ h=>h)
  omega
 | ok u ns n =>
  have hp:=bZ _ _ _ _ _ _ hr
  simp only [kB]
  by_cases hu:hkS u=0
  ·have hu2:u=[]:=Classical.byContradiction fun e=>absurd hu ((rA fun t ht=>fJ h t (hp.sub t ht)).2 e)
   subst hu2
   rw [if_neg (by simp [hkS])]
   by_cases hc:dp ns=0
   ·rw [if_neg (by rw [hc]; decide)]
    exact .inr ⟨ts,ns,n,rfl,h,hp,hc⟩
   rw [if_pos hc]
   exact .inl ⟨0,dp ns,rfl,hc,by omega,by omega⟩
  rw [if_pos hu]
  refine .inl ⟨_,4,rfl,by decide,by omega,?_⟩
  have:=o3 hlex (gT u) hp.sub
  omega
open Go.RowKit Go.Proofs.Tryz
theorem p9:(prog.info? 167).map (fun i=>(i.zero,i.size,i.bytes))=some (some (.agg #[.int .i64 0,.int .i64 0,.bool false]),3,24):=by kernel_rfl
theorem p7:(prog.info? 3).map (fun i=>(i.zero,i.size,i.bytes))=some (some (.int .i64 0),1,8):=by kernel_rfl
theorem mD {w:World} {base:Nat} {e:TypeId} {s n cap g k:Nat} {xs:List Value} (h:w.ownsRow base e s (.slice (some ⟨g,0,none⟩) n cap) n xs) (hk:k≤n):w.ownsRow base e s (.slice (some ⟨g,0,none⟩) k cap) k (xs.take (k * s)):=by
 obtain ⟨hl,h2⟩:=h
 rcases h2 with ⟨h3,_⟩ | ⟨g',cap',cur,h3,h4,h5,h6,h7,h8,h9⟩
 ·cases h3
 simp only [Value.slice.injEq,Option.some.injEq,Addr.mk.injEq,true_and,and_true] at h3
 obtain ⟨rfl,rfl⟩:=h3
 have hks:k * s≤n * s:=Nat.mul_le_mul_right s hk
 refine ⟨by rw [List.length_take,hl]; omega,.inr ⟨g,cap,cur,rfl,h4,h5,by omega,h7,h8,?_⟩⟩
 rw [← h9,List.take_take]
 congr 1
 omega
theorem iQ (l:List Pt):(ak l).length=l.length * 3:=by
 induction l with
 | nil=>rfl
 | cons n l ih=>simp only [ak,List.flatMap_cons,List.length_append,List.length_cons] at ih ⊢; rw [ih]; simp [eB]; omega
theorem gY (l:List Pt) (k:Nat) (h:k≤l.length):(ak l).take (k * 3)=ak (l.take k):=by
 conv=>lhs; rw [← List.take_append_drop k l]
 unfold ak
 rw [List.flatMap_append]
 have h2:=iQ (l.take k)
 unfold ak at h2
 rw [List.length_take,Nat.min_eq_left h] at h2
 rw [← h2,List.take_left]
theorem lE (l:List Pt) (p:Pt):ak (l++[p])=ak l++eB p:=by simp [ak]
theorem nX (l:List Pt) (i:Nat) (p:Pt) (h:l[i]?=some p) (j:Nat) (v:Value) (hj:(eB p)[j]?=some v):(ak l)[i * 3+j]?=some v:=by
 obtain ⟨hi,rfl⟩:=List.getElem?_eq_some_iff.1 h
 have h1:ak l=ak (l.take i)++(eB l[i]++ak (l.drop (i+1))):=by
  have e:l=l.take i++l[i]::l.drop (i+1):=by rw [← List.drop_eq_getElem_cons hi,List.take_append_drop]
  unfold ak
  conv=>lhs; rw [e]
  rw [List.flatMap_append,List.flatMap_cons]
 have h2:=iQ (l.take i)
 rw [List.length_take,Nat.min_eq_left (by omega)] at h2
 have hj3:j<3:=by
  have:=(List.getElem?_eq_some_iff.1 hj).1
  simpa [eB] using this
 rw [h1,List.getElem?_append_right (by omega),h2,Nat.add_sub_cancel_left,List.getElem?_append_left (by simpa [eB] using hj3)]
 exact hj
def vK (sv:Value) (n:Nat):Prop:=(sv=.slice none 0 0∧n=0)∨∃ g cap,sv=.slice (some ⟨g,0,none⟩) n cap∧0<n∧n≤cap∧cap≤maxLen
def Wlk (t:List Nd) (i:Nat) (st:List Pt):Prop:=dT t 0 t []=dT t i (t.drop i) st∧∀ p∈st,p.root<i∧p.depth≤32
theorem Wlk.bad {t:List Nd} {i:Nat} {st:List Pt} {e:Int} (h:Wlk t i st) (hi:i<t.length) (hs:stepW t st i t[i]=.error e):kV t=e:=by
 obtain ⟨h1,_⟩:=h
 unfold kV
 rw [h1,List.drop_eq_getElem_cons hi,dT,hs]
theorem Wlk.next {t:List Nd} {i:Nat} {st st2:List Pt} (h:Wlk t i st) (hi:i<t.length) (hs:stepW t st i t[i]=.ok st2):Wlk t (i+1) st2:=by
 obtain ⟨h1,h2⟩:=h
 refine ⟨by rw [h1,List.drop_eq_getElem_cons hi,dT,hs],?_⟩
 unfold stepW at hs
 split at hs
 ·cases hs
 split at hs
 ·cases hs
 split at hs
 ·cases hs
 rename_i h32
 cases hs
 intro p hp
 rcases List.mem_append.1 hp with hp | hp
 ·have:=h2 p (List.mem_of_mem_take hp)
  omega
 simp at hp
 subst hp
 exact ⟨by simp,by simp only []; omega⟩
theorem kO {w:World} {base g m cap:Nat} {st:List Pt} (h:w.ownsRow base 167 3 (.slice (some ⟨g,0,none⟩) m cap) m (ak st)) (d:Nat):bi w (some ⟨g,d * 3,none⟩) 3 ((st.drop d).map eB):=by
 intro _
 have hc:=@World.ownsRow.cells _ _ _ _ _ _ _ h
 refine ⟨g,d * 3,rfl,(h.lt g rfl).2,fun i r hi j v hj => ?_⟩
 rw [List.getElem?_map,List.getElem?_drop] at hi
 cases hp:st[d+i]? with
 | none=>rw [hp] at hi; simp at hi
 | some p =>
  rw [hp] at hi
  simp at hi
  subst hi
  have h9:=hc rfl ((d+i) * 3+j) v (nX st (d+i) p hp j v hj)
  rw [show (⟨g,0,none⟩:Addr).add ((d+i) * 3+j)=⟨g,d * 3+(i * 3+j),none⟩ by unfold Addr.add; split <;> simp_all <;> omega] at h9
  exact h9
theorem mR (w:World) (a:Option Addr) (s:Nat):bi w a s (([]:List Pt).map eB):=fun h=>absurd rfl h
theorem lu {n:Nd} (h:aL n) (h7:n.kind=7):1≤n.fn∧n.fn≤50:=by
 rcases h with ⟨vk,vn,vt,rfl,hv⟩ | ⟨r,rfl,_⟩ | ⟨r,rfl,_⟩ | rfl | rfl | ⟨op,rfl,_⟩ | ⟨fn,k,rfl,h1,h2,_⟩
 ·simp at h7
 ·simp [eu] at h7
 ·simp [cj] at h7
 ·simp [fz] at h7
 ·simp [dt] at h7
 ·simp [cN] at h7
 exact ⟨h1,h2⟩
section
variable {t:List Nd} {st:List Pt} {i k d:Nat} {n:Nd}
theorem jY (hk:aw n=k) (h:st.length<k):stepW t st i n=.error 4:=by unfold stepW; rw [hk,if_pos h]
theorem gE (hk:aw n=k) (h:¬ st.length<k) (hd:st.length - k=d) (hf:ek t n 0 (st.drop d)=false):stepW t st i n=.error 4:=by unfold stepW; rw [hk,if_neg h,hd,if_pos hf]
theorem iA (hk:aw n=k) (h:¬ st.length<k) (hd:st.length - k=d) (hf:ek t n 0 (st.drop d)=true) (h32:32<bu (st.drop d)):stepW t st i n=.error 9:=by
 unfold stepW; rw [hk,if_neg h,hd,if_neg (by rw [hf]; decide),if_pos h32]
theorem step_ok (hk:aw n=k) (h:¬ st.length<k) (hd:st.length - k=d) (hf:ek t n 0 (st.drop d)=true) (h32:¬ 32<bu (st.drop d)):stepW t st i n=.ok (st.take d++[⟨i,bu (st.drop d),decide (n.kind=3)⟩]):=by
 unfold stepW; rw [hk,if_neg h,hd,if_neg (by rw [hf]; decide),if_neg h32]
end
theorem ot {w:World} {base g n cap:Nat} {e:TypeId} {xs:List Value} (h:w.ownsRow base e 3 (.slice (some ⟨g,0,none⟩) n cap) n xs) (hn:0<n):vK (.slice (some ⟨g,0,none⟩) n cap) n:=by
 rcases h.2 with ⟨h3,_⟩ | ⟨g',cap',cur,h3,h4,h5,h6,h7,h8,h9⟩
 ·cases h3
 simp only [Value.slice.injEq,Option.some.injEq,Addr.mk.injEq,true_and,and_true] at h3
 have hcap:cap'=cap:=h3.2.symm
 refine Or.inr (Exists.intro g (Exists.intro cap (And.intro rfl (And.intro hn (And.intro ?_ ?_)))))
 ·rw [← hcap]; exact h6
 rw [← hcap]; exact h7
theorem yP (x:Nat):((x:Int) == 3)=decide (x=3):=by rw [Bool.eq_iff_iff]; simp; omega
theorem jZ {w0 w:World} {ps:List aS} {g cap d:Nat} {xs:List Value} {l:List Pt} {p:Pt} (h:an w0 ps 167 3 (.slice (some ⟨g,0,none⟩) (d+1) cap) (d+1) xs w) (hl:l.length=d):vK (.slice (some ⟨g,0,none⟩) (d+1) cap) (l++[p]).length:=by
 rw [List.length_append,hl]
 exact ot h.own (by simp)
theorem pS (l:List Pt) (p:Pt):bu (l++[p])=max (bu l) (p.depth+1):=by simp [bu]
theorem lQ (i d:Int) (v:Value) (w:World) :
  Calls prog 48 #[.int .i64 i,v,.int .i64 d] w fun e w'=>e=.returned (.tuple #[])∧w'=w:=by
 go_enter func48,ntmps48
 go_wp2_with fail
 first
  | go_end0
  | refine bodyPost_ret (results_none rfl _ _ _) rfl ?_
 exact ⟨rfl,rfl⟩
open Go.RowKit
inductive Lf
 | int (k:IntKind)
 | str
 | bool
def Lf.ok:Lf→Value→Prop
 | .int k,v=>∃ n,v=.int k n∧(Lit.int k n).wf=true
 | .str,v=>∃ s:ByteArray,v=.string s∧s.size≤maxLen
 | .bool,v=>∃ b,v=.bool b
def OkL:List Lf→List Value→Prop
 | [],[]=>True
 | l::ls,v::vs=>l.ok v∧OkL ls vs
 | _,_=>False
theorem OkL.app:∀ {a b:List Lf} {u v:List Value},OkL a u→OkL b v→OkL (a++b) (u++v)
 | [],_,[],_,_,h=>h
 | _::_,_,_::_,_,⟨h1,h2⟩,h=>⟨h1,OkL.app h2 h⟩
theorem OkL.len:∀ {a:List Lf} {u:List Value},OkL a u→u.length=a.length
 | [],[],_=>rfl
 | _::_,_::_,⟨_,h⟩=>by rw [List.length_cons,List.length_cons,OkL.len h]
def uZ:Nat→List (Field×List Lf)→Prop
 | _,[]=>True
 | n,p::ps=>p.1.offset=n∧uZ (n+p.2.length) ps
inductive Flat (P:Program):TypeId→List Lf→Prop
 | int {t:TypeId} {k:IntKind} (h:P.underlying t=some (.int k)):Flat P t [.int k]
 | str {t:TypeId} (h:P.underlying t=some .string):Flat P t [.str]
 | bool {t:TypeId} (h:P.underlying t=some .bool):Flat P t [.bool]
 | struct {t : TypeId} {fs : Array Field} (ps : List (Field × List Lf)) (h : P.underlying t = some (.struct fs)) (hp : ps.map (·.1) = fs.toList) (ho : uZ 0 ps) (hf : ∀ p ∈ ps,Flat P p.1.type p.2) (hc : ∀ p ∈ ps,P.cellsOf p.1.type = p.2.length)
   (hn:P.cellsOf t=(ps.flatMap (·.2)).length):Flat P t (ps.flatMap (·.2))
def qT (P:Program):List Field→List (List Lf)→Prop
 | [],[]=>True
 | f::fs,l::ls=>(Flat P f.type l∧P.cellsOf f.type=l.length)∧qT P fs ls
 | _,_=>False
theorem qT.zip {P:Program}:∀ {fs:List Field} {ls:List (List Lf)},qT P fs ls→(fs.zip ls).map (·.1)=fs∧(∀ p∈fs.zip ls,Flat P p.1.type p.2∧P.cellsOf p.1.type=p.2.length)∧(fs.zip ls).flatMap (·.2)=ls.flatten
 | [],[],_=>⟨rfl,(fun p hp=>by cases hp),rfl⟩
 | f::fs,l::ls,⟨h1,h2⟩=>by
  obtain ⟨a,b,c⟩:=qT.zip h2
  refine ⟨by rw [List.zip_cons_cons,List.map_cons,a],fun p hp => ?_,by rw [List.zip_cons_cons,List.flatMap_cons,c,List.flatten_cons]⟩
  rw [List.zip_cons_cons] at hp
  rcases List.mem_cons.1 hp with rfl | hp
  ·exact h1
  exact b p hp
theorem ma {P:Program} {t:TypeId} {fs:Array Field} (ls:List (List Lf)) (h:P.underlying t=some (.struct fs)) (hall:qT P fs.toList ls) (ho:uZ 0 (fs.toList.zip ls)) (hn:P.cellsOf t=ls.flatten.length):Flat P t ls.flatten:=by
 obtain ⟨a,b,c⟩:=hall.zip
 have:=Flat.struct (fs.toList.zip ls) h a ho (fun p hp=>(b p hp).1) (fun p hp=>(b p hp).2) (by rw [c]; exact hn)
 rwa [c] at this
theorem p5 {H:Type} {enc:TypeId×Value→H} {P:Program} {w:World} {base:Nat} {spare:Nat→Bool} {held:Bool} {t:TypeId} {ls:List Lf} (h:Flat P t ls):∀ {fuel:Nat} {cs:List Value} {x:DataW H×List MemPlace},DataW.trod enc P w base spare held fuel t cs=some x→OkL ls cs:=by
 induction h with
 | int h =>
  intro fuel cs x hx
  obtain ⟨n,rfl,-,hw⟩:=DataW.trod_int h hx
  exact ⟨⟨n,rfl,hw⟩,trivial⟩
 | str h =>
  intro fuel cs x hx
  obtain ⟨s,rfl,-,hw⟩:=DataW.trod_string h hx
  exact ⟨⟨s,rfl,hw⟩,trivial⟩
 | bool h =>
  intro fuel cs x hx
  obtain ⟨b,rfl,-⟩:=DataW.trod_bool h hx
  exact ⟨⟨b,rfl⟩,trivial⟩
 | @struct t fs ps h hp ho hf hc hn ih =>
  intro fuel cs x hx
  obtain ⟨xs,k,-,-,hlen,hxl,hfs⟩:=DataW.trod_struct h hx
  have hfs2:∀ (i:Nat) (p:Field×List Lf),ps[i]?=some p→∃ y,DataW.trod enc P w base spare held k p.1.type ((cs.drop p.1.offset).take p.2.length)=some y:=by
   intro i p hi
   have h1:fs[i]?=some p.1:=by
    have:(ps.map (·.1))[i]?=some p.1:=by rw [List.getElem?_map,hi]; rfl
    rw [hp] at this
    simpa using this
   have h2:=hfs i p.1 h1
   rw [hc p (List.mem_of_getElem? hi)] at h2
   have h3:i<xs.length:=by
    rw [hxl]
    exact (Array.getElem?_eq_some_iff.1 h1).1
   exact ⟨_,h2.trans (List.getElem?_eq_getElem h3)⟩
  have key:∀ (qs:List (Field×List Lf)) (n:Nat),(∀ p∈qs,p∈ps)→uZ n qs→(cs.drop n).length=(qs.flatMap (·.2)).length→OkL (qs.flatMap (·.2)) (cs.drop n):=by
   intro qs
   induction qs with
   | nil =>
    intro n _ _ hl
    have:cs.drop n=[]:=List.length_eq_zero_iff.1 hl
    rw [this]; trivial
   | cons p qs ihq =>
    intro n hm ho hl
    obtain ⟨h1,h2⟩:=ho
    have hpm:=hm p (by simp)
    obtain ⟨i,hi⟩:=List.getElem?_of_mem hpm
    obtain ⟨y,hy⟩:=hfs2 i p hi
    rw [h1] at hy
    have e1:=ih p hpm hy
    rw [List.flatMap_cons,List.length_append] at hl
    have e2:=ihq (n+p.2.length) (fun q hq=>hm q (by simp [hq])) h2 (by rw [List.length_drop] at hl ⊢; omega)
    rw [List.flatMap_cons]
    have e3:cs.drop n=(cs.drop n).take p.2.length++cs.drop (n+p.2.length):=by
     rw [← List.drop_drop,List.take_append_drop]
    rw [e3]
    exact e1.app e2
  have:=key ps 0 (fun _ h=>h) ho (by rw [List.drop_zero,hlen,hn])
  rwa [List.drop_zero] at this
theorem CZ {w:World} {a:Addr} {v:Value} (h:w.cell? (a.add 0)=some v):a.spot=none:=by
 have hs:=World.cell?_spot h
 obtain ⟨b,o,sp⟩:=a
 simpa [Addr.add] using hs
theorem Co {H:Type} {enc:TypeId×Value→H} {P:Program} {w:World} {base:Nat} {spare:Nat→Bool} {held:Bool} {fuel:Nat} {t e:TypeId} {ls:List Lf} (ht:P.underlying t=some (.slice e)) (he:Flat P e ls) (hc:P.cellsOf e=ls.length) (hpos:0<ls.length) {A:Option Addr} {n c:Nat} {x:DataW H×List MemPlace}
  (h:DataW.trod enc P w base spare held fuel t (Value.slice A n c).cells.toList=some x):∃ rows:List (List Value),rows.length=n∧bi w A ls.length rows∧(∀ r∈rows,OkL ls r)∧n≤c∧c≤maxLen:=by
 rcases Go.Deep.open_slice ht h with ⟨hcs,-⟩ | ⟨a,len,cap,m,k,D,Pl,hcs,hb,hl,hcm,hm,-,hi⟩
 ·simp [Value.cells] at hcs
  obtain ⟨rfl,rfl,rfl⟩:=hcs
  exact ⟨[],rfl,fun h=>absurd rfl h,fun r hr=>(by cases hr),Nat.le_refl _,(by decide:0≤maxLen)⟩
 simp [Value.cells] at hcs
 obtain ⟨rfl,rfl,rfl⟩:=hcs
 rw [hc] at hi
 have hex:∃ f:Nat→List Value,∀ i,i<n→OkL ls (f i)∧∀ j v,(f i)[j]?=some v→w.cell? (a.add (i * ls.length+j))=some v:=by
  refine ⟨fun i=>if hin:i<n then (hi i (by rw [hm]; split <;> omega)).choose else [],fun i hin => ?_⟩
  simp only [dif_pos hin]
  have hsp:=(hi i (by rw [hm]; split <;> omega)).choose_spec
  generalize (hi i (by rw [hm]; split <;> omega)).choose=cs at hsp
  obtain ⟨h1,h2⟩:=hsp
  obtain ⟨-,hlen,hat⟩:=World.cells?_some h1
  refine ⟨p5 he h2,fun j v hj => ?_⟩
  have hjl:j<ls.length:=by rw [← hlen]; exact (List.getElem?_eq_some_iff.1 hj).1
  rw [← add_add,hat j hjl]
  exact hj
 obtain ⟨f,hf⟩:=hex
 refine ⟨(List.range n).map f,by simp,fun hne => ?_,fun r hr => ?_,by omega,hcm⟩
 ·have hn:0<n:=by
   rcases Nat.eq_zero_or_pos n with rfl | h0
   ·simp at hne
   exact h0
  obtain ⟨h1,h2⟩:=hf 0 hn
  have h3:0<(f 0).length:=by rw [h1.len]; exact hpos
  have h4:=h2 0 _ (List.getElem?_eq_getElem h3)
  have hb:=World.block_lt_of_cell? w _ h4
  rw [block_add] at hb
  rw [Nat.zero_mul,Nat.zero_add] at h4
  have hsp:=CZ h4
  obtain ⟨b,o,sp⟩:=a
  have hsp:sp=none:=hsp
  subst hsp
  refine ⟨b,o,rfl,hb,fun i r hir j v hj => ?_⟩
  obtain ⟨hil,rfl⟩:=List.getElem?_eq_some_iff.1 hir
  rw [List.length_map,List.length_range] at hil
  rw [List.getElem_map,List.getElem_range] at hj
  have h9:=(hf i hil).2 j v hj
  rwa [show (⟨b,o,none⟩:Addr).add (i * ls.length+j)=⟨b,o+(i * ls.length+j),none⟩ by unfold Addr.add; split <;> simp_all] at h9
 obtain ⟨i,hir,rfl⟩:=List.mem_map.1 hr
 exact (hf i (List.mem_range.1 hir)).1
attribute [local go_sem high] ju tC
set_option maxRecDepth 100000
set_option maxHeartbeats 4000000
open Go.RowKit Go.Proofs.Tryz
attribute [local go_sem high] ju
def bnd (f:Nat) (v:Value):Value:=.func (.func f) #[v] #[]
theorem dR:prog.underlying 153=some (.map 5 154):=by kernel_rfl
theorem dQ:prog.underlying 5=some (.int .u8):=by kernel_rfl
theorem cS (dn fn:Nat) (Es:Array MapEntry) (k:Nat) (n:Int) (s:ByteArray) (bv:Value) (r0 r1:Int) (r2:ByteArray) (HD:ao (∀ w,Calls prog dn #[.agg #[.int .u8 (k:Nat),.int .i64 n,.string s]] w fun e w'=>∃ r,e=.returned (.map (some r))∧w'.heap[r]?=some (.map Es 5)∧Below w.heap.size w w'))
  (HL:ao (MapKept.IsKey (.int .u8) (.int .u8 (k:Nat))∧∃ i,Instr.findNow (.int .u8) (.int .u8 (k:Nat)) Es.toList 0=some (some (i,.func (.func fn) #[bv] #[]))))
  (HF:ao (∀ w,Calls prog fn #[bv] w fun e w'=>e=.returned (.agg #[.int .u8 r0,.int .i64 r1,.string r2])∧Below w.heap.size w w')) (hegdn:∀ args w,(callFunc dn args).run prog w=.ok (.enter dn args) w) (hegfn:∀ args w,(callFunc fn args).run prog w=.ok (.enter fn args) w) (HSZ:Hid (s.size≤4611686018427387904)) (hv:bm k n s.data.toList=0) (w:World) :
  Calls prog 125 #[.agg #[.int .u8 (k:Nat),.int .i64 n,.string s],.func (.func dn) #[] #[]] w fun e w'=>e=.returned (.agg #[.int .u8 r0,.int .i64 r1,.string r2])∧Below w.heap.size w w':=by
 have HVE:=keep hv
 clear hv
 have H1:=Lib.hid (((Ok.start w).alloc w.heap.size 35 [.int .u8 (k:Nat),.int .i64 n,.string s] rfl).var (w.heap.size+1) 35 [.int .u8 0,.int .i64 0,.string ⟨#[]⟩] (by simp))
 go_enter func125,ntmps125
 go_upto_region 1 with fail
 generalize ((w.alloc (.cells #[.int .u8 (k:Nat),.int .i64 n,.string s] 35)).alloc (.cells #[.int .u8 0,.int .i64 0,.string ⟨#[]⟩] 35))=W2 at H1 ⊢
 refine wp_region_held_drew (S:=fun W=>Ok w [af (w.heap.size+1) 35 [.int .u8 0,.int .i64 0,.string ⟨#[]⟩],ac (w.heap.size) 35 [.int .u8 (k:Nat),.int .i64 n,.string s]] W) (by kernel_rfl) H1.out.drew (fun hHeld => ?_)
 have H3:=Lib.hid H1.out.drew
 clear H1
 generalize W2.drew=W4 at hHeld H3 ⊢
 refine wt3 0 ?_
 refine wt3 1 ?_
 refine wt3 3 ?_
 refine wt3 4 ?_
 refine wal 2 fun K hK => ?_
 go_simp
 refine (HD.out _).mono ?_
 rintro e w5 ⟨r,rfl,hr,hb6⟩
 go_wp2_with fail
 have H7:=Lib.hid (H3.out.below hb6)
 clear hb6 H3
 obtain ⟨hkey,i,hfind⟩:=HL.out
 have hlk:=look_ok _ _ _ _ dR dQ hr _ _ hkey hfind
 clear hkey hfind
 have HR:=keep hr
 clear hr
 refine hK.out _ _ (H7.out) (fun hHeld => ?_)
 clear hK K
 refine wn ?_
 refine wal 5 fun K hK => ?_
 go_simp
 go_wp2_with fail
 clear hlk HR
 refine hK.out _ _ (H7.out) (fun hHeld => ?_)
 clear hK K
 refine wn ?_
 refine wt3 6 ?_
 refine wt3 7 ?_
 refine wt3 8 ?_
 refine wt3 9 ?_
 refine wt3 10 ?_
 refine wpAnyH_done (by kernel_rfl) ?_ _
 clear hHeld
 have F8:=sE H7
 go_wp2_with fail
 refine cM (aY k n s HSZ.out _) H7 fun w9 H11=>?_
 rw [HVE.out]
 clear F8 H7
 have F12:=sE H11
 go_wp2_with fail
 refine cM (HF.out _) H11 fun w13 H15=>?_
 clear F12 H11
 have F16:=sE H15
 go_wp2_with fail
 have hfar:∀ x∈[ac (w.heap.size) 35 [.int .u8 (k:Nat),.int .i64 n,.string s]],x.far (some (w.heap.size+1)):=by
  intro x hx
  rw [List.mem_singleton] at hx
  subst hx
  show some w.heap.size≠some (w.heap.size+1)
  simp
 have HE:=Lib.hid (((H15.out.set_ (i:=0) (u:=.int .u8 r0) (by omega) hfar).set_ (i:=1) (u:=.int .i64 r1) (by omega) hfar).set_ (i:=2) (u:=.string r2) (by omega) hfar)
 have F9:=HE.out.sees
 simp only [sees,af,ac,aa,Nat.reduceAdd,List.set_cons_succ,List.set_cons_zero] at F9
 obtain ⟨⟨⟨y0,g0⟩,q0,q1,q2,-⟩,-⟩:=F9
 exact bodyPost_ret (v:=.agg #[.int .u8 r0,.int .i64 r1,.string r2]) (by simp [results,results125,go_sem,q0,q1,q2]) rfl ⟨rfl,HE.out.bel⟩
