/- Plain: what the tokens of a formula are, and that a token depends on its own bytes and the one behind them alone. Plain: a token depends on its own bytes and the one behind them alone. Plain: the tokens of a beginning, of the rest, and of a formula with a blank more. Plain: how tokens are written, and that every token of a formula can be written. -/
import Derived.Test.YtdplcdhpnmcdjaaGreatDoorKAddrP
namespace Go.Proofs.YtdplcdhpnmcdjaaGreatDoor
section
open Go.RowKit
structure Tk where
 kind:Nat
 num:Int
 text:List UInt8
 r:R4
 at_:Nat
def au (b:UInt8):Bool:=ar b || ah b
def cz (l:List UInt8):Nat:=l.foldl (fun n b=>10 * n+(b.toNat - 48)) 0
def bw:List UInt8→List UInt8
 | []=>[]
 | b::r=>if b=46 then r.takeWhile ah else []
def cA (w p:List UInt8):Nat:=cz (w++p++List.replicate (4 - p.length) 48)
def e8 (l:List UInt8):Option (Int×Nat) :=
 let w:=l.takeWhile ah
 let p:=bw (l.dropWhile ah)
 if w=[]∨4<p.length∨9223372036854775807<cA w p then none
 else some ((cA w p:Int),w.length+if p=[] then 0 else p.length+1)
def aP:List UInt8→Option (List UInt8×Nat)
 | []=>none
 | [b]=>if b=34 then some ([],1) else none
 | b::c::r=>if b=34 then (if c=34 then (aP r).map fun x=>(34::x.1,x.2+2) else some ([],1)) else (aP (c::r)).map fun x=>(b::x.1,x.2+1)
def fi (l:List UInt8):Option (Int×Int×Nat) :=
 let w:=l.takeWhile au
 let p:=aJ (w.map upB)
 if l.head?.any ar∧p.2.2=0∧(l.dropWhile au).head?≠some 40 then some (p.1,p.2.1,w.length) else none
def fD (a b:Int×Int):R4:=⟨min a.1 b.1,min a.2 b.2,max a.1 b.1,max a.2 b.2⟩
def cH:List UInt8→Option (Int×Int×Nat)
 | []=>none
 | b::r=>if b=58 then fi r else none
def c6:List UInt8:=[84,82,85,69]
def cf:List UInt8:=[70,65,76,83,69]
def bU (l:List UInt8) (at_:Nat):Option (Tk×Nat) :=
 let w:=l.takeWhile au
 let u:=w.map upB
 let d:=l.dropWhile au
 if d.head?=some 40 then some (⟨7,0,u,R4.zero,at_⟩,w.length)
 else if u=c6 then some (⟨3,1,[],R4.zero,at_⟩,w.length)
 else if u=cf then some (⟨3,0,[],R4.zero,at_⟩,w.length)
 else if (aJ u).2.2≠0 then none
 else match cH d with
  | none=>some (⟨5,0,[],fD ((aJ u).1,(aJ u).2.1) ((aJ u).1,(aJ u).2.1),at_⟩,w.length)
  | some (c,r,n)=>some (⟨if (aJ u).1=c∧(aJ u).2.1=r then 5 else 6,0,[],fD ((aJ u).1,(aJ u).2.1) (c,r),at_⟩,w.length+1+n)
def bj:List (List UInt8):=[[35,68,73,86,47,48,33],[35,86,65,76,85,69,33],[35,78,85,77,33],[35,78,47,65],[35,82,69,70,33]]
def lm (l:List UInt8):List (List UInt8)→Nat→Option (Nat×Nat)
 | [],_=>none
 | x::xs,c=>if (l.take x.length).map upB=x then some (c,x.length) else lm l xs (c+1)
def gq (l:List UInt8):Option (Nat×Nat):=lm l bj 1
def iP:List (UInt8×Nat×Int):=[(43,8,1),(45,8,2),(42,8,3),(47,8,4),(94,8,5),(38,8,6),(61,8,7),(37,8,13),(40,9,0),(41,10,0),(44,11,0)]
def op1 (b:UInt8):Option (Nat×Int×Nat):=(iP.find? (·.1 == b)).map fun x=>(x.2.1,x.2.2,1)
def opS:List UInt8→Option (Nat×Int×Nat)
 | []=>none
 | b::r =>
  if b=60 then (if r.head?=some 62 then some (8,8,2) else if r.head?=some 61 then some (8,10,2) else some (8,9,1))
  else if b=62 then (if r.head?=some 61 then some (8,12,2) else some (8,11,1))
  else op1 b
def ee (at_:Nat):List UInt8→Option (Tk×Nat)
 | []=>none
 | b::r =>
  if ah b then (e8 (b::r)).map fun x=>(⟨1,x.1,[],R4.zero,at_⟩,x.2)
  else if b=34 then (aP r).map fun x=>(⟨2,0,x.1,R4.zero,at_⟩,x.2+1)
  else if ar b then bU (b::r) at_
  else match gq (b::r) with
   | some (c,n)=>some (⟨4,c,[],R4.zero,at_⟩,n)
   | none=>(opS (b::r)).map fun x=>(⟨x.1,x.2.1,[],R4.zero,at_⟩,x.2.2)
def bV:Nat→Nat→List UInt8→Except Nat (List Tk)
 | 0,_,_=>.ok []
 | _+1,_,[]=>.ok []
 | f+1,at_,b::r =>
  if b=32 then bV f (at_+1) r
  else match ee at_ (b::r) with
   | none=>.error at_
   | some (t,n)=>(bV f (at_+n) ((b::r).drop n)).map (t::·)
def aj (b:UInt8):Bool:=decide (32≤b.toNat∧b.toNat≤126)
def aM (l:List UInt8):List Tk×Int×Int :=
 if 256<l.length then ([],0,5)
 else match l.findIdx? (fun b=>!aj b) with
  | some i=>([],i,4)
  | none=>match bV l.length 0 l with
   | .ok ts=>(ts,0,0)
   | .error i=>([],i,4)
-- runs
def stops (p:UInt8→Bool):List UInt8→Bool
 | []=>true
 | b::_=>!p b
theorem br (p:UInt8→Bool) (l:List UInt8):l=l.takeWhile p++l.dropWhile p∧(∀ b∈l.takeWhile p,p b=true)∧stops p (l.dropWhile p)=true:=by
 refine ⟨(List.takeWhile_append_dropWhile ..).symm,?_,?_⟩
 ·induction l with
  | nil=>simp
  | cons b l ih =>
   intro c hc
   rw [List.takeWhile_cons] at hc
   split at hc
   ·rename_i hp
    rcases List.mem_cons.1 hc with rfl | hc
    ·exact hp
    exact ih c hc
   simp at hc
 induction l with
 | nil=>rfl
 | cons b l ih =>
  rw [List.dropWhile_cons]
  split
  ·exact ih
  rename_i hp
  simp [stops,hp]
theorem cg (p:UInt8→Bool) (a y:List UInt8) (ha:∀ b∈a,p b=true) (hy:stops p y=true):(a++y).takeWhile p=a∧(a++y).dropWhile p=y:=by
 induction a with
 | nil =>
  cases y with
  | nil=>exact ⟨rfl,rfl⟩
  | cons b y =>
   have hb:p b=false:=by simpa [stops] using hy
   simp [hb]
 | cons b a ih =>
  obtain ⟨h1,h2⟩:=ih fun c hc=>ha c (by simp [hc])
  have hb:=ha b (by simp)
  simp [hb,h1,h2]
end
section
open Go.RowKit
theorem eT (p:UInt8→Bool) (l:List UInt8):stops p l=!l.head?.any p:=by cases l <;> rfl
def mt (y z:List UInt8):Prop:=z.head?=y.head?∨z=[]∨z.head?=some 32∨z.head?=some 41
theorem mt.stop {y z:List UInt8} (h:mt y z) {p:UInt8→Bool} (hy:stops p y=true) (hp:p 32=false∧p 41=false):stops p z=true:=by
 rcases h with h | rfl | h | h
 ·rw [eT,h,← eT]; exact hy
 ·rfl
 ·rw [eT,h]; simp [hp.1]
 rw [eT,h]; simp [hp.2]
theorem mt.head {y z:List UInt8} (h:mt y z) {b:UInt8} (hy:y.head?≠some b) (hb:b≠32∧b≠41):z.head?≠some b:=by
 rcases h with h | rfl | h | h
 ·rw [h]; exact hy
 ·simp
 ·rw [h]; intro e; exact hb.1 (Option.some.inj e).symm
 rw [h]; intro e; exact hb.2 (Option.some.inj e).symm
theorem places_cons (b:UInt8) (r:List UInt8):bw (b::r)=if b=46 then r.takeWhile ah else []:=rfl
theorem cP (b:UInt8) (r:List UInt8):cH (b::r)=if b=58 then fi r else none:=rfl
theorem sb (r:List UInt8):stops ah (46::r)=true:=(show (!ah 46)=true by decide)
theorem xi (r:List UInt8):stops au (58::r)=true:=(show (!au 58)=true by decide)
theorem mG {z:List UInt8} (h:z.head?≠some 46):bw z=[]:=by
 cases z with
 | nil=>rfl
 | cons b r =>
  rw [places_cons,if_neg (by intro e; exact h (by rw [e]; rfl))]
theorem iV {z:List UInt8} (h:z.head?≠some 58):cH z=none:=by
 cases z with
 | nil=>rfl
 | cons b r =>
  rw [cP,if_neg (by intro e; exact h (by rw [e]; rfl))]
theorem fV {l:List UInt8} {v:Int} {n:Nat} (h:e8 l=some (v,n)) :
  ∃ w p e,(∀ b∈w,ah b=true)∧(∀ b∈p,ah b=true)∧w≠[]∧p.length≤4∧v=cA w p∧cA w p≤9223372036854775807∧stops ah e=true ∧
   ((p=[]∧l=w++e∧n=w.length∧bw e=[])∨(p≠[]∧l=w++46::(p++e)∧n=w.length+(p.length+1))):=by
 obtain ⟨hl,hw,hd⟩:=br ah l
 unfold e8 at h
 simp only at h
 generalize l.takeWhile ah=w at hl hw h
 generalize l.dropWhile ah=d at hl hd h
 split at h
 ·cases h
 rename_i hc
 simp only [not_or] at hc
 obtain ⟨h1,h2,h3⟩:=hc
 obtain ⟨rfl,rfl⟩:=Prod.mk.inj (Option.some.inj h)
 by_cases hp:bw d=[]
 ·rw [hp] at h2 h3 ⊢
  exact ⟨w,[],d,hw,by simp,h1,by omega,rfl,by omega,hd,.inl ⟨rfl,hl,by simp,hp⟩⟩
 cases d with
 | nil=>exact absurd rfl hp
 | cons b r =>
  by_cases hb:b=46
  ·subst hb
   have e:bw (46::r)=r.takeWhile ah:=by rw [places_cons,if_pos rfl]
   obtain ⟨hr,hrw,hrd⟩:=br ah r
   rw [e] at h2 h3 hp ⊢
   rw [if_neg hp]
   exact ⟨w,r.takeWhile ah,r.dropWhile ah,hw,hrw,h1,by omega,rfl,by omega,hrd,.inr ⟨hp,by rw [← hr]; exact hl,rfl⟩⟩
  exact absurd (by rw [places_cons,if_neg hb]) hp
theorem rL {w p e:List UInt8} (hw:∀ b∈w,ah b=true) (hp:∀ b∈p,ah b=true) (h1:w≠[]) (h2:p.length≤4) (h3:cA w p≤9223372036854775807) (he:stops ah e=true) :
  (p=[]→bw e=[]→e8 (w++e)=some ((cA w p:Int),w.length))∧(p≠[]→e8 (w++46::(p++e))=some ((cA w p:Int),w.length+(p.length+1))):=by
 constructor
 ·rintro rfl hpe
  obtain ⟨r1,r2⟩:=cg ah w e hw he
  unfold e8
  simp only [r1,r2,hpe]
  rw [if_neg (by simp only [not_or]; exact ⟨h1,by simp,by omega⟩)]
  simp
 intro hne
 obtain ⟨r1,r2⟩:=cg ah w (46::(p++e)) hw (sb _)
 obtain ⟨r3,-⟩:=cg ah p e hp he
 have r4:bw (46::(p++e))=p:=by rw [places_cons,if_pos rfl,r3]
 unfold e8
 simp only [r1,r2,r4]
 rw [if_neg (by simp only [not_or]; exact ⟨h1,by omega,by omega⟩),if_neg hne]
theorem qg {x y z:List UInt8} {v:Int} (h:e8 (x++y)=some (v,x.length)) (hy:y.head?≠some 46) (hz:mt y z):e8 (x++z)=some (v,x.length):=by
 obtain ⟨w,p,e,hw,hp,h1,h2,rfl,h3,he,hc⟩:=fV h
 rcases hc with ⟨rfl,hl,hn,hpe⟩ | ⟨hne,hl,hn⟩
 ·obtain ⟨rfl,rfl⟩:=List.append_inj hl hn
  exact (rL hw hp h1 h2 h3 (hz.stop he (by decide))).1 rfl (mG (hz.head hy (by decide)))
 rw [show w++46::(p++e)=(w++46::p)++e from by simp] at hl
 obtain ⟨rfl,rfl⟩:=List.append_inj hl (by simp; omega)
 have:=(rL hw hp h1 h2 h3 (hz.stop he (by decide))).2 hne
 rw [List.append_assoc,List.cons_append,this]
 simp
theorem di (b:UInt8):aP [b]=if b=34 then some ([],1) else none:=rfl
theorem bR (b c:UInt8) (r:List UInt8):aP (b::c::r)=if b=34 then (if c=34 then (aP r).map fun x=>(34::x.1,x.2+2) else some ([],1)) else (aP (c::r)).map fun x=>(b::x.1,x.2+1):=by
 rw [aP]
theorem fK:∀ (m:Nat) (l:List UInt8) (t:List UInt8) (n:Nat),l.length≤m→aP l=some (t,n)→1≤n∧n≤l.length:=by
 intro m
 induction m with
 | zero =>
  intro l t n hl h
  obtain rfl:=List.length_eq_zero_iff.1 (Nat.le_zero.1 hl)
  cases h
 | succ m ih =>
  intro l t n hl h
  match l,hl,h with
  | [],_,h=>cases h
  | [b],_,h =>
   rw [di] at h
   split at h
   ·obtain ⟨-,rfl⟩:=Prod.mk.inj (Option.some.inj h)
    simp
   cases h
  | b::c::r,hl,h =>
   rw [bR] at h
   simp only [List.length_cons] at hl ⊢
   split at h
   ·split at h
    ·obtain ⟨x,hx,e⟩:=Option.map_eq_some_iff.1 h
     have:=ih r x.1 x.2 (by omega) hx
     have:=(Prod.mk.inj e).2
     omega
    have:=(Prod.mk.inj (Option.some.inj h)).2
    omega
   obtain ⟨x,hx,e⟩:=Option.map_eq_some_iff.1 h
   have h1:=ih (c::r) x.1 x.2 (by simp; omega) hx
   have:=(Prod.mk.inj e).2
   simp only [List.length_cons] at h1
   omega
theorem kR:∀ (m:Nat) (x y z:List UInt8) (t:List UInt8),x.length≤m→aP (x++y)=some (t,x.length)→z.head?≠some 34→aP (x++z)=some (t,x.length):=by
 intro m
 induction m with
 | zero =>
  intro x y z t hm h _
  obtain rfl:=List.length_eq_zero_iff.1 (Nat.le_zero.1 hm)
  have:=fK _ _ _ _ (Nat.le_refl _) h
  simp at this
 | succ m ih =>
  intro x y z t hm h hz
  match x,hm,h with
  | [],_,h =>
   have:=fK _ _ _ _ (Nat.le_refl _) h
   simp at this
  | [b],_,h =>
   have hb:b=34∧t=[]:=by
    cases y with
    | nil =>
     have h':aP [b]=some (t,1):=h
     rw [di] at h'
     split at h'
     ·rename_i hb
      exact ⟨hb,(Prod.mk.inj (Option.some.inj h')).1.symm⟩
     cases h'
    | cons c y =>
     have h':aP (b::c::y)=some (t,1):=h
     rw [bR] at h'
     split at h'
     ·rename_i hb
      split at h'
      ·obtain ⟨q,hq,e⟩:=Option.map_eq_some_iff.1 h'
       have:=(Prod.mk.inj e).2
       omega
      exact ⟨hb,(Prod.mk.inj (Option.some.inj h')).1.symm⟩
     obtain ⟨q,hq,e⟩:=Option.map_eq_some_iff.1 h'
     have h1:=(Prod.mk.inj e).2
     have h2:=fK _ _ q.1 q.2 (Nat.le_refl _) hq
     omega
   obtain ⟨rfl,rfl⟩:=hb
   cases z with
   | nil=>rfl
   | cons d z =>
    show aP (34::d::z)=some ([],1)
    rw [bR,if_pos rfl,if_neg (fun e=>hz (by rw [e]; rfl))]
  | b::c::r,hm,h =>
   have h':aP (b::c::(r++y))=some (t,r.length+2):=h
   show aP (b::c::(r++z))=some (t,r.length+2)
   simp only [List.length_cons] at hm
   rw [bR] at h' ⊢
   split at h'
   ·rename_i hb
    rw [if_pos hb]
    split at h'
    ·rename_i hc
     rw [if_pos hc]
     obtain ⟨q,hq,e⟩:=Option.map_eq_some_iff.1 h'
     obtain ⟨e1,e2⟩:=Prod.mk.inj e
     have e3:q.2=r.length:=by omega
     rw [ih r y z q.1 (by omega) (by rw [hq,← e3]) hz,← e1]
     rfl
    have:=(Prod.mk.inj (Option.some.inj h')).2
    omega
   rename_i hb
   rw [if_neg hb]
   obtain ⟨q,hq,e⟩:=Option.map_eq_some_iff.1 h'
   obtain ⟨e1,e2⟩:=Prod.mk.inj e
   have e3:q.2=(c::r).length:=by simp; omega
   have:=ih (c::r) y z q.1 (by simp; omega) (by show aP (c::(r++y))=_; rw [hq,← e3]) hz
   rw [show c::(r++z)=(c::r)++z from rfl,this,← e1]
   rfl
theorem mZ:∀ (m:Nat) (x y:List UInt8) (t:List UInt8),x.length≤m→aP (x++y)=some (t,x.length)→y.head?≠some 34:=by
 intro m
 induction m with
 | zero =>
  intro x y t hm h
  obtain rfl:=List.length_eq_zero_iff.1 (Nat.le_zero.1 hm)
  have:=fK _ _ _ _ (Nat.le_refl _) h
  simp at this
 | succ m ih =>
  intro x y t hm h
  match x,hm,h with
  | [],_,h =>
   have:=fK _ _ _ _ (Nat.le_refl _) h
   simp at this
  | [b],_,h =>
   cases y with
   | nil=>simp
   | cons c y =>
    have h':aP (b::c::y)=some (t,1):=h
    rw [bR] at h'
    split at h'
    ·split at h'
     ·obtain ⟨q,hq,e⟩:=Option.map_eq_some_iff.1 h'
      have:=(Prod.mk.inj e).2
      omega
     rename_i hc
     intro e
     exact hc (Option.some.inj e)
    obtain ⟨q,hq,e⟩:=Option.map_eq_some_iff.1 h'
    have h1:=(Prod.mk.inj e).2
    have h2:=fK _ _ q.1 q.2 (Nat.le_refl _) hq
    omega
  | b::c::r,hm,h =>
   have h':aP (b::c::(r++y))=some (t,r.length+2):=h
   simp only [List.length_cons] at hm
   rw [bR] at h'
   split at h'
   ·split at h'
    ·obtain ⟨q,hq,e⟩:=Option.map_eq_some_iff.1 h'
     have e2:=(Prod.mk.inj e).2
     have e3:q.2=r.length:=by omega
     exact ih r y q.1 (by omega) (by rw [hq,← e3])
    have:=(Prod.mk.inj (Option.some.inj h')).2
    omega
   obtain ⟨q,hq,e⟩:=Option.map_eq_some_iff.1 h'
   have e2:=(Prod.mk.inj e).2
   have e3:q.2=(c::r).length:=by simp; omega
   exact ih (c::r) y q.1 (by simp; omega) (by show aP (c::(r++y))=_; rw [hq,← e3])
theorem eS {d:List UInt8} {c r:Int} {n:Nat} (h:cH d=some (c,r,n)):∃ q,d=58::q∧fi q=some (c,r,n):=by
 cases d with
 | nil=>cases h
 | cons b q =>
  have h':(if b=58 then fi q else none)=some (c,r,n):=h
  split at h'
  ·rename_i hb
   exact ⟨q,by rw [hb],h'⟩
  cases h'
theorem gl {l:List UInt8} {c r:Int} {n:Nat} (h:fi l=some (c,r,n)) :
  ∃ w d,l=w++d∧(∀ b∈w,au b=true)∧stops au d=true∧n=w.length∧w≠[]∧w.head?.any ar=true∧aJ (w.map upB)=(c,r,0)∧d.head?≠some 40:=by
 obtain ⟨hl,hw,hd⟩:=br au l
 unfold fi at h
 simp only at h
 generalize l.takeWhile au=w at hl hw h
 generalize l.dropWhile au=d at hl hd h
 split at h
 ·rename_i hc
  obtain ⟨h1,h2,h3⟩:=hc
  obtain ⟨rfl,e⟩:=Prod.mk.inj (Option.some.inj h)
  obtain ⟨rfl,rfl⟩:=Prod.mk.inj e
  have hne:w≠[]:=by
   rintro rfl
   cases d with
   | nil=>rw [hl] at h1; cases h1
   | cons b d =>
    rw [hl] at h1
    have hb:ar b=true:=h1
    simp [stops,au,hb] at hd
  refine ⟨w,d,hl,hw,hd,rfl,hne,?_,by rw [← h2],h3⟩
  cases w with
  | nil=>exact absurd rfl hne
  | cons b w=>rw [hl] at h1; exact h1
 cases h
theorem sJ {w d:List UInt8} {c r:Int} (hw:∀ b∈w,au b=true) (hd:stops au d=true) (h1:w.head?.any ar=true) (h2:aJ (w.map upB)=(c,r,0)) (h3:d.head?≠some 40):fi (w++d)=some (c,r,w.length):=by
 obtain ⟨r1,r2⟩:=cg au w d hw hd
 unfold fi
 simp only [r1,r2,h2]
 rw [if_pos ⟨by cases w with
  | nil=>cases h1
  | cons b w=>exact h1,trivial,h3⟩]
theorem oI {x y z:List UInt8} {k:Nat} {t:Tk} (h:bU (x++y) k=some (t,x.length)) (hy:y.head?≠some 58) (hz:mt y z) (h7:t.kind=7→z.head?=y.head?):bU (x++z) k=some (t,x.length):=by
 obtain ⟨hl,hw,hd⟩:=br au (x++y)
 unfold bU at h
 simp only at h
 generalize (x++y).takeWhile au=w at hl hw h
 generalize (x++y).dropWhile au=d at hl hd h
 have one:w.length=x.length→x=w∧y=d:=fun e=>List.append_inj hl e.symm
 split at h
 ·rename_i h40
  obtain ⟨rfl,e⟩:=Prod.mk.inj (Option.some.inj h)
  obtain ⟨rfl,rfl⟩:=one e
  have hz':=h7 rfl
  obtain ⟨r1,r2⟩:=cg au x z hw (hz.stop hd (by decide))
  unfold bU
  simp only [r1,r2]
  rw [if_pos (by rw [hz']; exact h40)]
 rename_i h40
 have key:∀ z',stops au z'=true→z'.head?≠some 40→(w++z').takeWhile au=w∧(w++z').dropWhile au=z':=fun z' hz' _=>cg au w z' hw hz'
 split at h
 ·rename_i ht
  obtain ⟨rfl,e⟩:=Prod.mk.inj (Option.some.inj h)
  obtain ⟨rfl,rfl⟩:=one e
  obtain ⟨r1,r2⟩:=cg au x z hw (hz.stop hd (by decide))
  unfold bU
  simp only [r1,r2]
  rw [if_neg (hz.head h40 (by decide)),if_pos ht]
 rename_i ht
 split at h
 ·rename_i hf
  obtain ⟨rfl,e⟩:=Prod.mk.inj (Option.some.inj h)
  obtain ⟨rfl,rfl⟩:=one e
  obtain ⟨r1,r2⟩:=cg au x z hw (hz.stop hd (by decide))
  unfold bU
  simp only [r1,r2]
  rw [if_neg (hz.head h40 (by decide)),if_neg ht,if_pos hf]
 rename_i hf
 split at h
 ·cases h
 rename_i hp
 split at h
 ·rename_i hs
  obtain ⟨rfl,e⟩:=Prod.mk.inj (Option.some.inj h)
  obtain ⟨rfl,rfl⟩:=one e
  obtain ⟨r1,r2⟩:=cg au x z hw (hz.stop hd (by decide))
  unfold bU
  simp only [r1,r2,iV (hz.head hy (by decide))]
  rw [if_neg (hz.head h40 (by decide)),if_neg ht,if_neg hf,if_neg hp]
 rename_i c r n hs
 obtain ⟨rfl,e⟩:=Prod.mk.inj (Option.some.inj h)
 obtain ⟨q,hdq,hs⟩:=eS hs
 obtain ⟨w2,d2,hq,hw2,hd2,hn2,hne2,g1,g2,g3⟩:=gl hs
 rw [hdq,hq,show w++58::(w2++d2)=(w++58::w2)++d2 from by simp] at hl
 obtain ⟨hx,hy2⟩:=List.append_inj hl (by simp; omega)
 rw [← hy2] at hd2 g3
 obtain ⟨r1,r2⟩:=cg au w (58::(w2++z)) hw (xi _)
 have r3:cH (58::(w2++z))=some (c,r,w2.length):=by
  rw [cP,if_pos rfl]
  exact sJ hw2 (hz.stop hd2 (by decide)) g1 g2 (hz.head g3 (by decide))
 rw [show x++z=w++58::(w2++z) from by rw [hx]; simp]
 unfold bU
 simp only [r1,r2,r3]
 rw [if_neg (by simp),if_neg ht,if_neg hf,if_neg hp]
 rw [← e,hn2]
theorem ej {l:List UInt8} {c n:Nat}:∀ (L:List (List UInt8)) (k:Nat),lm l L k=some (c,n)→∃ i x,L[i]?=some x∧c=k+i∧n=x.length∧(l.take x.length).map upB=x∧∀ j y,j<i→L[j]?=some y→(l.take y.length).map upB≠y:=by
 intro L
 induction L with
 | nil=>intro k h; cases h
 | cons x L ih =>
  intro k h
  rw [lm] at h
  split at h
  ·rename_i hx
   obtain ⟨rfl,rfl⟩:=Prod.mk.inj (Option.some.inj h)
   exact ⟨0,x,rfl,rfl,rfl,hx,fun j y hj=>absurd hj (by omega)⟩
  rename_i hx
  obtain ⟨i,y,h1,h2,h3,h4,h5⟩:=ih (k+1) h
  refine ⟨i+1,y,by simpa using h1,by omega,h3,h4,fun j z hj hz => ?_⟩
  cases j with
  | zero => obtain rfl : x = z:=by simpa using hz
            exact hx
  | succ j=>exact h5 j z (by omega) (by simpa using hz)
theorem vZ {l:List UInt8}:∀ (L:List (List UInt8)) (k i:Nat) (x:List UInt8),L[i]?=some x→(l.take x.length).map upB=x→(∀ j y,j<i→L[j]?=some y→(l.take y.length).map upB≠y)→lm l L k=some (k+i,x.length):=by
 intro L
 induction L with
 | nil=>intro k i x h; cases h
 | cons z L ih =>
  intro k i x h h1 h2
  rw [lm]
  cases i with
  | zero => obtain rfl : z = x:=by simpa using h
            rw [if_pos h1]; rfl
  | succ i =>
   rw [if_neg (h2 0 z (by omega) rfl),ih (k+1) i x (by simpa using h) h1 fun j y hj hy=>h2 (j+1) y (by omega) (by simpa using hy)]
   congr 2
   omega
theorem mr:∀ (i:Nat) (x:List UInt8) (j:Nat) (y:List UInt8),bj[i]?=some x→bj[j]?=some y→j<i→x.length<y.length→y.take x.length≠x:=by
 have h:∀ i<5,∀ j<5,j<i→(bj.getD i []).length<(bj.getD j []).length→(bj.getD j []).take (bj.getD i []).length≠bj.getD i []:=by decide
 intro i x j y hi hj hji hl
 have h1:=(List.getElem?_eq_some_iff.1 hi).1
 have h2:=(List.getElem?_eq_some_iff.1 hj).1
 have e1:bj.getD i []=x:=by rw [List.getD_eq_getElem?_getD,hi]; rfl
 have e2:bj.getD j []=y:=by rw [List.getD_eq_getElem?_getD,hj]; rfl
 have:=h i h1 j h2 hji
 rw [e1,e2] at this
 exact this hl
theorem pV {x y z:List UInt8} {c:Nat} (h:gq (x++y)=some (c,x.length)):gq (x++z)=some (c,x.length):=by
 obtain ⟨i,w,h1,h2,h3,h4,h5⟩:=ej _ _ h
 have tk:∀ v,(x++v).take w.length=x:=fun v=>by rw [← h3,List.take_left]
 rw [tk] at h4
 have:=vZ (l:=x++z) bj 1 i w h1 (by rw [tk]; exact h4) fun j u hj hu he => ?_
 ·unfold gq
  rw [this,h2,h3]
 rcases Nat.lt_or_ge w.length u.length with hl | hl
 ·have h6:((x++z).take u.length).map upB=u:=he
  have h7:=congrArg (fun q=>q.take w.length) h6
  simp only [← List.map_take,List.take_take] at h7
  rw [Nat.min_eq_left (by omega),tk,h4] at h7
  exact mr i w j u h1 hu hj hl h7.symm
 refine h5 j u hj hu ?_
 have e:∀ v,(x++v).take u.length=x.take u.length:=fun v=>by rw [List.take_append_of_le_length (by omega)]
 rw [e] at he ⊢
 exact he
theorem nu {x:List UInt8} {z:List UInt8} (hx:x.head?≠some 35) (hne:x≠[]):gq (x++z)=none:=by
 cases h:gq (x++z) with
 | none=>rfl
 | some q =>
  obtain ⟨c,n⟩:=q
  obtain ⟨i,w,h1,h2,h3,h4,h5⟩:=ej _ _ h
  have hw:w.head?=some 35:=by
   have key:∀ u∈bj,u.head?=some 35:=by decide
   exact key w (List.mem_of_getElem? h1)
  cases x with
  | nil=>exact absurd rfl hne
  | cons b x =>
   cases w with
   | nil=>cases hw
   | cons d w =>
    simp only [List.head?_cons,Option.some.injEq] at hw
    simp only [List.cons_append,List.length_cons,List.take_succ_cons,List.map_cons,List.cons.injEq] at h4
    have:upB b=35:=by rw [h4.1,hw]
    have h9:b=35:=by
     unfold upB at this
     split at this
     ·rename_i hb
      have h8:=congrArg UInt8.toNat this
      rw [UInt8.toNat_ofNat',show (35:UInt8).toNat=35 from rfl] at h8
      omega
     exact this
    exact absurd (by rw [h9]; rfl) hx
theorem bQ (b:UInt8) (r:List UInt8):opS (b::r)=(if b=60 then (if r.head?=some 62 then some (8,8,2) else if r.head?=some 61 then some (8,10,2) else some (8,9,1))
  else if b=62 then (if r.head?=some 61 then some (8,12,2) else some (8,11,1))
  else op1 b):=rfl
theorem u7 {b:UInt8} {k:Nat} {v:Int} {n:Nat} (h:op1 b=some (k,v,n)):n=1:=by
 obtain ⟨x,_,e⟩:=Option.map_eq_some_iff.1 h
 exact (Prod.mk.inj (Prod.mk.inj e).2).2.symm
theorem mz {b:UInt8} {r:List UInt8} {k:Nat} {v:Int} {n:Nat} (h:opS (b::r)=some (k,v,n)) :
  (n=2∧∃ c r',r=c::r'∧∀ z,opS (b::c::z)=some (k,v,2)) ∨
  (n=1∧∀ z,(r.head?≠some 61→z.head?≠some 61)→(r.head?≠some 62→z.head?≠some 62)→opS (b::z)=some (k,v,1)):=by
 have hd:∀ c,r.head?=some c→∃ r',r=c::r':=fun c hc=>by
  cases r with
  | nil=>cases hc
  | cons d r'=>exact ⟨r',by rw [Option.some.inj hc]⟩
 rw [bQ] at h
 by_cases h60:b=60
 ·rw [if_pos h60] at h
  by_cases e1:r.head?=some 62
  ·rw [if_pos e1] at h
   obtain ⟨r',hr⟩:=hd _ e1
   obtain ⟨rfl,e⟩:=Prod.mk.inj (Option.some.inj h)
   obtain ⟨rfl,rfl⟩:=Prod.mk.inj e
   exact .inl ⟨rfl,62,r',hr,fun z=>by rw [bQ,if_pos h60,List.head?_cons,if_pos rfl]⟩
  rw [if_neg e1] at h
  by_cases e2:r.head?=some 61
  ·rw [if_pos e2] at h
   obtain ⟨r',hr⟩:=hd _ e2
   obtain ⟨rfl,e⟩:=Prod.mk.inj (Option.some.inj h)
   obtain ⟨rfl,rfl⟩:=Prod.mk.inj e
   exact .inl ⟨rfl,61,r',hr,fun z=>by rw [bQ,if_pos h60,List.head?_cons,if_neg (by simp),if_pos rfl]⟩
  rw [if_neg e2] at h
  obtain ⟨rfl,e⟩:=Prod.mk.inj (Option.some.inj h)
  obtain ⟨rfl,rfl⟩:=Prod.mk.inj e
  exact .inr ⟨rfl,fun z g1 g2=>by rw [bQ,if_pos h60,if_neg (g2 e1),if_neg (g1 e2)]⟩
 rw [if_neg h60] at h
 by_cases h62:b=62
 ·rw [if_pos h62] at h
  by_cases e2:r.head?=some 61
  ·rw [if_pos e2] at h
   obtain ⟨r',hr⟩:=hd _ e2
   obtain ⟨rfl,e⟩:=Prod.mk.inj (Option.some.inj h)
   obtain ⟨rfl,rfl⟩:=Prod.mk.inj e
   exact .inl ⟨rfl,61,r',hr,fun z=>by rw [bQ,if_neg h60,if_pos h62,List.head?_cons,if_pos rfl]⟩
  rw [if_neg e2] at h
  obtain ⟨rfl,e⟩:=Prod.mk.inj (Option.some.inj h)
  obtain ⟨rfl,rfl⟩:=Prod.mk.inj e
  exact .inr ⟨rfl,fun z g1 _=>by rw [bQ,if_neg h60,if_pos h62,if_neg (g1 e2)]⟩
 rw [if_neg h62] at h
 have hn:=u7 h
 subst hn
 exact .inr ⟨rfl,fun z _ _=>by rw [bQ,if_neg h60,if_neg h62,h]⟩
theorem rP {b:UInt8} {x y z:List UInt8} {k:Nat} {v:Int} (h:opS (b::(x++y))=some (k,v,x.length+1)) (hz:mt y z):opS (b::(x++z))=some (k,v,x.length+1):=by
 rcases mz h with ⟨hn,c,r',hr,hc⟩ | ⟨hn,hc⟩
 ·cases x with
  | nil=>simp at hn
  | cons d x =>
   obtain rfl:x=[]:=by simpa using hn
   obtain ⟨rfl,-⟩:d=c∧y=r':=by simpa using hr
   exact hc z
 obtain rfl:x=[]:=List.length_eq_zero_iff.1 (by omega)
 exact hc z (fun e=>hz.head e (by decide)) (fun e=>hz.head e (by decide))
theorem cZ (k:Nat) (b:UInt8) (r:List UInt8):ee k (b::r) =
  if ah b then (e8 (b::r)).map fun x=>(⟨1,x.1,[],R4.zero,k⟩,x.2)
  else if b=34 then (aP r).map fun x=>(⟨2,0,x.1,R4.zero,k⟩,x.2+1)
  else if ar b then bU (b::r) k
  else match gq (b::r) with
   | some (c,n)=>some (⟨4,c,[],R4.zero,k⟩,n)
   | none=>(opS (b::r)).map fun x=>(⟨x.1,x.2.1,[],R4.zero,k⟩,x.2.2):=rfl
theorem kQ {b:UInt8} {x y z:List UInt8} {k:Nat} {t:Tk} (h:ee k (b::(x++y))=some (t,x.length+1)) (h46:y.head?≠some 46) (h58:y.head?≠some 58) (h34:z.head?=y.head?∨z.head?≠some 34) (hz:mt y z) (h7:t.kind=7→z.head?=y.head?):ee k (b::(x++z))=some (t,x.length+1):=by
 rw [cZ] at h ⊢
 by_cases h1:ah b=true
 ·rw [if_pos h1] at h ⊢
  obtain ⟨q,hq,e⟩:=Option.map_eq_some_iff.1 h
  obtain ⟨e1,e2⟩:=Prod.mk.inj e
  have:=qg (x:=b::x) (y:=y) (z:=z) (v:=q.1) (by rw [List.cons_append,hq,List.length_cons,← e2]) h46 hz
  rw [List.cons_append] at this
  rw [this,← e1]
  rfl
 rw [if_neg h1] at h ⊢
 by_cases h2:b=34
 ·rw [if_pos h2] at h ⊢
  obtain ⟨q,hq,e⟩:=Option.map_eq_some_iff.1 h
  obtain ⟨e1,e2⟩:=Prod.mk.inj e
  have e3:q.2=x.length:=by omega
  have hq':aP (x++y)=some (q.1,x.length):=by rw [hq,← e3]
  have hy:y.head?≠some 34→z.head?≠some 34:=fun g=>by
   rcases h34 with g2 | g2
   ·rw [g2]; exact g
   exact g2
  rw [kR _ x y z q.1 (Nat.le_refl _) hq' (hy (mZ _ x y q.1 (Nat.le_refl _) hq')),← e1]
  rfl
 rw [if_neg h2] at h ⊢
 by_cases h3:ar b=true
 ·rw [if_pos h3] at h ⊢
  exact oI (x:=b::x) h h58 hz h7
 rw [if_neg h3] at h ⊢
 cases he:gq (b::(x++y)) with
 | some q =>
  obtain ⟨c,n⟩:=q
  rw [he] at h
  obtain ⟨rfl,rfl⟩:=Prod.mk.inj (Option.some.inj h)
  have:=pV (x:=b::x) (y:=y) (z:=z) he
  rw [List.cons_append] at this
  rw [this]
  rfl
 | none =>
  rw [he] at h
  obtain ⟨q,hq,e⟩:=Option.map_eq_some_iff.1 h
  obtain ⟨q1,q2,q3⟩:=q
  obtain ⟨e1,e2⟩:=Prod.mk.inj e
  simp only at e2
  subst e2
  have hb:b≠35:=by
   rintro rfl
   rw [bQ,if_neg (by decide),if_neg (by decide)] at hq
   cases hq
  have h9:=nu (x:=[b]) (z:=x++z) (by simpa using hb) (by simp)
  rw [List.singleton_append] at h9
  rw [h9]
  show (opS (b::(x++z))).map _=_
  rw [rP hq hz,← e1]
  rfl
end
section
open Go.RowKit
theorem vC {l:List UInt8} {k:Nat} {t:Tk} {n:Nat} (hl:l.head?.any ar=true) (h:bU l k=some (t,n)):1≤n∧n≤l.length:=by
 obtain ⟨hs,hw,hd⟩:=br au l
 have h1:1≤(l.takeWhile au).length:=by
  cases l with
  | nil=>cases hl
  | cons b r =>
   have hb:ar b=true:=hl
   have hb2:au b=true:=by simp [au,hb]
   simp [hb2]
 have h2:=congrArg List.length hs
 rw [List.length_append] at h2
 unfold bU at h
 simp only at h
 generalize l.takeWhile au=w at h1 h2 h
 generalize l.dropWhile au=d at h2 h
 split at h
 ·have:=(Prod.mk.inj (Option.some.inj h)).2; omega
 split at h
 ·have:=(Prod.mk.inj (Option.some.inj h)).2; omega
 split at h
 ·have:=(Prod.mk.inj (Option.some.inj h)).2; omega
 split at h
 ·cases h
 split at h
 ·have:=(Prod.mk.inj (Option.some.inj h)).2; omega
 rename_i c r m hs
 obtain ⟨q,hq,ha⟩:=eS hs
 obtain ⟨w2,d2,hq2,-,-,hm,-⟩:=gl ha
 have h3:=(Prod.mk.inj (Option.some.inj h)).2
 rw [hq,hq2] at h2
 simp at h2
 omega
theorem fI {l:List UInt8} {k:Nat} {t:Tk} {n:Nat} (h:ee k l=some (t,n)):1≤n∧n≤l.length:=by
 cases l with
 | nil=>cases h
 | cons b r =>
  rw [cZ] at h
  by_cases h1:ah b=true
  ·rw [if_pos h1] at h
   obtain ⟨q,hq,e⟩:=Option.map_eq_some_iff.1 h
   have e2:=(Prod.mk.inj e).2
   obtain ⟨w,p,e',-,-,hw,-,-,-,-,hc⟩:=fV (l:=b::r) (v:=q.1) (n:=q.2) hq
   have hw1:1≤w.length:=by
    cases w with
    | nil=>exact absurd rfl hw
    | cons=>simp
   rcases hc with ⟨-,hl,hn,-⟩ | ⟨-,hl,hn⟩
   ·have:=congrArg List.length hl
    rw [List.length_append] at this
    omega
   have:=congrArg List.length hl
   simp only [List.length_append,List.length_cons] at this ⊢
   omega
  rw [if_neg h1] at h
  by_cases h2:b=34
  ·rw [if_pos h2] at h
   obtain ⟨q,hq,e⟩:=Option.map_eq_some_iff.1 h
   have e2:=(Prod.mk.inj e).2
   have:=fK _ _ q.1 q.2 (Nat.le_refl _) hq
   simp only [List.length_cons]
   omega
  rw [if_neg h2] at h
  by_cases h3:ar b=true
  ·rw [if_pos h3] at h
   exact vC (l:=b::r) h3 h
  rw [if_neg h3] at h
  cases he:gq (b::r) with
  | some q =>
   obtain ⟨c,m⟩:=q
   rw [he] at h
   have hn:m=n:=(Prod.mk.inj (Option.some.inj h)).2
   obtain ⟨i,x,hx,-,hm,hu,-⟩:=ej _ _ he
   have h5:1≤x.length:=by
    have key:∀ u∈bj,1≤u.length:=by decide
    exact key x (List.mem_of_getElem? hx)
   have h6:=congrArg List.length hu
   rw [List.length_map,List.length_take] at h6
   omega
  | none =>
   rw [he] at h
   obtain ⟨q,hq,e⟩:=Option.map_eq_some_iff.1 h
   obtain ⟨q1,q2,q3⟩:=q
   have e2:q3=n:=(Prod.mk.inj e).2
   rcases mz hq with ⟨hn,c,r',hr,-⟩ | ⟨hn,-⟩
   ·subst hr; simp only [List.length_cons]; omega
   simp only [List.length_cons]; omega
def Tk.move (d:Nat) (t:Tk):Tk:={ t with at_:=t.at_+d }
theorem qP (l:List UInt8) (k d:Nat):bU l (k+d)=(bU l k).map fun x=>(x.1.move d,x.2):=by
 unfold bU
 simp only
 split
 ·rfl
 split
 ·rfl
 split
 ·rfl
 split
 ·rfl
 split <;> rfl
theorem mV (l:List UInt8) (k d:Nat):ee (k+d) l=(ee k l).map fun x=>(x.1.move d,x.2):=by
 cases l with
 | nil=>rfl
 | cons b r =>
  rw [cZ,cZ]
  by_cases h1:ah b=true
  ·rw [if_pos h1,if_pos h1]
   cases e8 (b::r) <;> rfl
  rw [if_neg h1,if_neg h1]
  by_cases h2:b=34
  ·rw [if_pos h2,if_pos h2]
   cases aP r <;> rfl
  rw [if_neg h2,if_neg h2]
  by_cases h3:ar b=true
  ·rw [if_pos h3,if_pos h3]
   exact qP _ _ _
  rw [if_neg h3,if_neg h3]
  cases gq (b::r) with
  | some q=>rfl
  | none=>cases opS (b::r) <;> rfl
theorem iB {k:Nat} {b:UInt8} {r:List UInt8} {q:Tk×Nat} (h:ee k (b::r)=some q):b≠46∧b≠58∧b≠32:=by
 have no:∀ c:UInt8,ah c=false→c≠34→ar c=false→c≠35→opS (c::r)=none→ee k (c::r)=none:=by
  intro c h1 h2 h3 h4 h5
  have h9:=nu (x:=[c]) (z:=r) (by simpa using h4) (by simp)
  rw [List.singleton_append] at h9
  rw [cZ,if_neg (by rw [h1]; decide),if_neg h2,if_neg (by rw [h3]; decide),h9,h5]
  rfl
 refine ⟨?_,?_,?_⟩ <;> (rintro rfl; rw [no _ (by decide) (by decide) (by decide) (by decide) (by rw [bQ,if_neg (by decide),if_neg (by decide)]; rfl)] at h; cases h)
theorem sd {k:Nat} {l:List UInt8} {t:Tk} {n:Nat} (h:ee k l=some (t,n)):t.at_=k:=by
 have h2:=mV l 0 k
 rw [Nat.zero_add,h] at h2
 cases h0:ee 0 l with
 | none=>rw [h0] at h2; cases h2
 | some q =>
  rw [h0] at h2
  have e:t=q.1.move k:=(Prod.mk.inj (Option.some.inj h2)).1
  have:∀ q:Tk×Nat,ee 0 l=some q→q.1.at_=0:=by
   intro q hq
   cases l with
   | nil=>cases hq
   | cons b r =>
    rw [cZ] at hq
    by_cases h1:ah b=true
    ·rw [if_pos h1] at hq
     obtain ⟨x,_,e⟩:=Option.map_eq_some_iff.1 hq
     rw [← e]
    rw [if_neg h1] at hq
    by_cases h2:b=34
    ·rw [if_pos h2] at hq
     obtain ⟨x,_,e⟩:=Option.map_eq_some_iff.1 hq
     rw [← e]
    rw [if_neg h2] at hq
    by_cases h3:ar b=true
    ·rw [if_pos h3] at hq
     unfold bU at hq
     simp only at hq
     split at hq
     ·rw [← Option.some.inj hq]
     split at hq
     ·rw [← Option.some.inj hq]
     split at hq
     ·rw [← Option.some.inj hq]
     split at hq
     ·cases hq
     split at hq <;> rw [← Option.some.inj hq]
    rw [if_neg h3] at hq
    cases he:gq (b::r) with
    | some y=>rw [he] at hq; rw [← Option.some.inj hq]
    | none =>
     rw [he] at hq
     obtain ⟨x,_,e⟩:=Option.map_eq_some_iff.1 hq
     rw [← e]
  rw [e]
  show q.1.at_+k=k
  rw [this q h0,Nat.zero_add]
inductive Lex:Nat→List UInt8→List Tk→List UInt8→Prop
 | nil (k:Nat) (y:List UInt8):Lex k [] [] y
 | blank {k:Nat} {u:List UInt8} {l:List Tk} {y:List UInt8} (h:Lex (k+1) u l y):Lex k (32::u) l y
 | tok {k:Nat} {b:UInt8} {x u:List UInt8} {t:Tk} {l:List Tk} {y:List UInt8} (h:ee k (b::(x++(u++y)))=some (t,x.length+1)) (g:Lex (k+(x.length+1)) u l y):Lex k (b::(x++u)) (t::l) y
theorem Lex.head {k:Nat} {u:List UInt8} {l:List Tk} {y:List UInt8} (h:Lex k u l y):u.head?≠some 46∧u.head?≠some 58:=by
 cases h with
 | nil=>simp
 | blank=>simp
 | tok h=>have:=iB h; simp [this.1,this.2.1]
theorem Lex.move {k:Nat} {u:List UInt8} {l:List Tk} {y:List UInt8} (h:Lex k u l y) (d:Nat):Lex (k+d) u (l.map (Tk.move d)) y:=by
 have e:∀ a b c:Nat,a+b+c=a+c+b:=by intros; omega
 induction h with
 | nil=>exact .nil _ _
 | blank _ ih=>exact .blank (by rw [e]; exact ih)
 | tok h _ ih =>
  refine .tok (t:=Tk.move d _) (by rw [mV,h]; rfl) ?_
  rw [e]
  exact ih
theorem se:∀ (f k:Nat) (s:List UInt8) (l:List Tk),s.length≤f→(bV f k s=.ok l↔Lex k s l []):=by
 intro f
 induction f with
 | zero =>
  intro k s l hs
  obtain rfl:=List.length_eq_zero_iff.1 (Nat.le_zero.1 hs)
  constructor
  ·intro h
   obtain rfl:[]=l:=by injection h
   exact .nil _ _
  intro h
  cases h
  rfl
 | succ f ih =>
  intro k s l hs
  cases s with
  | nil =>
   constructor
   ·intro h
    obtain rfl:[]=l:=by injection h
    exact .nil _ _
   intro h
   cases h
   rfl
  | cons b r =>
   simp only [List.length_cons] at hs
   rw [bV]
   by_cases hb:b=32
   ·rw [if_pos hb,ih (k+1) r l (by omega)]
    subst hb
    constructor
    ·exact .blank
    intro h
    generalize hs:(32::r:List UInt8)=s at h
    cases h with
    | nil=>cases hs
    | blank h=>obtain rfl:=(List.cons.inj hs).2; exact h
    | tok h=>exact absurd (List.cons.inj hs).1.symm (iB h).2.2
   rw [if_neg hb]
   cases ht:ee k (b::r) with
   | none =>
    constructor
    ·intro h; cases h
    intro h
    generalize hs:(b::r:List UInt8)=s at h ht
    cases h with
    | nil=>cases hs
    | blank h=>exact absurd (List.cons.inj hs).1 hb
    | tok h=>rw [List.append_nil] at h; rw [h] at ht; cases ht
   | some q =>
    obtain ⟨t,n⟩:=q
    have hn:=fI ht
    simp only [List.length_cons] at hn
    have hd:((b::r).drop n).length≤f:=by rw [List.length_drop]; simp only [List.length_cons]; omega
    show (bV f (k+n) ((b::r).drop n)).map (t::·)=.ok l↔_
    obtain ⟨m,rfl⟩:∃ m,n=m+1:=⟨n - 1,by omega⟩
    rw [List.drop_succ_cons] at hd ⊢
    have hr:r=r.take m++r.drop m:=(List.take_append_drop ..).symm
    have hm:(r.take m).length=m:=by rw [List.length_take]; omega
    constructor
    ·intro h
     cases h2:bV f (k+(m+1)) (r.drop m) with
     | error e=>rw [h2] at h; cases h
     | ok l2 =>
      rw [h2] at h
      obtain rfl:t::l2=l:=by injection h
      have g:=(ih _ _ _ hd).1 h2
      rw [hr] at ht ⊢
      exact .tok (by rw [List.append_nil,hm]; exact ht) (by rw [hm]; exact g)
    intro h
    generalize hs:(b::r:List UInt8)=s at h ht
    cases h with
    | nil=>cases hs
    | blank h=>exact absurd (List.cons.inj hs).1 hb
    | @tok _ b2 x u t2 l2 _ h g =>
     rw [List.append_nil] at h
     rw [h] at ht
     obtain ⟨rfl,e⟩:=Prod.mk.inj (Option.some.inj ht)
     obtain ⟨rfl,rfl⟩:=List.cons.inj hs
     obtain rfl:x.length=m:=by omega
     rw [List.drop_left,(ih _ _ _ (by rw [List.drop_left] at hd; exact hd)).2 g]
     rfl
def named:List Tk→Bool
 | []=>false
 | [t]=>t.kind == 7
 | _::u::l=>named (u::l)
theorem Lex.behind {k:Nat} {u:List UInt8} {l:List Tk} {y:List UInt8} (h:Lex k u l y) (z:List UInt8) (hy:y.head?≠some 46∧y.head?≠some 58) (hz:z=[]∨z.head?=some 32∨z.head?=some 41) (hn:named l=false):Lex k u l z:=by
 induction h with
 | nil=>exact .nil _ _
 | blank _ ih=>exact .blank (ih hy hn)
 | @tok k b x u t l y h g ih =>
  have hn':named l=false:=by
   cases l with
   | nil=>rfl
   | cons=>exact hn
  refine .tok ?_ (ih hy hn')
  cases u with
  | nil =>
   cases g
   have hk:t.kind≠7:=by
    intro e
    simp [named,e] at hn
   refine kQ h hy.1 hy.2 (.inr ?_) (.inr hz) (fun e=>absurd e hk)
   rcases hz with rfl | e | e
   ·simp
   ·simp only [List.nil_append]; rw [e]; simp
   simp only [List.nil_append]; rw [e]; simp
  | cons c u =>
   have hd:=g.head
   exact kQ h hd.1 hd.2 (.inl rfl) (.inl rfl) (fun _=>rfl)
theorem Lex.append {k:Nat} {u v:List UInt8} {l m:List Tk} {y:List UInt8} (h:Lex k u l (v++y)) (g:Lex (k+u.length) v m y):Lex k (u++v) (l++m) y:=by
 generalize hw:v++y=w at h
 induction h with
 | nil=>exact g
 | blank _ ih =>
  refine .blank (ih ?_ hw)
  rw [List.length_cons] at g
  rw [show ∀ a b:Nat,a+1+b=a+(b+1) from by intros; omega]
  exact g
 | @tok k b x u t l w h g' ih =>
  subst hw
  rw [List.cons_append,List.append_assoc]
  refine .tok (by rw [List.append_assoc]; exact h) (ih ?_ rfl)
  simp only [List.length_cons,List.length_append] at g
  rw [show k+(x.length+1)+u.length=k+(x.length+u.length+1) from by omega]
  exact g
theorem Lex.split {k:Nat} {s:List UInt8} {l:List Tk} {y:List UInt8} (h:Lex k s l y):∀ (i:Nat) (t:Tk),l[i]?=some t→∃ u v,s=u++v∧Lex k u (l.take i) (v++y)∧Lex (k+u.length) v (l.drop i) y∧t.at_=k+u.length∧∃ b r,v=b::r∧b≠46∧b≠58∧b≠32:=by
 induction h with
 | nil=>intro i t hi; simp at hi
 | @blank k u l y h ih =>
  intro i t hi
  obtain ⟨u1,v1,rfl,h1,h2,h3,h4⟩:=ih i t hi
  refine ⟨32::u1,v1,rfl,.blank h1,?_,?_,h4⟩
  ·rw [List.length_cons,show k+(u1.length+1)=k+1+u1.length from by omega]; exact h2
  rw [List.length_cons,h3]; omega
 | @tok k b x u t l y h g ih =>
  intro i t2 hi
  cases i with
  | zero =>
   obtain rfl:t=t2:=by simpa using hi
   refine ⟨[],b::(x++u),rfl,.nil _ _,.tok h g,by rw [sd h]; rfl,b,_,rfl,iB h⟩
  | succ i =>
   obtain ⟨u1,v1,rfl,h1,h2,h3,h4⟩:=ih i t2 (by simpa using hi)
   refine ⟨b::(x++u1),v1,by simp,.tok (by rw [← List.append_assoc u1]; exact h) h1,?_,?_,h4⟩
   ·rw [show k+(b::(x++u1)).length=k+(x.length+1)+u1.length from by simp; omega]
    exact h2
   rw [h3]; simp; omega
theorem tT {s:List UInt8} {l:List Tk} (h:Lex 0 s l []) (i:Nat) (t:Tk) (ht:l[i]?=some t):t.at_<s.length∧s[t.at_]?≠some 32:=by
 obtain ⟨u,v,rfl,h1,h2,h3,b,r,rfl,hb1,hb2,hb3⟩:=h.split i t ht
 rw [Nat.zero_add] at h3
 rw [h3]
 refine ⟨by simp,?_⟩
 rw [List.getElem?_append_right (Nat.le_refl _),Nat.sub_self]
 simpa using hb3
theorem Lex.later {k:Nat} {s:List UInt8} {l:List Tk} {y:List UInt8} (h:Lex k s l y):∀ t∈l,k≤t.at_:=by
 induction h with
 | nil=>simp
 | blank _ ih=>intro t ht; have:=ih t ht; omega
 | tok h _ ih =>
  intro t ht
  rcases List.mem_cons.1 ht with rfl | ht
  ·rw [sd h]; omega
  have:=ih t ht; omega
end
section
open Go.RowKit
open Go.Lib (decDigits)
def pM (b:UInt8):Bool:=decide (65≤b.toNat∧b.toNat≤90)
def o5 (l:List UInt8):Bool:=l.head?.any pM && decide (l.length<256) && l.all fun b=>pM b || ah b
def bS (b:UInt8):List UInt8:=if b=34 then [34,34] else [b]
def dr (l:List UInt8):List UInt8:=34::(l.flatMap bS++[34])
def cd (l:List UInt8):List UInt8:=(l.reverse.dropWhile (· == 48)).reverse
def cD (a:Int):List UInt8 :=
 (if a<0 then [45] else [])++decDigits (a.natAbs / 10000)++if a.natAbs % 10000=0 then [] else 46::cd ((decDigits (10000+a.natAbs % 10000)).drop 1)
def fA (n:Int):List UInt8 :=
 if n=1 then [43] else if n=2 then [45] else if n=3 then [42] else if n=4 then [47] else if n=5 then [94] else if n=6 then [38]
 else if n=7 then [61] else if n=8 then [60,62] else if n=9 then [60] else if n=10 then [60,61] else if n=11 then [62] else if n=12 then [62,61] else if n=13 then [37] else []
def mx (r:R4):Bool:=decide (r.c1=r.c2∧r.r1=r.r2)
def cT (t:Tk):Bool:=decide (t.num=0) && t.text.isEmpty && decide (t.r.c1=0∧t.r.r1=0∧t.r.c2=0∧t.r.r2=0)
def okT (t:Tk):Bool :=
 if t.kind=1 then decide (0≤t.num) && cT { t with num:=0 }
 else if t.kind=2 then t.text.all aj && decide (t.text.length≤256) && decide ((dr t.text).length≤256) && cT { t with text:=[] }
 else if t.kind=3 then decide (t.num=0∨t.num=1) && cT { t with num:=0 }
 else if t.kind=4 then decide (1≤t.num∧t.num≤5) && cT { t with num:=0 }
 else if t.kind=5 then aG t.r && mx t.r && cT { t with r:=R4.zero }
 else if t.kind=6 then aG t.r && !mx t.r && cT { t with r:=R4.zero }
 else if t.kind=7 then o5 t.text && cT { t with text:=[] }
 else if t.kind=8 then decide (1≤t.num∧t.num≤13) && cT { t with num:=0 }
 else decide (9≤t.kind∧t.kind≤11) && cT t
theorem qH:∀ (m:Nat) (l t:List UInt8) (n:Nat),l.length≤m→aP l=some (t,n)→t.flatMap bS++[34]=l.take n:=by
 intro m
 induction m with
 | zero =>
  intro l t n hl h
  obtain rfl:=List.length_eq_zero_iff.1 (Nat.le_zero.1 hl)
  cases h
 | succ m ih =>
  intro l t n hl h
  match l,hl,h with
  | [],_,h=>cases h
  | [b],_,h =>
   rw [di] at h
   split at h
   ·rename_i hb
    obtain ⟨rfl,rfl⟩:=Prod.mk.inj (Option.some.inj h)
    rw [hb]
    rfl
   cases h
  | b::c::r,hl,h =>
   rw [bR] at h
   simp only [List.length_cons] at hl
   split at h
   ·rename_i hb
    split at h
    ·rename_i hc
     obtain ⟨x,hx,e⟩:=Option.map_eq_some_iff.1 h
     obtain ⟨rfl,rfl⟩:=Prod.mk.inj e
     have:=ih r x.1 x.2 (by omega) hx
     rw [List.take_succ_cons,List.take_succ_cons,← this,List.flatMap_cons,hb,hc]
     rfl
    obtain ⟨rfl,rfl⟩:=Prod.mk.inj (Option.some.inj h)
    rw [hb]
    rfl
   rename_i hb
   obtain ⟨x,hx,e⟩:=Option.map_eq_some_iff.1 h
   obtain ⟨rfl,rfl⟩:=Prod.mk.inj e
   have:=ih (c::r) x.1 x.2 (by simp; omega) hx
   rw [List.take_succ_cons,← this,List.flatMap_cons]
   unfold bS
   rw [if_neg hb]
   rfl
theorem qt (l:List UInt8):∀ b∈l,b∈l.flatMap bS:=by
 intro b hb
 refine List.mem_flatMap.2 ⟨b,hb,?_⟩
 unfold bS
 split <;> simp_all
theorem qq (l:List UInt8):l.length≤(l.flatMap bS).length:=by
 induction l with
 | nil=>simp
 | cons b l ih =>
  rw [List.flatMap_cons,List.length_append]
  have:1≤(bS b).length:=by unfold bS; split <;> simp
  simp only [List.length_cons]
  omega
theorem xq (b:UInt8) (h:au b=true):(pM (upB b) || ah (upB b))=true:=by
 by_cases hl:ar b=true
 ·obtain ⟨h1,h2,h3⟩:=lT b hl
  have:(upB b).toNat=65+(dz b - 1):=by rw [h1,UInt8.toNat_ofNat']; omega
  simp only [pM,this,Bool.or_eq_true,decide_eq_true_eq]
  left; omega
 have hd:ah b=true:=by simpa [au,hl] using h
 have hu:upB b=b:=by
  unfold upB
  rw [if_neg]
  simp only [ah,decide_eq_true_eq] at hd
  omega
 rw [hu,hd,Bool.or_true]
theorem xp (b:UInt8) (h:ar b=true):pM (upB b)=true:=by
 obtain ⟨h1,h2,h3⟩:=lT b h
 have:(upB b).toNat=65+(dz b - 1):=by rw [h1,UInt8.toNat_ofNat']; omega
 simp only [pM,this,decide_eq_true_eq]
 omega
theorem pj {a b:Int×Int} (ha:ba a.1 a.2=true) (hb:ba b.1 b.2=true):aG (fD a b)=true:=by
 rw [nm]
 simp only [ba,decide_eq_true_eq] at ha hb
 simp only [fD]
 omega
theorem jM (a b:Int×Int):mx (fD a b)=decide (a.1=b.1∧a.2=b.2):=by
 unfold mx fD
 rw [decide_eq_decide]
 simp only
 omega
theorem vD {l:List UInt8} {k:Nat} {t:Tk} {n:Nat} (hl:l.head?.any ar=true) (h256:l.length≤256) (h:bU l k=some (t,n)):okT t=true:=by
 obtain ⟨hs,hw,hd⟩:=br au l
 have h1:(l.takeWhile au).head?.any ar=true:=by
  cases l with
  | nil=>cases hl
  | cons b r =>
   have hb:ar b=true:=hl
   have hb2:au b=true:=by simp [au,hb]
   simp [hb2,hb]
 have h2:=congrArg List.length hs
 rw [List.length_append] at h2
 unfold bU at h
 simp only at h
 generalize l.takeWhile au=w at h1 h2 hw h
 generalize l.dropWhile au=d at h2 h
 split at h
 ·rename_i h40
  obtain ⟨rfl,-⟩:=Prod.mk.inj (Option.some.inj h)
  have hd1:1≤d.length:=by
   cases d with
   | nil=>cases h40
   | cons=>simp
  have hn:o5 (w.map upB)=true:=by
   unfold o5
   rw [Bool.and_eq_true,Bool.and_eq_true,List.all_eq_true]
   refine ⟨⟨?_,by rw [decide_eq_true_eq,List.length_map]; omega⟩,?_⟩
   ·cases w with
    | nil=>cases h1
    | cons b w=>exact xp b h1
   intro b hb
   obtain ⟨c,hc,rfl⟩:=List.mem_map.1 hb
   exact xq c (hw c hc)
  simp [okT,hn,cT,R4.zero]
 split at h
 ·obtain ⟨rfl,-⟩:=Prod.mk.inj (Option.some.inj h)
  simp [okT,cT,R4.zero]
 split at h
 ·obtain ⟨rfl,-⟩:=Prod.mk.inj (Option.some.inj h)
  simp [okT,cT,R4.zero]
 split at h
 ·cases h
 rename_i hp
 have hv:=(mF (w.map upB) (by simpa using hp)).1
 split at h
 ·obtain ⟨rfl,-⟩:=Prod.mk.inj (Option.some.inj h)
  simp [okT,cT,R4.zero,jM,pj (a:=((aJ (w.map upB)).1,(aJ (w.map upB)).2.1)) (b:=((aJ (w.map upB)).1,(aJ (w.map upB)).2.1)) hv hv]
 rename_i c r m hs2
 obtain ⟨q,hq,ha⟩:=eS hs2
 obtain ⟨w2,d2,hq2,-,-,-,-,-,hp2,-⟩:=gl ha
 have hv2:=(mF (w2.map upB) (by rw [hp2])).1
 rw [hp2] at hv2
 have hok:=pj (a:=((aJ (w.map upB)).1,(aJ (w.map upB)).2.1)) (b:=(c,r)) hv hv2
 obtain ⟨rfl,-⟩:=Prod.mk.inj (Option.some.inj h)
 by_cases he:(aJ (w.map upB)).1=c∧(aJ (w.map upB)).2.1=r
 ·have h1':mx (fD ((aJ (w.map upB)).1,(aJ (w.map upB)).2.1) (c,r))=true:=by rw [jM]; exact decide_eq_true he
  simp only [okT,if_pos he]
  simp [cT,R4.zero,hok,h1']
 have h1':mx (fD ((aJ (w.map upB)).1,(aJ (w.map upB)).2.1) (c,r))=false:=by rw [jM]; exact decide_eq_false he
 simp only [okT,if_neg he]
 simp [cT,R4.zero,hok,h1']
theorem yb {b:UInt8} {r:List UInt8} {k:Nat} {v:Int} {n:Nat} {c:Nat} (h:opS (b::r)=some (k,v,n)):okT ⟨k,v,[],R4.zero,c⟩=true:=by
 have key:∀ x∈iP,okT ⟨x.2.1,x.2.2,[],R4.zero,0⟩=true:=by decide
 have ka:∀ k v a b,okT ⟨k,v,[],R4.zero,a⟩=okT ⟨k,v,[],R4.zero,b⟩:=fun _ _ _ _=>rfl
 rw [bQ] at h
 by_cases h60:b=60
 ·rw [if_pos h60] at h
  split at h
  ·obtain ⟨rfl,e⟩:=Prod.mk.inj (Option.some.inj h); obtain ⟨rfl,-⟩:=Prod.mk.inj e; rfl
  split at h
  ·obtain ⟨rfl,e⟩:=Prod.mk.inj (Option.some.inj h); obtain ⟨rfl,-⟩:=Prod.mk.inj e; rfl
  obtain ⟨rfl,e⟩:=Prod.mk.inj (Option.some.inj h); obtain ⟨rfl,-⟩:=Prod.mk.inj e; rfl
 rw [if_neg h60] at h
 by_cases h62:b=62
 ·rw [if_pos h62] at h
  split at h
  ·obtain ⟨rfl,e⟩:=Prod.mk.inj (Option.some.inj h); obtain ⟨rfl,-⟩:=Prod.mk.inj e; rfl
  obtain ⟨rfl,e⟩:=Prod.mk.inj (Option.some.inj h); obtain ⟨rfl,-⟩:=Prod.mk.inj e; rfl
 rw [if_neg h62] at h
 obtain ⟨x,hx,e⟩:=Option.map_eq_some_iff.1 h
 obtain ⟨rfl,e2⟩:=Prod.mk.inj e
 obtain ⟨rfl,-⟩:=Prod.mk.inj e2
 exact (ka _ _ c 0).trans (key x (List.mem_of_find?_eq_some hx))
theorem xl {l:List UInt8} {k:Nat} {t:Tk} {n:Nat} (h256:l.length≤256) (hp:∀ b∈l,aj b=true) (h:ee k l=some (t,n)):okT t=true:=by
 cases l with
 | nil=>cases h
 | cons b r =>
  rw [cZ] at h
  by_cases h1:ah b=true
  ·rw [if_pos h1] at h
   obtain ⟨q,hq,e⟩:=Option.map_eq_some_iff.1 h
   obtain ⟨rfl,-⟩:=Prod.mk.inj e
   obtain ⟨w,p,e',-,-,-,-,hv,-⟩:=fV (l:=b::r) (v:=q.1) (n:=q.2) hq
   simp [okT,cT,R4.zero,hv]
  rw [if_neg h1] at h
  by_cases h2:b=34
  ·rw [if_pos h2] at h
   obtain ⟨q,hq,e⟩:=Option.map_eq_some_iff.1 h
   obtain ⟨rfl,-⟩:=Prod.mk.inj e
   have hle:=fK _ _ q.1 q.2 (Nat.le_refl _) hq
   have hqu:=qH _ _ q.1 q.2 (Nat.le_refl _) hq
   have hlen:=congrArg List.length hqu
   rw [List.length_take,List.length_append] at hlen
   have hql:=qq q.1
   simp only [List.length_cons,List.length_nil] at h256 hlen
   have hpl:q.1.all aj=true:=by
    rw [List.all_eq_true]
    intro c hc
    have h9:c∈r.take q.2:=by rw [← hqu]; exact List.mem_append_left _ (qt _ c hc)
    exact hp c (List.mem_cons_of_mem _ (List.mem_of_mem_take h9))
   have hl1:q.1.length≤256:=by omega
   have hl2:(dr q.1).length≤256:=by unfold dr; simp only [List.length_cons,List.length_append,List.length_nil]; omega
   unfold okT
   rw [if_neg (by simp),if_pos (by rfl),hpl,decide_eq_true hl1,decide_eq_true hl2]
   rfl
  rw [if_neg h2] at h
  by_cases h3:ar b=true
  ·rw [if_pos h3] at h
   exact vD (l:=b::r) h3 h256 h
  rw [if_neg h3] at h
  cases he:gq (b::r) with
  | some q =>
   obtain ⟨c,m⟩:=q
   rw [he] at h
   obtain ⟨rfl,-⟩:=Prod.mk.inj (Option.some.inj h)
   obtain ⟨i,x,hx,hc,-⟩:=ej _ _ he
   have hi:=(List.getElem?_eq_some_iff.1 hx).1
   have hi5:i<5:=hi
   have:1≤(c:Int)∧(c:Int)≤5:=by omega
   simp [okT,cT,R4.zero,this]
  | none =>
   rw [he] at h
   obtain ⟨q,hq,e⟩:=Option.map_eq_some_iff.1 h
   obtain ⟨rfl,-⟩:=Prod.mk.inj e
   exact yb (k:=q.1) (v:=q.2.1) (n:=q.2.2) hq
theorem Lex.ok {k:Nat} {s:List UInt8} {l:List Tk} {y:List UInt8} (h:Lex k s l y) (h256:(s++y).length≤256) (hp:∀ b∈s++y,aj b=true):∀ t∈l,okT t=true:=by
 induction h with
 | nil=>simp
 | blank _ ih=>exact ih (by simp at h256 ⊢; omega) fun b hb=>hp b (by simp at hb ⊢; right; exact hb)
 | tok h g ih =>
  intro t ht
  rcases List.mem_cons.1 ht with rfl | ht
  ·exact xl (by simp at h256 ⊢; omega) (fun b hb=>hp b (by simpa using hb)) h
  exact ih (by simp at h256 ⊢; omega) (fun b hb=>hp b (by simp at hb ⊢; right; right; exact hb)) t ht
end
