/- Plain helpers: a list of facts that outlive every call, carried as one fact, beside a row of the call's own that grows. No program stands here. The contract of addr.Valid. One byte made a string: string([]byte{b}). Plain lemmas on addresses: what letters and digits say, and that reading and writing are inverse. No program stands here. -/
import Derived.Test.YthdmpajkacmkdaaGreatDoorGShelf
import Derived.Deep.RegionHeld3
import Derived.Deep.AppendLies
import Derived.Deep.Onto
import Derived.Lib.ItoaNum
namespace Go.Proofs.YthdmpajkacmkdaaGreatDoor
open Go.RowKit
def bh (p:Prop):Prop:=∃ _:Unit,p
theorem keep {p:Prop} (h:p):bh p:=⟨(),h⟩
theorem bh.out {p:Prop} (h:bh p):p:=h.elim fun _ h=>h
structure aZ where
 p:World→Prop
 s:World→Prop
 far:Option Nat→Prop
 st:∀ (w w':World) (row:Option Nat),far row→w.grownBy w' row→p w→p w'
 vis:∀ w,p w→s w
 none_:far none
 new:∀ (w:World) (k:Nat),w.heap.size≤k→p w→far (some k)
def sees:List aZ→World→Prop
 | [],_=>True
 | x::l,w=>x.s w∧sees l w
structure Ok (w0:World) (ps:List aZ) (w:World):Prop where
 bel:Below w0.heap.size w0 w
 all:∀ x∈ps,x.p w
def ac (w:World) (b:Nat):Nat→List Value→Prop
 | _,[]=>True
 | i,v::vs=>w.cell? ⟨b,i,none⟩=some v∧ac w b (i+1) vs
theorem lI (w:World) (b:Nat) (t:TypeId) (cs:List Value) (h:Blk w b t cs.toArray):ac w b 0 cs:=by
 have key:∀ (l:List Value) (i:Nat),(∀ j v,l[j]?=some v→w.cell? ⟨b,i+j,none⟩=some v)→ac w b i l:=by
  intro l
  induction l with
  | nil=>intro i _; exact trivial
  | cons v vs ih =>
   intro i hl
   refine ⟨by simpa using hl 0 v rfl,ih (i+1) fun j u hu => ?_⟩
   have:=hl (j+1) u (by simpa using hu)
   rwa [show i+(j+1)=i+1+j from by omega] at this
 refine key cs 0 fun j v hv => ?_
 rw [Nat.zero_add,h.cell]
 simpa using hv
def af (b:Nat) (t:TypeId) (cs:List Value):aZ where
 p w:=Blk w b t cs.toArray
 s w:=b<w.heap.size∧ac w b 0 cs
 far row:=some b≠row
 st _ _ _ hr hb h:=h.grown hb hr
 vis w h:=⟨h.lt,lI w b t cs h⟩
 none_:=by simp
 new w k hk h:=by have:=h.lt; simp; omega
def ah (b:Nat) (t:TypeId) (cs:List Value):aZ where
 p w:=Blk w b t cs.toArray
 s w:=(b<w.heap.size∧∀ i,w.frozen? ⟨b,i,none⟩=false)∧ac w b 0 cs
 far row:=some b≠row
 st _ _ _ hr hb h:=h.grown hb hr
 vis w h:=⟨⟨h.lt,h.frozen⟩,lI w b t cs h⟩
 none_:=by simp
 new w k hk h:=by have:=h.lt; simp; omega
def ag (w:World) (b i:Nat):Nat→List Value→Prop
 | _,[]=>True
 | j,v::vs=>w.cell? ⟨b,i+j,none⟩=some v∧ag w b i (j+1) vs
def aa (b i:Nat) (cs:List Value):aZ where
 p w:=b<w.heap.size∧ag w b i 0 cs
 s w:=b<w.heap.size∧ag w b i 0 cs
 far row:=some b≠row
 st w w' row hr hb h:=⟨Nat.lt_of_lt_of_le h.1 hb.size,by
  have key:∀ (l:List Value) (j:Nat),ag w b i j l→ag w' b i j l:=by
   intro l
   induction l with
   | nil=>intro _ _; exact trivial
   | cons v vs ih=>intro j hl; exact ⟨(World.cell?_of_block (hb.block b h.1 hr)).trans hl.1,ih _ hl.2⟩
  exact key cs 0 h.2⟩
 vis _ h:=h
 none_:=by simp
 new w k hk h:=by have:=h.1; simp; omega
def aK (B:Nat) (e:TypeId) (size:Nat) (v:Value) (n:Nat) (xs:List Value):aZ where
 p w:=w.ownsRow B e size v n xs
 s _:=True
 far row:=v.ownBlock=none∨v.ownBlock≠row
 st _ _ _ hr hb h:=h.kept hb hr
 vis _ _:=trivial
 none_:=by cases hv:v.ownBlock <;> simp
 new w k hk h:=by
  cases hv:v.ownBlock with
  | none=>exact .inl rfl
  | some g =>
   have:=(h.lt g hv).2
   exact .inr (by simp; omega)
section
variable {w0 w w':World} {ps:List aZ}
theorem Ok.start (w:World):Ok w [] w:=⟨Below.refl _ _,fun _ h=>absurd h (by simp)⟩
theorem Ok.below (h:Ok w0 ps w) (hb:Below w.heap.size w w'):Ok w0 ps w' :=
 ⟨an h.bel hb,fun x hx=>x.st _ _ none x.none_ (d7 hb none) (h.all x hx)⟩
theorem Ok.alloc_obj (h:Ok w0 ps w) (o:Obj):Ok w0 ps (w.alloc o):=h.below ((Below.refl _ _).alloc (Nat.le_refl _) o)
theorem Ok.add (h:Ok w0 ps w) (x:aZ) (hx:x.p w):Ok w0 (x::ps) w :=
 ⟨h.bel,fun y hy=>by
  rcases List.mem_cons.1 hy with rfl | hy
  ·exact hx
  exact h.all y hy⟩
theorem Ok.alloc (h:Ok w0 ps w) (k:Nat) (t:TypeId) (cs:List Value) (hk:w.heap.size=k):Ok w0 (af k t cs::ps) (w.alloc (.cells cs.toArray t)) :=
 (h.alloc_obj _).add _ (by subst hk; exact Blk.new w t cs.toArray)
theorem Ok.var (h:Ok w0 ps w) (k:Nat) (t:TypeId) (cs:List Value) (hk:w.heap.size=k):Ok w0 (ah k t cs::ps) (w.alloc (.cells cs.toArray t)) :=
 (h.alloc_obj _).add _ (by subst hk; exact Blk.new w t cs.toArray)
theorem Ok.drew (h:Ok w0 ps w):Ok w0 ps w.drew:=h.below ((Below.refl _ _).drew)
theorem Ok.sees (h:Ok w0 ps w):sees ps w:=by
 have key:∀ l:List aZ,(∀ x∈l,x.p w)→Go.Proofs.YthdmpajkacmkdaaGreatDoor.sees l w:=by
  intro l
  induction l with
  | nil=>intro _; exact trivial
  | cons x l ih=>intro hl; exact ⟨x.vis _ (hl x (by simp)),ih fun y hy=>hl y (by simp [hy])⟩
 exact key ps h.all
theorem Ok.drop (h:Ok w0 ps w) (qs:List aZ) (hq:∀ x∈qs,x∈ps):Ok w0 qs w:=⟨h.bel,fun x hx=>h.all x (hq x hx)⟩
theorem Ok.tail {x:aZ} (h:Ok w0 (x::ps) w):Ok w0 ps w:=⟨h.bel,fun y hy=>h.all y (by simp [hy])⟩
theorem oV {a:World} (g:Nat) (i:Nat) (u:Value):a.grownBy (a.setCell ⟨g,i,none⟩ u) (some g) :=
 ⟨rfl,rfl,rfl,by simp [World.setCell],fun j _ hne=>Below.heap_setCell a ⟨g,i,none⟩ u j (fun e=>hne (by rw [e]))⟩
theorem Ok.set_ {b i:Nat} {t:TypeId} {cs:List Value} {u:Value} (h:Ok w0 (ah b t cs::ps) w) (hb:w0.heap.size≤b) (hf:∀ x∈ps,x.far (some b)):Ok w0 (ah b t (cs.set i u)::ps) (w.setCell ⟨b,i,none⟩ u) where
 bel:=h.bel.setCell hb u
 all x hx:=by
  rcases List.mem_cons.1 hx with rfl | hx
  ·have:=Blk.set_ (show Blk w b t cs.toArray from h.all _ (List.mem_cons_self ..)) i u
   simpa [ah] using this
  exact x.st _ _ _ (hf x hx) (oV b i u) (h.all x (List.mem_cons_of_mem _ hx))
theorem Ok.get (h:Ok w0 ps w) (x:aZ) (hx:x∈ps):x.p w:=h.all x hx
end
structure ai (w0:World) (ps:List aZ) (e:TypeId) (size:Nat) (v:Value) (n:Nat) (xs:List Value) (w:World):Prop where
 ok:Ok w0 ps w
 own:w.ownsRow w0.heap.size e size v n xs
 far:∀ x∈ps,x.far v.ownBlock
section
variable {w0 w w':World} {ps:List aZ} {e:TypeId} {size:Nat} {v:Value} {n:Nat} {xs:List Value}
theorem ai.start (h:Ok w0 ps w) (e:TypeId) (size:Nat):ai w0 ps e size (.slice none 0 0) 0 [] w :=
 ⟨h,World.ownsRow_nil w w0.heap.size e size,fun x _=>x.none_⟩
theorem ai.of_new (h:Ok w0 ps w) (hb:Below w.heap.size w w') (hown:w'.ownsRow w.heap.size e size v n xs):ai w0 ps e size v n xs w' :=
 ⟨h.below hb,hown.mono h.bel.size,fun x hx=>by
  cases hv:v.ownBlock with
  | none=>exact x.none_
  | some k=>exact x.new w k (hown.lt k hv).1 (h.all x hx)⟩
theorem ai.below (h:ai w0 ps e size v n xs w) (hb:Below w.heap.size w w'):ai w0 ps e size v n xs w' :=
 ⟨h.ok.below hb,h.own.kept (d7 hb none) (by cases hv:v.ownBlock <;> simp),h.far⟩
theorem ai.add (h:ai w0 ps e size v n xs w) (x:aZ) (hx:x.p w) (hf:x.far v.ownBlock):ai w0 (x::ps) e size v n xs w :=
 ⟨h.ok.add x hx,h.own,fun y hy=>by
  rcases List.mem_cons.1 hy with rfl | hy
  ·exact hf
  exact h.far y hy⟩
theorem ai.drew (h:ai w0 ps e size v n xs w):ai w0 ps e size v n xs w.drew:=h.below ((Below.refl _ _).drew)
theorem ai.alloc_obj (h:ai w0 ps e size v n xs w) (o:Obj):ai w0 ps e size v n xs (w.alloc o):=h.below ((Below.refl _ _).alloc (Nat.le_refl _) o)
theorem ai.alloc (h:ai w0 ps e size v n xs w) (k:Nat) (t:TypeId) (cs:List Value) (hk:w.heap.size=k):ai w0 (af k t cs::ps) e size v n xs (w.alloc (.cells cs.toArray t)) :=
 (h.alloc_obj _).add _ (by subst hk; exact Blk.new w t cs.toArray) (by
  subst hk
  show some w.heap.size≠v.ownBlock
  intro hv
  have:=(h.own.lt _ hv.symm).2
  omega)
theorem ai.grown (h:ai w0 ps e size v n xs w) {v':Value} {n':Nat} {xs':List Value} (hown:w'.ownsRow w0.heap.size e size v' n' xs') (hg:w.grownBy w' v.ownBlock) (hat:v'.ownBlock=none∨v'.ownBlock=v.ownBlock∨v'.ownBlock=some w.heap.size):ai w0 ps e size v' n' xs' w' where
 ok:=⟨h.ok.bel.grown hg h.ok.bel.size (fun k hk=>(h.own.lt k hk).1),fun x hx=>x.st _ _ _ (h.far x hx) hg (h.ok.all x hx)⟩
 own:=hown
 far x hx:=by
  rcases hat with hat | hat | hat
  ·rw [hat]; exact x.none_
  ·rw [hat]; exact h.far x hx
  rw [hat]; exact x.new w _ (Nat.le_refl _) (h.ok.all x hx)
theorem ai.appended (h:ai w0 ps e size v n xs w) {g m c:Nat} {xs':List Value} (hown:w'.ownsRow w0.heap.size e size (.slice (some ⟨g,0,none⟩) m c) m xs') (hg:w.grownBy w' v.ownBlock) (hat:v.ownBlock=some g∨g=w.heap.size) :
  ai w0 ps e size (.slice (some ⟨g,0,none⟩) m c) m xs' w' :=
 h.grown hown hg (by
  right
  rcases hat with hat | hat
  ·exact .inl (by rw [hat]; rfl)
  exact .inr (by rw [hat]; rfl))
theorem ai.drop (h:ai w0 ps e size v n xs w) (qs:List aZ) (hq:∀ x∈qs,x∈ps):ai w0 qs e size v n xs w:=⟨h.ok.drop qs hq,h.own,fun x hx=>h.far x (hq x hx)⟩
theorem ai.tail {x:aZ} (h:ai w0 (x::ps) e size v n xs w):ai w0 ps e size v n xs w:=⟨h.ok.tail,h.own,fun y hy=>h.far y (by simp [hy])⟩
theorem ai.pers (h:ai w0 ps e size v n xs w):Ok w0 (aK w0.heap.size e size v n xs::ps) w:=h.ok.add _ h.own
theorem ai.back (h:Ok w0 (aK w0.heap.size e size v n xs::ps) w) (hf:∀ x∈ps,x.far v.ownBlock):ai w0 ps e size v n xs w:=⟨h.tail,h.get _ (List.mem_cons_self ..),hf⟩
end
open Go.RowKit Go.Proofs.Tryz
def aW (c r:Int):Bool:=decide (1≤c∧c≤1024∧1≤r∧r≤1024)
theorem jU (c r:Int) (P:Prop) (h1:¬ 1≤c→P) (h2:1≤c→¬ c≤1024→P) (h3:1≤c→c≤1024→¬ 1≤r→P) (h4:1≤c→c≤1024→1≤r→¬ r≤1024→P) (h5:1≤c→c≤1024→1≤r→r≤1024→P):P:=by
 by_cases a:1≤c
 ·by_cases b:c≤1024
  ·by_cases d:1≤r
   ·by_cases e:r≤1024
    ·exact h5 a b d e
    exact h4 a b d e
   exact h3 a b d
  exact h2 a b
 exact h1 a
theorem eJ (c r:Int) (w:World) :
  Calls prog 146 #[.agg #[.int .i64 c,.int .i64 r]] w fun e w'=>e=.returned (.bool (aW c r))∧Below w.heap.size w w':=by
 apply jU c r <;> intros
 all_goals
  go_enter func146,ntmps146
  go_wp2
  go_ret
  exact ⟨by simp only [Array.getD_eq_getD_getElem?]; simp [aW]; try omega,(Below.refl _ _).alloc (Nat.le_refl _) _⟩
open Go.RowKit
theorem kr {P:Program} (src dst e:TypeId) (hs:P.underlying src=some (.slice e)) (he:P.underlying e=some (.int .u8)) (hd:P.underlying dst=some .string) (W:World) (x:Int) (t:TypeId) :
  (convert src dst (.slice (some ⟨W.heap.size,0,none⟩) 1 1)).run P (W.alloc (.cells #[.int .u8 x] t))=.ok (.string ⟨#[UInt8.ofNat x.toNat]⟩) (W.alloc (.cells #[.int .u8 x] t)):=by
 rw [run_convert_bytes_string _ _ _ e _ _ _ hs he hd]
 rw [run_bytesToString _ _ 1 1 [x]]
 ·rfl
 simp [go_sem]
def ef (b:UInt8):Nat:=if 65≤b.toNat∧b.toNat≤90 then b.toNat - 64 else if 97≤b.toNat∧b.toNat≤122 then b.toNat - 96 else 0
def az (b:UInt8):Bool:=ef b != 0
def al (b:UInt8):Bool:=decide (48≤b.toNat∧b.toNat≤57)
def lf (n:Nat) (b:UInt8):Nat:=min (26 * n+ef b) 1025
def eU (n:Nat) (b:UInt8):Nat:=min (10 * n+(b.toNat - 48)) 1025
def dd (l:List UInt8):Nat:=l.foldl lf 0
def rowOf (l:List UInt8):Nat:=l.foldl eU 0
def aR (l:List UInt8):Int×Int×Int :=
 let a:=l.takeWhile az
 let d:=l.dropWhile az
 if a=[]∨d=[]∨d.head?=some 48∨d.all al=false then (0,0,4)
 else if 1024<dd a∨1024<rowOf d then (0,0,3)
 else (dd a,rowOf d,0)
structure Pc where
 m0:Nat
 m1:Nat
 v0:Nat
 v1:Nat
 ok:Bool
def Pc.start:Pc:=⟨0,0,0,0,true⟩
def Pc.letter (p:Pc) (b:UInt8):Pc:=⟨p.m0+1,p.m1,lf p.v0 b,p.v1,p.ok && p.m1 == 0⟩
def Pc.digit (p:Pc) (b:UInt8):Pc:=⟨p.m0,p.m1+1,p.v0,eU p.v1 b,p.ok && (b != 48 || decide (0<p.m1))⟩
def Pc.other (p:Pc):Pc:={ p with ok:=false }
def Pc.step (p:Pc) (b:UInt8):Pc:=if az b then p.letter b else if al b then p.digit b else p.other
def dH (l:List UInt8):Pc:=l.foldl Pc.step .start
theorem Pc.step_bad {p:Pc} (h:p.ok=false) (b:UInt8):(p.step b).ok=false:=by
 unfold Pc.step; split
 ·simp [Pc.letter,h]
 split <;> simp [Pc.digit,Pc.other,h]
theorem oA (l:List UInt8):∀ p:Pc,p.ok=false→(l.foldl Pc.step p).ok=false:=by
 induction l with
 | nil=>intro p h; exact h
 | cons b l ih=>intro p h; exact ih _ (Pc.step_bad h b)
theorem nK (l:List UInt8):∀ p:Pc,p.m1=0→(∀ b∈l,az b=true)→l.foldl Pc.step p=⟨p.m0+l.length,0,l.foldl lf p.v0,p.v1,p.ok⟩:=by
 induction l with
 | nil=>rintro ⟨_,_,_,_,_⟩ h _; simp at h; subst h; rfl
 | cons b l ih =>
  intro p h hl
  have hb:az b=true:=hl b (by simp)
  have e:p.step b=p.letter b:=by unfold Pc.step; rw [if_pos hb]
  rw [List.foldl_cons,e,ih _ (by simp [Pc.letter,h]) (fun x hx=>hl x (by simp [hx]))]
  simp [Pc.letter,h]; omega
theorem fg {b:UInt8} (h:al b=true):az b=false:=by
 simp only [al,decide_eq_true_eq] at h
 unfold az ef
 rw [if_neg (by omega),if_neg (by omega)]; rfl
theorem oB (l:List UInt8):∀ p:Pc,0<p.m1→(l.all al=true→l.foldl Pc.step p=⟨p.m0,p.m1+l.length,p.v0,l.foldl eU p.v1,p.ok⟩)∧(l.all al=false→(l.foldl Pc.step p).ok=false):=by
 induction l with
 | nil=>rintro ⟨_,_,_,_,_⟩ _; simp
 | cons b l ih =>
  intro p h
  by_cases hb:al b=true
  ·have e:p.step b=p.digit b:=by unfold Pc.step; rw [if_neg (by simp [fg hb]),if_pos hb]
   have i:=ih (p.digit b) (by simp [Pc.digit])
   simp only [List.all_cons,hb,Bool.true_and,List.foldl_cons,e]
   refine ⟨fun h1 => ?_,i.2⟩
   rw [i.1 h1]
   simp [Pc.digit,h]; omega
  simp only [List.all_cons,Bool.not_eq_true] at hb ⊢
  rw [hb]
  refine ⟨fun h1=>by simp at h1,fun _ => ?_⟩
  rw [List.foldl_cons]
  apply oA
  unfold Pc.step
  split
  ·simp [Pc.letter]; omega
  rw [if_neg (by simp [hb])]; rfl
theorem iZ (l:List UInt8) (b:UInt8):dd (l++[b])=min (26 * dd l+ef b) 1025:=by simp [dd,lf]
theorem l8 (l:List UInt8) (b:UInt8):rowOf (l++[b])=min (10 * rowOf l+(b.toNat - 48)) 1025:=by simp [rowOf,eU]
theorem mK (l:List UInt8) (h:l≠[]) (hl:∀ b∈l,az b=true):1≤dd l:=by
 rcases List.eq_nil_or_concat l with rfl | ⟨m,b,rfl⟩
 ·exact absurd rfl h
 rw [List.concat_eq_append,iZ]
 have:ef b≠0:=by
  have:=hl b (by simp)
  simpa [az] using this
 omega
theorem kp (l:List UInt8):∀ b,al b=true→b≠48→1≤rowOf (b::l):=by
 intro b hb h0
 simp only [al,decide_eq_true_eq] at hb
 have h1:1≤eU 0 b:=by
  have:b.toNat≠48:=fun e=>h0 (by rw [← UInt8.toNat_inj]; exact e)
  unfold eU; omega
 have key:∀ (l:List UInt8) n,1≤n→1≤l.foldl eU n:=by
  intro l
  induction l with
  | nil=>intro n h; exact h
  | cons c l ih=>intro n h; exact ih _ (by unfold eU; omega)
 exact key l _ h1
theorem v6 (l:List UInt8):dH l=(l.dropWhile az).foldl Pc.step ⟨(l.takeWhile az).length,0,dd (l.takeWhile az),0,true⟩:=by
 have h:l.foldl Pc.step .start=(l.takeWhile az++l.dropWhile az).foldl Pc.step .start:=by rw [List.takeWhile_append_dropWhile]
 unfold dH
 rw [h,List.foldl_append,nK _ _ rfl (fun b hb=>(List.all_eq_true.1 (List.all_takeWhile (l:=l))) b hb)]
 simp [Pc.start,dd]
theorem s8 (l:List UInt8) (b:UInt8) (m:List UInt8) (h:l.dropWhile az=b::m):az b=false:=by
 have:=List.head?_dropWhile_not az l
 rw [h] at this
 simpa using this
def cO (p:Pc):Int×Int×Int :=
 if p.ok=false∨p.m0=0∨p.m1=0 then (0,0,4) else if aW p.v0 p.v1=true then (p.v0,p.v1,0) else (0,0,3)
theorem qQ (l:List UInt8):cO (dH l)=aR l:=by
 rw [v6]
 unfold aR
 have ha:∀ b∈l.takeWhile az,az b=true:=fun b hb=>(List.all_eq_true.1 (List.all_takeWhile (l:=l))) b hb
 have hd:=s8 l
 generalize l.takeWhile az=a at *
 generalize l.dropWhile az=d at *
 simp only []
 match d,hd with
 | [],_=>simp [cO]
 | b::m,hd =>
  have hb:=hd b m rfl
  rw [List.foldl_cons]
  by_cases h1:al b=true
  ·have e:Pc.step ⟨a.length,0,dd a,0,true⟩ b=⟨a.length,1,dd a,eU 0 b,b != 48⟩:=by
    unfold Pc.step; rw [if_neg (by simp [hb]),if_pos h1]; simp [Pc.digit]
   rw [e]
   have i:=oB m ⟨a.length,1,dd a,eU 0 b,b != 48⟩ (by simp)
   by_cases h2:m.all al=true
   ·rw [i.1 h2]
    have er:List.foldl eU (eU 0 b) m=rowOf (b::m):=rfl
    simp only [er]
    by_cases h3:b=48
    ·subst h3; simp [cO]
    by_cases h4:a=[]
    ·subst h4; simp [cO]
    have hc:=mK a h4 ha
    have hr:=kp m b h1 h3
    have hall:(b::m).all al=true:=by simp [h1]; simpa using h2
    rw [if_neg (by simp only [h4,List.head?_cons,hall]; simp [h3])]
    unfold cO
    rw [if_neg (by simp [h3,h4])]
    by_cases h5:1024<dd a∨1024<rowOf (b::m)
    ·rw [if_pos h5,if_neg (by simp only [aW,decide_eq_true_eq]; omega)]
    rw [if_neg h5,if_pos (by simp only [aW,decide_eq_true_eq]; omega)]
   rw [Bool.not_eq_true] at h2
   have:=i.2 h2
   unfold cO
   rw [if_pos (.inl this),if_pos]
   right; right; right
   simp [h1]; simpa using h2
  rw [Bool.not_eq_true] at h1
  have e:(Pc.step ⟨a.length,0,dd a,0,true⟩ b).ok=false:=by
   unfold Pc.step; rw [if_neg (by simp [hb]),if_neg (by simp [h1])]; rfl
  have:=oA m _ e
  unfold cO
  rw [if_pos (.inl this),if_pos]
  right; right; right
  simp [h1]
def fD (fuel:Nat) (n:Nat):List UInt8 :=
 match fuel with
 | 0=>[]
 | fuel+1=>if n=0 then [] else fD fuel ((n - 1) / 26)++[UInt8.ofNat (65+(n - 1) % 26)]
def aN (n:Nat):List UInt8:=fD n n
def upB (b:UInt8):UInt8:=if 97≤b.toNat∧b.toNat≤122 then UInt8.ofNat (b.toNat - 32) else b
theorem oK:∀ (n fuel:Nat),n≤fuel→fD fuel n=fD n n:=by
 intro n
 induction n using Nat.strongRecOn with
 | _ n ih =>
  intro fuel h
  match fuel,n with
  | f,0=>cases f <;> rfl
  | 0,n+1=>omega
  | f+1,n+1 =>
   simp only [fD,Nat.add_sub_cancel]
   rw [if_neg (by omega),if_neg (by omega),ih (n / 26) (by omega) f (by omega),ih (n / 26) (by omega) n (by omega)]
theorem dc (n:Nat) (h:0<n):aN n=aN ((n - 1) / 26)++[UInt8.ofNat (65+(n - 1) % 26)]:=by
 unfold aN
 match n,h with
 | n+1,_ =>
  rw [fD,if_neg (by omega),Nat.add_sub_cancel,oK (n / 26) n (by omega)]
theorem d4:aN 0=[]:=rfl
theorem rY (k:Nat) (h:k<26):ef (UInt8.ofNat (65+k))=k+1:=by
 have:(UInt8.ofNat (65+k)).toNat=65+k:=by rw [UInt8.toNat_ofNat']; omega
 unfold ef; rw [this,if_pos (by omega)]; omega
theorem ot (n:Nat) (h:n≤1024):dd (aN n)=n:=by
 induction n using Nat.strongRecOn with
 | _ n ih =>
  rcases Nat.eq_zero_or_pos n with rfl | hp
  ·rfl
  rw [dc n hp,iZ,ih _ (by omega) (by omega),rY _ (by omega)]
  omega
theorem qK (n:Nat) (h:0<n):aN n≠[]:=by rw [dc n h]; simp
theorem oM (n:Nat):∀ b∈aN n,az b=true:=by
 induction n using Nat.strongRecOn with
 | _ n ih =>
  rcases Nat.eq_zero_or_pos n with rfl | hp
  ·intro b hb; simp [d4] at hb
  intro b hb
  rw [dc n hp,List.mem_append] at hb
  rcases hb with hb | hb
  ·exact ih _ (by omega) b hb
  rw [List.mem_singleton] at hb; subst hb
  unfold az
  rw [rY ((n - 1) % 26) (by omega)]
  simp
theorem og (b:UInt8) (h:az b=true):upB b=UInt8.ofNat (65+(ef b - 1))∧1≤ef b∧ef b≤26:=by
 have h':ef b≠0:=by simpa [az] using h
 unfold ef at *
 split at h'
 ·rename_i h1
  rw [if_pos h1]
  refine ⟨?_,by omega,by omega⟩
  unfold upB; rw [if_neg (by omega),← UInt8.toNat_inj,UInt8.toNat_ofNat']; omega
 rename_i h1
 split at h'
 ·rename_i h2
  rw [if_neg h1,if_pos h2]
  refine ⟨?_,by omega,by omega⟩
  unfold upB; rw [if_pos h2]; congr 1; omega
 exact absurd rfl h'
theorem oL (a:List UInt8) (ha:∀ b∈a,az b=true) (h:dd a≤1024):aN (dd a)=a.map upB:=by
 induction hn:a.length generalizing a with
 | zero=>rw [List.length_eq_zero_iff] at hn; subst hn; rfl
 | succ n ih =>
  rcases List.eq_nil_or_concat a with rfl | ⟨m,b,rfl⟩
  ·simp at hn
  rw [List.concat_eq_append] at *
  rw [iZ] at h ⊢
  obtain ⟨hu,h1,h2⟩:=og b (ha b (by simp))
  have he:min (26 * dd m+ef b) 1025=26 * dd m+ef b:=by omega
  rw [he] at h ⊢
  rw [dc _ (by omega),show (26 * dd m+ef b - 1) / 26=dd m from by omega,show (26 * dd m+ef b - 1) % 26=ef b - 1 from by omega,ih m (fun b hb=>ha b (by simp [hb])) (by omega) (by simpa using hn),List.map_append,← hu]
  rfl
/-! ### digits -/
open Go.Lib (decDigits)
theorem dw {n:Nat} (h:n<10):decDigits n=[UInt8.ofNat (48+n)]:=by rw [decDigits,dif_pos h]
theorem eZ {n:Nat} (h:¬ n<10):decDigits n=decDigits (n / 10)++[UInt8.ofNat (48+n % 10)]:=by rw [decDigits,dif_neg h]
theorem uL (k:Nat) (h:k<10):(UInt8.ofNat (48+k)).toNat=48+k:=by rw [UInt8.toNat_ofNat']; omega
theorem zb (n:Nat) (h:n≤1024):rowOf (decDigits n)=n:=by
 induction n using Nat.strongRecOn with
 | _ n ih =>
  by_cases hp:n<10
  ·rw [dw hp]
   show eU 0 (UInt8.ofNat (48+n))=n
   unfold eU
   rw [uL n hp]; omega
  rw [eZ hp,l8,ih _ (by omega) (by omega),uL _ (by omega)]
  omega
theorem uJ (n:Nat):decDigits n≠[]:=by
 by_cases hp:n<10
 ·rw [dw hp]; simp
 rw [eZ hp]; simp
theorem rN (n:Nat):(decDigits n).all al=true:=by
 induction n using Nat.strongRecOn with
 | _ n ih =>
  by_cases hp:n<10
  ·rw [dw hp,List.all_cons,List.all_nil,Bool.and_true]
   unfold al; rw [uL n hp,decide_eq_true_eq]; omega
  rw [eZ hp,List.all_append,ih _ (by omega),List.all_cons,List.all_nil,Bool.and_true,Bool.true_and]
  unfold al; rw [uL _ (by omega),decide_eq_true_eq]; omega
theorem uI (n:Nat) (h:0<n):(decDigits n).head?≠some 48:=by
 induction n using Nat.strongRecOn with
 | _ n ih =>
  by_cases hp:n<10
  ·rw [dw hp]
   intro e
   have e':UInt8.ofNat (48+n)=48:=by simpa using e
   have:=uL n hp
   rw [e'] at this
   have:(48:UInt8).toNat=48:=rfl
   omega
  rw [eZ hp]
  have:=ih (n / 10) (by omega) (by omega)
  have h2:=uJ (n / 10)
  match hd:decDigits (n / 10),h2 with
  | b::m,_=>rw [hd] at this; simpa using this
theorem xg (d:List UInt8) (hd:d.all al=true) (hne:d≠[]) (h0:d.head?≠some 48) (h:rowOf d≤1024):decDigits (rowOf d)=d:=by
 induction hn:d.length generalizing d with
 | zero=>rw [List.length_eq_zero_iff] at hn; exact absurd hn hne
 | succ n ih =>
  rcases List.eq_nil_or_concat d with rfl | ⟨m,b,rfl⟩
  ·simp at hn
  rw [List.concat_eq_append] at *
  rw [List.all_append,Bool.and_eq_true] at hd
  have hb:al b=true:=by simpa using hd.2
  have hb':=hb
  simp only [al,decide_eq_true_eq] at hb'
  rw [l8] at h ⊢
  have he:min (10 * rowOf m+(b.toNat - 48)) 1025=10 * rowOf m+(b.toNat - 48):=by omega
  rw [he] at h ⊢
  have hbb:UInt8.ofNat (48+(b.toNat - 48))=b:=by rw [← UInt8.toNat_inj,UInt8.toNat_ofNat']; omega
  match m,hd.1,h0,ih m with
  | [],_,_,_ =>
   have:rowOf []=0:=rfl
   rw [this,Nat.mul_zero,Nat.zero_add,dw (by omega),hbb]; rfl
  | c::m,hm,h0,ih =>
   have hc:al c=true:=by simp at hm; exact hm.1
   have h1:=kp m c hc (fun e=>h0 (by simp [e]))
   rw [eZ (by omega),show (10 * rowOf (c::m)+(b.toNat - 48)) / 10=rowOf (c::m) from by omega,show (10 * rowOf (c::m)+(b.toNat - 48)) % 10=b.toNat - 48 from by omega,hbb,
    ih hm (by simp) (by simpa using h0) (by omega) (by simpa using hn)]
def aP (c r:Int):List UInt8×Int:=if aW c r then (aN c.toNat++decDigits r.toNat,0) else ([],3)
def cD (c:Int):List UInt8×Int:=if 1≤c∧c≤1024 then (aN c.toNat,0) else ([],3)
theorem ww (a d:List UInt8) (ha:∀ b∈a,az b=true) (hd:d.all al=true):(a++d).takeWhile az=a∧(a++d).dropWhile az=d:=by
 induction a with
 | nil =>
  match d,hd with
  | [],_=>exact ⟨rfl,rfl⟩
  | b::m,hd =>
   have hb:al b=true:=by simp at hd; exact hd.1
   have:=fg hb
   simp [this]
 | cons b a ih =>
  have:=ih (fun x hx=>ha x (by simp [hx]))
  have hb:=ha b (by simp)
  simp [hb,this]
theorem jF (c r:Int) (h:aW c r=true):aR (aP c r).1=(c,r,0):=by
 have hv:1≤c∧c≤1024∧1≤r∧r≤1024:=by simpa [aW] using h
 unfold aP
 rw [if_pos h]
 obtain ⟨h1,h2⟩:=ww (aN c.toNat) (decDigits r.toNat) (oM _) (rN _)
 simp only [aR,h1,h2]
 rw [if_neg,ot _ (by omega),zb _ (by omega),if_neg (by omega),Int.toNat_of_nonneg (by omega),Int.toNat_of_nonneg (by omega)]
 intro hh
 rcases hh with hh | hh | hh | hh
 ·exact qK _ (by omega) hh
 ·exact uJ _ hh
 ·exact uI _ (by omega) hh
 rw [rN] at hh; cases hh
theorem o0 (l:List UInt8) (h:(aR l).2.2=0):aW (aR l).1 (aR l).2.1=true∧(aP (aR l).1 (aR l).2.1).1=l.map upB:=by
 unfold aR at h ⊢
 have ha:∀ b∈l.takeWhile az,az b=true:=fun b hb=>(List.all_eq_true.1 (List.all_takeWhile (l:=l))) b hb
 have hl:l=l.takeWhile az++l.dropWhile az:=(List.takeWhile_append_dropWhile ..).symm
 generalize l.takeWhile az=a at *
 generalize l.dropWhile az=d at *
 subst hl
 simp only [] at h ⊢
 split at h
 ·simp at h
 rename_i h1
 rw [if_neg h1]
 split at h
 ·simp at h
 rename_i h2
 rw [if_neg h2]
 simp only [not_or] at h1 h2
 have hd:d.all al=true:=by simpa using h1.2.2.2
 have hc:=mK a h1.1 ha
 have hr:1≤rowOf d:=by
  match d,h1,hd with
  | [],h1,_=>exact absurd rfl h1.2.1
  | b::m,h1,hd =>
   have hb:al b=true:=by simp at hd; exact hd.1
   exact kp m b hb (fun e=>h1.2.2.1 (by simp [e]))
 have hv:aW (dd a) (rowOf d)=true:=by simp only [aW,decide_eq_true_eq]; omega
 refine ⟨hv,?_⟩
 unfold aP
 rw [if_pos hv]
 simp only [Int.toNat_natCast]
 rw [oL a ha (by omega),xg d hd h1.2.1 h1.2.2.1 (by omega),List.map_append]
 congr 1
 have:∀ b∈d,upB b=b:=by
  intro b hb
  have:al b=true:=(List.all_eq_true.1 hd) b hb
  simp only [al,decide_eq_true_eq] at this
  unfold upB; rw [if_neg (by omega)]
 exact (List.map_id' d▸(List.map_congr_left this)).symm
