/- Plain lemmas on addresses: what letters and digits say, and that reading and writing are inverse. No program stands here. Plain: ranges, and what package rect's small functions compute. No program stands here but by the name of its kit. The contract of the reference's Valid. Contracts of package rect's corners, Check, and of their references. Contracts of the reference's From, To and Check of ranges, and of package rect's all. -/
import Derived.Lib.ItoaNum
import Derived.Test.YtdplcdhpnmcdjaaGreatDoorKShelf
namespace Go.Proofs.YtdplcdhpnmcdjaaGreatDoor
def dz (b:UInt8):Nat:=if 65≤b.toNat∧b.toNat≤90 then b.toNat - 64 else if 97≤b.toNat∧b.toNat≤122 then b.toNat - 96 else 0
def ar (b:UInt8):Bool:=dz b != 0
def ah (b:UInt8):Bool:=decide (48≤b.toNat∧b.toNat≤57)
def iW (n:Nat) (b:UInt8):Nat:=min (26 * n+dz b) 1025
def eE (n:Nat) (b:UInt8):Nat:=min (10 * n+(b.toNat - 48)) 1025
def cC (l:List UInt8):Nat:=l.foldl iW 0
def rowOf (l:List UInt8):Nat:=l.foldl eE 0
def aJ (l:List UInt8):Int×Int×Int :=
 let a:=l.takeWhile ar
 let d:=l.dropWhile ar
 if a=[]∨d=[]∨d.head?=some 48∨d.all ah=false then (0,0,4)
 else if 1024<cC a∨1024<rowOf d then (0,0,3)
 else (cC a,rowOf d,0)
def zS (l:List UInt8):Int×Int :=
 if l=[]∨l.all ar=false then (0,4) else if 1024<cC l then (0,3) else (cC l,0)
structure Pc where
 m0:Nat
 m1:Nat
 v0:Nat
 v1:Nat
 ok:Bool
def Pc.start:Pc:=⟨0,0,0,0,true⟩
def Pc.letter (p:Pc) (b:UInt8):Pc:=⟨p.m0+1,p.m1,iW p.v0 b,p.v1,p.ok && p.m1 == 0⟩
def Pc.digit (p:Pc) (b:UInt8):Pc:=⟨p.m0,p.m1+1,p.v0,eE p.v1 b,p.ok && (b != 48 || decide (0<p.m1))⟩
def Pc.other (p:Pc):Pc:={ p with ok:=false }
def Pc.step (p:Pc) (b:UInt8):Pc:=if ar b then p.letter b else if ah b then p.digit b else p.other
def cV (l:List UInt8):Pc:=l.foldl Pc.step .start
theorem Pc.step_bad {p:Pc} (h:p.ok=false) (b:UInt8):(p.step b).ok=false:=by
 unfold Pc.step; split
 ·simp [Pc.letter,h]
 split <;> simp [Pc.digit,Pc.other,h]
theorem me (l:List UInt8):∀ p:Pc,p.ok=false→(l.foldl Pc.step p).ok=false:=by
 induction l with
 | nil=>intro p h; exact h
 | cons b l ih=>intro p h; exact ih _ (Pc.step_bad h b)
theorem lq (l:List UInt8):∀ p:Pc,p.m1=0→(∀ b∈l,ar b=true)→l.foldl Pc.step p=⟨p.m0+l.length,0,l.foldl iW p.v0,p.v1,p.ok⟩:=by
 induction l with
 | nil=>rintro ⟨_,_,_,_,_⟩ h _; simp at h; subst h; rfl
 | cons b l ih =>
  intro p h hl
  have hb:ar b=true:=hl b (by simp)
  have e:p.step b=p.letter b:=by unfold Pc.step; rw [if_pos hb]
  rw [List.foldl_cons,e,ih _ (by simp [Pc.letter,h]) (fun x hx=>hl x (by simp [hx]))]
  simp [Pc.letter,h]; omega
theorem fx {b:UInt8} (h:ah b=true):ar b=false:=by
 simp only [ah,decide_eq_true_eq] at h
 unfold ar dz
 rw [if_neg (by omega),if_neg (by omega)]; rfl
theorem mf (l:List UInt8):∀ p:Pc,0<p.m1→(l.all ah=true→l.foldl Pc.step p=⟨p.m0,p.m1+l.length,p.v0,l.foldl eE p.v1,p.ok⟩)∧(l.all ah=false→(l.foldl Pc.step p).ok=false):=by
 induction l with
 | nil=>rintro ⟨_,_,_,_,_⟩ _; simp
 | cons b l ih =>
  intro p h
  by_cases hb:ah b=true
  ·have e:p.step b=p.digit b:=by unfold Pc.step; rw [if_neg (by simp [fx hb]),if_pos hb]
   have i:=ih (p.digit b) (by simp [Pc.digit])
   simp only [List.all_cons,hb,Bool.true_and,List.foldl_cons,e]
   refine ⟨fun h1 => ?_,i.2⟩
   rw [i.1 h1]
   simp [Pc.digit,h]; omega
  simp only [List.all_cons,Bool.not_eq_true] at hb ⊢
  rw [hb]
  refine ⟨fun h1=>by simp at h1,fun _ => ?_⟩
  rw [List.foldl_cons]
  apply me
  unfold Pc.step
  split
  ·simp [Pc.letter]; omega
  rw [if_neg (by simp [hb])]; rfl
theorem DJ (n:Nat) (b:UInt8):iW n b≤1025:=Nat.min_le_right _ _
theorem Bv (l:List UInt8):cC l≤1025:=by
 unfold cC
 suffices ∀ n,n≤1025→l.foldl iW n≤1025 from this 0 (by omega)
 induction l with
 | nil=>intro n h; exact h
 | cons b l ih=>intro n _; exact ih _ (DJ _ _)
theorem DG (l:List UInt8):rowOf l≤1025:=by
 unfold rowOf
 suffices ∀ n,n≤1025→l.foldl eE n≤1025 from this 0 (by omega)
 induction l with
 | nil=>intro n h; exact h
 | cons b l ih=>intro n _; exact ih _ (Nat.min_le_right _ _)
theorem jl (l:List UInt8) (b:UInt8):cC (l++[b])=min (26 * cC l+dz b) 1025:=by simp [cC,iW]
theorem ol (l:List UInt8) (b:UInt8):rowOf (l++[b])=min (10 * rowOf l+(b.toNat - 48)) 1025:=by simp [rowOf,eE]
theorem ky (l:List UInt8) (h:l≠[]) (hl:∀ b∈l,ar b=true):1≤cC l:=by
 rcases List.eq_nil_or_concat l with rfl | ⟨m,b,rfl⟩
 ·exact absurd rfl h
 rw [List.concat_eq_append,jl]
 have:dz b≠0:=by
  have:=hl b (by simp)
  simpa [ar] using this
 omega
theorem iy (l:List UInt8):∀ b,ah b=true→b≠48→1≤rowOf (b::l):=by
 intro b hb h0
 simp only [ah,decide_eq_true_eq] at hb
 have h1:1≤eE 0 b:=by
  have:b.toNat≠48:=fun e=>h0 (by rw [← UInt8.toNat_inj]; exact e)
  unfold eE; omega
 have key:∀ (l:List UInt8) n,1≤n→1≤l.foldl eE n:=by
  intro l
  induction l with
  | nil=>intro n h; exact h
  | cons c l ih=>intro n h; exact ih _ (by unfold eE; omega)
 exact key l _ h1
theorem rV (l:List UInt8):cV l=(l.dropWhile ar).foldl Pc.step ⟨(l.takeWhile ar).length,0,cC (l.takeWhile ar),0,true⟩:=by
 have h:l.foldl Pc.step .start=(l.takeWhile ar++l.dropWhile ar).foldl Pc.step .start:=by rw [List.takeWhile_append_dropWhile]
 unfold cV
 rw [h,List.foldl_append,lq _ _ rfl (fun b hb=>(List.all_eq_true.1 (List.all_takeWhile (l:=l))) b hb)]
 simp [Pc.start,cC]
theorem pU (l:List UInt8) (b:UInt8) (m:List UInt8) (h:l.dropWhile ar=b::m):ar b=false:=by
 have:=List.head?_dropWhile_not ar l
 rw [h] at this
 simpa using this
def cm (p:Pc):Int×Int×Int :=
 if p.ok=false∨p.m0=0∨p.m1=0 then (0,0,4) else if ba p.v0 p.v1=true then (p.v0,p.v1,0) else (0,0,3)
theorem nV (l:List UInt8):cm (cV l)=aJ l:=by
 rw [rV]
 unfold aJ
 have ha:∀ b∈l.takeWhile ar,ar b=true:=fun b hb=>(List.all_eq_true.1 (List.all_takeWhile (l:=l))) b hb
 have hd:=pU l
 generalize l.takeWhile ar=a at *
 generalize l.dropWhile ar=d at *
 simp only []
 match d,hd with
 | [],_=>simp [cm]
 | b::m,hd =>
  have hb:=hd b m rfl
  rw [List.foldl_cons]
  by_cases h1:ah b=true
  ·have e:Pc.step ⟨a.length,0,cC a,0,true⟩ b=⟨a.length,1,cC a,eE 0 b,b != 48⟩:=by
    unfold Pc.step; rw [if_neg (by simp [hb]),if_pos h1]; simp [Pc.digit]
   rw [e]
   have i:=mf m ⟨a.length,1,cC a,eE 0 b,b != 48⟩ (by simp)
   by_cases h2:m.all ah=true
   ·rw [i.1 h2]
    have er:List.foldl eE (eE 0 b) m=rowOf (b::m):=rfl
    simp only [er]
    by_cases h3:b=48
    ·subst h3; simp [cm]
    by_cases h4:a=[]
    ·subst h4; simp [cm]
    have hc:=ky a h4 ha
    have hr:=iy m b h1 h3
    have hall:(b::m).all ah=true:=by simp [h1]; simpa using h2
    rw [if_neg (by simp only [h4,List.head?_cons,hall]; simp [h3])]
    unfold cm
    rw [if_neg (by simp [h3,h4])]
    by_cases h5:1024<cC a∨1024<rowOf (b::m)
    ·rw [if_pos h5,if_neg (by simp only [ba,decide_eq_true_eq]; omega)]
    rw [if_neg h5,if_pos (by simp only [ba,decide_eq_true_eq]; omega)]
   rw [Bool.not_eq_true] at h2
   have:=i.2 h2
   unfold cm
   rw [if_pos (.inl this),if_pos]
   right; right; right
   simp [h1]; simpa using h2
  rw [Bool.not_eq_true] at h1
  have e:(Pc.step ⟨a.length,0,cC a,0,true⟩ b).ok=false:=by
   unfold Pc.step; rw [if_neg (by simp [hb]),if_neg (by simp [h1])]; rfl
  have:=me m _ e
  unfold cm
  rw [if_pos (.inl this),if_pos]
  right; right; right
  simp [h1]
def eo (fuel:Nat) (n:Nat):List UInt8 :=
 match fuel with
 | 0=>[]
 | fuel+1=>if n=0 then [] else eo fuel ((n - 1) / 26)++[UInt8.ofNat (65+(n - 1) % 26)]
def aW (n:Nat):List UInt8:=eo n n
def upB (b:UInt8):UInt8:=if 97≤b.toNat∧b.toNat≤122 then UInt8.ofNat (b.toNat - 32) else b
theorem mp:∀ (n fuel:Nat),n≤fuel→eo fuel n=eo n n:=by
 intro n
 induction n using Nat.strongRecOn with
 | _ n ih =>
  intro fuel h
  match fuel,n with
  | f,0=>cases f <;> rfl
  | 0,n+1=>omega
  | f+1,n+1 =>
   simp only [eo,Nat.add_sub_cancel]
   rw [if_neg (by omega),if_neg (by omega),ih (n / 26) (by omega) f (by omega),ih (n / 26) (by omega) n (by omega)]
theorem eL (n:Nat) (h:0<n):aW n=aW ((n - 1) / 26)++[UInt8.ofNat (65+(n - 1) % 26)]:=by
 unfold aW
 match n,h with
 | n+1,_ =>
  rw [eo,if_neg (by omega),Nat.add_sub_cancel,mp (n / 26) n (by omega)]
theorem gi:aW 0=[]:=rfl
theorem lT (b:UInt8) (h:ar b=true):upB b=UInt8.ofNat (65+(dz b - 1))∧1≤dz b∧dz b≤26:=by
 have h':dz b≠0:=by simpa [ar] using h
 unfold dz at *
 split at h'
 ·rename_i h1
  rw [if_pos h1]
  refine ⟨?_,by omega,by omega⟩
  unfold upB; rw [if_neg (by omega),← UInt8.toNat_inj,UInt8.toNat_ofNat']; omega
 rename_i h1
 split at h'
 ·rename_i h2
  rw [if_neg h1,if_pos h2]
  refine ⟨?_,by omega,by omega⟩
  unfold upB; rw [if_pos h2]; congr 1; omega
 exact absurd rfl h'
theorem mq (a:List UInt8) (ha:∀ b∈a,ar b=true) (h:cC a≤1024):aW (cC a)=a.map upB:=by
 induction hn:a.length generalizing a with
 | zero=>rw [List.length_eq_zero_iff] at hn; subst hn; rfl
 | succ n ih =>
  rcases List.eq_nil_or_concat a with rfl | ⟨m,b,rfl⟩
  ·simp at hn
  rw [List.concat_eq_append] at *
  rw [jl] at h ⊢
  obtain ⟨hu,h1,h2⟩:=lT b (ha b (by simp))
  have he:min (26 * cC m+dz b) 1025=26 * cC m+dz b:=by omega
  rw [he] at h ⊢
  rw [eL _ (by omega),show (26 * cC m+dz b - 1) / 26=cC m from by omega,show (26 * cC m+dz b - 1) % 26=dz b - 1 from by omega,ih m (fun b hb=>ha b (by simp [hb])) (by omega) (by simpa using hn),List.map_append,← hu]
  rfl
/-! ### digits -/
open Go.Lib (decDigits)
theorem il {n:Nat} (h:n<10):decDigits n=[UInt8.ofNat (48+n)]:=by rw [decDigits,dif_pos h]
theorem lj {n:Nat} (h:¬ n<10):decDigits n=decDigits (n / 10)++[UInt8.ofNat (48+n % 10)]:=by rw [decDigits,dif_neg h]
theorem tA (d:List UInt8) (hd:d.all ah=true) (hne:d≠[]) (h0:d.head?≠some 48) (h:rowOf d≤1024):decDigits (rowOf d)=d:=by
 induction hn:d.length generalizing d with
 | zero=>rw [List.length_eq_zero_iff] at hn; exact absurd hn hne
 | succ n ih =>
  rcases List.eq_nil_or_concat d with rfl | ⟨m,b,rfl⟩
  ·simp at hn
  rw [List.concat_eq_append] at *
  rw [List.all_append,Bool.and_eq_true] at hd
  have hb:ah b=true:=by simpa using hd.2
  have hb':=hb
  simp only [ah,decide_eq_true_eq] at hb'
  rw [ol] at h ⊢
  have he:min (10 * rowOf m+(b.toNat - 48)) 1025=10 * rowOf m+(b.toNat - 48):=by omega
  rw [he] at h ⊢
  have hbb:UInt8.ofNat (48+(b.toNat - 48))=b:=by rw [← UInt8.toNat_inj,UInt8.toNat_ofNat']; omega
  match m,hd.1,h0,ih m with
  | [],_,_,_ =>
   have:rowOf []=0:=rfl
   rw [this,Nat.mul_zero,Nat.zero_add,il (by omega),hbb]; rfl
  | c::m,hm,h0,ih =>
   have hc:ah c=true:=by simp at hm; exact hm.1
   have h1:=iy m c hc (fun e=>h0 (by simp [e]))
   rw [lj (by omega),show (10 * rowOf (c::m)+(b.toNat - 48)) / 10=rowOf (c::m) from by omega,show (10 * rowOf (c::m)+(b.toNat - 48)) % 10=b.toNat - 48 from by omega,hbb,
    ih hm (by simp) (by simpa using h0) (by omega) (by simpa using hn)]
def bG (c r:Int):List UInt8×Int:=if ba c r then (aW c.toNat++decDigits r.toNat,0) else ([],3)
def dj (c:Int):List UInt8×Int:=if 1≤c∧c≤1024 then (aW c.toNat,0) else ([],3)
def zV (ac ar bc br:Int):Bool:=decide (ar<br∨(ar=br∧ac<bc))
theorem mF (l:List UInt8) (h:(aJ l).2.2=0):ba (aJ l).1 (aJ l).2.1=true∧(bG (aJ l).1 (aJ l).2.1).1=l.map upB:=by
 unfold aJ at h ⊢
 have ha:∀ b∈l.takeWhile ar,ar b=true:=fun b hb=>(List.all_eq_true.1 (List.all_takeWhile (l:=l))) b hb
 have hl:l=l.takeWhile ar++l.dropWhile ar:=(List.takeWhile_append_dropWhile ..).symm
 generalize l.takeWhile ar=a at *
 generalize l.dropWhile ar=d at *
 subst hl
 simp only [] at h ⊢
 split at h
 ·simp at h
 rename_i h1
 rw [if_neg h1]
 split at h
 ·simp at h
 rename_i h2
 rw [if_neg h2]
 simp only [not_or] at h1 h2
 have hd:d.all ah=true:=by simpa using h1.2.2.2
 have hc:=ky a h1.1 ha
 have hr:1≤rowOf d:=by
  match d,h1,hd with
  | [],h1,_=>exact absurd rfl h1.2.1
  | b::m,h1,hd =>
   have hb:ah b=true:=by simp at hd; exact hd.1
   exact iy m b hb (fun e=>h1.2.2.1 (by simp [e]))
 have hv:ba (cC a) (rowOf d)=true:=by simp only [ba,decide_eq_true_eq]; omega
 refine ⟨hv,?_⟩
 unfold bG
 rw [if_pos hv]
 simp only [Int.toNat_natCast]
 rw [mq a ha (by omega),tA d hd h1.2.1 h1.2.2.1 (by omega),List.map_append]
 congr 1
 have:∀ b∈d,upB b=b:=by
  intro b hb
  have:ah b=true:=(List.all_eq_true.1 hd) b hb
  simp only [ah,decide_eq_true_eq] at this
  unfold upB; rw [if_neg (by omega)]
 exact (List.map_id' d▸(List.map_congr_left this)).symm
structure R4 where
 c1:Int
 r1:Int
 c2:Int
 r2:Int
deriving DecidableEq
def R4.zero:R4:=⟨0,0,0,0⟩
def aG (r:R4):Bool:=ba r.c1 r.r1 && ba r.c2 r.r2 && decide (r.c1≤r.c2) && decide (r.r1≤r.r2)
def bD (r:R4):Int:=if aG r=true then 0 else 3
theorem nm (r:R4):aG r=true↔1≤r.c1∧r.c1≤r.c2∧r.c2≤1024∧1≤r.r1∧r.r1≤r.r2∧r.r2≤1024:=by
 simp only [aG,ba,Bool.and_eq_true,decide_eq_true_eq]; omega
open Go.RowKit Go.Proofs.Tryz
theorem Ax (c r:Int) (w:World) :
  Calls prog 83 #[.agg #[.int .i64 c,.int .i64 r]] w fun e w'=>e=.returned (.bool (ba c r))∧Below w.heap.size w w':=by
 apply lV c r <;> intros
 all_goals
  go_enter func83,ntmps83
  go_wp2
  go_ret
  exact ⟨by simp only [Array.getD_eq_getD_getElem?]; simp [ba]; try omega,(Below.refl _ _).alloc (Nat.le_refl _) _⟩
set_option maxHeartbeats 2000000
theorem ia (c1 r1 c2 r2:Int) (w:World) :
  Calls prog 141 #[.agg #[.int .i64 c1,.int .i64 r1,.int .i64 c2,.int .i64 r2]] w fun e w'=>e=.returned (.tuple #[.agg #[.int .i64 c1,.int .i64 r1],.agg #[.int .i64 c2,.int .i64 r2]])∧Below w.heap.size w w':=by
 go_enter func141,ntmps141
 go_wp2
 go_region
 go_wp2
 refine bodyPost_ret (v:=.tuple #[.agg #[.int .i64 c1,.int .i64 r1],.agg #[.int .i64 c2,.int .i64 r2]]) (by simp [results,results141,go_sem]) rfl ⟨rfl,?_⟩
 exact ((((Below.refl _ _).alloc (Nat.le_refl _) _).alloc (by simp) _).alloc (by simp; omega) _).drew
theorem bE {r:R4} (h:aG r=true):bD r=0:=by unfold bD; rw [if_pos h]
theorem fO {r:R4} (h:aG r=false):bD r=3:=by unfold bD; rw [if_neg (by simp [h])]
theorem bL (c1 r1 c2 r2:Int) (w:World) :
  Calls prog 140 #[.agg #[.int .i64 c1,.int .i64 r1,.int .i64 c2,.int .i64 r2]] w fun e w'=>e=.returned (.int .i64 (bD ⟨c1,r1,c2,r2⟩))∧Below w.heap.size w w':=by
 go_enter func140,ntmps140
 go_wp2_with fail
 have k0:=Blk.new w 37 #[.int .i64 c1,.int .i64 r1,.int .i64 c2,.int .i64 r2]
 refine (ia _ _ _ _ _).mono ?_
 rintro e w1 ⟨rfl,hb1⟩
 have hz1:w.heap.size<w1.heap.size:=by have:=hb1.size; simp at this; omega
 have HB1:=Lib.hid (((Below.refl w.heap.size w).alloc (Nat.le_refl _) (.cells #[.int .i64 c1,.int .i64 r1,.int .i64 c2,.int .i64 r2] 37)).trans (hb1.mono (by simp)))
 have k1:=((k0.below hb1 (by simp)).alloc (.cells #[.int .i64 c1,.int .i64 r1] 46)).alloc (.cells #[.int .i64 c2,.int .i64 r2] 46)
 have ka:=(Blk.new w1 46 #[.int .i64 c1,.int .i64 r1]).alloc (.cells #[.int .i64 c2,.int .i64 r2] 46)
 have kb:=Blk.new (w1.alloc (.cells #[.int .i64 c1,.int .i64 r1] 46)) 46 #[.int .i64 c2,.int .i64 r2]
 rw [World.size_alloc] at kb
 have HB2:Hid (Below w.heap.size w ((w1.alloc (.cells #[.int .i64 c1,.int .i64 r1] 46)).alloc (.cells #[.int .i64 c2,.int .i64 r2] 46))):=(HB1.out.alloc HB1.out.size _).alloc (by have:=HB1.out.size; simp; omega) _
 clear hb1 k0
 go_wp2_with fail
 generalize ((w1.alloc (.cells #[.int .i64 c1,.int .i64 r1] 46)).alloc (.cells #[.int .i64 c2,.int .i64 r2] 46))=W2 at k1 ka kb HB2 ⊢
 have c0:=k1.cell 0
 have c1':=k1.cell 1
 have c2':=k1.cell 2
 have c3:=k1.cell 3
 have d0:=kb.cell 0
 have d1:=kb.cell 1
 simp at c0 c1' c2' c3 d0 d1
 clear k1 ka kb HB1
 refine (dG _ _ _).mono ?_
 rintro e w3 ⟨rfl,hb3⟩
 have e0:=bn hb3 c0
 have e1:=bn hb3 c1'
 have e2:=bn hb3 c2'
 have e3:=bn hb3 c3
 have q0:=bn hb3 d0
 have q1:=bn hb3 d1
 have HB3:=Lib.hid (al HB2.out hb3)
 clear hb3 c0 c1' c2' c3 d0 d1 HB2
 cases hv1:ba c1 r1
 ·have HE:=Lib.hid (fO (r:=⟨c1,r1,c2,r2⟩) (by simp [aG,hv1]))
  clear hv1
  go_wp2_with fail
  go_ret
  exact ⟨by rw [HE.out]; rfl,HB3.out⟩
 have HV1:=Lib.hid hv1
 clear hv1
 go_wp2_with fail
 refine (dG _ _ _).mono ?_
 rintro e w4 ⟨rfl,hb4⟩
 have c0:=bn hb4 e0
 have c1':=bn hb4 e1
 have c2':=bn hb4 e2
 have c3:=bn hb4 e3
 have HB4:=Lib.hid (al HB3.out hb4)
 clear hb4 e0 e1 e2 e3 q0 q1 HB3
 cases hv2:ba c2 r2
 ·have HE:=Lib.hid (fO (r:=⟨c1,r1,c2,r2⟩) (by simp [aG,hv2]))
  clear hv2
  go_wp2_with fail
  go_ret
  exact ⟨by rw [HE.out]; rfl,HB4.out⟩
 by_cases h1:c1≤c2
 ·by_cases h2:r1≤r2
  ·have HE:=Lib.hid (bE (r:=⟨c1,r1,c2,r2⟩) (by simp [aG,HV1.out,hv2,h1,h2]))
   clear hv2
   go_wp2_with fail
   go_ret
   exact ⟨by rw [HE.out]; rfl,HB4.out⟩
  have HE:=Lib.hid (fO (r:=⟨c1,r1,c2,r2⟩) (by simp [aG,h2]))
  clear hv2
  go_wp2_with fail
  go_ret
  exact ⟨by rw [HE.out]; rfl,HB4.out⟩
 have HE:=Lib.hid (fO (r:=⟨c1,r1,c2,r2⟩) (by simp [aG,h1]))
 clear hv2
 go_wp2_with fail
 go_ret
 exact ⟨by rw [HE.out]; rfl,HB4.out⟩
set_option maxHeartbeats 2000000
theorem Dy (c1 r1 c2 r2:Int) (w:World) :
  Calls prog 150 #[.agg #[.int .i64 c1,.int .i64 r1,.int .i64 c2,.int .i64 r2]] w fun e w'=>e=.returned (.agg #[.int .i64 c1,.int .i64 r1])∧Below w.heap.size w w':=by
 go_enter func150,ntmps150
 go_wp2
 refine bodyPost_ret (v:=.agg #[.int .i64 c1,.int .i64 r1]) (by simp [results,results150,go_sem]) rfl ⟨rfl,?_⟩
 exact ((Below.refl _ _).alloc (Nat.le_refl _) _).alloc (by simp) _
theorem EB (c1 r1 c2 r2:Int) (w:World) :
  Calls prog 151 #[.agg #[.int .i64 c1,.int .i64 r1,.int .i64 c2,.int .i64 r2]] w fun e w'=>e=.returned (.agg #[.int .i64 c2,.int .i64 r2])∧Below w.heap.size w w':=by
 go_enter func151,ntmps151
 go_wp2
 refine bodyPost_ret (v:=.agg #[.int .i64 c2,.int .i64 r2]) (by simp [results,results151,go_sem]) rfl ⟨rfl,?_⟩
 exact ((Below.refl _ _).alloc (Nat.le_refl _) _).alloc (by simp) _
theorem A9 (c1 r1 c2 r2:Int) (w:World) :
  Calls prog 148 #[.agg #[.int .i64 c1,.int .i64 r1,.int .i64 c2,.int .i64 r2]] w fun e w'=>e=.returned (.int .i64 (bD ⟨c1,r1,c2,r2⟩))∧Below w.heap.size w w':=by
 go_enter func148,ntmps148
 go_wp2_with fail
 have k0:=Blk.new w 37 #[.int .i64 c1,.int .i64 r1,.int .i64 c2,.int .i64 r2]
 have E1:Hid (Below w.heap.size w (w.alloc (.cells #[.int .i64 c1,.int .i64 r1,.int .i64 c2,.int .i64 r2] 37))):=(Below.refl w.heap.size w).alloc (Nat.le_refl _) _
 generalize (w.alloc (.cells #[.int .i64 c1,.int .i64 r1,.int .i64 c2,.int .i64 r2] 37))=W0 at k0 E1 ⊢
 have Fa:=k0.cell 0
 have Fe:=k0.cell 1
 have Fh:=k0.cell 2
 have Fl:=k0.cell 3
 simp at Fa Fe Fh Fl
 clear k0
 refine (Dy _ _ _ _ _).mono ?_
 rintro e Fq ⟨rfl,EU⟩
 have Fb:=bn EU Fa
 have Ff:=bn EU Fe
 have Fi:=bn EU Fh
 have Fo:=bn EU Fl
 have E3:=Lib.hid (al E1.out EU)
 clear EU Fa Fe Fh Fl
 go_wp2_with fail
 refine (Ax _ _ _).mono ?_
 rintro e Fs ⟨rfl,EV⟩
 have Fc:=bn EV Fb
 have Fg:=bn EV Ff
 have Fj:=bn EV Fi
 have Fp:=bn EV Fo
 have E2:=Lib.hid (al E3.out EV)
 clear EV Fb Ff Fi Fo
 cases hv1:ba c1 r1
 ·have HE:=Lib.hid (fO (r:=⟨c1,r1,c2,r2⟩) (by simp [aG,hv1]))
  clear hv1
  go_wp2_with fail
  go_ret
  exact ⟨by rw [HE.out]; rfl,E2.out⟩
 have HV1:=Lib.hid hv1
 clear hv1
 go_wp2_with fail
 refine (EB _ _ _ _ _).mono ?_
 rintro e E8 ⟨rfl,ER⟩
 have EX:=bn ER Fc
 have EY:=bn ER Fg
 have EZ:=bn ER Fj
 have E0:=bn ER Fp
 have EW:=Lib.hid (al E2.out ER)
 clear ER Fc Fg Fj Fp
 go_wp2_with fail
 refine (Ax _ _ _).mono ?_
 rintro e E9 ⟨rfl,ES⟩
 have E4:=bn ES EX
 have E5:=bn ES EY
 have E6:=bn ES EZ
 have E7:=bn ES E0
 have ET:=Lib.hid (al EW.out ES)
 clear ES EX EY EZ E0
 cases hv2:ba c2 r2
 ·have HE:=Lib.hid (fO (r:=⟨c1,r1,c2,r2⟩) (by simp [aG,hv2]))
  clear hv2
  go_wp2_with fail
  go_ret
  exact ⟨by rw [HE.out]; rfl,ET.out⟩
 by_cases h1:c1≤c2
 ·by_cases h2:r1≤r2
  ·have HE:=Lib.hid (bE (r:=⟨c1,r1,c2,r2⟩) (by simp [aG,HV1.out,hv2,h1,h2]))
   clear hv2
   go_wp2_with fail
   go_ret
   exact ⟨by rw [HE.out]; rfl,ET.out⟩
  have HE:=Lib.hid (fO (r:=⟨c1,r1,c2,r2⟩) (by simp [aG,h2]))
  clear hv2
  go_wp2_with fail
  go_ret
  exact ⟨by rw [HE.out]; rfl,ET.out⟩
 have HE:=Lib.hid (fO (r:=⟨c1,r1,c2,r2⟩) (by simp [aG,h1]))
 clear hv2
 go_wp2_with fail
 go_ret
 exact ⟨by rw [HE.out]; rfl,ET.out⟩
def rv (r:R4):Nat→Value
 | 0=>.int .i64 r.c1
 | 1=>.int .i64 r.r1
 | 2=>.int .i64 r.c2
 | _=>.int .i64 r.r2
def k8 (w:World) (B:Nat) (a:Option Addr) (n:Nat) (f:Nat→R4):Prop:=jc 4 w B a n (fun i j=>rv (f i) j)
theorem k8.below {w w':World} {B B' n:Nat} {a:Option Addr} {f:Nat→R4} (h:k8 w B a n f) (hb:Below B w w') (hB:B≤B'):k8 w' B' a n f:=jc.below h hb hB
theorem k8.spot {w:World} {B n:Nat} {a:Option Addr} {f:Nat→R4} (h:k8 w B a n f) (hn:0<n) :
  ∃ b off,a=some ⟨b,off,none⟩∧b<B∧∀ i,i<n→(w.cell? ⟨b,off+i * 4,none⟩=some (.int .i64 (f i).c1)∧w.cell? ⟨b,off+i * 4+1,none⟩=some (.int .i64 (f i).r1)∧w.cell? ⟨b,off+i * 4+2,none⟩=some (.int .i64 (f i).c2)∧w.cell? ⟨b,off+i * 4+3,none⟩=some (.int .i64 (f i).r2)):=by
 obtain ⟨⟨b,off,spot⟩,rfl,hB,hc⟩:=h hn
 have h0:=hc 0 0 hn (by omega)
 have hs:spot=none:=by simpa [Addr.add] using World.cell?_spot h0
 subst hs
 refine ⟨b,off,rfl,hB,fun i hi=>⟨?_,?_,?_,?_⟩⟩
 ·have:=hc i 0 hi (by omega); rwa [show (⟨b,off,none⟩:Addr).add (i * 4+0)=⟨b,off+i * 4,none⟩ from by unfold Addr.add; split <;> simp_all] at this
 ·have:=hc i 1 hi (by omega); rwa [show (⟨b,off,none⟩:Addr).add (i * 4+1)=⟨b,off+i * 4+1,none⟩ from by unfold Addr.add; simp; omega] at this
 ·have:=hc i 2 hi (by omega); rwa [show (⟨b,off,none⟩:Addr).add (i * 4+2)=⟨b,off+i * 4+2,none⟩ from by unfold Addr.add; simp; omega] at this
 have:=hc i 3 hi (by omega); rwa [show (⟨b,off,none⟩:Addr).add (i * 4+3)=⟨b,off+i * 4+3,none⟩ from by unfold Addr.add; simp; omega] at this
