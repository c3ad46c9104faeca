/- A loop over an iterator that keeps its state in one captured cell: one integer a round, nobody leaves early. No program stands here. Plain: a part of a drawn region, all its orders at once: an invariant over which operations have come up; and the part that makes a list by three appends. No program stands here. Maps that a call makes and fills with known keys. No program stands here. Contracts of the reference's From, To and Check of ranges, and of package rect's all. Contracts of package rect's Meet and of its reference. Contracts of package rect's rest, Minus and Area, and of the reference's. Contracts of Minus, package rect's and the reference's, and of the kit's EqualRects. -/
import Derived.Test.YthdmpajkacmkdaaGreatDoorGAddrP
import Derived.RangeFuncNested
import Derived.RangeFuncBound
import Derived.RangeFuncCalls
import Derived.RangeFuncLeaves
import Derived.RangeFuncBox
import Derived.Shelf.Abstract
import Derived.OwnWalkIn
import Derived.TacticsInMore
import Derived.LoopNIn
import Derived.LoopIn
import Derived.Maps.AppendAt
import Derived.Deep.RegionHeld
import Derived.WideMake
import Derived.Carry
import Derived.Test.YthdmpajkacmkdaaGreatDoorGTg
import Derived.Deep.AppendLies
import Derived.Deep.Onto
import Derived.Deep.RegionHeld3
namespace Go.Proofs.YthdmpajkacmkdaaGreatDoor
open Go.RowKit
def AJ (R:World→Prop):Exit→Act→World→Prop
 | .normal,_,w=>R w
 | _,_,_=>False
open Go Go.RowKit
section
variable {P:Program} {md:Region.Mode} {ops:Array Oper} {Q:Exit→Act→World→Prop} {S:World→Prop}
def stB (md:Region.Mode) (ops:Array Oper) (T:List Nat) (dep:Nat→List Nat) (L1:Array Bool):Nat→Array Bool→Bool
 | 0,l=>l == L1
 | f+1,l=>!(Region.ready md ops l).isEmpty && (Region.ready md ops l).all fun i=>T.contains i && (dep i).all (fun e=>l.getD e false) && stB md ops T dep L1 f (l.setIfInBounds i true)
theorem p5 {T:List Nat} {dep:Nat→List Nat} {L1:Array Bool} {g:Nat} {I:(Nat→Bool)→Act→World→Prop}
  (hstep:∀ i∈T,∀ (d:Nat→Bool) a w,d i=false→(∀ e∈dep i,d e=true)→I d a w→S w→wpOp P ops Q i (fun a' w'=>S w'∧I (fun j=>j == i || d j) a' w') a w)
  (hend:∀ a w,I (fun j=>L1.getD j false) a w→S w→wpAnyH P md ops Q S g L1 a w) :
  ∀ (f:Nat) (listed:Array Bool) (a:Act) (w:World),stB md ops T dep L1 f listed=true→I (fun j=>listed.getD j false) a w→S w→wpAnyH P md ops Q S (f+g) listed a w:=by
 intro f
 induction f with
 | zero =>
  intro listed a w h hI hS
  have:listed=L1:=by simpa [stB] using h
  subst this
  rw [Nat.zero_add]
  exact hend a w hI hS
 | succ f ih =>
  intro listed a w h hI hS
  simp only [stB,Bool.and_eq_true,Bool.not_eq_true',List.all_eq_true] at h
  rw [show f+1+g=(f+g)+1 by omega]
  refine ⟨fun h0 => ?_,fun i hi => ?_⟩
  ·rw [h0] at h; simp at h
  obtain ⟨⟨hT,hd⟩,hs⟩:=h.2 i hi
  have hun:=(mem_ready.1 hi).1
  have hlt:i<listed.size:=by
   rcases Nat.lt_or_ge i listed.size with h' | h'
   ·exact h'
   rw [Array.getD_eq_getD_getElem?,Array.getElem?_eq_none h'] at hun; cases hun
  have hun':listed.getD i false=false:=by
   rw [Array.getD_eq_getD_getElem?,Array.getElem?_eq_getElem hlt] at hun ⊢; exact hun
  refine wpOp_mono (fun a' w' hh=>⟨hh.1,ih _ _ _ hs ?_ hh.1⟩) (hstep i (by simpa using hT) _ a w hun' hd hI hS)
  have:(fun j=>(listed.setIfInBounds i true).getD j false)=fun j=>j == i || listed.getD j false:=by
   funext j
   by_cases hji:i=j
   ·subst hji; simp [Array.getD_eq_getD_getElem?,hlt]
   rw [getD_set_ne false hji]; simp [Ne.symm hji]
  rw [this]
  exact hh.2
def ChI (w0:World) (PS:List aZ) (tN sz:Nat) (n1 n2 n3:Nat) (X1 X2 X3 c1 c2:List Value) (i0 i1 i2 i3 j1 j2:Nat) (A:Value→Value→Value→Value→Value→Value→Act) (d:Nat→Bool) (a:Act) (w:World):Prop :=
 ∃ c x0 x1 x2 x3 y1 y2 ps v n xs,a=A x0 x1 x2 x3 y1 y2∧ai w0 ps tN sz v n xs w∧(∀ p∈PS,p∈ps) ∧
  (d i0=decide (1≤c)∧d i1=decide (2≤c)∧d i2=decide (3≤c)∧d i3=decide (4≤c)∧c≤4) ∧
  ((c=0→v=.slice none 0 0∧n=0∧xs=[])∧(c=1→x0=v∧n=0∧xs=[])∧(c=2→x1=v∧n=n1∧xs=X1)∧(c=3→x2=v∧n=n2∧xs=X2)∧(c=4→x3=v∧n=n3∧xs=X3)) ∧
  (d j1=true→∃ g,y1=.slice (some ⟨g,0,none⟩) 1 1∧af g tN c1∈ps)∧(d j2=true→∃ g,y2=.slice (some ⟨g,0,none⟩) 1 1∧af g tN c2∈ps)
variable {w0:World} {PS:List aZ} {tN sz n1 n2 n3:Nat} {X1 X2 X3 c1 c2:List Value} {i0 i1 i2 i3 j1 j2:Nat} {A:Value→Value→Value→Value→Value→Value→Act}
def ChA (P:Program) (ops:Array Oper) (Q:Exit→Act→World→Prop) (w0:World) (PS:List aZ) (tN sz n n':Nat) (X X' c1 c2:List Value) (i:Nat) (D1 D2:Prop) (B:Value→Value→Value→Value→Value→Value→Value→Act) (B':Value→Value→Value→Value→Value→Value→Value→Value→Act):Prop :=
 ∀ x0 x1 x2 x3 y1 y2 v ps w (K:Act→World→Prop),ai w0 ps tN sz v n X w→(∀ p∈PS,p∈ps)→(D1→∃ g,y1=.slice (some ⟨g,0,none⟩) 1 1∧af g tN c1∈ps)→(D2→∃ g,y2=.slice (some ⟨g,0,none⟩) 1 1∧af g tN c2∈ps) →
  (∀ v' w',ai w0 ps tN sz v' n' X' w'→K (B' v' v x0 x1 x2 x3 y1 y2) w')→wpOp P ops Q i K (B v x0 x1 x2 x3 y1 y2) w
theorem uw {ps:List aZ} {v:Value} {n:Nat} {xs:List Value} {w:World} (h:ai w0 ps tN sz v n xs w) (cs:List Value):ai w0 (af w.heap.size tN cs::ps) tN sz v n xs (w.alloc (.cells cs.toArray tN)):=h.alloc _ _ _ rfl
theorem Af {T:List Nat} {dep:Nat→List Nat} {L1:Array Bool} {f g fuel:Nat} {listed:Array Bool} {w:World} {z0 z1 z2 z3 z4 z5:Value}
  (i0 i1 i2 i3 j1 j2:Nat) (hT:∀ i∈T,i=i0∨i=i1∨i=i2∨i=i3∨i=j1∨i=j2)
  (hdist:[i0,i1,i2,i3,j1,j2].Nodup) (hdep:i0∈dep i1∧i1∈dep i2∧i2∈dep i3)
  (h0:∀ x0 x1 x2 x3 y1 y2 w (K:Act→World→Prop),K (A (.slice (some ⟨w.heap.size,0,none⟩) 0 0) x1 x2 x3 y1 y2) (w.alloc (.cells #[] tN))→wpOp P ops Q i0 K (A x0 x1 x2 x3 y1 y2) w)
  (h1:ChA P ops Q w0 PS tN sz 0 n1 [] X1 c1 c2 i1 (j1∈dep i1) (j2∈dep i1) (fun v _ x1 x2 x3 y1 y2=>A v x1 x2 x3 y1 y2) (fun v' v _ _ x2 x3 y1 y2=>A v v' x2 x3 y1 y2))
  (h2:ChA P ops Q w0 PS tN sz n1 n2 X1 X2 c1 c2 i2 (j1∈dep i2) (j2∈dep i2) (fun v x0 _ x2 x3 y1 y2=>A x0 v x2 x3 y1 y2) (fun v' v x0 _ _ x3 y1 y2=>A x0 v v' x3 y1 y2))
  (h3:i3∈T→ChA P ops Q w0 PS tN sz n2 n3 X2 X3 c1 c2 i3 (j1∈dep i3) (j2∈dep i3) (fun v x0 x1 _ x3 y1 y2=>A x0 x1 v x3 y1 y2) (fun v' v x0 x1 _ _ y1 y2=>A x0 x1 v v' y1 y2))
  (hb1:∀ x0 x1 x2 x3 y1 y2 w (K:Act→World→Prop),Ok w0 PS w→K (A x0 x1 x2 x3 (.slice (some ⟨w.heap.size,0,none⟩) 1 1) y2) (w.alloc (.cells c1.toArray tN))→wpOp P ops Q j1 K (A x0 x1 x2 x3 y1 y2) w)
  (hb2:j2∈T→∀ x0 x1 x2 x3 y1 y2 w (K:Act→World→Prop),Ok w0 PS w→K (A x0 x1 x2 x3 y1 (.slice (some ⟨w.heap.size,0,none⟩) 1 1)) (w.alloc (.cells c2.toArray tN))→wpOp P ops Q j2 K (A x0 x1 x2 x3 y1 y2) w)
  (hL:Hid (Ok w0 PS w)) (hst:stB md ops T dep L1 f listed=true) (hfg:f+g=fuel)
  (hno:listed.getD i0 false=false∧listed.getD i1 false=false∧listed.getD i2 false=false∧listed.getD i3 false=false∧listed.getD j1 false=false∧listed.getD j2 false=false)
  (hend:∀ c x0 x1 x2 x3 y1 y2 v n xs w,L1.getD i2 false=decide (3≤c)→L1.getD i3 false=decide (4≤c)→c≤4→(c=3→x2=v∧n=n2∧xs=X2)→(c=4→x3=v∧n=n3∧xs=X3)→ai w0 PS tN sz v n xs w→wpAnyH P md ops Q (fun W=>Ok w0 PS W) g L1 (A x0 x1 x2 x3 y1 y2) w) :
  wpAnyH P md ops Q (fun W=>Ok w0 PS W) fuel listed (A z0 z1 z2 z3 z4 z5) w:=by
 subst hfg
 simp only [List.nodup_cons,List.mem_cons,List.not_mem_nil,or_false,not_or,List.nodup_nil,and_true] at hdist
 obtain ⟨⟨e01,e02,e03,e04,e05⟩,⟨e12,e13,e14,e15⟩,⟨e23,e24,e25⟩,⟨e34,e35⟩,e45,-⟩:=hdist
 refine p5 (T:=T) (dep:=dep) (L1:=L1) (I:=ChI w0 PS tN sz n1 n2 n3 X1 X2 X3 c1 c2 i0 i1 i2 i3 j1 j2 A) ?_ ?_ f listed _ w hst ?_ hL.out
 ·rintro i hi d a w hdi hde ⟨c,x0,x1,x2,x3,y1,y2,ps,v,n,xs,rfl,hok,hsub,⟨d0,d1,d2,d3,hc⟩,⟨q0,q1,q2,q3,q4⟩,k1,k2⟩ hS
  have good:∀ {ps' v' n' xs' w'},ai w0 ps' tN sz v' n' xs' w'→(∀ p∈PS,p∈ps')→Ok w0 PS w':=fun h hs=>h.ok.drop _ hs
  rcases hT i hi with rfl | rfl | rfl | rfl | rfl | rfl
  ·obtain rfl:c=0:=by rw [hdi] at d0; simp at d0; omega
   obtain ⟨rfl,rfl,rfl⟩:=q0 rfl
   refine h0 _ _ _ _ _ _ _ _ ?_
   have hn:ai w0 ps tN sz (.slice (some ⟨w.heap.size,0,none⟩) 0 0) 0 [] (w.alloc (.cells #[] tN)) :=
    ai.of_new hok.ok ((Below.refl _ _).alloc (Nat.le_refl _) _) (World.ownsRow_lit (e:=tN) (size:=sz) w #[] 0 (Nat.le_refl _) (by decide) (by simp))
   refine ⟨good hn hsub,1,_,_,_,_,_,_,ps,_,_,_,rfl,hn,hsub,⟨by simp,by simp [Ne.symm e01,d1],by simp [Ne.symm e02,d2],by simp [Ne.symm e03,d3],by omega⟩,⟨by simp,fun _=>⟨rfl,rfl,rfl⟩,by simp,by simp,by simp⟩,?_,?_⟩
   ·simpa [Ne.symm e04] using k1
   simpa [Ne.symm e05] using k2
  ·obtain rfl:c=1:=by
    have:=hde _ hdep.1; rw [d0] at this; rw [hdi] at d1; simp at this d1; omega
   obtain ⟨rfl,rfl,rfl⟩:=q1 rfl
   refine h1 x0 x1 x2 x3 y1 y2 _ ps w _ hok hsub (fun h=>k1 (hde _ h)) (fun h=>k2 (hde _ h)) (fun v' w' hn => ?_)
   refine ⟨good hn hsub,2,_,_,_,_,_,_,ps,_,_,_,rfl,hn,hsub,⟨by simp [d0],by simp,by simp [Ne.symm e12,d2],by simp [Ne.symm e13,d3],by omega⟩,⟨by simp,by simp,fun _=>⟨rfl,rfl,rfl⟩,by simp,by simp⟩,?_,?_⟩
   ·simpa [Ne.symm e14] using k1
   simpa [Ne.symm e15] using k2
  ·obtain rfl:c=2:=by
    have:=hde _ hdep.2.1; rw [d1] at this; rw [hdi] at d2; simp at this d2; omega
   obtain ⟨rfl,rfl,rfl⟩:=q2 rfl
   refine h2 x0 x1 x2 x3 y1 y2 _ ps w _ hok hsub (fun h=>k1 (hde _ h)) (fun h=>k2 (hde _ h)) (fun v' w' hn => ?_)
   refine ⟨good hn hsub,3,_,_,_,_,_,_,ps,_,_,_,rfl,hn,hsub,⟨by simp [d0],by simp [d1],by simp,by simp [Ne.symm e23,d3],by omega⟩,⟨by simp,by simp,by simp,fun _=>⟨rfl,rfl,rfl⟩,by simp⟩,?_,?_⟩
   ·simpa [Ne.symm e24] using k1
   simpa [Ne.symm e25] using k2
  ·obtain rfl:c=3:=by
    have:=hde _ hdep.2.2; rw [d2] at this; rw [hdi] at d3; simp at this d3; omega
   obtain ⟨rfl,rfl,rfl⟩:=q3 rfl
   refine h3 hi x0 x1 x2 x3 y1 y2 _ ps w _ hok hsub (fun h=>k1 (hde _ h)) (fun h=>k2 (hde _ h)) (fun v' w' hn => ?_)
   refine ⟨good hn hsub,4,_,_,_,_,_,_,ps,_,_,_,rfl,hn,hsub,⟨by simp [d0],by simp [d1],by simp [d2],by simp,by omega⟩,⟨by simp,by simp,by simp,by simp,fun _=>⟨rfl,rfl,rfl⟩⟩,?_,?_⟩
   ·simpa [Ne.symm e34] using k1
   simpa [Ne.symm e35] using k2
  ·refine hb1 _ _ _ _ _ _ _ _ hS ?_
   have hn:=uw hok c1
   refine ⟨good hn (fun p hp=>List.mem_cons_of_mem _ (hsub p hp)),c,_,_,_,_,_,_,_,v,n,xs,rfl,hn,fun p hp=>List.mem_cons_of_mem _ (hsub p hp),⟨by simp [e04,d0],by simp [e14,d1],by simp [e24,d2],by simp [e34,d3],hc⟩,⟨q0,q1,q2,q3,q4⟩,fun _=>⟨_,rfl,List.mem_cons_self ..⟩,fun h => ?_⟩
   obtain ⟨g,h1,h2⟩:=k2 (by simpa [Ne.symm e45] using h)
   exact ⟨g,h1,List.mem_cons_of_mem _ h2⟩
  refine hb2 hi _ _ _ _ _ _ _ _ hS ?_
  have hn:=uw hok c2
  refine ⟨good hn (fun p hp=>List.mem_cons_of_mem _ (hsub p hp)),c,_,_,_,_,_,_,_,v,n,xs,rfl,hn,fun p hp=>List.mem_cons_of_mem _ (hsub p hp),⟨by simp [e05,d0],by simp [e15,d1],by simp [e25,d2],by simp [e35,d3],hc⟩,⟨q0,q1,q2,q3,q4⟩,fun h => ?_,fun _=>⟨_,rfl,List.mem_cons_self ..⟩⟩
  obtain ⟨g,h1,h2⟩:=k1 (by simpa [e45] using h)
  exact ⟨g,h1,List.mem_cons_of_mem _ h2⟩
 ·rintro a w ⟨c,x0,x1,x2,x3,y1,y2,ps,v,n,xs,rfl,hok,hsub,⟨-,-,d2,d3,hc⟩,⟨-,-,-,q3,q4⟩,-,-⟩ -
  exact hend c x0 x1 x2 x3 y1 y2 v n xs w d2 d3 hc q3 q4 (hok.drop _ hsub)
 obtain ⟨m0,m1,m2,m3,m4,m5⟩:=hno
 exact ⟨0,_,_,_,_,_,_,PS,_,_,_,rfl,ai.start hL.out _ _,fun _ h=>h,⟨by simpa using m0,by simpa using m1,by simpa using m2,by simpa using m3,by omega⟩,⟨fun _=>⟨rfl,rfl,rfl⟩,by simp,by simp,by simp,by simp⟩,fun h=>(nomatch m4.symm.trans h),fun h=>(nomatch m5.symm.trans h)⟩
def chA (a0:Act) (s0 s1 s2 s3 t1 t2:Option Nat) (x0 x1 x2 x3 y1 y2:Value):Act:=(((((a0.put s0 x0).put s1 x1).put s2 x2).put s3 x3).put t1 y1).put t2 y2
def zA (a:Act):Option Nat→Value
 | some d=>a.tmps.getD d undef
 | none=>undef
theorem iE (a:Act) (s:Option Nat):a.put s (zA a s)=a:=by
 cases s with
 | none=>rfl
 | some d =>
  have h:a.tmps.setIfInBounds d (a.tmps.getD d undef)=a.tmps:=by
   apply Array.ext_getElem?
   intro i
   rw [Array.getElem?_setIfInBounds]
   by_cases hd:d=i
   ·subst hd
    by_cases hl:d<a.tmps.size
    ·simp [hl]
    simp [hl]
   rw [if_neg hd]
  show ({ a with tmps:=a.tmps.setIfInBounds d (a.tmps.getD d undef) }:Act)=a
  rw [h]
theorem lJ {T:List Nat} {dep:Nat→List Nat} {L1:Array Bool} {f g fuel:Nat} {listed:Array Bool} {w:World} {a0:Act} (i0 i1 i2 i3 j1 j2:Nat) (s0 s1 s2 s3 t1 t2:Option Nat) (hL:Hid (Ok w0 PS w))
  (hst:stB md ops T dep L1 f listed=true) (hfg:f+g=fuel)
  (hT:∀ i∈T,i=i0∨i=i1∨i=i2∨i=i3∨i=j1∨i=j2) (hdist:[i0,i1,i2,i3,j1,j2].Nodup) (hdep:i0∈dep i1∧i1∈dep i2∧i2∈dep i3)
  (hno:listed.getD i0 false=false∧listed.getD i1 false=false∧listed.getD i2 false=false∧listed.getD i3 false=false∧listed.getD j1 false=false∧listed.getD j2 false=false)
  (h0:∀ x0 x1 x2 x3 y1 y2 w (K:Act→World→Prop),K (chA a0 s0 s1 s2 s3 t1 t2 (.slice (some ⟨w.heap.size,0,none⟩) 0 0) x1 x2 x3 y1 y2) (w.alloc (.cells #[] tN))→wpOp P ops Q i0 K (chA a0 s0 s1 s2 s3 t1 t2 x0 x1 x2 x3 y1 y2) w)
  (hb1:∀ x0 x1 x2 x3 y1 y2 w (K:Act→World→Prop),Ok w0 PS w→K (chA a0 s0 s1 s2 s3 t1 t2 x0 x1 x2 x3 (.slice (some ⟨w.heap.size,0,none⟩) 1 1) y2) (w.alloc (.cells c1.toArray tN))→wpOp P ops Q j1 K (chA a0 s0 s1 s2 s3 t1 t2 x0 x1 x2 x3 y1 y2) w)
  (hb2:j2∈T→∀ x0 x1 x2 x3 y1 y2 w (K:Act→World→Prop),Ok w0 PS w→K (chA a0 s0 s1 s2 s3 t1 t2 x0 x1 x2 x3 y1 (.slice (some ⟨w.heap.size,0,none⟩) 1 1)) (w.alloc (.cells c2.toArray tN))→wpOp P ops Q j2 K (chA a0 s0 s1 s2 s3 t1 t2 x0 x1 x2 x3 y1 y2) w)
  (h1:ChA P ops Q w0 PS tN sz 0 n1 [] X1 c1 c2 i1 (j1∈dep i1) (j2∈dep i1) (fun v _ x1 x2 x3 y1 y2=>chA a0 s0 s1 s2 s3 t1 t2 v x1 x2 x3 y1 y2) (fun v' v _ _ x2 x3 y1 y2=>chA a0 s0 s1 s2 s3 t1 t2 v v' x2 x3 y1 y2))
  (h2:ChA P ops Q w0 PS tN sz n1 n2 X1 X2 c1 c2 i2 (j1∈dep i2) (j2∈dep i2) (fun v x0 _ x2 x3 y1 y2=>chA a0 s0 s1 s2 s3 t1 t2 x0 v x2 x3 y1 y2) (fun v' v x0 _ _ x3 y1 y2=>chA a0 s0 s1 s2 s3 t1 t2 x0 v v' x3 y1 y2))
  (h3:i3∈T→ChA P ops Q w0 PS tN sz n2 n3 X2 X3 c1 c2 i3 (j1∈dep i3) (j2∈dep i3) (fun v x0 x1 _ x3 y1 y2=>chA a0 s0 s1 s2 s3 t1 t2 x0 x1 v x3 y1 y2) (fun v' v x0 x1 _ _ y1 y2=>chA a0 s0 s1 s2 s3 t1 t2 x0 x1 v v' y1 y2))
  (hend:∀ c x0 x1 x2 x3 y1 y2 v n xs w,L1.getD i2 false=decide (3≤c)→L1.getD i3 false=decide (4≤c)→c≤4→(c=3→x2=v∧n=n2∧xs=X2)→(c=4→x3=v∧n=n3∧xs=X3)→ai w0 PS tN sz v n xs w→wpAnyH P md ops Q (fun W=>Ok w0 PS W) g L1 (chA a0 s0 s1 s2 s3 t1 t2 x0 x1 x2 x3 y1 y2) w) :
  wpAnyH P md ops Q (fun W=>Ok w0 PS W) fuel listed a0 w:=by
 have h:=Af (A:=chA a0 s0 s1 s2 s3 t1 t2) (z0:=zA a0 s0) (z1:=zA a0 s1) (z2:=zA a0 s2) (z3:=zA a0 s3) (z4:=zA a0 t1) (z5:=zA a0 t2) i0 i1 i2 i3 j1 j2 hT hdist hdep h0 h1 h2 h3 hb1 hb2 hL hst hfg hno hend
 unfold chA at h
 rw [iE,iE,iE,iE,iE,iE] at h
 exact h
end
open Go.RowKit
theorem sM (w:World) (o o2:Obj):{ w.alloc o with heap:=(w.alloc o).heap.setIfInBounds w.heap.size o2 }=w.alloc o2:=by
 have e:(w.heap.push o).setIfInBounds w.heap.size o2=w.heap.push o2:=by
  apply Array.ext_getElem?
  intro i
  rw [Array.getElem?_setIfInBounds,Array.getElem?_push,Array.getElem?_push,Array.size_push]
  by_cases h:w.heap.size=i
  ·subst h; simp
  have h2:i≠w.heap.size:=fun e=>h e.symm
  simp [h,h2]
 unfold World.alloc
 rw [e]
theorem bV {P:Program} (mty kt et:TypeId) (kd:TypeDesc) (hm:P.underlying mty=some (.map kt et)) (hk:P.underlying kt=some kd) (es:Array MapEntry) (c:Nat) (key val:Value) (hkey:MapKept.IsKey kd key) (hf:Instr.findNow kd key es.toList 0=some none) (w:World) :
  (Instr.mapUpdate mty (.map (some w.heap.size)) key val).run P (w.alloc (.map es c))=.ok () (w.alloc (.map (es.push { key:=key,val:=val,born:=c }) (c+1))):=by
 have hb:(w.alloc (.map es c)).heap[w.heap.size]?=some (.map es c):=by unfold World.alloc; simp
 have hc:(Instr.checkKey false 10000 kt key).run P (w.alloc (.map es c))=.ok () (w.alloc (.map es c)):=MapKept.run_checkKey (k:=key) hk hkey false 9999
 simp [Instr.mapUpdate,run_underlying hm,MapKept.run_getObj_map hb,hc,MapKept.run_findKey hk hf,MapKept.run_setObj_map _ hb,Result.andThen]
 exact sM w _ _
theorem dq {P:Program} (mty kt et:TypeId) (kd:TypeDesc) (hm:P.underlying mty=some (.map kt et)) (hk:P.underlying kt=some kd) {es:Array MapEntry} {c r i:Nat} {w:World} (hb:w.heap[r]?=some (.map es c)) (key val:Value) (hkey:MapKept.IsKey kd key) (hf:Instr.findNow kd key es.toList 0=some (some (i,val))) :
  (Instr.lookup mty (.map (some r)) key false).run P w=.ok val w:=by
 have hc:(Instr.checkKey es.isEmpty 10000 kt key).run P w=.ok () w:=MapKept.run_checkKey (k:=key) hk hkey _ 9999
 simp [Instr.lookup,run_underlying hm,MapKept.run_getObj_map hb,hc,MapKept.run_findKey hk hf,Result.andThen]
theorem look_ok {P:Program} (mty kt et:TypeId) (kd:TypeDesc) (hm:P.underlying mty=some (.map kt et)) (hk:P.underlying kt=some kd) {es:Array MapEntry} {c r i:Nat} {w:World} (hb:w.heap[r]?=some (.map es c)) (key val:Value) (hkey:MapKept.IsKey kd key) (hf:Instr.findNow kd key es.toList 0=some (some (i,val))) :
  (Instr.lookup mty (.map (some r)) key true).run P w=.ok (.tuple #[val,.bool true]) w:=by
 have hc:(Instr.checkKey es.isEmpty 10000 kt key).run P w=.ok () w:=MapKept.run_checkKey (k:=key) hk hkey _ 9999
 simp [Instr.lookup,run_underlying hm,MapKept.run_getObj_map hb,hc,MapKept.run_findKey hk hf,Result.andThen]
theorem iN (w:World) (o:Obj):(w.alloc o).heap[w.heap.size]?=some o:=by unfold World.alloc; simp
set_option maxHeartbeats 2000000
open Go.RowKit Go.Proofs.Tryz
theorem pz (c1 r1 c2 r2:Int) (w:World) :
  Calls prog 129 #[.agg #[.int .i64 c1,.int .i64 r1,.int .i64 c2,.int .i64 r2]] w fun e w'=>e=.returned (.agg #[.int .i64 c1,.int .i64 r1])∧Below w.heap.size w w':=by
 go_enter func129,ntmps129
 go_wp2
 refine bodyPost_ret (v:=.agg #[.int .i64 c1,.int .i64 r1]) (by simp [results,results129,go_sem]) rfl ⟨rfl,?_⟩
 exact ((Below.refl _ _).alloc (Nat.le_refl _) _).alloc (by simp) _
theorem v8 (c1 r1 c2 r2:Int) (w:World) :
  Calls prog 130 #[.agg #[.int .i64 c1,.int .i64 r1,.int .i64 c2,.int .i64 r2]] w fun e w'=>e=.returned (.agg #[.int .i64 c2,.int .i64 r2])∧Below w.heap.size w w':=by
 go_enter func130,ntmps130
 go_wp2
 refine bodyPost_ret (v:=.agg #[.int .i64 c2,.int .i64 r2]) (by simp [results,results130,go_sem]) rfl ⟨rfl,?_⟩
 exact ((Below.refl _ _).alloc (Nat.le_refl _) _).alloc (by simp) _
theorem dA (c1 r1 c2 r2:Int) (w:World) :
  Calls prog 127 #[.agg #[.int .i64 c1,.int .i64 r1,.int .i64 c2,.int .i64 r2]] w fun e w'=>e=.returned (.int .i64 (bi ⟨c1,r1,c2,r2⟩))∧Below w.heap.size w w':=by
 go_enter func127,ntmps127
 go_wp2_with fail
 have k0:=Blk.new w 25 #[.int .i64 c1,.int .i64 r1,.int .i64 c2,.int .i64 r2]
 have Dy:Hid (Below w.heap.size w (w.alloc (.cells #[.int .i64 c1,.int .i64 r1,.int .i64 c2,.int .i64 r2] 25))):=(Below.refl w.heap.size w).alloc (Nat.le_refl _) _
 generalize (w.alloc (.cells #[.int .i64 c1,.int .i64 r1,.int .i64 c2,.int .i64 r2] 25))=W0 at k0 Dy ⊢
 have DL:=k0.cell 0
 have DR:=k0.cell 1
 have DV:=k0.cell 2
 have DY:=k0.cell 3
 simp at DL DR DV DY
 clear k0
 refine (pz _ _ _ _ _).mono ?_
 rintro e D4 ⟨rfl,Dr⟩
 have DN:=aD Dr DL
 have DT:=aD Dr DR
 have DW:=aD Dr DV
 have DZ:=aD Dr DY
 have DC:=Lib.hid (an Dy.out Dr)
 clear Dr DL DR DV DY
 go_wp2_with fail
 refine (iG _ _ _).mono ?_
 rintro e D5 ⟨rfl,Ds⟩
 have DO:=aD Ds DN
 have DU:=aD Ds DT
 have DX:=aD Ds DW
 have D3:=aD Ds DZ
 have Dz:=Lib.hid (an DC.out Ds)
 clear Ds DN DT DW DZ
 cases hv1:aW c1 r1
 ·have HE:=Lib.hid (da (r:=⟨c1,r1,c2,r2⟩) (by simp [aG,hv1]))
  clear hv1
  go_wp2_with fail
  go_ret
  exact ⟨by rw [HE.out]; rfl,Dz.out⟩
 have HV1:=Lib.hid hv1
 clear hv1
 go_wp2_with fail
 refine (v8 _ _ _ _ _).mono ?_
 rintro e DJ ⟨rfl,Do⟩
 have Du:=aD Do DO
 have Dv:=aD Do DU
 have Dw:=aD Do DX
 have Dx:=aD Do D3
 have Dt:=Lib.hid (an Dz.out Do)
 clear Do DO DU DX D3
 go_wp2_with fail
 refine (iG _ _ _).mono ?_
 rintro e DK ⟨rfl,Dp⟩
 have DD:=aD Dp Du
 have DF:=aD Dp Dv
 have DG:=aD Dp Dw
 have DI:=aD Dp Dx
 have Dq:=Lib.hid (an Dt.out Dp)
 clear Dp Du Dv Dw Dx
 cases hv2:aW c2 r2
 ·have HE:=Lib.hid (da (r:=⟨c1,r1,c2,r2⟩) (by simp [aG,hv2]))
  clear hv2
  go_wp2_with fail
  go_ret
  exact ⟨by rw [HE.out]; rfl,Dq.out⟩
 by_cases h1:c1≤c2
 ·by_cases h2:r1≤r2
  ·have HE:=Lib.hid (bb (r:=⟨c1,r1,c2,r2⟩) (by simp [aG,HV1.out,hv2,h1,h2]))
   clear hv2
   go_wp2_with fail
   go_ret
   exact ⟨by rw [HE.out]; rfl,Dq.out⟩
  have HE:=Lib.hid (da (r:=⟨c1,r1,c2,r2⟩) (by simp [aG,h2]))
  clear hv2
  go_wp2_with fail
  go_ret
  exact ⟨by rw [HE.out]; rfl,Dq.out⟩
 have HE:=Lib.hid (da (r:=⟨c1,r1,c2,r2⟩) (by simp [aG,h1]))
 clear hv2
 go_wp2_with fail
 go_ret
 exact ⟨by rw [HE.out]; rfl,Dq.out⟩
def rv (r:R4):Nat→Value
 | 0=>.int .i64 r.c1
 | 1=>.int .i64 r.r1
 | 2=>.int .i64 r.c2
 | _=>.int .i64 r.r2
def nq (w:World) (B:Nat) (a:Option Addr) (n:Nat) (f:Nat→R4):Prop:=lC 4 w B a n (fun i j=>rv (f i) j)
theorem nq.below {w w':World} {B B' n:Nat} {a:Option Addr} {f:Nat→R4} (h:nq w B a n f) (hb:Below B w w') (hB:B≤B'):nq w' B' a n f:=lC.below h hb hB
section
open Go.RowKit
def three (a b c:R4):Nat→R4
 | 0=>a
 | 1=>b
 | _=>c
end
section
open Go.RowKit
end
section
open Go.RowKit
end
