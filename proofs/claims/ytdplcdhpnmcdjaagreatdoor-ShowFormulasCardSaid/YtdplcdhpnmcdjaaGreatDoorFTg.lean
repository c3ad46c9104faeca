/- Plain: ranges, and what package rect's small functions compute. No program stands here but by the name of its kit. The contract of the reference's Valid. Contracts of package rect's corners, Check, and of their references. Short forms of the moves in a drawn region. A loop over an iterator that keeps its state in one captured cell: one integer a round, nobody leaves early. No program stands here. Maps that a call makes and fills with known keys. No program stands here. Contracts of the reference's From, To and Check of ranges, and of package rect's all. -/
import Derived.Test.YtdplcdhpnmcdjaaGreatDoorFAddrP
import Derived.Test.YtdplcdhpnmcdjaaGreatDoorFShelf
import Derived.Deep.RegionHeld
import Derived.RangeFuncNested
import Derived.RangeFuncBound
import Derived.RangeFuncCalls
import Derived.RangeFuncLeaves
import Derived.RangeFuncBox
import Derived.Shelf.Abstract
import Derived.OwnWalkIn
import Derived.TacticsInMore
import Derived.LoopNIn
import Derived.LoopIn
import Derived.Maps.AppendAt
import Derived.WideMake
import Derived.Carry
namespace Go.Proofs.YtdplcdhpnmcdjaaGreatDoor
structure R4 where
 c1:Int
 r1:Int
 c2:Int
 r2:Int
deriving DecidableEq
def R4.zero:R4:=⟨0,0,0,0⟩
def aE (r:R4):Bool:=aV r.c1 r.r1 && aV r.c2 r.r2 && decide (r.c1≤r.c2) && decide (r.r1≤r.r2)
def bi (r:R4):Int:=if aE r=true then 0 else 3
theorem pM (r:R4):aE r=true↔1≤r.c1∧r.c1≤r.c2∧r.c2≤1024∧1≤r.r1∧r.r1≤r.r2∧r.r2≤1024:=by
 simp only [aE,aV,Bool.and_eq_true,decide_eq_true_eq]; omega
open Go.RowKit Go.Proofs.Tryz
theorem io (c r:Int) (w:World) :
  Calls prog 83 #[.agg #[.int .i64 c,.int .i64 r]] w fun e w'=>e=.returned (.bool (aV c r))∧Below w.heap.size w w':=by
 apply jC c r <;> intros
 all_goals
  go_enter func83,ntmps83
  go_wp2
  go_ret
  exact ⟨by simp only [Array.getD_eq_getD_getElem?]; simp [aV]; try omega,(Below.refl _ _).alloc (Nat.le_refl _) _⟩
set_option maxHeartbeats 2000000
theorem jq (c1 r1 c2 r2:Int) (w:World) :
  Calls prog 141 #[.agg #[.int .i64 c1,.int .i64 r1,.int .i64 c2,.int .i64 r2]] w fun e w'=>e=.returned (.tuple #[.agg #[.int .i64 c1,.int .i64 r1],.agg #[.int .i64 c2,.int .i64 r2]])∧Below w.heap.size w w':=by
 go_enter func141,ntmps141
 go_wp2
 go_region
 go_wp2
 refine bodyPost_ret (v:=.tuple #[.agg #[.int .i64 c1,.int .i64 r1],.agg #[.int .i64 c2,.int .i64 r2]]) (by simp [results,results141,go_sem]) rfl ⟨rfl,?_⟩
 exact ((((Below.refl _ _).alloc (Nat.le_refl _) _).alloc (by simp) _).alloc (by simp; omega) _).drew
theorem ba {r:R4} (h:aE r=true):bi r=0:=by unfold bi; rw [if_pos h]
theorem cY {r:R4} (h:aE r=false):bi r=3:=by unfold bi; rw [if_neg (by simp [h])]
theorem ca (c1 r1 c2 r2:Int) (w:World) :
  Calls prog 140 #[.agg #[.int .i64 c1,.int .i64 r1,.int .i64 c2,.int .i64 r2]] w fun e w'=>e=.returned (.int .i64 (bi ⟨c1,r1,c2,r2⟩))∧Below w.heap.size w w':=by
 go_enter func140,ntmps140
 go_wp2_with fail
 have k0:=Blk.new w 37 #[.int .i64 c1,.int .i64 r1,.int .i64 c2,.int .i64 r2]
 refine (jq _ _ _ _ _).mono ?_
 rintro e w1 ⟨rfl,hb1⟩
 have hz1:w.heap.size<w1.heap.size:=by have:=hb1.size; simp at this; omega
 have HB1:=Lib.hid (((Below.refl w.heap.size w).alloc (Nat.le_refl _) (.cells #[.int .i64 c1,.int .i64 r1,.int .i64 c2,.int .i64 r2] 37)).trans (hb1.mono (by simp)))
 have k1:=((k0.below hb1 (by simp)).alloc (.cells #[.int .i64 c1,.int .i64 r1] 46)).alloc (.cells #[.int .i64 c2,.int .i64 r2] 46)
 have ka:=(Blk.new w1 46 #[.int .i64 c1,.int .i64 r1]).alloc (.cells #[.int .i64 c2,.int .i64 r2] 46)
 have kb:=Blk.new (w1.alloc (.cells #[.int .i64 c1,.int .i64 r1] 46)) 46 #[.int .i64 c2,.int .i64 r2]
 rw [World.size_alloc] at kb
 have HB2:Hid (Below w.heap.size w ((w1.alloc (.cells #[.int .i64 c1,.int .i64 r1] 46)).alloc (.cells #[.int .i64 c2,.int .i64 r2] 46))):=(HB1.out.alloc HB1.out.size _).alloc (by have:=HB1.out.size; simp; omega) _
 clear hb1 k0
 go_wp2_with fail
 generalize ((w1.alloc (.cells #[.int .i64 c1,.int .i64 r1] 46)).alloc (.cells #[.int .i64 c2,.int .i64 r2] 46))=W2 at k1 ka kb HB2 ⊢
 have c0:=k1.cell 0
 have c1':=k1.cell 1
 have c2':=k1.cell 2
 have c3:=k1.cell 3
 have d0:=kb.cell 0
 have d1:=kb.cell 1
 simp at c0 c1' c2' c3 d0 d1
 clear k1 ka kb HB1
 refine (eD _ _ _).mono ?_
 rintro e w3 ⟨rfl,hb3⟩
 have e0:=aB hb3 c0
 have e1:=aB hb3 c1'
 have e2:=aB hb3 c2'
 have e3:=aB hb3 c3
 have q0:=aB hb3 d0
 have q1:=aB hb3 d1
 have HB3:=Lib.hid (am HB2.out hb3)
 clear hb3 c0 c1' c2' c3 d0 d1 HB2
 cases hv1:aV c1 r1
 ·have HE:=Lib.hid (cY (r:=⟨c1,r1,c2,r2⟩) (by simp [aE,hv1]))
  clear hv1
  go_wp2_with fail
  go_ret
  exact ⟨by rw [HE.out]; rfl,HB3.out⟩
 have HV1:=Lib.hid hv1
 clear hv1
 go_wp2_with fail
 refine (eD _ _ _).mono ?_
 rintro e w4 ⟨rfl,hb4⟩
 have c0:=aB hb4 e0
 have c1':=aB hb4 e1
 have c2':=aB hb4 e2
 have c3:=aB hb4 e3
 have HB4:=Lib.hid (am HB3.out hb4)
 clear hb4 e0 e1 e2 e3 q0 q1 HB3
 cases hv2:aV c2 r2
 ·have HE:=Lib.hid (cY (r:=⟨c1,r1,c2,r2⟩) (by simp [aE,hv2]))
  clear hv2
  go_wp2_with fail
  go_ret
  exact ⟨by rw [HE.out]; rfl,HB4.out⟩
 by_cases h1:c1≤c2
 ·by_cases h2:r1≤r2
  ·have HE:=Lib.hid (ba (r:=⟨c1,r1,c2,r2⟩) (by simp [aE,HV1.out,hv2,h1,h2]))
   clear hv2
   go_wp2_with fail
   go_ret
   exact ⟨by rw [HE.out]; rfl,HB4.out⟩
  have HE:=Lib.hid (cY (r:=⟨c1,r1,c2,r2⟩) (by simp [aE,h2]))
  clear hv2
  go_wp2_with fail
  go_ret
  exact ⟨by rw [HE.out]; rfl,HB4.out⟩
 have HE:=Lib.hid (cY (r:=⟨c1,r1,c2,r2⟩) (by simp [aE,h1]))
 clear hv2
 go_wp2_with fail
 go_ret
 exact ⟨by rw [HE.out]; rfl,HB4.out⟩
section
variable {P:Program} {md:Region.Mode} {ops:Array Oper} {Q:Exit→Act→World→Prop} {S:World→Prop} {i:Nat} {oi:Oper} {v:Value} {fuel:Nat} {listed:Array Bool} {a:Act} {w:World}
theorem wtg (hi:ops[i]?=some oi) (hy:∀ W,S W→(execOp a.eval oi).run P W=.ok (.value v) W) (hS:S w)
 (h:wpAnyH P md ops Q S fuel (listed.setIfInBounds i true) (a.put oi.dst v) w)
 (hs:Region.noSelect ops=true:=by kernel_rfl) (hf:Region.free md ops listed i=true:=by kernel_rfl) (hr:(Region.ready md ops listed).contains i=true:=by kernel_rfl)
 (hQ:∀ c a w,Q (.panic c) (a.put oi.dst v) w→Q (.panic c) a w:=by exact fun _ _ _ h=>h) (hw:Region.wanted oi (yielded ops a.tmps)=true:=by rfl):wpAnyH P md ops Q S (fuel+1) listed a w :=
 wpAnyH_take hi hs hf hr hQ (.inl ⟨hw,hy⟩) hS h
theorem wsg (hi:ops[i]?=some oi) (hS:S w)
 (h:wpAnyH P md ops Q S fuel (listed.setIfInBounds i true) (a.put oi.dst undef) w)
 (hs:Region.noSelect ops=true:=by kernel_rfl) (hf:Region.free md ops listed i=true:=by kernel_rfl) (hr:(Region.ready md ops listed).contains i=true:=by kernel_rfl)
 (hQ:∀ c a w,Q (.panic c) (a.put oi.dst undef) w→Q (.panic c) a w:=by exact fun _ _ _ h=>h) (hw:Region.wanted oi (yielded ops a.tmps)=false:=by rfl):wpAnyH P md ops Q S (fuel+1) listed a w :=
 wpAnyH_take hi hs hf hr hQ (.inr ⟨hw,rfl⟩) hS h
theorem wsk (i:Nat) {a':Act}
 (h:wpAnyH P md ops Q S fuel (listed.setIfInBounds i true) a' w) (hi:ops[i]?=some oi:=by exact rfl) (hS:S w:=by assumption)
 (ha:a.put oi.dst undef=a':=by ((try simp only [Act.put,List.setIfInBounds_toArray,List.set_cons_zero,List.set_cons_succ,List.getElem_toArray,List.getElem_cons_succ,List.getElem_cons_zero]); exact rfl))
 (hs:Region.noSelect ops=true:=by kernel_rfl) (hf:Region.free md ops listed i=true:=by kernel_rfl) (hr:(Region.ready md ops listed).contains i=true:=by kernel_rfl)
 (hQ:∀ c a w,Q (.panic c) (a.put oi.dst undef) w→Q (.panic c) a w:=by exact fun _ _ _ h=>h) (hw:Region.wanted oi (yielded ops a.tmps)=false:=by rfl):wpAnyH P md ops Q S (fuel+1) listed a w :=
 wpAnyH_take hi hs hf hr hQ (.inr ⟨hw,rfl⟩) hS (ha▸h)
theorem wal (i:Nat) {oi:Oper}
 (h:∀ K':Act→World→Prop,Shut (∀ (a:Act) (w:World),S w→(S w→wpAnyH P md ops Q S fuel (listed.setIfInBounds i true) a w)→K' a w)→if Region.wanted oi (yielded ops a.tmps)=true then Oper.wp P oi a w K' Q else K' (a.put oi.dst undef) w) (ho:ops[i]?=some oi:=by exact rfl)
 (hr:Region.ready md ops listed=[i]:=by kernel_rfl):wpAnyH P md ops Q S (fuel+1) listed a w :=
 wpAnyH_ready hr (by simp) (AllReadyH.cons ho h AllReadyH.nil)
theorem wtn (hi:ops[i]?=some oi) (hy:∀ W,(execOp a.eval oi).run P W=.ok (.value v) W)
 (h:wpAny P md ops Q fuel (listed.setIfInBounds i true) (a.put oi.dst v) w)
 (hs:Region.noSelect ops=true:=by kernel_rfl) (hf:Region.free md ops listed i=true:=by kernel_rfl) (hr:(Region.ready md ops listed).contains i=true:=by kernel_rfl)
 (hQ:∀ c a w,Q (.panic c) (a.put oi.dst v) w→Q (.panic c) a w:=by exact fun _ _ _ h=>h) (hw:Region.wanted oi (yielded ops a.tmps)=true:=by rfl):wpAny P md ops Q (fuel+1) listed a w :=
 wpAny_take hi hs hf hr hQ (.inl ⟨hw,hy⟩) h
theorem wp1 {α:Type} (l:List α) (i:Nat) (a:α):l.toArray.setIfInBounds i a=(l.set i a).toArray:=List.setIfInBounds_toArray ..
theorem wp4 {α : Type} {l : List α} {i : Nat} (h : i < l.toArray.size) : l.toArray[i] = l[i]'(by simpa using h):=rfl
theorem wp5 {α : Type} {x : α} {l : List α} {i : Nat} (h : i + 1 < (x :: l).length) : (x :: l)[i + 1] = l[i]'(by simpa using h):=rfl
theorem wp6 {α:Type} {x:α} {l:List α} (h:0<(x::l).length):(x::l)[0]=x:=rfl
theorem wp2 {α:Type} {x:α} {l:List α} {a:α}:(x::l).set 0 a=a::l:=rfl
theorem wp3 {α:Type} {x:α} {l:List α} {i:Nat} {a:α}:(x::l).set (i+1) a=x::l.set i a:=rfl
variable {w0:World} {ps:List bf} {a':Act}
theorem wt3 (i:Nat)
 (h:wpAnyH P md ops Q (fun W=>Ok w0 ps W) fuel (listed.setIfInBounds i true) a' w) (hi:ops[i]?=some oi:=by exact rfl) (hS:Ok w0 ps w:=by assumption)
 (hy:∀ W,Ok w0 ps W→(execOp a.eval oi).run P W=.ok (.value v) W:=by (intro w hSw; have F:=Ok.sees hSw; clear hSw; simp only [sees,af,ah,aa,ag,ac,Nat.add_zero,Nat.reduceAdd,and_true] at F; go_simp; try with_reducible rfl))
 (ha:a.put oi.dst v=a':=by ((try simp only [Act.put,List.setIfInBounds_toArray,List.set_cons_zero,List.set_cons_succ,List.getElem_toArray,List.getElem_cons_succ,List.getElem_cons_zero]); exact rfl))
 (hs:Region.noSelect ops=true:=by kernel_rfl) (hf:Region.free md ops listed i=true:=by kernel_rfl) (hr:(Region.ready md ops listed).contains i=true:=by kernel_rfl)
 (hQ:∀ c a w,Q (.panic c) (a.put oi.dst v) w→Q (.panic c) a w:=by exact fun _ _ _ h=>h) (hw:Region.wanted oi (yielded ops a.tmps)=true:=by rfl):wpAnyH P md ops Q (fun W=>Ok w0 ps W) (fuel+1) listed a w :=
 wpAnyH_take hi hs hf hr hQ (.inl ⟨hw,hy⟩) hS (ha▸h)
theorem wt4 (i:Nat)
 (h:wpAnyH P md ops Q (fun W=>Ok w0 ps W) fuel (listed.setIfInBounds i true) a' w) (hi:ops[i]?=some oi:=by exact rfl) (hS:Ok w0 ps w:=by assumption)
 (hy:∀ W,Ok w0 ps W→(execOp a.eval oi).run P W=.ok (.value v) W:=by (intro w hSw; have F:=Ok.sees hSw; clear hSw; simp only [sees,af,ah,aa,ag,ac,Nat.add_zero,Nat.reduceAdd,and_true] at F; go_simp; (try rw [if_neg (by omega)]); try with_reducible rfl))
 (ha:a.put oi.dst v=a':=by ((try simp only [Act.put,List.setIfInBounds_toArray,List.set_cons_zero,List.set_cons_succ,List.getElem_toArray,List.getElem_cons_succ,List.getElem_cons_zero]); exact rfl))
 (hs:Region.noSelect ops=true:=by kernel_rfl) (hf:Region.free md ops listed i=true:=by kernel_rfl) (hr:(Region.ready md ops listed).contains i=true:=by kernel_rfl)
 (hQ:∀ c a w,Q (.panic c) (a.put oi.dst v) w→Q (.panic c) a w:=by exact fun _ _ _ h=>h) (hw:Region.wanted oi (yielded ops a.tmps)=true:=by rfl):wpAnyH P md ops Q (fun W=>Ok w0 ps W) (fuel+1) listed a w :=
 wpAnyH_take hi hs hf hr hQ (.inl ⟨hw,hy⟩) hS (ha▸h)
end
section
open Go.RowKit
variable {P:Program} {md:Region.Mode} {ops:Array Oper} {Q:Exit→Act→World→Prop} {S:World→Prop} {i:Nat} {oi:Oper} {v:Value} {fuel:Nat} {listed:Array Bool} {a a':Act} {w:World}
theorem wt5 (i:Nat)
 (h:wpAny P md ops Q fuel (listed.setIfInBounds i true) a' w) (hi:ops[i]?=some oi:=by exact rfl)
 (hy:∀ W,(execOp a.eval oi).run P W=.ok (.value v) W:=by (intro w; go_simp; (try rw [if_neg (by omega)]); (try with_reducible rfl)))
 (ha:a.put oi.dst v=a':=by ((try simp only [Act.put,wp1,wp2,wp3,wp4,wp5,wp6]); exact rfl))
 (hs:Region.noSelect ops=true:=by kernel_rfl) (hf:Region.free md ops listed i=true:=by kernel_rfl) (hr:(Region.ready md ops listed).contains i=true:=by kernel_rfl)
 (hQ:∀ c a w,Q (.panic c) (a.put oi.dst v) w→Q (.panic c) a w:=by exact fun _ _ _ h=>h) (hw:Region.wanted oi (yielded ops a.tmps)=true:=by rfl):wpAny P md ops Q (fuel+1) listed a w:=
 wpAny_take hi hs hf hr hQ (.inl ⟨hw,hy⟩) (ha▸h)
theorem wn (h:wpAnyH P md ops Q S fuel listed a' w) (ha:a=a':=by ((try simp only [Act.put,wp1,wp2,wp3,wp4,wp5,wp6]); exact rfl)):wpAnyH P md ops Q S fuel listed a w:=ha▸h
theorem wm (h:wpAny P md ops Q fuel listed a' w) (ha:a=a':=by ((try simp only [Act.put,wp1,wp2,wp3,wp4,wp5,wp6]); exact rfl)):wpAny P md ops Q fuel listed a w:=ha▸h
theorem wan (i:Nat) {oi:Oper}
 (h:∀ K':Act→World→Prop,(∀ (a:Act) (w:World),wpAny P md ops Q fuel (listed.setIfInBounds i true) a w→K' a w)→if Region.wanted oi (yielded ops a.tmps)=true then Oper.wp P oi a w K' Q else K' (a.put oi.dst undef) w) (ho:ops[i]?=some oi:=by exact rfl)
 (hr:Region.ready md ops listed=[i]:=by kernel_rfl):wpAny P md ops Q (fuel+1) listed a w:=
 wpAny_ready hr (by simp) (AllReady.cons ho h AllReady.nil)
theorem wta (i:Nat)
 (h:wpAnyH P md ops Q S fuel (listed.setIfInBounds i true) a' w) (hi:ops[i]?=some oi:=by exact rfl) (hS:S w:=by assumption)
 (hy:∀ W,S W→(execOp a.eval oi).run P W=.ok (.value v) W:=by (intro w hSw; obtain ⟨y0,y1,y2⟩:=hSw; go_simp; try with_reducible rfl))
 (ha:a.put oi.dst v=a':=by ((try simp only [Act.put,wp1,wp2,wp3,wp4,wp5,wp6]); exact rfl))
 (hs:Region.noSelect ops=true:=by kernel_rfl) (hf:Region.free md ops listed i=true:=by kernel_rfl) (hr:(Region.ready md ops listed).contains i=true:=by kernel_rfl)
 (hQ:∀ c a w,Q (.panic c) (a.put oi.dst v) w→Q (.panic c) a w:=by exact fun _ _ _ h=>h) (hw:Region.wanted oi (yielded ops a.tmps)=true:=by rfl):wpAnyH P md ops Q S (fuel+1) listed a w:=
 wpAnyH_take hi hs hf hr hQ (.inl ⟨hw,hy⟩) hS (ha▸h)
theorem wtb (i:Nat)
 (h:wpAnyH P md ops Q S fuel (listed.setIfInBounds i true) a' w) (hi:ops[i]?=some oi:=by exact rfl) (hS:S w:=by assumption)
 (hy:∀ W,S W→(execOp a.eval oi).run P W=.ok (.value v) W:=by (intro w hSw; have s1:=hSw.1.1.cell; have s2:=hSw.1.2.1.cell; have s3:=hSw.1.2.2.cell; go_simp; try with_reducible rfl))
 (ha:a.put oi.dst v=a':=by ((try simp only [Act.put,wp1,wp2,wp3,wp4,wp5,wp6]); exact rfl))
 (hs:Region.noSelect ops=true:=by kernel_rfl) (hf:Region.free md ops listed i=true:=by kernel_rfl) (hr:(Region.ready md ops listed).contains i=true:=by kernel_rfl)
 (hQ:∀ c a w,Q (.panic c) (a.put oi.dst v) w→Q (.panic c) a w:=by exact fun _ _ _ h=>h) (hw:Region.wanted oi (yielded ops a.tmps)=true:=by rfl):wpAnyH P md ops Q S (fuel+1) listed a w:=
 wpAnyH_take hi hs hf hr hQ (.inl ⟨hw,hy⟩) hS (ha▸h)
theorem wtc (i:Nat)
 (h:wpAnyH P md ops Q S fuel (listed.setIfInBounds i true) a' w) (hi:ops[i]?=some oi:=by exact rfl) (hS:S w:=by assumption)
 (hy:∀ W,S W→(execOp a.eval oi).run P W=.ok (.value v) W:=by (intro w hSw; go_simp; try with_reducible rfl))
 (ha:a.put oi.dst v=a':=by ((try simp only [Act.put,wp1,wp2,wp3,wp4,wp5,wp6]); exact rfl))
 (hs:Region.noSelect ops=true:=by kernel_rfl) (hf:Region.free md ops listed i=true:=by kernel_rfl) (hr:(Region.ready md ops listed).contains i=true:=by kernel_rfl)
 (hQ:∀ c a w,Q (.panic c) (a.put oi.dst v) w→Q (.panic c) a w:=by exact fun _ _ _ h=>h) (hw:Region.wanted oi (yielded ops a.tmps)=true:=by rfl):wpAnyH P md ops Q S (fuel+1) listed a w:=
 wpAnyH_take hi hs hf hr hQ (.inl ⟨hw,hy⟩) hS (ha▸h)
theorem wtd (i:Nat)
 (h:wpAnyH P md ops Q S fuel (listed.setIfInBounds i true) a' w) (hi:ops[i]?=some oi:=by exact rfl) (hS:S w:=by assumption)
 (hy:∀ W,S W→(execOp a.eval oi).run P W=.ok (.value v) W:=by (intro w hSw; have F:=Ok.sees hSw; clear hSw; simp only [sees,ah,aa,ag,Nat.add_zero,Nat.zero_add,ac,Nat.reduceAdd] at F; go_simp; try with_reducible rfl))
 (ha:a.put oi.dst v=a':=by ((try simp only [Act.put,wp1,wp2,wp3,wp4,wp5,wp6]); exact rfl))
 (hs:Region.noSelect ops=true:=by kernel_rfl) (hf:Region.free md ops listed i=true:=by kernel_rfl) (hr:(Region.ready md ops listed).contains i=true:=by kernel_rfl)
 (hQ:∀ c a w,Q (.panic c) (a.put oi.dst v) w→Q (.panic c) a w:=by exact fun _ _ _ h=>h) (hw:Region.wanted oi (yielded ops a.tmps)=true:=by rfl):wpAnyH P md ops Q S (fuel+1) listed a w:=
 wpAnyH_take hi hs hf hr hQ (.inl ⟨hw,hy⟩) hS (ha▸h)
theorem wte (i:Nat)
 (h:wpAnyH P md ops Q S fuel (listed.setIfInBounds i true) a' w) (hi:ops[i]?=some oi:=by exact rfl) (hS:S w:=by assumption)
 (hy:∀ W,S W→(execOp a.eval oi).run P W=.ok (.value v) W:=by (intro w hSw; obtain ⟨x1,x2,x3,x4⟩:=hSw; go_simp; try with_reducible rfl))
 (ha:a.put oi.dst v=a':=by ((try simp only [Act.put,wp1,wp2,wp3,wp4,wp5,wp6]); exact rfl))
 (hs:Region.noSelect ops=true:=by kernel_rfl) (hf:Region.free md ops listed i=true:=by kernel_rfl) (hr:(Region.ready md ops listed).contains i=true:=by kernel_rfl)
 (hQ:∀ c a w,Q (.panic c) (a.put oi.dst v) w→Q (.panic c) a w:=by exact fun _ _ _ h=>h) (hw:Region.wanted oi (yielded ops a.tmps)=true:=by rfl):wpAnyH P md ops Q S (fuel+1) listed a w:=
 wpAnyH_take hi hs hf hr hQ (.inl ⟨hw,hy⟩) hS (ha▸h)
theorem wtf (i:Nat)
 (h:wpAnyH P md ops Q S fuel (listed.setIfInBounds i true) a' w) (hi:ops[i]?=some oi:=by exact rfl) (hS:S w:=by assumption)
 (hy:∀ W,S W→(execOp a.eval oi).run P W=.ok (.value v) W:=by (intro w hSw; obtain ⟨x1,x2,x3,x4,x5,x6⟩:=hSw; go_simp; try with_reducible rfl))
 (ha:a.put oi.dst v=a':=by ((try simp only [Act.put,wp1,wp2,wp3,wp4,wp5,wp6]); exact rfl))
 (hs:Region.noSelect ops=true:=by kernel_rfl) (hf:Region.free md ops listed i=true:=by kernel_rfl) (hr:(Region.ready md ops listed).contains i=true:=by kernel_rfl)
 (hQ:∀ c a w,Q (.panic c) (a.put oi.dst v) w→Q (.panic c) a w:=by exact fun _ _ _ h=>h) (hw:Region.wanted oi (yielded ops a.tmps)=true:=by rfl):wpAnyH P md ops Q S (fuel+1) listed a w:=
 wpAnyH_take hi hs hf hr hQ (.inl ⟨hw,hy⟩) hS (ha▸h)
end
section
open Go.RowKit
theorem ex {α:Sort _} (a:α):∃ x,a=x:=⟨_,rfl⟩
theorem sC {B:Nat} {w w':World} (h:Below B w w') {a:Addr} (v:Value) (ha:B≤a.block:=by simp):Below B w (w'.setCell a v):=h.setCell ha v
theorem cM {P:Program} {f:Nat} {args:Array Value} {w0 w:World} {ps:List bf} {Q:Ending→World→Prop} {v:Value} (h:Calls P f args w fun e w'=>e=.returned v∧Below w.heap.size w w') (H:Hid (Ok w0 ps w)) (k:∀ w',Hid (Ok w0 ps w')→Q (.returned v) w'):Calls P f args w Q:=h.mono (by rintro e w' ⟨rfl,hb⟩; exact k _ (Lib.hid (H.out.below hb)))
theorem cMg {P:Program} {f:Nat} {args:Array Value} {w:World} {S:World→Prop} {Q:Ending→World→Prop} {v:Value} (h:Calls P f args w fun e w'=>e=.returned v∧Below w.heap.size w w') (H:∀ w',Below w.heap.size w w'→S w') (k:∀ w',Hid (S w')→Q (.returned v) w'):Calls P f args w Q:=h.mono (by rintro e w' ⟨rfl,hb⟩; exact k _ (Lib.hid (H _ hb)))
theorem cR {P:Program} {f:Nat} {args:Array Value} {w0 w:World} {ps:List bf} {t:TypeId} {s:Nat} {u:Value} {n:Nat} {xs:List Value} {Q:Ending→World→Prop} {v:Value} (h:Calls P f args w fun e w'=>e=.returned v∧Below w.heap.size w w') (H:Hid (aj w0 ps t s u n xs w)) (k:∀ w',Hid (aj w0 ps t s u n xs w')→Q (.returned v) w'):Calls P f args w Q:=h.mono (by rintro e w' ⟨rfl,hb⟩; exact k _ (Lib.hid (H.out.below hb)))
theorem sE {w0 w:World} {ps:List bf} {q:Prop} (H:Hid (Ok w0 ps w)) (h:sees ps w→q:=by (simp only [sees,af,ah,aa,ag,ac,Nat.add_zero,Nat.reduceAdd,and_true]; exact id)):q:=h H.out.sees
theorem sR {w0 w:World} {ps:List bf} {t:TypeId} {s:Nat} {u:Value} {n:Nat} {xs:List Value} {q:Prop} (H:Hid (aj w0 ps t s u n xs w)) (h:sees ps w→q:=by (simp only [sees,af,ah,aa,ag,ac,Nat.add_zero,Nat.reduceAdd,and_true]; exact id)):q:=h H.out.ok.sees
end
open Go.RowKit
def Al (R:World→Prop):Exit→Act→World→Prop
 | .normal,_,w=>R w
 | _,_,_=>False
theorem si (w:World) (o o2:Obj):{ w.alloc o with heap:=(w.alloc o).heap.setIfInBounds w.heap.size o2 }=w.alloc o2:=by
 have e:(w.heap.push o).setIfInBounds w.heap.size o2=w.heap.push o2:=by
  apply Array.ext_getElem?
  intro i
  rw [Array.getElem?_setIfInBounds,Array.getElem?_push,Array.getElem?_push,Array.size_push]
  by_cases h:w.heap.size=i
  ·subst h; simp
  have h2:i≠w.heap.size:=fun e=>h e.symm
  simp [h,h2]
 unfold World.alloc
 rw [e]
theorem bU {P:Program} (mty kt et:TypeId) (kd:TypeDesc) (hm:P.underlying mty=some (.map kt et)) (hk:P.underlying kt=some kd) (es:Array MapEntry) (c:Nat) (key val:Value) (hkey:MapKept.IsKey kd key) (hf:Instr.findNow kd key es.toList 0=some none) (w:World) :
  (Instr.mapUpdate mty (.map (some w.heap.size)) key val).run P (w.alloc (.map es c))=.ok () (w.alloc (.map (es.push { key:=key,val:=val,born:=c }) (c+1))):=by
 have hb:(w.alloc (.map es c)).heap[w.heap.size]?=some (.map es c):=by unfold World.alloc; simp
 have hc:(Instr.checkKey false 10000 kt key).run P (w.alloc (.map es c))=.ok () (w.alloc (.map es c)):=MapKept.run_checkKey (k:=key) hk hkey false 9999
 simp [Instr.mapUpdate,run_underlying hm,MapKept.run_getObj_map hb,hc,MapKept.run_findKey hk hf,MapKept.run_setObj_map _ hb,Result.andThen]
 exact si w _ _
theorem dm {P:Program} (mty kt et:TypeId) (kd:TypeDesc) (hm:P.underlying mty=some (.map kt et)) (hk:P.underlying kt=some kd) {es:Array MapEntry} {c r i:Nat} {w:World} (hb:w.heap[r]?=some (.map es c)) (key val:Value) (hkey:MapKept.IsKey kd key) (hf:Instr.findNow kd key es.toList 0=some (some (i,val))) :
  (Instr.lookup mty (.map (some r)) key false).run P w=.ok val w:=by
 have hc:(Instr.checkKey es.isEmpty 10000 kt key).run P w=.ok () w:=MapKept.run_checkKey (k:=key) hk hkey _ 9999
 simp [Instr.lookup,run_underlying hm,MapKept.run_getObj_map hb,hc,MapKept.run_findKey hk hf,Result.andThen]
theorem look_ok {P:Program} (mty kt et:TypeId) (kd:TypeDesc) (hm:P.underlying mty=some (.map kt et)) (hk:P.underlying kt=some kd) {es:Array MapEntry} {c r i:Nat} {w:World} (hb:w.heap[r]?=some (.map es c)) (key val:Value) (hkey:MapKept.IsKey kd key) (hf:Instr.findNow kd key es.toList 0=some (some (i,val))) :
  (Instr.lookup mty (.map (some r)) key true).run P w=.ok (.tuple #[val,.bool true]) w:=by
 have hc:(Instr.checkKey es.isEmpty 10000 kt key).run P w=.ok () w:=MapKept.run_checkKey (k:=key) hk hkey _ 9999
 simp [Instr.lookup,run_underlying hm,MapKept.run_getObj_map hb,hc,MapKept.run_findKey hk hf,Result.andThen]
theorem iy (w:World) (o:Obj):(w.alloc o).heap[w.heap.size]?=some o:=by unfold World.alloc; simp
set_option maxHeartbeats 2000000
open Go.RowKit Go.Proofs.Tryz
theorem oZ (c1 r1 c2 r2:Int) (w:World) :
  Calls prog 150 #[.agg #[.int .i64 c1,.int .i64 r1,.int .i64 c2,.int .i64 r2]] w fun e w'=>e=.returned (.agg #[.int .i64 c1,.int .i64 r1])∧Below w.heap.size w w':=by
 go_enter func150,ntmps150
 go_wp2
 refine bodyPost_ret (v:=.agg #[.int .i64 c1,.int .i64 r1]) (by simp [results,results150,go_sem]) rfl ⟨rfl,?_⟩
 exact ((Below.refl _ _).alloc (Nat.le_refl _) _).alloc (by simp) _
theorem vD (c1 r1 c2 r2:Int) (w:World) :
  Calls prog 151 #[.agg #[.int .i64 c1,.int .i64 r1,.int .i64 c2,.int .i64 r2]] w fun e w'=>e=.returned (.agg #[.int .i64 c2,.int .i64 r2])∧Below w.heap.size w w':=by
 go_enter func151,ntmps151
 go_wp2
 refine bodyPost_ret (v:=.agg #[.int .i64 c2,.int .i64 r2]) (by simp [results,results151,go_sem]) rfl ⟨rfl,?_⟩
 exact ((Below.refl _ _).alloc (Nat.le_refl _) _).alloc (by simp) _
theorem dy (c1 r1 c2 r2:Int) (w:World) :
  Calls prog 148 #[.agg #[.int .i64 c1,.int .i64 r1,.int .i64 c2,.int .i64 r2]] w fun e w'=>e=.returned (.int .i64 (bi ⟨c1,r1,c2,r2⟩))∧Below w.heap.size w w':=by
 go_enter func148,ntmps148
 go_wp2_with fail
 have k0:=Blk.new w 37 #[.int .i64 c1,.int .i64 r1,.int .i64 c2,.int .i64 r2]
 have C7:Hid (Below w.heap.size w (w.alloc (.cells #[.int .i64 c1,.int .i64 r1,.int .i64 c2,.int .i64 r2] 37))):=(Below.refl w.heap.size w).alloc (Nat.le_refl _) _
 generalize (w.alloc (.cells #[.int .i64 c1,.int .i64 r1,.int .i64 c2,.int .i64 r2] 37))=W0 at k0 C7 ⊢
 have Dg:=k0.cell 0
 have Dj:=k0.cell 1
 have Dm:=k0.cell 2
 have Dp:=k0.cell 3
 simp at Dg Dj Dm Dp
 clear k0
 refine (oZ _ _ _ _ _).mono ?_
 rintro e Ds ⟨rfl,CZ⟩
 have Dh:=aB CZ Dg
 have Dk:=aB CZ Dj
 have Dn:=aB CZ Dm
 have Dq:=aB CZ Dp
 have C9:=Lib.hid (am C7.out CZ)
 clear CZ Dg Dj Dm Dp
 go_wp2_with fail
 refine (io _ _ _).mono ?_
 rintro e Dt ⟨rfl,C0⟩
 have Di:=aB C0 Dh
 have Dl:=aB C0 Dk
 have Do:=aB C0 Dn
 have Dr:=aB C0 Dq
 have C8:=Lib.hid (am C9.out C0)
 clear C0 Dh Dk Dn Dq
 cases hv1:aV c1 r1
 ·have HE:=Lib.hid (cY (r:=⟨c1,r1,c2,r2⟩) (by simp [aE,hv1]))
  clear hv1
  go_wp2_with fail
  go_ret
  exact ⟨by rw [HE.out]; rfl,C8.out⟩
 have HV1:=Lib.hid hv1
 clear hv1
 go_wp2_with fail
 refine (vD _ _ _ _ _).mono ?_
 rintro e De ⟨rfl,CW⟩
 have C2:=aB CW Di
 have C3:=aB CW Dl
 have C5:=aB CW Do
 have C6:=aB CW Dr
 have C1:=Lib.hid (am C8.out CW)
 clear CW Di Dl Do Dr
 go_wp2_with fail
 refine (io _ _ _).mono ?_
 rintro e Df ⟨rfl,CX⟩
 have Da:=aB CX C2
 have Db:=aB CX C3
 have Dc:=aB CX C5
 have Dd:=aB CX C6
 have CY:=Lib.hid (am C1.out CX)
 clear CX C2 C3 C5 C6
 cases hv2:aV c2 r2
 ·have HE:=Lib.hid (cY (r:=⟨c1,r1,c2,r2⟩) (by simp [aE,hv2]))
  clear hv2
  go_wp2_with fail
  go_ret
  exact ⟨by rw [HE.out]; rfl,CY.out⟩
 by_cases h1:c1≤c2
 ·by_cases h2:r1≤r2
  ·have HE:=Lib.hid (ba (r:=⟨c1,r1,c2,r2⟩) (by simp [aE,HV1.out,hv2,h1,h2]))
   clear hv2
   go_wp2_with fail
   go_ret
   exact ⟨by rw [HE.out]; rfl,CY.out⟩
  have HE:=Lib.hid (cY (r:=⟨c1,r1,c2,r2⟩) (by simp [aE,h2]))
  clear hv2
  go_wp2_with fail
  go_ret
  exact ⟨by rw [HE.out]; rfl,CY.out⟩
 have HE:=Lib.hid (cY (r:=⟨c1,r1,c2,r2⟩) (by simp [aE,h1]))
 clear hv2
 go_wp2_with fail
 go_ret
 exact ⟨by rw [HE.out]; rfl,CY.out⟩
def rv (r:R4):Nat→Value
 | 0=>.int .i64 r.c1
 | 1=>.int .i64 r.r1
 | 2=>.int .i64 r.c2
 | _=>.int .i64 r.r2
def iV (w:World) (B:Nat) (a:Option Addr) (n:Nat) (f:Nat→R4):Prop:=kT 4 w B a n (fun i j=>rv (f i) j)
theorem iV.below {w w':World} {B B' n:Nat} {a:Option Addr} {f:Nat→R4} (h:iV w B a n f) (hb:Below B w w') (hB:B≤B'):iV w' B' a n f:=kT.below h hb hB
theorem iV.spot {w:World} {B n:Nat} {a:Option Addr} {f:Nat→R4} (h:iV w B a n f) (hn:0<n) :
  ∃ b off,a=some ⟨b,off,none⟩∧b<B∧∀ i,i<n→(w.cell? ⟨b,off+i * 4,none⟩=some (.int .i64 (f i).c1)∧w.cell? ⟨b,off+i * 4+1,none⟩=some (.int .i64 (f i).r1)∧w.cell? ⟨b,off+i * 4+2,none⟩=some (.int .i64 (f i).c2)∧w.cell? ⟨b,off+i * 4+3,none⟩=some (.int .i64 (f i).r2)):=by
 obtain ⟨⟨b,off,spot⟩,rfl,hB,hc⟩:=h hn
 have h0:=hc 0 0 hn (by omega)
 have hs:spot=none:=by simpa [Addr.add] using World.cell?_spot h0
 subst hs
 refine ⟨b,off,rfl,hB,fun i hi=>⟨?_,?_,?_,?_⟩⟩
 ·have:=hc i 0 hi (by omega); rwa [show (⟨b,off,none⟩:Addr).add (i * 4+0)=⟨b,off+i * 4,none⟩ from by unfold Addr.add; split <;> simp_all] at this
 ·have:=hc i 1 hi (by omega); rwa [show (⟨b,off,none⟩:Addr).add (i * 4+1)=⟨b,off+i * 4+1,none⟩ from by unfold Addr.add; simp; omega] at this
 ·have:=hc i 2 hi (by omega); rwa [show (⟨b,off,none⟩:Addr).add (i * 4+2)=⟨b,off+i * 4+2,none⟩ from by unfold Addr.add; simp; omega] at this
 have:=hc i 3 hi (by omega); rwa [show (⟨b,off,none⟩:Addr).add (i * 4+3)=⟨b,off+i * 4+3,none⟩ from by unfold Addr.add; simp; omega] at this
