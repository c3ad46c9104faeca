/- Plain: ranges, and what package rect's small functions compute. No program stands here but by the name of its kit. The contract of the reference's Valid. Contracts of package rect's corners, Check, and of their references. Short forms of the moves in a drawn region. -/
import Derived.Test.YthdmpajkacmkdaaGreatDoorGAddrP
import Derived.Test.YthdmpajkacmkdaaGreatDoorGShelf
import Derived.Deep.RegionHeld
namespace Go.Proofs.YthdmpajkacmkdaaGreatDoor
structure R4 where
 c1:Int
 r1:Int
 c2:Int
 r2:Int
deriving DecidableEq
def R4.zero:R4:=⟨0,0,0,0⟩
def aG (r:R4):Bool:=aW r.c1 r.r1 && aW r.c2 r.r2 && decide (r.c1≤r.c2) && decide (r.r1≤r.r2)
def bi (r:R4):Int:=if aG r=true then 0 else 3
theorem qe (r:R4):aG r=true↔1≤r.c1∧r.c1≤r.c2∧r.c2≤1024∧1≤r.r1∧r.r1≤r.r2∧r.r2≤1024:=by
 simp only [aG,aW,Bool.and_eq_true,decide_eq_true_eq]; omega
open Go.RowKit Go.Proofs.Tryz
theorem iG (c r:Int) (w:World) :
  Calls prog 160 #[.agg #[.int .i64 c,.int .i64 r]] w fun e w'=>e=.returned (.bool (aW c r))∧Below w.heap.size w w':=by
 apply jU c r <;> intros
 all_goals
  go_enter func160,ntmps160
  go_wp2
  go_ret
  exact ⟨by simp only [Array.getD_eq_getD_getElem?]; simp [aW]; try omega,(Below.refl _ _).alloc (Nat.le_refl _) _⟩
set_option maxHeartbeats 2000000
theorem jK (c1 r1 c2 r2:Int) (w:World) :
  Calls prog 120 #[.agg #[.int .i64 c1,.int .i64 r1,.int .i64 c2,.int .i64 r2]] w fun e w'=>e=.returned (.tuple #[.agg #[.int .i64 c1,.int .i64 r1],.agg #[.int .i64 c2,.int .i64 r2]])∧Below w.heap.size w w':=by
 go_enter func120,ntmps120
 go_wp2
 go_region
 go_wp2
 refine bodyPost_ret (v:=.tuple #[.agg #[.int .i64 c1,.int .i64 r1],.agg #[.int .i64 c2,.int .i64 r2]]) (by simp [results,results120,go_sem]) rfl ⟨rfl,?_⟩
 exact ((((Below.refl _ _).alloc (Nat.le_refl _) _).alloc (by simp) _).alloc (by simp; omega) _).drew
theorem bb {r:R4} (h:aG r=true):bi r=0:=by unfold bi; rw [if_pos h]
theorem da {r:R4} (h:aG r=false):bi r=3:=by unfold bi; rw [if_neg (by simp [h])]
theorem ce (c1 r1 c2 r2:Int) (w:World) :
  Calls prog 119 #[.agg #[.int .i64 c1,.int .i64 r1,.int .i64 c2,.int .i64 r2]] w fun e w'=>e=.returned (.int .i64 (bi ⟨c1,r1,c2,r2⟩))∧Below w.heap.size w w':=by
 go_enter func119,ntmps119
 go_wp2_with fail
 have k0:=Blk.new w 25 #[.int .i64 c1,.int .i64 r1,.int .i64 c2,.int .i64 r2]
 refine (jK _ _ _ _ _).mono ?_
 rintro e w1 ⟨rfl,hb1⟩
 have hz1:w.heap.size<w1.heap.size:=by have:=hb1.size; simp at this; omega
 have HB1:=Lib.hid (((Below.refl w.heap.size w).alloc (Nat.le_refl _) (.cells #[.int .i64 c1,.int .i64 r1,.int .i64 c2,.int .i64 r2] 25)).trans (hb1.mono (by simp)))
 have k1:=((k0.below hb1 (by simp)).alloc (.cells #[.int .i64 c1,.int .i64 r1] 139)).alloc (.cells #[.int .i64 c2,.int .i64 r2] 139)
 have ka:=(Blk.new w1 139 #[.int .i64 c1,.int .i64 r1]).alloc (.cells #[.int .i64 c2,.int .i64 r2] 139)
 have kb:=Blk.new (w1.alloc (.cells #[.int .i64 c1,.int .i64 r1] 139)) 139 #[.int .i64 c2,.int .i64 r2]
 rw [World.size_alloc] at kb
 have HB2:Hid (Below w.heap.size w ((w1.alloc (.cells #[.int .i64 c1,.int .i64 r1] 139)).alloc (.cells #[.int .i64 c2,.int .i64 r2] 139))):=(HB1.out.alloc HB1.out.size _).alloc (by have:=HB1.out.size; simp; omega) _
 clear hb1 k0
 go_wp2_with fail
 generalize ((w1.alloc (.cells #[.int .i64 c1,.int .i64 r1] 139)).alloc (.cells #[.int .i64 c2,.int .i64 r2] 139))=W2 at k1 ka kb HB2 ⊢
 have c0:=k1.cell 0
 have c1':=k1.cell 1
 have c2':=k1.cell 2
 have c3:=k1.cell 3
 have d0:=kb.cell 0
 have d1:=kb.cell 1
 simp at c0 c1' c2' c3 d0 d1
 clear k1 ka kb HB1
 refine (eJ _ _ _).mono ?_
 rintro e w3 ⟨rfl,hb3⟩
 have e0:=aD hb3 c0
 have e1:=aD hb3 c1'
 have e2:=aD hb3 c2'
 have e3:=aD hb3 c3
 have q0:=aD hb3 d0
 have q1:=aD hb3 d1
 have HB3:=Lib.hid (an HB2.out hb3)
 clear hb3 c0 c1' c2' c3 d0 d1 HB2
 cases hv1:aW c1 r1
 ·have HE:=Lib.hid (da (r:=⟨c1,r1,c2,r2⟩) (by simp [aG,hv1]))
  clear hv1
  go_wp2_with fail
  go_ret
  exact ⟨by rw [HE.out]; rfl,HB3.out⟩
 have HV1:=Lib.hid hv1
 clear hv1
 go_wp2_with fail
 refine (eJ _ _ _).mono ?_
 rintro e w4 ⟨rfl,hb4⟩
 have c0:=aD hb4 e0
 have c1':=aD hb4 e1
 have c2':=aD hb4 e2
 have c3:=aD hb4 e3
 have HB4:=Lib.hid (an HB3.out hb4)
 clear hb4 e0 e1 e2 e3 q0 q1 HB3
 cases hv2:aW c2 r2
 ·have HE:=Lib.hid (da (r:=⟨c1,r1,c2,r2⟩) (by simp [aG,hv2]))
  clear hv2
  go_wp2_with fail
  go_ret
  exact ⟨by rw [HE.out]; rfl,HB4.out⟩
 by_cases h1:c1≤c2
 ·by_cases h2:r1≤r2
  ·have HE:=Lib.hid (bb (r:=⟨c1,r1,c2,r2⟩) (by simp [aG,HV1.out,hv2,h1,h2]))
   clear hv2
   go_wp2_with fail
   go_ret
   exact ⟨by rw [HE.out]; rfl,HB4.out⟩
  have HE:=Lib.hid (da (r:=⟨c1,r1,c2,r2⟩) (by simp [aG,h2]))
  clear hv2
  go_wp2_with fail
  go_ret
  exact ⟨by rw [HE.out]; rfl,HB4.out⟩
 have HE:=Lib.hid (da (r:=⟨c1,r1,c2,r2⟩) (by simp [aG,h1]))
 clear hv2
 go_wp2_with fail
 go_ret
 exact ⟨by rw [HE.out]; rfl,HB4.out⟩
section
variable {P:Program} {md:Region.Mode} {ops:Array Oper} {Q:Exit→Act→World→Prop} {S:World→Prop} {i:Nat} {oi:Oper} {v:Value} {fuel:Nat} {listed:Array Bool} {a:Act} {w:World}
theorem wtg (hi:ops[i]?=some oi) (hy:∀ W,S W→(execOp a.eval oi).run P W=.ok (.value v) W) (hS:S w)
 (h:wpAnyH P md ops Q S fuel (listed.setIfInBounds i true) (a.put oi.dst v) w)
 (hs:Region.noSelect ops=true:=by kernel_rfl) (hf:Region.free md ops listed i=true:=by kernel_rfl) (hr:(Region.ready md ops listed).contains i=true:=by kernel_rfl)
 (hQ:∀ c a w,Q (.panic c) (a.put oi.dst v) w→Q (.panic c) a w:=by exact fun _ _ _ h=>h) (hw:Region.wanted oi (yielded ops a.tmps)=true:=by rfl):wpAnyH P md ops Q S (fuel+1) listed a w :=
 wpAnyH_take hi hs hf hr hQ (.inl ⟨hw,hy⟩) hS h
theorem wsg (hi:ops[i]?=some oi) (hS:S w)
 (h:wpAnyH P md ops Q S fuel (listed.setIfInBounds i true) (a.put oi.dst undef) w)
 (hs:Region.noSelect ops=true:=by kernel_rfl) (hf:Region.free md ops listed i=true:=by kernel_rfl) (hr:(Region.ready md ops listed).contains i=true:=by kernel_rfl)
 (hQ:∀ c a w,Q (.panic c) (a.put oi.dst undef) w→Q (.panic c) a w:=by exact fun _ _ _ h=>h) (hw:Region.wanted oi (yielded ops a.tmps)=false:=by rfl):wpAnyH P md ops Q S (fuel+1) listed a w :=
 wpAnyH_take hi hs hf hr hQ (.inr ⟨hw,rfl⟩) hS h
theorem wsk (i:Nat) {a':Act}
 (h:wpAnyH P md ops Q S fuel (listed.setIfInBounds i true) a' w) (hi:ops[i]?=some oi:=by exact rfl) (hS:S w:=by assumption)
 (ha:a.put oi.dst undef=a':=by ((try simp only [Act.put,List.setIfInBounds_toArray,List.set_cons_zero,List.set_cons_succ,List.getElem_toArray,List.getElem_cons_succ,List.getElem_cons_zero]); exact rfl))
 (hs:Region.noSelect ops=true:=by kernel_rfl) (hf:Region.free md ops listed i=true:=by kernel_rfl) (hr:(Region.ready md ops listed).contains i=true:=by kernel_rfl)
 (hQ:∀ c a w,Q (.panic c) (a.put oi.dst undef) w→Q (.panic c) a w:=by exact fun _ _ _ h=>h) (hw:Region.wanted oi (yielded ops a.tmps)=false:=by rfl):wpAnyH P md ops Q S (fuel+1) listed a w :=
 wpAnyH_take hi hs hf hr hQ (.inr ⟨hw,rfl⟩) hS (ha▸h)
theorem wal (i:Nat) {oi:Oper}
 (h:∀ K':Act→World→Prop,Shut (∀ (a:Act) (w:World),S w→(S w→wpAnyH P md ops Q S fuel (listed.setIfInBounds i true) a w)→K' a w)→if Region.wanted oi (yielded ops a.tmps)=true then Oper.wp P oi a w K' Q else K' (a.put oi.dst undef) w) (ho:ops[i]?=some oi:=by exact rfl)
 (hr:Region.ready md ops listed=[i]:=by kernel_rfl):wpAnyH P md ops Q S (fuel+1) listed a w :=
 wpAnyH_ready hr (by simp) (AllReadyH.cons ho h AllReadyH.nil)
theorem wtn (hi:ops[i]?=some oi) (hy:∀ W,(execOp a.eval oi).run P W=.ok (.value v) W)
 (h:wpAny P md ops Q fuel (listed.setIfInBounds i true) (a.put oi.dst v) w)
 (hs:Region.noSelect ops=true:=by kernel_rfl) (hf:Region.free md ops listed i=true:=by kernel_rfl) (hr:(Region.ready md ops listed).contains i=true:=by kernel_rfl)
 (hQ:∀ c a w,Q (.panic c) (a.put oi.dst v) w→Q (.panic c) a w:=by exact fun _ _ _ h=>h) (hw:Region.wanted oi (yielded ops a.tmps)=true:=by rfl):wpAny P md ops Q (fuel+1) listed a w :=
 wpAny_take hi hs hf hr hQ (.inl ⟨hw,hy⟩) h
theorem wp1 {α:Type} (l:List α) (i:Nat) (a:α):l.toArray.setIfInBounds i a=(l.set i a).toArray:=List.setIfInBounds_toArray ..
theorem wp4 {α : Type} {l : List α} {i : Nat} (h : i < l.toArray.size) : l.toArray[i] = l[i]'(by simpa using h):=rfl
theorem wp5 {α : Type} {x : α} {l : List α} {i : Nat} (h : i + 1 < (x :: l).length) : (x :: l)[i + 1] = l[i]'(by simpa using h):=rfl
theorem wp6 {α:Type} {x:α} {l:List α} (h:0<(x::l).length):(x::l)[0]=x:=rfl
theorem wp2 {α:Type} {x:α} {l:List α} {a:α}:(x::l).set 0 a=a::l:=rfl
theorem wp3 {α:Type} {x:α} {l:List α} {i:Nat} {a:α}:(x::l).set (i+1) a=x::l.set i a:=rfl
variable {w0:World} {ps:List aZ} {a':Act}
theorem wt3 (i:Nat)
 (h:wpAnyH P md ops Q (fun W=>Ok w0 ps W) fuel (listed.setIfInBounds i true) a' w) (hi:ops[i]?=some oi:=by exact rfl) (hS:Ok w0 ps w:=by assumption)
 (hy:∀ W,Ok w0 ps W→(execOp a.eval oi).run P W=.ok (.value v) W:=by (intro w hSw; have F:=Ok.sees hSw; clear hSw; simp only [sees,af,ah,aa,ag,ac,Nat.add_zero,Nat.reduceAdd,and_true] at F; go_simp; try with_reducible rfl))
 (ha:a.put oi.dst v=a':=by ((try simp only [Act.put,List.setIfInBounds_toArray,List.set_cons_zero,List.set_cons_succ,List.getElem_toArray,List.getElem_cons_succ,List.getElem_cons_zero]); exact rfl))
 (hs:Region.noSelect ops=true:=by kernel_rfl) (hf:Region.free md ops listed i=true:=by kernel_rfl) (hr:(Region.ready md ops listed).contains i=true:=by kernel_rfl)
 (hQ:∀ c a w,Q (.panic c) (a.put oi.dst v) w→Q (.panic c) a w:=by exact fun _ _ _ h=>h) (hw:Region.wanted oi (yielded ops a.tmps)=true:=by rfl):wpAnyH P md ops Q (fun W=>Ok w0 ps W) (fuel+1) listed a w :=
 wpAnyH_take hi hs hf hr hQ (.inl ⟨hw,hy⟩) hS (ha▸h)
theorem wt4 (i:Nat)
 (h:wpAnyH P md ops Q (fun W=>Ok w0 ps W) fuel (listed.setIfInBounds i true) a' w) (hi:ops[i]?=some oi:=by exact rfl) (hS:Ok w0 ps w:=by assumption)
 (hy:∀ W,Ok w0 ps W→(execOp a.eval oi).run P W=.ok (.value v) W:=by (intro w hSw; have F:=Ok.sees hSw; clear hSw; simp only [sees,af,ah,aa,ag,ac,Nat.add_zero,Nat.reduceAdd,and_true] at F; go_simp; (try rw [if_neg (by omega)]); try with_reducible rfl))
 (ha:a.put oi.dst v=a':=by ((try simp only [Act.put,List.setIfInBounds_toArray,List.set_cons_zero,List.set_cons_succ,List.getElem_toArray,List.getElem_cons_succ,List.getElem_cons_zero]); exact rfl))
 (hs:Region.noSelect ops=true:=by kernel_rfl) (hf:Region.free md ops listed i=true:=by kernel_rfl) (hr:(Region.ready md ops listed).contains i=true:=by kernel_rfl)
 (hQ:∀ c a w,Q (.panic c) (a.put oi.dst v) w→Q (.panic c) a w:=by exact fun _ _ _ h=>h) (hw:Region.wanted oi (yielded ops a.tmps)=true:=by rfl):wpAnyH P md ops Q (fun W=>Ok w0 ps W) (fuel+1) listed a w :=
 wpAnyH_take hi hs hf hr hQ (.inl ⟨hw,hy⟩) hS (ha▸h)
end
section
open Go.RowKit
variable {P:Program} {md:Region.Mode} {ops:Array Oper} {Q:Exit→Act→World→Prop} {S:World→Prop} {i:Nat} {oi:Oper} {v:Value} {fuel:Nat} {listed:Array Bool} {a a':Act} {w:World}
theorem wt5 (i:Nat)
 (h:wpAny P md ops Q fuel (listed.setIfInBounds i true) a' w) (hi:ops[i]?=some oi:=by exact rfl)
 (hy:∀ W,(execOp a.eval oi).run P W=.ok (.value v) W:=by (intro w; go_simp; (try rw [if_neg (by omega)]); (try with_reducible rfl)))
 (ha:a.put oi.dst v=a':=by ((try simp only [Act.put,wp1,wp2,wp3,wp4,wp5,wp6]); exact rfl))
 (hs:Region.noSelect ops=true:=by kernel_rfl) (hf:Region.free md ops listed i=true:=by kernel_rfl) (hr:(Region.ready md ops listed).contains i=true:=by kernel_rfl)
 (hQ:∀ c a w,Q (.panic c) (a.put oi.dst v) w→Q (.panic c) a w:=by exact fun _ _ _ h=>h) (hw:Region.wanted oi (yielded ops a.tmps)=true:=by rfl):wpAny P md ops Q (fuel+1) listed a w:=
 wpAny_take hi hs hf hr hQ (.inl ⟨hw,hy⟩) (ha▸h)
theorem wn (h:wpAnyH P md ops Q S fuel listed a' w) (ha:a=a':=by ((try simp only [Act.put,wp1,wp2,wp3,wp4,wp5,wp6]); exact rfl)):wpAnyH P md ops Q S fuel listed a w:=ha▸h
theorem wm (h:wpAny P md ops Q fuel listed a' w) (ha:a=a':=by ((try simp only [Act.put,wp1,wp2,wp3,wp4,wp5,wp6]); exact rfl)):wpAny P md ops Q fuel listed a w:=ha▸h
theorem wan (i:Nat) {oi:Oper}
 (h:∀ K':Act→World→Prop,(∀ (a:Act) (w:World),wpAny P md ops Q fuel (listed.setIfInBounds i true) a w→K' a w)→if Region.wanted oi (yielded ops a.tmps)=true then Oper.wp P oi a w K' Q else K' (a.put oi.dst undef) w) (ho:ops[i]?=some oi:=by exact rfl)
 (hr:Region.ready md ops listed=[i]:=by kernel_rfl):wpAny P md ops Q (fuel+1) listed a w:=
 wpAny_ready hr (by simp) (AllReady.cons ho h AllReady.nil)
theorem wta (i:Nat)
 (h:wpAnyH P md ops Q S fuel (listed.setIfInBounds i true) a' w) (hi:ops[i]?=some oi:=by exact rfl) (hS:S w:=by assumption)
 (hy:∀ W,S W→(execOp a.eval oi).run P W=.ok (.value v) W:=by (intro w hSw; obtain ⟨y0,y1,y2⟩:=hSw; go_simp; try with_reducible rfl))
 (ha:a.put oi.dst v=a':=by ((try simp only [Act.put,wp1,wp2,wp3,wp4,wp5,wp6]); exact rfl))
 (hs:Region.noSelect ops=true:=by kernel_rfl) (hf:Region.free md ops listed i=true:=by kernel_rfl) (hr:(Region.ready md ops listed).contains i=true:=by kernel_rfl)
 (hQ:∀ c a w,Q (.panic c) (a.put oi.dst v) w→Q (.panic c) a w:=by exact fun _ _ _ h=>h) (hw:Region.wanted oi (yielded ops a.tmps)=true:=by rfl):wpAnyH P md ops Q S (fuel+1) listed a w:=
 wpAnyH_take hi hs hf hr hQ (.inl ⟨hw,hy⟩) hS (ha▸h)
theorem wtb (i:Nat)
 (h:wpAnyH P md ops Q S fuel (listed.setIfInBounds i true) a' w) (hi:ops[i]?=some oi:=by exact rfl) (hS:S w:=by assumption)
 (hy:∀ W,S W→(execOp a.eval oi).run P W=.ok (.value v) W:=by (intro w hSw; have s1:=hSw.1.1.cell; have s2:=hSw.1.2.1.cell; have s3:=hSw.1.2.2.cell; go_simp; try with_reducible rfl))
 (ha:a.put oi.dst v=a':=by ((try simp only [Act.put,wp1,wp2,wp3,wp4,wp5,wp6]); exact rfl))
 (hs:Region.noSelect ops=true:=by kernel_rfl) (hf:Region.free md ops listed i=true:=by kernel_rfl) (hr:(Region.ready md ops listed).contains i=true:=by kernel_rfl)
 (hQ:∀ c a w,Q (.panic c) (a.put oi.dst v) w→Q (.panic c) a w:=by exact fun _ _ _ h=>h) (hw:Region.wanted oi (yielded ops a.tmps)=true:=by rfl):wpAnyH P md ops Q S (fuel+1) listed a w:=
 wpAnyH_take hi hs hf hr hQ (.inl ⟨hw,hy⟩) hS (ha▸h)
theorem wtc (i:Nat)
 (h:wpAnyH P md ops Q S fuel (listed.setIfInBounds i true) a' w) (hi:ops[i]?=some oi:=by exact rfl) (hS:S w:=by assumption)
 (hy:∀ W,S W→(execOp a.eval oi).run P W=.ok (.value v) W:=by (intro w hSw; go_simp; try with_reducible rfl))
 (ha:a.put oi.dst v=a':=by ((try simp only [Act.put,wp1,wp2,wp3,wp4,wp5,wp6]); exact rfl))
 (hs:Region.noSelect ops=true:=by kernel_rfl) (hf:Region.free md ops listed i=true:=by kernel_rfl) (hr:(Region.ready md ops listed).contains i=true:=by kernel_rfl)
 (hQ:∀ c a w,Q (.panic c) (a.put oi.dst v) w→Q (.panic c) a w:=by exact fun _ _ _ h=>h) (hw:Region.wanted oi (yielded ops a.tmps)=true:=by rfl):wpAnyH P md ops Q S (fuel+1) listed a w:=
 wpAnyH_take hi hs hf hr hQ (.inl ⟨hw,hy⟩) hS (ha▸h)
theorem wtd (i:Nat)
 (h:wpAnyH P md ops Q S fuel (listed.setIfInBounds i true) a' w) (hi:ops[i]?=some oi:=by exact rfl) (hS:S w:=by assumption)
 (hy:∀ W,S W→(execOp a.eval oi).run P W=.ok (.value v) W:=by (intro w hSw; have F:=Ok.sees hSw; clear hSw; simp only [sees,ah,aa,ag,Nat.add_zero,Nat.zero_add,ac,Nat.reduceAdd] at F; go_simp; try with_reducible rfl))
 (ha:a.put oi.dst v=a':=by ((try simp only [Act.put,wp1,wp2,wp3,wp4,wp5,wp6]); exact rfl))
 (hs:Region.noSelect ops=true:=by kernel_rfl) (hf:Region.free md ops listed i=true:=by kernel_rfl) (hr:(Region.ready md ops listed).contains i=true:=by kernel_rfl)
 (hQ:∀ c a w,Q (.panic c) (a.put oi.dst v) w→Q (.panic c) a w:=by exact fun _ _ _ h=>h) (hw:Region.wanted oi (yielded ops a.tmps)=true:=by rfl):wpAnyH P md ops Q S (fuel+1) listed a w:=
 wpAnyH_take hi hs hf hr hQ (.inl ⟨hw,hy⟩) hS (ha▸h)
theorem wte (i:Nat)
 (h:wpAnyH P md ops Q S fuel (listed.setIfInBounds i true) a' w) (hi:ops[i]?=some oi:=by exact rfl) (hS:S w:=by assumption)
 (hy:∀ W,S W→(execOp a.eval oi).run P W=.ok (.value v) W:=by (intro w hSw; obtain ⟨x1,x2,x3,x4⟩:=hSw; go_simp; try with_reducible rfl))
 (ha:a.put oi.dst v=a':=by ((try simp only [Act.put,wp1,wp2,wp3,wp4,wp5,wp6]); exact rfl))
 (hs:Region.noSelect ops=true:=by kernel_rfl) (hf:Region.free md ops listed i=true:=by kernel_rfl) (hr:(Region.ready md ops listed).contains i=true:=by kernel_rfl)
 (hQ:∀ c a w,Q (.panic c) (a.put oi.dst v) w→Q (.panic c) a w:=by exact fun _ _ _ h=>h) (hw:Region.wanted oi (yielded ops a.tmps)=true:=by rfl):wpAnyH P md ops Q S (fuel+1) listed a w:=
 wpAnyH_take hi hs hf hr hQ (.inl ⟨hw,hy⟩) hS (ha▸h)
theorem wtf (i:Nat)
 (h:wpAnyH P md ops Q S fuel (listed.setIfInBounds i true) a' w) (hi:ops[i]?=some oi:=by exact rfl) (hS:S w:=by assumption)
 (hy:∀ W,S W→(execOp a.eval oi).run P W=.ok (.value v) W:=by (intro w hSw; obtain ⟨x1,x2,x3,x4,x5,x6⟩:=hSw; go_simp; try with_reducible rfl))
 (ha:a.put oi.dst v=a':=by ((try simp only [Act.put,wp1,wp2,wp3,wp4,wp5,wp6]); exact rfl))
 (hs:Region.noSelect ops=true:=by kernel_rfl) (hf:Region.free md ops listed i=true:=by kernel_rfl) (hr:(Region.ready md ops listed).contains i=true:=by kernel_rfl)
 (hQ:∀ c a w,Q (.panic c) (a.put oi.dst v) w→Q (.panic c) a w:=by exact fun _ _ _ h=>h) (hw:Region.wanted oi (yielded ops a.tmps)=true:=by rfl):wpAnyH P md ops Q S (fuel+1) listed a w:=
 wpAnyH_take hi hs hf hr hQ (.inl ⟨hw,hy⟩) hS (ha▸h)
end
section
open Go.RowKit
theorem ex {α:Sort _} (a:α):∃ x,a=x:=⟨_,rfl⟩
theorem sC {B:Nat} {w w':World} (h:Below B w w') {a:Addr} (v:Value) (ha:B≤a.block:=by simp):Below B w (w'.setCell a v):=h.setCell ha v
theorem cM {P:Program} {f:Nat} {args:Array Value} {w0 w:World} {ps:List aZ} {Q:Ending→World→Prop} {v:Value} (h:Calls P f args w fun e w'=>e=.returned v∧Below w.heap.size w w') (H:Hid (Ok w0 ps w)) (k:∀ w',Hid (Ok w0 ps w')→Q (.returned v) w'):Calls P f args w Q:=h.mono (by rintro e w' ⟨rfl,hb⟩; exact k _ (Lib.hid (H.out.below hb)))
theorem cMg {P:Program} {f:Nat} {args:Array Value} {w:World} {S:World→Prop} {Q:Ending→World→Prop} {v:Value} (h:Calls P f args w fun e w'=>e=.returned v∧Below w.heap.size w w') (H:∀ w',Below w.heap.size w w'→S w') (k:∀ w',Hid (S w')→Q (.returned v) w'):Calls P f args w Q:=h.mono (by rintro e w' ⟨rfl,hb⟩; exact k _ (Lib.hid (H _ hb)))
theorem cR {P:Program} {f:Nat} {args:Array Value} {w0 w:World} {ps:List aZ} {t:TypeId} {s:Nat} {u:Value} {n:Nat} {xs:List Value} {Q:Ending→World→Prop} {v:Value} (h:Calls P f args w fun e w'=>e=.returned v∧Below w.heap.size w w') (H:Hid (ai w0 ps t s u n xs w)) (k:∀ w',Hid (ai w0 ps t s u n xs w')→Q (.returned v) w'):Calls P f args w Q:=h.mono (by rintro e w' ⟨rfl,hb⟩; exact k _ (Lib.hid (H.out.below hb)))
theorem sE {w0 w:World} {ps:List aZ} {q:Prop} (H:Hid (Ok w0 ps w)) (h:sees ps w→q:=by (simp only [sees,af,ah,aa,ag,ac,Nat.add_zero,Nat.reduceAdd,and_true]; exact id)):q:=h H.out.sees
theorem sR {w0 w:World} {ps:List aZ} {t:TypeId} {s:Nat} {u:Value} {n:Nat} {xs:List Value} {q:Prop} (H:Hid (ai w0 ps t s u n xs w)) (h:sees ps w→q:=by (simp only [sees,af,ah,aa,ag,ac,Nat.add_zero,Nat.reduceAdd,and_true]; exact id)):q:=h H.out.ok.sees
end
