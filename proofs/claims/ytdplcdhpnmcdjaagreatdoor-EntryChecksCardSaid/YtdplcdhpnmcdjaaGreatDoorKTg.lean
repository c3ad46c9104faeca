/- Short forms of the moves in a drawn region. A loop over an iterator that keeps its state in one captured cell: one integer a round, nobody leaves early. No program stands here. Maps that a call makes and fills with known keys. No program stands here. Plain: a drawn region whose first operations may come in several orders, a condition on the world being held, and whose last ones come one after another: the last ones are a plain list. No program stands here. -/
import Derived.Test.YtdplcdhpnmcdjaaGreatDoorKShelf
import Derived.Deep.RegionHeld
import Derived.RangeFuncNested
import Derived.RangeFuncBound
import Derived.RangeFuncCalls
import Derived.RangeFuncLeaves
import Derived.RangeFuncBox
import Derived.Shelf.Abstract
import Derived.OwnWalkIn
import Derived.TacticsInMore
import Derived.LoopNIn
import Derived.LoopIn
import Derived.Maps.AppendAt
import Derived.WideMake
import Derived.Carry
import Derived.StillTail
namespace Go.Proofs.YtdplcdhpnmcdjaaGreatDoor
section
variable {P:Program} {md:Region.Mode} {ops:Array Oper} {Q:Exit→Act→World→Prop} {S:World→Prop} {i:Nat} {oi:Oper} {v:Value} {fuel:Nat} {listed:Array Bool} {a:Act} {w:World}
theorem wtg (hi:ops[i]?=some oi) (hy:∀ W,S W→(execOp a.eval oi).run P W=.ok (.value v) W) (hS:S w)
 (h:wpAnyH P md ops Q S fuel (listed.setIfInBounds i true) (a.put oi.dst v) w)
 (hs:Region.noSelect ops=true:=by kernel_rfl) (hf:Region.free md ops listed i=true:=by kernel_rfl) (hr:(Region.ready md ops listed).contains i=true:=by kernel_rfl)
 (hQ:∀ c a w,Q (.panic c) (a.put oi.dst v) w→Q (.panic c) a w:=by exact fun _ _ _ h=>h) (hw:Region.wanted oi (yielded ops a.tmps)=true:=by rfl):wpAnyH P md ops Q S (fuel+1) listed a w :=
 wpAnyH_take hi hs hf hr hQ (.inl ⟨hw,hy⟩) hS h
theorem wsg (hi:ops[i]?=some oi) (hS:S w)
 (h:wpAnyH P md ops Q S fuel (listed.setIfInBounds i true) (a.put oi.dst undef) w)
 (hs:Region.noSelect ops=true:=by kernel_rfl) (hf:Region.free md ops listed i=true:=by kernel_rfl) (hr:(Region.ready md ops listed).contains i=true:=by kernel_rfl)
 (hQ:∀ c a w,Q (.panic c) (a.put oi.dst undef) w→Q (.panic c) a w:=by exact fun _ _ _ h=>h) (hw:Region.wanted oi (yielded ops a.tmps)=false:=by rfl):wpAnyH P md ops Q S (fuel+1) listed a w :=
 wpAnyH_take hi hs hf hr hQ (.inr ⟨hw,rfl⟩) hS h
theorem wsk (i:Nat) {a':Act}
 (h:wpAnyH P md ops Q S fuel (listed.setIfInBounds i true) a' w) (hi:ops[i]?=some oi:=by exact rfl) (hS:S w:=by assumption)
 (ha:a.put oi.dst undef=a':=by ((try simp only [Act.put,List.setIfInBounds_toArray,List.set_cons_zero,List.set_cons_succ,List.getElem_toArray,List.getElem_cons_succ,List.getElem_cons_zero]); exact rfl))
 (hs:Region.noSelect ops=true:=by kernel_rfl) (hf:Region.free md ops listed i=true:=by kernel_rfl) (hr:(Region.ready md ops listed).contains i=true:=by kernel_rfl)
 (hQ:∀ c a w,Q (.panic c) (a.put oi.dst undef) w→Q (.panic c) a w:=by exact fun _ _ _ h=>h) (hw:Region.wanted oi (yielded ops a.tmps)=false:=by rfl):wpAnyH P md ops Q S (fuel+1) listed a w :=
 wpAnyH_take hi hs hf hr hQ (.inr ⟨hw,rfl⟩) hS (ha▸h)
theorem wal (i:Nat) {oi:Oper}
 (h:∀ K':Act→World→Prop,Shut (∀ (a:Act) (w:World),S w→(S w→wpAnyH P md ops Q S fuel (listed.setIfInBounds i true) a w)→K' a w)→if Region.wanted oi (yielded ops a.tmps)=true then Oper.wp P oi a w K' Q else K' (a.put oi.dst undef) w) (ho:ops[i]?=some oi:=by exact rfl)
 (hr:Region.ready md ops listed=[i]:=by kernel_rfl):wpAnyH P md ops Q S (fuel+1) listed a w :=
 wpAnyH_ready hr (by simp) (AllReadyH.cons ho h AllReadyH.nil)
theorem wtn (hi:ops[i]?=some oi) (hy:∀ W,(execOp a.eval oi).run P W=.ok (.value v) W)
 (h:wpAny P md ops Q fuel (listed.setIfInBounds i true) (a.put oi.dst v) w)
 (hs:Region.noSelect ops=true:=by kernel_rfl) (hf:Region.free md ops listed i=true:=by kernel_rfl) (hr:(Region.ready md ops listed).contains i=true:=by kernel_rfl)
 (hQ:∀ c a w,Q (.panic c) (a.put oi.dst v) w→Q (.panic c) a w:=by exact fun _ _ _ h=>h) (hw:Region.wanted oi (yielded ops a.tmps)=true:=by rfl):wpAny P md ops Q (fuel+1) listed a w :=
 wpAny_take hi hs hf hr hQ (.inl ⟨hw,hy⟩) h
theorem wp1 {α:Type} (l:List α) (i:Nat) (a:α):l.toArray.setIfInBounds i a=(l.set i a).toArray:=List.setIfInBounds_toArray ..
theorem wp4 {α : Type} {l : List α} {i : Nat} (h : i < l.toArray.size) : l.toArray[i] = l[i]'(by simpa using h):=rfl
theorem wp5 {α : Type} {x : α} {l : List α} {i : Nat} (h : i + 1 < (x :: l).length) : (x :: l)[i + 1] = l[i]'(by simpa using h):=rfl
theorem wp6 {α:Type} {x:α} {l:List α} (h:0<(x::l).length):(x::l)[0]=x:=rfl
theorem wp2 {α:Type} {x:α} {l:List α} {a:α}:(x::l).set 0 a=a::l:=rfl
theorem wp3 {α:Type} {x:α} {l:List α} {i:Nat} {a:α}:(x::l).set (i+1) a=x::l.set i a:=rfl
variable {w0:World} {ps:List aS} {a':Act}
theorem wt3 (i:Nat)
 (h:wpAnyH P md ops Q (fun W=>Ok w0 ps W) fuel (listed.setIfInBounds i true) a' w) (hi:ops[i]?=some oi:=by exact rfl) (hS:Ok w0 ps w:=by assumption)
 (hy:∀ W,Ok w0 ps W→(execOp a.eval oi).run P W=.ok (.value v) W:=by (intro w hSw; have F:=Ok.sees hSw; clear hSw; simp only [sees,ac,af,ae,ag,aa,Nat.add_zero,Nat.reduceAdd,and_true] at F; go_simp; try with_reducible rfl))
 (ha:a.put oi.dst v=a':=by ((try simp only [Act.put,List.setIfInBounds_toArray,List.set_cons_zero,List.set_cons_succ,List.getElem_toArray,List.getElem_cons_succ,List.getElem_cons_zero]); exact rfl))
 (hs:Region.noSelect ops=true:=by kernel_rfl) (hf:Region.free md ops listed i=true:=by kernel_rfl) (hr:(Region.ready md ops listed).contains i=true:=by kernel_rfl)
 (hQ:∀ c a w,Q (.panic c) (a.put oi.dst v) w→Q (.panic c) a w:=by exact fun _ _ _ h=>h) (hw:Region.wanted oi (yielded ops a.tmps)=true:=by rfl):wpAnyH P md ops Q (fun W=>Ok w0 ps W) (fuel+1) listed a w :=
 wpAnyH_take hi hs hf hr hQ (.inl ⟨hw,hy⟩) hS (ha▸h)
theorem wt4 (i:Nat)
 (h:wpAnyH P md ops Q (fun W=>Ok w0 ps W) fuel (listed.setIfInBounds i true) a' w) (hi:ops[i]?=some oi:=by exact rfl) (hS:Ok w0 ps w:=by assumption)
 (hy:∀ W,Ok w0 ps W→(execOp a.eval oi).run P W=.ok (.value v) W:=by (intro w hSw; have F:=Ok.sees hSw; clear hSw; simp only [sees,ac,af,ae,ag,aa,Nat.add_zero,Nat.reduceAdd,and_true] at F; go_simp; (try rw [if_neg (by omega)]); try with_reducible rfl))
 (ha:a.put oi.dst v=a':=by ((try simp only [Act.put,List.setIfInBounds_toArray,List.set_cons_zero,List.set_cons_succ,List.getElem_toArray,List.getElem_cons_succ,List.getElem_cons_zero]); exact rfl))
 (hs:Region.noSelect ops=true:=by kernel_rfl) (hf:Region.free md ops listed i=true:=by kernel_rfl) (hr:(Region.ready md ops listed).contains i=true:=by kernel_rfl)
 (hQ:∀ c a w,Q (.panic c) (a.put oi.dst v) w→Q (.panic c) a w:=by exact fun _ _ _ h=>h) (hw:Region.wanted oi (yielded ops a.tmps)=true:=by rfl):wpAnyH P md ops Q (fun W=>Ok w0 ps W) (fuel+1) listed a w :=
 wpAnyH_take hi hs hf hr hQ (.inl ⟨hw,hy⟩) hS (ha▸h)
end
section
open Go.RowKit
variable {P:Program} {md:Region.Mode} {ops:Array Oper} {Q:Exit→Act→World→Prop} {S:World→Prop} {i:Nat} {oi:Oper} {v:Value} {fuel:Nat} {listed:Array Bool} {a a':Act} {w:World}
theorem wt5 (i:Nat)
 (h:wpAny P md ops Q fuel (listed.setIfInBounds i true) a' w) (hi:ops[i]?=some oi:=by exact rfl)
 (hy:∀ W,(execOp a.eval oi).run P W=.ok (.value v) W:=by (intro w; go_simp; (try rw [if_neg (by omega)]); (try with_reducible rfl)))
 (ha:a.put oi.dst v=a':=by ((try simp only [Act.put,wp1,wp2,wp3,wp4,wp5,wp6]); exact rfl))
 (hs:Region.noSelect ops=true:=by kernel_rfl) (hf:Region.free md ops listed i=true:=by kernel_rfl) (hr:(Region.ready md ops listed).contains i=true:=by kernel_rfl)
 (hQ:∀ c a w,Q (.panic c) (a.put oi.dst v) w→Q (.panic c) a w:=by exact fun _ _ _ h=>h) (hw:Region.wanted oi (yielded ops a.tmps)=true:=by rfl):wpAny P md ops Q (fuel+1) listed a w:=
 wpAny_take hi hs hf hr hQ (.inl ⟨hw,hy⟩) (ha▸h)
theorem wn (h:wpAnyH P md ops Q S fuel listed a' w) (ha:a=a':=by ((try simp only [Act.put,wp1,wp2,wp3,wp4,wp5,wp6]); exact rfl)):wpAnyH P md ops Q S fuel listed a w:=ha▸h
theorem wm (h:wpAny P md ops Q fuel listed a' w) (ha:a=a':=by ((try simp only [Act.put,wp1,wp2,wp3,wp4,wp5,wp6]); exact rfl)):wpAny P md ops Q fuel listed a w:=ha▸h
theorem wan (i:Nat) {oi:Oper}
 (h:∀ K':Act→World→Prop,(∀ (a:Act) (w:World),wpAny P md ops Q fuel (listed.setIfInBounds i true) a w→K' a w)→if Region.wanted oi (yielded ops a.tmps)=true then Oper.wp P oi a w K' Q else K' (a.put oi.dst undef) w) (ho:ops[i]?=some oi:=by exact rfl)
 (hr:Region.ready md ops listed=[i]:=by kernel_rfl):wpAny P md ops Q (fuel+1) listed a w:=
 wpAny_ready hr (by simp) (AllReady.cons ho h AllReady.nil)
theorem wta (i:Nat)
 (h:wpAnyH P md ops Q S fuel (listed.setIfInBounds i true) a' w) (hi:ops[i]?=some oi:=by exact rfl) (hS:S w:=by assumption)
 (hy:∀ W,S W→(execOp a.eval oi).run P W=.ok (.value v) W:=by (intro w hSw; obtain ⟨y0,y1,y2⟩:=hSw; go_simp; try with_reducible rfl))
 (ha:a.put oi.dst v=a':=by ((try simp only [Act.put,wp1,wp2,wp3,wp4,wp5,wp6]); exact rfl))
 (hs:Region.noSelect ops=true:=by kernel_rfl) (hf:Region.free md ops listed i=true:=by kernel_rfl) (hr:(Region.ready md ops listed).contains i=true:=by kernel_rfl)
 (hQ:∀ c a w,Q (.panic c) (a.put oi.dst v) w→Q (.panic c) a w:=by exact fun _ _ _ h=>h) (hw:Region.wanted oi (yielded ops a.tmps)=true:=by rfl):wpAnyH P md ops Q S (fuel+1) listed a w:=
 wpAnyH_take hi hs hf hr hQ (.inl ⟨hw,hy⟩) hS (ha▸h)
theorem wtb (i:Nat)
 (h:wpAnyH P md ops Q S fuel (listed.setIfInBounds i true) a' w) (hi:ops[i]?=some oi:=by exact rfl) (hS:S w:=by assumption)
 (hy:∀ W,S W→(execOp a.eval oi).run P W=.ok (.value v) W:=by (intro w hSw; have s1:=hSw.1.1.cell; have s2:=hSw.1.2.1.cell; have s3:=hSw.1.2.2.cell; go_simp; try with_reducible rfl))
 (ha:a.put oi.dst v=a':=by ((try simp only [Act.put,wp1,wp2,wp3,wp4,wp5,wp6]); exact rfl))
 (hs:Region.noSelect ops=true:=by kernel_rfl) (hf:Region.free md ops listed i=true:=by kernel_rfl) (hr:(Region.ready md ops listed).contains i=true:=by kernel_rfl)
 (hQ:∀ c a w,Q (.panic c) (a.put oi.dst v) w→Q (.panic c) a w:=by exact fun _ _ _ h=>h) (hw:Region.wanted oi (yielded ops a.tmps)=true:=by rfl):wpAnyH P md ops Q S (fuel+1) listed a w:=
 wpAnyH_take hi hs hf hr hQ (.inl ⟨hw,hy⟩) hS (ha▸h)
theorem wtc (i:Nat)
 (h:wpAnyH P md ops Q S fuel (listed.setIfInBounds i true) a' w) (hi:ops[i]?=some oi:=by exact rfl) (hS:S w:=by assumption)
 (hy:∀ W,S W→(execOp a.eval oi).run P W=.ok (.value v) W:=by (intro w hSw; go_simp; try with_reducible rfl))
 (ha:a.put oi.dst v=a':=by ((try simp only [Act.put,wp1,wp2,wp3,wp4,wp5,wp6]); exact rfl))
 (hs:Region.noSelect ops=true:=by kernel_rfl) (hf:Region.free md ops listed i=true:=by kernel_rfl) (hr:(Region.ready md ops listed).contains i=true:=by kernel_rfl)
 (hQ:∀ c a w,Q (.panic c) (a.put oi.dst v) w→Q (.panic c) a w:=by exact fun _ _ _ h=>h) (hw:Region.wanted oi (yielded ops a.tmps)=true:=by rfl):wpAnyH P md ops Q S (fuel+1) listed a w:=
 wpAnyH_take hi hs hf hr hQ (.inl ⟨hw,hy⟩) hS (ha▸h)
theorem wtd (i:Nat)
 (h:wpAnyH P md ops Q S fuel (listed.setIfInBounds i true) a' w) (hi:ops[i]?=some oi:=by exact rfl) (hS:S w:=by assumption)
 (hy:∀ W,S W→(execOp a.eval oi).run P W=.ok (.value v) W:=by (intro w hSw; have F:=Ok.sees hSw; clear hSw; simp only [sees,af,ae,ag,Nat.add_zero,Nat.zero_add,aa,Nat.reduceAdd] at F; go_simp; try with_reducible rfl))
 (ha:a.put oi.dst v=a':=by ((try simp only [Act.put,wp1,wp2,wp3,wp4,wp5,wp6]); exact rfl))
 (hs:Region.noSelect ops=true:=by kernel_rfl) (hf:Region.free md ops listed i=true:=by kernel_rfl) (hr:(Region.ready md ops listed).contains i=true:=by kernel_rfl)
 (hQ:∀ c a w,Q (.panic c) (a.put oi.dst v) w→Q (.panic c) a w:=by exact fun _ _ _ h=>h) (hw:Region.wanted oi (yielded ops a.tmps)=true:=by rfl):wpAnyH P md ops Q S (fuel+1) listed a w:=
 wpAnyH_take hi hs hf hr hQ (.inl ⟨hw,hy⟩) hS (ha▸h)
theorem wte (i:Nat)
 (h:wpAnyH P md ops Q S fuel (listed.setIfInBounds i true) a' w) (hi:ops[i]?=some oi:=by exact rfl) (hS:S w:=by assumption)
 (hy:∀ W,S W→(execOp a.eval oi).run P W=.ok (.value v) W:=by (intro w hSw; obtain ⟨x1,x2,x3,x4⟩:=hSw; go_simp; try with_reducible rfl))
 (ha:a.put oi.dst v=a':=by ((try simp only [Act.put,wp1,wp2,wp3,wp4,wp5,wp6]); exact rfl))
 (hs:Region.noSelect ops=true:=by kernel_rfl) (hf:Region.free md ops listed i=true:=by kernel_rfl) (hr:(Region.ready md ops listed).contains i=true:=by kernel_rfl)
 (hQ:∀ c a w,Q (.panic c) (a.put oi.dst v) w→Q (.panic c) a w:=by exact fun _ _ _ h=>h) (hw:Region.wanted oi (yielded ops a.tmps)=true:=by rfl):wpAnyH P md ops Q S (fuel+1) listed a w:=
 wpAnyH_take hi hs hf hr hQ (.inl ⟨hw,hy⟩) hS (ha▸h)
theorem wtf (i:Nat)
 (h:wpAnyH P md ops Q S fuel (listed.setIfInBounds i true) a' w) (hi:ops[i]?=some oi:=by exact rfl) (hS:S w:=by assumption)
 (hy:∀ W,S W→(execOp a.eval oi).run P W=.ok (.value v) W:=by (intro w hSw; obtain ⟨x1,x2,x3,x4,x5,x6⟩:=hSw; go_simp; try with_reducible rfl))
 (ha:a.put oi.dst v=a':=by ((try simp only [Act.put,wp1,wp2,wp3,wp4,wp5,wp6]); exact rfl))
 (hs:Region.noSelect ops=true:=by kernel_rfl) (hf:Region.free md ops listed i=true:=by kernel_rfl) (hr:(Region.ready md ops listed).contains i=true:=by kernel_rfl)
 (hQ:∀ c a w,Q (.panic c) (a.put oi.dst v) w→Q (.panic c) a w:=by exact fun _ _ _ h=>h) (hw:Region.wanted oi (yielded ops a.tmps)=true:=by rfl):wpAnyH P md ops Q S (fuel+1) listed a w:=
 wpAnyH_take hi hs hf hr hQ (.inl ⟨hw,hy⟩) hS (ha▸h)
end
section
open Go.RowKit
theorem ex {α:Sort _} (a:α):∃ x,a=x:=⟨_,rfl⟩
theorem sC {B:Nat} {w w':World} (h:Below B w w') {a:Addr} (v:Value) (ha:B≤a.block:=by simp):Below B w (w'.setCell a v):=h.setCell ha v
theorem cM {P:Program} {f:Nat} {args:Array Value} {w0 w:World} {ps:List aS} {Q:Ending→World→Prop} {v:Value} (h:Calls P f args w fun e w'=>e=.returned v∧Below w.heap.size w w') (H:Hid (Ok w0 ps w)) (k:∀ w',Hid (Ok w0 ps w')→Q (.returned v) w'):Calls P f args w Q:=h.mono (by rintro e w' ⟨rfl,hb⟩; exact k _ (Lib.hid (H.out.below hb)))
theorem cMg {P:Program} {f:Nat} {args:Array Value} {w:World} {S:World→Prop} {Q:Ending→World→Prop} {v:Value} (h:Calls P f args w fun e w'=>e=.returned v∧Below w.heap.size w w') (H:∀ w',Below w.heap.size w w'→S w') (k:∀ w',Hid (S w')→Q (.returned v) w'):Calls P f args w Q:=h.mono (by rintro e w' ⟨rfl,hb⟩; exact k _ (Lib.hid (H _ hb)))
theorem cR {P:Program} {f:Nat} {args:Array Value} {w0 w:World} {ps:List aS} {t:TypeId} {s:Nat} {u:Value} {n:Nat} {xs:List Value} {Q:Ending→World→Prop} {v:Value} (h:Calls P f args w fun e w'=>e=.returned v∧Below w.heap.size w w') (H:Hid (an w0 ps t s u n xs w)) (k:∀ w',Hid (an w0 ps t s u n xs w')→Q (.returned v) w'):Calls P f args w Q:=h.mono (by rintro e w' ⟨rfl,hb⟩; exact k _ (Lib.hid (H.out.below hb)))
theorem sE {w0 w:World} {ps:List aS} {q:Prop} (H:Hid (Ok w0 ps w)) (h:sees ps w→q:=by (simp only [sees,ac,af,ae,ag,aa,Nat.add_zero,Nat.reduceAdd,and_true]; exact id)):q:=h H.out.sees
theorem sR {w0 w:World} {ps:List aS} {t:TypeId} {s:Nat} {u:Value} {n:Nat} {xs:List Value} {q:Prop} (H:Hid (an w0 ps t s u n xs w)) (h:sees ps w→q:=by (simp only [sees,ac,af,ae,ag,aa,Nat.add_zero,Nat.reduceAdd,and_true]; exact id)):q:=h H.out.ok.sees
end
open Go.RowKit
def wC (R:World→Prop):Exit→Act→World→Prop
 | .normal,_,w=>R w
 | _,_,_=>False
theorem pG (w:World) (o o2:Obj):{ w.alloc o with heap:=(w.alloc o).heap.setIfInBounds w.heap.size o2 }=w.alloc o2:=by
 have e:(w.heap.push o).setIfInBounds w.heap.size o2=w.heap.push o2:=by
  apply Array.ext_getElem?
  intro i
  rw [Array.getElem?_setIfInBounds,Array.getElem?_push,Array.getElem?_push,Array.size_push]
  by_cases h:w.heap.size=i
  ·subst h; simp
  have h2:i≠w.heap.size:=fun e=>h e.symm
  simp [h,h2]
 unfold World.alloc
 rw [e]
theorem bb {P:Program} (mty kt et:TypeId) (kd:TypeDesc) (hm:P.underlying mty=some (.map kt et)) (hk:P.underlying kt=some kd) (es:Array MapEntry) (c:Nat) (key val:Value) (hkey:MapKept.IsKey kd key) (hf:Instr.findNow kd key es.toList 0=some none) (w:World) :
  (Instr.mapUpdate mty (.map (some w.heap.size)) key val).run P (w.alloc (.map es c))=.ok () (w.alloc (.map (es.push { key:=key,val:=val,born:=c }) (c+1))):=by
 have hb:(w.alloc (.map es c)).heap[w.heap.size]?=some (.map es c):=by unfold World.alloc; simp
 have hc:(Instr.checkKey false 10000 kt key).run P (w.alloc (.map es c))=.ok () (w.alloc (.map es c)):=MapKept.run_checkKey (k:=key) hk hkey false 9999
 simp [Instr.mapUpdate,run_underlying hm,MapKept.run_getObj_map hb,hc,MapKept.run_findKey hk hf,MapKept.run_setObj_map _ hb,Result.andThen]
 exact pG w _ _
theorem cG {P:Program} (mty kt et:TypeId) (kd:TypeDesc) (hm:P.underlying mty=some (.map kt et)) (hk:P.underlying kt=some kd) {es:Array MapEntry} {c r i:Nat} {w:World} (hb:w.heap[r]?=some (.map es c)) (key val:Value) (hkey:MapKept.IsKey kd key) (hf:Instr.findNow kd key es.toList 0=some (some (i,val))) :
  (Instr.lookup mty (.map (some r)) key false).run P w=.ok val w:=by
 have hc:(Instr.checkKey es.isEmpty 10000 kt key).run P w=.ok () w:=MapKept.run_checkKey (k:=key) hk hkey _ 9999
 simp [Instr.lookup,run_underlying hm,MapKept.run_getObj_map hb,hc,MapKept.run_findKey hk hf,Result.andThen]
theorem look_ok {P:Program} (mty kt et:TypeId) (kd:TypeDesc) (hm:P.underlying mty=some (.map kt et)) (hk:P.underlying kt=some kd) {es:Array MapEntry} {c r i:Nat} {w:World} (hb:w.heap[r]?=some (.map es c)) (key val:Value) (hkey:MapKept.IsKey kd key) (hf:Instr.findNow kd key es.toList 0=some (some (i,val))) :
  (Instr.lookup mty (.map (some r)) key true).run P w=.ok (.tuple #[val,.bool true]) w:=by
 have hc:(Instr.checkKey es.isEmpty 10000 kt key).run P w=.ok () w:=MapKept.run_checkKey (k:=key) hk hkey _ 9999
 simp [Instr.lookup,run_underlying hm,MapKept.run_getObj_map hb,hc,MapKept.run_findKey hk hf,Result.andThen]
theorem d9 (w:World) (o:Obj):(w.alloc o).heap[w.heap.size]?=some o:=by unfold World.alloc; simp
open Go Go.RowKit
section
variable {P:Program} {md:Region.Mode} {ops:Array Oper} {Q:Exit→Act→World→Prop} {S:World→Prop} {n:Nat} {L:Array Bool→Act→World→Prop}
def zG (P:Program) (md:Region.Mode) (ops:Array Oper) (Q:Exit→Act→World→Prop) (S:World→Prop) (n:Nat) (L:Array Bool→Act→World→Prop):Nat→Array Bool→Act→World→Prop
 | 0,listed,a,w=>L listed a w
 | f+1,listed,a,w=>Region.ready md ops listed≠[]∧∀ i∈Region.ready md ops listed,i<n∧wpOp P ops Q i (fun a' w'=>S w'∧zG P md ops Q S n L f (listed.setIfInBounds i true) a' w') a w
theorem Ac {g:Nat} (hL:∀ listed a w,L listed a w→wpAny P md ops Q g listed a w) :
  ∀ (f:Nat) (listed:Array Bool) (a:Act) (w:World),zG P md ops Q S n L f listed a w→wpAny P md ops Q (f+g) listed a w
 | 0,listed,a,w,h=>by rw [Nat.zero_add]; exact hL _ _ _ h
 | f+1,listed,a,w,h=>by
  rw [show f+1+g=(f+g)+1 by omega]
  exact ⟨fun h0=>absurd h0 h.1,fun i hi=>wpOp_mono (fun a' w' h'=>Ac hL f _ a' w' h'.2) (h.2 i hi).2⟩
theorem Bs {i:Nat} {oi:Oper} {v:Value} (hi:ops[i]?=some oi) (hsel:∀ (j:Nat) (o:Oper) cs b,ops[j]?=some o→o.op≠.select cs b)
  (hs:Region.sinkB md ops n=true) (hc:Region.chainB md ops n=true) (hn:n<ops.size) (hin:i<n)
  (hQ:∀ c a w,Q (.panic c) (a.put oi.dst v) w→Q (.panic c) a w)
  (hdone:∀ listed a w,L listed a w→∀ j∈Region.ready md ops listed,n≤j) :
  ∀ (f:Nat) (listed:Array Bool) (a:Act) (w:World),HeadInv md ops n listed →
   (∀ j oj,ops[j]?=some oj→j≠i→listed.getD j true=false→(∀ e∈oj.after,Region.binds md e=true→e.on≠i)→oi.apart ops oj=true) →
   i∈Region.ready md ops listed→YieldsIf P ops S oi v a→S w →
   zG P md ops Q S n L f (listed.setIfInBounds i true) (a.put oi.dst v) w→zG P md ops Q S n L (f+1) listed a w:=by
 intro f
 induction f with
 | zero =>
  intro listed a w inv _ hr hy hS H
  have hun:=(mem_ready.1 hr).1
  refine ⟨fun h=>(by rw [h] at hr; cases hr),fun j hj => ?_⟩
  have hjn:j<n:=by
   rcases Nat.lt_or_ge j n with h | h
   ·exact h
   exact absurd hj (tail_waits hs hc hn inv _ i rfl hin hun j h)
  refine ⟨hjn,?_⟩
  by_cases hji:j=i
  ·subst hji; exact hy.wpOp hi hS ⟨hS,H⟩
  have:=hdone _ _ _ H j (ready_mono hj hji)
  omega
 | succ f ih =>
  intro listed a w inv hfree hr hy hS H
  have hun:=(mem_ready.1 hr).1
  refine ⟨fun h=>(by rw [h] at hr; cases hr),fun j hj => ?_⟩
  have hjn:j<n:=by
   rcases Nat.lt_or_ge j n with h | h
   ·exact h
   exact absurd hj (tail_waits hs hc hn inv _ i rfl hin hun j h)
  refine ⟨hjn,?_⟩
  by_cases hji:j=i
  ·subst hji; exact hy.wpOp hi hS ⟨hS,H⟩
  have h1:=(H.2 j (ready_mono hj hji)).2
  obtain ⟨hjun,oj,hoj,hall⟩:=mem_ready.1 hj
  have hnot:∀ e∈oj.after,Region.binds md e=true→e.on≠i:=fun e he hb heq=>by
   have h1:=hall e he hb
   rw [heq,getD_both hun] at h1
   cases h1
  have h2:=wpOp_putIf hoj (hfree j oj hoj hji hjun hnot) (fun cs b=>hsel i oi cs b hi) (fun cs b=>hsel j oj cs b hoj) hQ hy h1
  have hfree':∀ k ok,ops[k]?=some ok→k≠i→(listed.setIfInBounds j true).getD k true=false →
    (∀ e∈ok.after,Region.binds md e=true→e.on≠i)→oi.apart ops ok=true:=fun k ok hk hki hun hno=>by
   refine hfree k ok hk hki ?_ hno
   by_cases hjk:j=k
   ·subst hjk; exact hjun
   rw [getD_set_ne true hjk] at hun; exact hun
  refine wpOp_mono (fun a' w' h3=>⟨h3.2.1,ih (listed.setIfInBounds j true) a' w' (inv.set hj hjn) hfree' (ready_mono hr (Ne.symm hji)) h3.1 h3.2.1 ?_⟩) h2
  rw [Array.setIfInBounds_comm _ _ hji]
  exact h3.2.2
def Bg (md:Region.Mode) (ops:Array Oper) (n:Nat) (listed:Array Bool):Bool :=
 decide (listed.size=ops.size) && ((List.range ops.size).all fun j=>!listed.getD j false || (match ops[j]? with | some oj=>oj.after.all fun e=>!Region.binds md e || listed.getD e.on false | none=>true)) && ((List.range ops.size).all fun t=>decide (t<n) || !listed.getD t true)
theorem Ce {listed:Array Bool} (h:Bg md ops n listed=true):HeadInv md ops n listed:=by
 simp only [Bg,Bool.and_eq_true,decide_eq_true_eq,List.all_eq_true,List.mem_range] at h
 obtain ⟨⟨h1,h2⟩,h3⟩:=h
 refine ⟨h1,fun j oj hj hl e he hb => ?_,fun t ht ht' => ?_⟩
 ·have:=h2 j (Array.getElem?_eq_some_iff.1 hj).1
  rw [hl,hj] at this
  simp only [Bool.not_true,Bool.false_or,Array.all_eq_true'] at this
  have:=this e he
  rw [hb] at this
  simpa using this
 have:=h3 t ht'
 simp only [Bool.or_eq_true,decide_eq_true_eq,Bool.not_eq_true'] at this
 rcases this with h | h
 ·omega
 exact h
def htB (md:Region.Mode) (ops:Array Oper) (n:Nat):Bool:=Region.noSelect ops && decide (n<ops.size) && Region.sinkB md ops n && Region.chainB md ops n
def Bc (P:Program) (md:Region.Mode) (ops:Array Oper) (Q:Exit→Act→World→Prop) (n:Nat) (listed:Array Bool) (a:Act) (w:World):Prop :=
 Region.seqB md ops (ops.size - n) n listed=true∧wpList P ops Q (ops.toList.drop n) a w
theorem BY {i f:Nat} {oi:Oper} {v:Value} {listed:Array Bool} {a:Act} {w:World} (hB:htB md ops n=true) (hi:ops[i]?=some oi) (hin:i<n) (hinv:Bg md ops n listed=true)
  (hf:Region.free md ops listed i=true) (hr:(Region.ready md ops listed).contains i=true) (hQ:∀ c a w,Q (.panic c) (a.put oi.dst v) w→Q (.panic c) a w)
  (hy:YieldsIf P ops S oi v a) (hS:S w) (h:zG P md ops Q S n (Bc P md ops Q n) f (listed.setIfInBounds i true) (a.put oi.dst v) w):zG P md ops Q S n (Bc P md ops Q n) (f+1) listed a w:=by
 simp only [htB,Bool.and_eq_true,decide_eq_true_eq] at hB
 exact Bs hi (Region.noSelect_spec hB.1.1.1) hB.1.2 hB.2 hB.1.1.2 hin hQ (fun _ _ _ hL=>seqB_ready hL.1) f listed a w (Ce hinv) (Region.free_spec hi hf) (by simpa using hr) hy hS h
theorem ht_ (i:Nat) {f:Nat} {oi:Oper} {v:Value} {listed:Array Bool} {a a':Act} {w:World}
  (h:zG P md ops Q S n (Bc P md ops Q n) f (listed.setIfInBounds i true) a' w) (hi:ops[i]?=some oi:=by exact rfl) (hS:S w:=by assumption)
  (hy:∀ W,S W→(execOp a.eval oi).run P W=.ok (.value v) W:=by (intro w hSw; have F:=Ok.sees hSw; clear hSw; simp only [sees,ac,af,aa,Nat.reduceAdd] at F; go_simp; try with_reducible rfl))
  (ha:a.put oi.dst v=a':=by ((try simp only [Act.put,List.setIfInBounds_toArray,List.set_cons_zero,List.set_cons_succ,List.getElem_toArray,List.getElem_cons_succ,List.getElem_cons_zero]); exact rfl))
  (hB:htB md ops n=true:=by kernel_rfl) (hin:i<n:=by decide) (hinv:Bg md ops n listed=true:=by kernel_rfl)
  (hf:Region.free md ops listed i=true:=by kernel_rfl) (hr:(Region.ready md ops listed).contains i=true:=by kernel_rfl) (hQ:∀ c a w,Q (.panic c) (a.put oi.dst v) w→Q (.panic c) a w:=by exact fun _ _ _ h=>h)
  (hw:Region.wanted oi (yielded ops a.tmps)=true:=by rfl):zG P md ops Q S n (Bc P md ops Q n) (f+1) listed a w :=
 BY hB hi hin hinv hf hr hQ (.inl ⟨hw,hy⟩) hS (ha▸h)
theorem hn_ {f:Nat} {listed:Array Bool} {a a':Act} {w:World} {L:Array Bool→Act→World→Prop} (h:zG P md ops Q S n L f listed a' w)
  (ha:a=a':=by ((try simp only [Act.put,List.setIfInBounds_toArray,List.set_cons_zero,List.set_cons_succ,List.getElem_toArray,List.getElem_cons_succ,List.getElem_cons_zero]); exact rfl)):zG P md ops Q S n L f listed a w:=ha▸h
theorem zU {i f:Nat} {o:Oper} {listed:Array Bool} {a:Act} {w:World} (hr:Region.ready md ops listed=[i]) (hin:i<n) (ho:ops[i]?=some o)
  (h:∀ K':Act→World→Prop,Shut (∀ a w,S w→(S w→zG P md ops Q S n L f (listed.setIfInBounds i true) a w)→K' a w)→if Region.wanted o (yielded ops a.tmps)=true then Oper.wp P o a w K' Q else K' (a.put o.dst undef) w) :
  zG P md ops Q S n L (f+1) listed a w:=by
 refine ⟨by rw [hr]; simp,fun j hj => ?_⟩
 rw [hr,List.mem_singleton] at hj
 subst hj
 exact ⟨hin,wpOp_step ho (fun K' hK=>h K' (fun a w hS hW=>hK a w ⟨hS,hW hS⟩))⟩
theorem AC {listed:Array Bool} {a:Act} {w:World} (hB:Region.seqB md ops (ops.size - n) n listed=true) (h:wpList P ops Q (ops.toList.drop n) a w):zG P md ops Q S n (Bc P md ops Q n) 0 listed a w:=⟨hB,h⟩
theorem zX {id:Nat} {a:Act} {w:World} (n:Nat) (S:World→Prop) (hm:P.follows .mixedOrders=true) (hn:n<ops.size) (hS:S w.drew)
  (h:S w.drew→zG P .any ops Q S n (Bc P .any ops Q n) n (Array.replicate ops.size false) a w.drew):(Code.region id ops true).wp P Q a w:=by
 refine wp_region_any hm ?_
 have:=Ac (g:=ops.size - n) (fun listed a w hL=>by
  have h1:=wpAny_of_seq (P:=P) (md:=.any) (ops:=ops) (Q':=Q) (ops.toList.drop n) n listed a w (fun j=>by rw [List.getElem?_drop,Array.getElem?_toList]) (by simpa using hL.1) hL.2
  simpa using h1) n _ a w.drew (h hS)
 rw [show n+(ops.size - n)=ops.size by omega] at this
 exact this
end
