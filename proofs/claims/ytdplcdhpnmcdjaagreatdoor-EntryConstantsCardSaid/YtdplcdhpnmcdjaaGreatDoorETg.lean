/- Short forms of the moves in a drawn region. A loop over an iterator that keeps its state in one captured cell: one integer a round, nobody leaves early. No program stands here. Maps that a call makes and fills with known keys. No program stands here. Contracts of the reference's From, To and Check of ranges, and of package rect's all. Contracts of package rect's Meet and of its reference. Contracts of package rect's rest, Minus and Area, and of the reference's. Contracts of Minus, package rect's and the reference's, and of the kit's EqualRects. -/
import Derived.Test.YtdplcdhpnmcdjaaGreatDoorEShelf
import Derived.Test.YtdplcdhpnmcdjaaGreatDoorEAddrP
import Derived.Deep.RegionHeld
import Derived.RangeFuncNested
import Derived.RangeFuncBound
import Derived.RangeFuncCalls
import Derived.RangeFuncLeaves
import Derived.RangeFuncBox
import Derived.Shelf.Abstract
import Derived.OwnWalkIn
import Derived.TacticsInMore
import Derived.LoopNIn
import Derived.LoopIn
import Derived.Maps.AppendAt
import Derived.WideMake
import Derived.Carry
import Derived.Deep.AppendLies
import Derived.Deep.Onto
import Derived.Deep.RegionHeld3
namespace Go.Proofs.YtdplcdhpnmcdjaaGreatDoor
section
variable {P:Program} {md:Region.Mode} {ops:Array Oper} {Q:Exit→Act→World→Prop} {S:World→Prop} {i:Nat} {oi:Oper} {v:Value} {fuel:Nat} {listed:Array Bool} {a:Act} {w:World}
theorem wtg (hi:ops[i]?=some oi) (hy:∀ W,S W→(execOp a.eval oi).run P W=.ok (.value v) W) (hS:S w)
 (h:wpAnyH P md ops Q S fuel (listed.setIfInBounds i true) (a.put oi.dst v) w)
 (hs:Region.noSelect ops=true:=by kernel_rfl) (hf:Region.free md ops listed i=true:=by kernel_rfl) (hr:(Region.ready md ops listed).contains i=true:=by kernel_rfl)
 (hQ:∀ c a w,Q (.panic c) (a.put oi.dst v) w→Q (.panic c) a w:=by exact fun _ _ _ h=>h) (hw:Region.wanted oi (yielded ops a.tmps)=true:=by rfl):wpAnyH P md ops Q S (fuel+1) listed a w :=
 wpAnyH_take hi hs hf hr hQ (.inl ⟨hw,hy⟩) hS h
theorem wsg (hi:ops[i]?=some oi) (hS:S w)
 (h:wpAnyH P md ops Q S fuel (listed.setIfInBounds i true) (a.put oi.dst undef) w)
 (hs:Region.noSelect ops=true:=by kernel_rfl) (hf:Region.free md ops listed i=true:=by kernel_rfl) (hr:(Region.ready md ops listed).contains i=true:=by kernel_rfl)
 (hQ:∀ c a w,Q (.panic c) (a.put oi.dst undef) w→Q (.panic c) a w:=by exact fun _ _ _ h=>h) (hw:Region.wanted oi (yielded ops a.tmps)=false:=by rfl):wpAnyH P md ops Q S (fuel+1) listed a w :=
 wpAnyH_take hi hs hf hr hQ (.inr ⟨hw,rfl⟩) hS h
theorem wsk (i:Nat) {a':Act}
 (h:wpAnyH P md ops Q S fuel (listed.setIfInBounds i true) a' w) (hi:ops[i]?=some oi:=by exact rfl) (hS:S w:=by assumption)
 (ha:a.put oi.dst undef=a':=by ((try simp only [Act.put,List.setIfInBounds_toArray,List.set_cons_zero,List.set_cons_succ,List.getElem_toArray,List.getElem_cons_succ,List.getElem_cons_zero]); exact rfl))
 (hs:Region.noSelect ops=true:=by kernel_rfl) (hf:Region.free md ops listed i=true:=by kernel_rfl) (hr:(Region.ready md ops listed).contains i=true:=by kernel_rfl)
 (hQ:∀ c a w,Q (.panic c) (a.put oi.dst undef) w→Q (.panic c) a w:=by exact fun _ _ _ h=>h) (hw:Region.wanted oi (yielded ops a.tmps)=false:=by rfl):wpAnyH P md ops Q S (fuel+1) listed a w :=
 wpAnyH_take hi hs hf hr hQ (.inr ⟨hw,rfl⟩) hS (ha▸h)
theorem wal (i:Nat) {oi:Oper}
 (h:∀ K':Act→World→Prop,Shut (∀ (a:Act) (w:World),S w→(S w→wpAnyH P md ops Q S fuel (listed.setIfInBounds i true) a w)→K' a w)→if Region.wanted oi (yielded ops a.tmps)=true then Oper.wp P oi a w K' Q else K' (a.put oi.dst undef) w) (ho:ops[i]?=some oi:=by exact rfl)
 (hr:Region.ready md ops listed=[i]:=by kernel_rfl):wpAnyH P md ops Q S (fuel+1) listed a w :=
 wpAnyH_ready hr (by simp) (AllReadyH.cons ho h AllReadyH.nil)
theorem wtn (hi:ops[i]?=some oi) (hy:∀ W,(execOp a.eval oi).run P W=.ok (.value v) W)
 (h:wpAny P md ops Q fuel (listed.setIfInBounds i true) (a.put oi.dst v) w)
 (hs:Region.noSelect ops=true:=by kernel_rfl) (hf:Region.free md ops listed i=true:=by kernel_rfl) (hr:(Region.ready md ops listed).contains i=true:=by kernel_rfl)
 (hQ:∀ c a w,Q (.panic c) (a.put oi.dst v) w→Q (.panic c) a w:=by exact fun _ _ _ h=>h) (hw:Region.wanted oi (yielded ops a.tmps)=true:=by rfl):wpAny P md ops Q (fuel+1) listed a w :=
 wpAny_take hi hs hf hr hQ (.inl ⟨hw,hy⟩) h
theorem wp1 {α:Type} (l:List α) (i:Nat) (a:α):l.toArray.setIfInBounds i a=(l.set i a).toArray:=List.setIfInBounds_toArray ..
theorem wp4 {α : Type} {l : List α} {i : Nat} (h : i < l.toArray.size) : l.toArray[i] = l[i]'(by simpa using h):=rfl
theorem wp5 {α : Type} {x : α} {l : List α} {i : Nat} (h : i + 1 < (x :: l).length) : (x :: l)[i + 1] = l[i]'(by simpa using h):=rfl
theorem wp6 {α:Type} {x:α} {l:List α} (h:0<(x::l).length):(x::l)[0]=x:=rfl
theorem wp2 {α:Type} {x:α} {l:List α} {a:α}:(x::l).set 0 a=a::l:=rfl
theorem wp3 {α:Type} {x:α} {l:List α} {i:Nat} {a:α}:(x::l).set (i+1) a=x::l.set i a:=rfl
variable {w0:World} {ps:List aS} {a':Act}
theorem wt3 (i:Nat)
 (h:wpAnyH P md ops Q (fun W=>Ok w0 ps W) fuel (listed.setIfInBounds i true) a' w) (hi:ops[i]?=some oi:=by exact rfl) (hS:Ok w0 ps w:=by assumption)
 (hy:∀ W,Ok w0 ps W→(execOp a.eval oi).run P W=.ok (.value v) W:=by (intro w hSw; have F:=Ok.sees hSw; clear hSw; simp only [sees,ac,af,ae,ag,aa,Nat.add_zero,Nat.reduceAdd,and_true] at F; go_simp; try with_reducible rfl))
 (ha:a.put oi.dst v=a':=by ((try simp only [Act.put,List.setIfInBounds_toArray,List.set_cons_zero,List.set_cons_succ,List.getElem_toArray,List.getElem_cons_succ,List.getElem_cons_zero]); exact rfl))
 (hs:Region.noSelect ops=true:=by kernel_rfl) (hf:Region.free md ops listed i=true:=by kernel_rfl) (hr:(Region.ready md ops listed).contains i=true:=by kernel_rfl)
 (hQ:∀ c a w,Q (.panic c) (a.put oi.dst v) w→Q (.panic c) a w:=by exact fun _ _ _ h=>h) (hw:Region.wanted oi (yielded ops a.tmps)=true:=by rfl):wpAnyH P md ops Q (fun W=>Ok w0 ps W) (fuel+1) listed a w :=
 wpAnyH_take hi hs hf hr hQ (.inl ⟨hw,hy⟩) hS (ha▸h)
theorem wt4 (i:Nat)
 (h:wpAnyH P md ops Q (fun W=>Ok w0 ps W) fuel (listed.setIfInBounds i true) a' w) (hi:ops[i]?=some oi:=by exact rfl) (hS:Ok w0 ps w:=by assumption)
 (hy:∀ W,Ok w0 ps W→(execOp a.eval oi).run P W=.ok (.value v) W:=by (intro w hSw; have F:=Ok.sees hSw; clear hSw; simp only [sees,ac,af,ae,ag,aa,Nat.add_zero,Nat.reduceAdd,and_true] at F; go_simp; (try rw [if_neg (by omega)]); try with_reducible rfl))
 (ha:a.put oi.dst v=a':=by ((try simp only [Act.put,List.setIfInBounds_toArray,List.set_cons_zero,List.set_cons_succ,List.getElem_toArray,List.getElem_cons_succ,List.getElem_cons_zero]); exact rfl))
 (hs:Region.noSelect ops=true:=by kernel_rfl) (hf:Region.free md ops listed i=true:=by kernel_rfl) (hr:(Region.ready md ops listed).contains i=true:=by kernel_rfl)
 (hQ:∀ c a w,Q (.panic c) (a.put oi.dst v) w→Q (.panic c) a w:=by exact fun _ _ _ h=>h) (hw:Region.wanted oi (yielded ops a.tmps)=true:=by rfl):wpAnyH P md ops Q (fun W=>Ok w0 ps W) (fuel+1) listed a w :=
 wpAnyH_take hi hs hf hr hQ (.inl ⟨hw,hy⟩) hS (ha▸h)
end
section
open Go.RowKit
variable {P:Program} {md:Region.Mode} {ops:Array Oper} {Q:Exit→Act→World→Prop} {S:World→Prop} {i:Nat} {oi:Oper} {v:Value} {fuel:Nat} {listed:Array Bool} {a a':Act} {w:World}
theorem wt5 (i:Nat)
 (h:wpAny P md ops Q fuel (listed.setIfInBounds i true) a' w) (hi:ops[i]?=some oi:=by exact rfl)
 (hy:∀ W,(execOp a.eval oi).run P W=.ok (.value v) W:=by (intro w; go_simp; (try rw [if_neg (by omega)]); (try with_reducible rfl)))
 (ha:a.put oi.dst v=a':=by ((try simp only [Act.put,wp1,wp2,wp3,wp4,wp5,wp6]); exact rfl))
 (hs:Region.noSelect ops=true:=by kernel_rfl) (hf:Region.free md ops listed i=true:=by kernel_rfl) (hr:(Region.ready md ops listed).contains i=true:=by kernel_rfl)
 (hQ:∀ c a w,Q (.panic c) (a.put oi.dst v) w→Q (.panic c) a w:=by exact fun _ _ _ h=>h) (hw:Region.wanted oi (yielded ops a.tmps)=true:=by rfl):wpAny P md ops Q (fuel+1) listed a w:=
 wpAny_take hi hs hf hr hQ (.inl ⟨hw,hy⟩) (ha▸h)
theorem wn (h:wpAnyH P md ops Q S fuel listed a' w) (ha:a=a':=by ((try simp only [Act.put,wp1,wp2,wp3,wp4,wp5,wp6]); exact rfl)):wpAnyH P md ops Q S fuel listed a w:=ha▸h
theorem wm (h:wpAny P md ops Q fuel listed a' w) (ha:a=a':=by ((try simp only [Act.put,wp1,wp2,wp3,wp4,wp5,wp6]); exact rfl)):wpAny P md ops Q fuel listed a w:=ha▸h
theorem wan (i:Nat) {oi:Oper}
 (h:∀ K':Act→World→Prop,(∀ (a:Act) (w:World),wpAny P md ops Q fuel (listed.setIfInBounds i true) a w→K' a w)→if Region.wanted oi (yielded ops a.tmps)=true then Oper.wp P oi a w K' Q else K' (a.put oi.dst undef) w) (ho:ops[i]?=some oi:=by exact rfl)
 (hr:Region.ready md ops listed=[i]:=by kernel_rfl):wpAny P md ops Q (fuel+1) listed a w:=
 wpAny_ready hr (by simp) (AllReady.cons ho h AllReady.nil)
theorem wta (i:Nat)
 (h:wpAnyH P md ops Q S fuel (listed.setIfInBounds i true) a' w) (hi:ops[i]?=some oi:=by exact rfl) (hS:S w:=by assumption)
 (hy:∀ W,S W→(execOp a.eval oi).run P W=.ok (.value v) W:=by (intro w hSw; obtain ⟨y0,y1,y2⟩:=hSw; go_simp; try with_reducible rfl))
 (ha:a.put oi.dst v=a':=by ((try simp only [Act.put,wp1,wp2,wp3,wp4,wp5,wp6]); exact rfl))
 (hs:Region.noSelect ops=true:=by kernel_rfl) (hf:Region.free md ops listed i=true:=by kernel_rfl) (hr:(Region.ready md ops listed).contains i=true:=by kernel_rfl)
 (hQ:∀ c a w,Q (.panic c) (a.put oi.dst v) w→Q (.panic c) a w:=by exact fun _ _ _ h=>h) (hw:Region.wanted oi (yielded ops a.tmps)=true:=by rfl):wpAnyH P md ops Q S (fuel+1) listed a w:=
 wpAnyH_take hi hs hf hr hQ (.inl ⟨hw,hy⟩) hS (ha▸h)
theorem wtb (i:Nat)
 (h:wpAnyH P md ops Q S fuel (listed.setIfInBounds i true) a' w) (hi:ops[i]?=some oi:=by exact rfl) (hS:S w:=by assumption)
 (hy:∀ W,S W→(execOp a.eval oi).run P W=.ok (.value v) W:=by (intro w hSw; have s1:=hSw.1.1.cell; have s2:=hSw.1.2.1.cell; have s3:=hSw.1.2.2.cell; go_simp; try with_reducible rfl))
 (ha:a.put oi.dst v=a':=by ((try simp only [Act.put,wp1,wp2,wp3,wp4,wp5,wp6]); exact rfl))
 (hs:Region.noSelect ops=true:=by kernel_rfl) (hf:Region.free md ops listed i=true:=by kernel_rfl) (hr:(Region.ready md ops listed).contains i=true:=by kernel_rfl)
 (hQ:∀ c a w,Q (.panic c) (a.put oi.dst v) w→Q (.panic c) a w:=by exact fun _ _ _ h=>h) (hw:Region.wanted oi (yielded ops a.tmps)=true:=by rfl):wpAnyH P md ops Q S (fuel+1) listed a w:=
 wpAnyH_take hi hs hf hr hQ (.inl ⟨hw,hy⟩) hS (ha▸h)
theorem wtc (i:Nat)
 (h:wpAnyH P md ops Q S fuel (listed.setIfInBounds i true) a' w) (hi:ops[i]?=some oi:=by exact rfl) (hS:S w:=by assumption)
 (hy:∀ W,S W→(execOp a.eval oi).run P W=.ok (.value v) W:=by (intro w hSw; go_simp; try with_reducible rfl))
 (ha:a.put oi.dst v=a':=by ((try simp only [Act.put,wp1,wp2,wp3,wp4,wp5,wp6]); exact rfl))
 (hs:Region.noSelect ops=true:=by kernel_rfl) (hf:Region.free md ops listed i=true:=by kernel_rfl) (hr:(Region.ready md ops listed).contains i=true:=by kernel_rfl)
 (hQ:∀ c a w,Q (.panic c) (a.put oi.dst v) w→Q (.panic c) a w:=by exact fun _ _ _ h=>h) (hw:Region.wanted oi (yielded ops a.tmps)=true:=by rfl):wpAnyH P md ops Q S (fuel+1) listed a w:=
 wpAnyH_take hi hs hf hr hQ (.inl ⟨hw,hy⟩) hS (ha▸h)
theorem wtd (i:Nat)
 (h:wpAnyH P md ops Q S fuel (listed.setIfInBounds i true) a' w) (hi:ops[i]?=some oi:=by exact rfl) (hS:S w:=by assumption)
 (hy:∀ W,S W→(execOp a.eval oi).run P W=.ok (.value v) W:=by (intro w hSw; have F:=Ok.sees hSw; clear hSw; simp only [sees,af,ae,ag,Nat.add_zero,Nat.zero_add,aa,Nat.reduceAdd] at F; go_simp; try with_reducible rfl))
 (ha:a.put oi.dst v=a':=by ((try simp only [Act.put,wp1,wp2,wp3,wp4,wp5,wp6]); exact rfl))
 (hs:Region.noSelect ops=true:=by kernel_rfl) (hf:Region.free md ops listed i=true:=by kernel_rfl) (hr:(Region.ready md ops listed).contains i=true:=by kernel_rfl)
 (hQ:∀ c a w,Q (.panic c) (a.put oi.dst v) w→Q (.panic c) a w:=by exact fun _ _ _ h=>h) (hw:Region.wanted oi (yielded ops a.tmps)=true:=by rfl):wpAnyH P md ops Q S (fuel+1) listed a w:=
 wpAnyH_take hi hs hf hr hQ (.inl ⟨hw,hy⟩) hS (ha▸h)
theorem wte (i:Nat)
 (h:wpAnyH P md ops Q S fuel (listed.setIfInBounds i true) a' w) (hi:ops[i]?=some oi:=by exact rfl) (hS:S w:=by assumption)
 (hy:∀ W,S W→(execOp a.eval oi).run P W=.ok (.value v) W:=by (intro w hSw; obtain ⟨x1,x2,x3,x4⟩:=hSw; go_simp; try with_reducible rfl))
 (ha:a.put oi.dst v=a':=by ((try simp only [Act.put,wp1,wp2,wp3,wp4,wp5,wp6]); exact rfl))
 (hs:Region.noSelect ops=true:=by kernel_rfl) (hf:Region.free md ops listed i=true:=by kernel_rfl) (hr:(Region.ready md ops listed).contains i=true:=by kernel_rfl)
 (hQ:∀ c a w,Q (.panic c) (a.put oi.dst v) w→Q (.panic c) a w:=by exact fun _ _ _ h=>h) (hw:Region.wanted oi (yielded ops a.tmps)=true:=by rfl):wpAnyH P md ops Q S (fuel+1) listed a w:=
 wpAnyH_take hi hs hf hr hQ (.inl ⟨hw,hy⟩) hS (ha▸h)
theorem wtf (i:Nat)
 (h:wpAnyH P md ops Q S fuel (listed.setIfInBounds i true) a' w) (hi:ops[i]?=some oi:=by exact rfl) (hS:S w:=by assumption)
 (hy:∀ W,S W→(execOp a.eval oi).run P W=.ok (.value v) W:=by (intro w hSw; obtain ⟨x1,x2,x3,x4,x5,x6⟩:=hSw; go_simp; try with_reducible rfl))
 (ha:a.put oi.dst v=a':=by ((try simp only [Act.put,wp1,wp2,wp3,wp4,wp5,wp6]); exact rfl))
 (hs:Region.noSelect ops=true:=by kernel_rfl) (hf:Region.free md ops listed i=true:=by kernel_rfl) (hr:(Region.ready md ops listed).contains i=true:=by kernel_rfl)
 (hQ:∀ c a w,Q (.panic c) (a.put oi.dst v) w→Q (.panic c) a w:=by exact fun _ _ _ h=>h) (hw:Region.wanted oi (yielded ops a.tmps)=true:=by rfl):wpAnyH P md ops Q S (fuel+1) listed a w:=
 wpAnyH_take hi hs hf hr hQ (.inl ⟨hw,hy⟩) hS (ha▸h)
end
section
open Go.RowKit
theorem ex {α:Sort _} (a:α):∃ x,a=x:=⟨_,rfl⟩
theorem sC {B:Nat} {w w':World} (h:Below B w w') {a:Addr} (v:Value) (ha:B≤a.block:=by simp):Below B w (w'.setCell a v):=h.setCell ha v
theorem cM {P:Program} {f:Nat} {args:Array Value} {w0 w:World} {ps:List aS} {Q:Ending→World→Prop} {v:Value} (h:Calls P f args w fun e w'=>e=.returned v∧Below w.heap.size w w') (H:Hid (Ok w0 ps w)) (k:∀ w',Hid (Ok w0 ps w')→Q (.returned v) w'):Calls P f args w Q:=h.mono (by rintro e w' ⟨rfl,hb⟩; exact k _ (Lib.hid (H.out.below hb)))
theorem cMg {P:Program} {f:Nat} {args:Array Value} {w:World} {S:World→Prop} {Q:Ending→World→Prop} {v:Value} (h:Calls P f args w fun e w'=>e=.returned v∧Below w.heap.size w w') (H:∀ w',Below w.heap.size w w'→S w') (k:∀ w',Hid (S w')→Q (.returned v) w'):Calls P f args w Q:=h.mono (by rintro e w' ⟨rfl,hb⟩; exact k _ (Lib.hid (H _ hb)))
theorem cR {P:Program} {f:Nat} {args:Array Value} {w0 w:World} {ps:List aS} {t:TypeId} {s:Nat} {u:Value} {n:Nat} {xs:List Value} {Q:Ending→World→Prop} {v:Value} (h:Calls P f args w fun e w'=>e=.returned v∧Below w.heap.size w w') (H:Hid (an w0 ps t s u n xs w)) (k:∀ w',Hid (an w0 ps t s u n xs w')→Q (.returned v) w'):Calls P f args w Q:=h.mono (by rintro e w' ⟨rfl,hb⟩; exact k _ (Lib.hid (H.out.below hb)))
theorem sE {w0 w:World} {ps:List aS} {q:Prop} (H:Hid (Ok w0 ps w)) (h:sees ps w→q:=by (simp only [sees,ac,af,ae,ag,aa,Nat.add_zero,Nat.reduceAdd,and_true]; exact id)):q:=h H.out.sees
theorem sR {w0 w:World} {ps:List aS} {t:TypeId} {s:Nat} {u:Value} {n:Nat} {xs:List Value} {q:Prop} (H:Hid (an w0 ps t s u n xs w)) (h:sees ps w→q:=by (simp only [sees,ac,af,ae,ag,aa,Nat.add_zero,Nat.reduceAdd,and_true]; exact id)):q:=h H.out.ok.sees
end
open Go.RowKit
def wC (R:World→Prop):Exit→Act→World→Prop
 | .normal,_,w=>R w
 | _,_,_=>False
theorem pG (w:World) (o o2:Obj):{ w.alloc o with heap:=(w.alloc o).heap.setIfInBounds w.heap.size o2 }=w.alloc o2:=by
 have e:(w.heap.push o).setIfInBounds w.heap.size o2=w.heap.push o2:=by
  apply Array.ext_getElem?
  intro i
  rw [Array.getElem?_setIfInBounds,Array.getElem?_push,Array.getElem?_push,Array.size_push]
  by_cases h:w.heap.size=i
  ·subst h; simp
  have h2:i≠w.heap.size:=fun e=>h e.symm
  simp [h,h2]
 unfold World.alloc
 rw [e]
theorem bb {P:Program} (mty kt et:TypeId) (kd:TypeDesc) (hm:P.underlying mty=some (.map kt et)) (hk:P.underlying kt=some kd) (es:Array MapEntry) (c:Nat) (key val:Value) (hkey:MapKept.IsKey kd key) (hf:Instr.findNow kd key es.toList 0=some none) (w:World) :
  (Instr.mapUpdate mty (.map (some w.heap.size)) key val).run P (w.alloc (.map es c))=.ok () (w.alloc (.map (es.push { key:=key,val:=val,born:=c }) (c+1))):=by
 have hb:(w.alloc (.map es c)).heap[w.heap.size]?=some (.map es c):=by unfold World.alloc; simp
 have hc:(Instr.checkKey false 10000 kt key).run P (w.alloc (.map es c))=.ok () (w.alloc (.map es c)):=MapKept.run_checkKey (k:=key) hk hkey false 9999
 simp [Instr.mapUpdate,run_underlying hm,MapKept.run_getObj_map hb,hc,MapKept.run_findKey hk hf,MapKept.run_setObj_map _ hb,Result.andThen]
 exact pG w _ _
theorem cG {P:Program} (mty kt et:TypeId) (kd:TypeDesc) (hm:P.underlying mty=some (.map kt et)) (hk:P.underlying kt=some kd) {es:Array MapEntry} {c r i:Nat} {w:World} (hb:w.heap[r]?=some (.map es c)) (key val:Value) (hkey:MapKept.IsKey kd key) (hf:Instr.findNow kd key es.toList 0=some (some (i,val))) :
  (Instr.lookup mty (.map (some r)) key false).run P w=.ok val w:=by
 have hc:(Instr.checkKey es.isEmpty 10000 kt key).run P w=.ok () w:=MapKept.run_checkKey (k:=key) hk hkey _ 9999
 simp [Instr.lookup,run_underlying hm,MapKept.run_getObj_map hb,hc,MapKept.run_findKey hk hf,Result.andThen]
theorem look_ok {P:Program} (mty kt et:TypeId) (kd:TypeDesc) (hm:P.underlying mty=some (.map kt et)) (hk:P.underlying kt=some kd) {es:Array MapEntry} {c r i:Nat} {w:World} (hb:w.heap[r]?=some (.map es c)) (key val:Value) (hkey:MapKept.IsKey kd key) (hf:Instr.findNow kd key es.toList 0=some (some (i,val))) :
  (Instr.lookup mty (.map (some r)) key true).run P w=.ok (.tuple #[val,.bool true]) w:=by
 have hc:(Instr.checkKey es.isEmpty 10000 kt key).run P w=.ok () w:=MapKept.run_checkKey (k:=key) hk hkey _ 9999
 simp [Instr.lookup,run_underlying hm,MapKept.run_getObj_map hb,hc,MapKept.run_findKey hk hf,Result.andThen]
theorem d9 (w:World) (o:Obj):(w.alloc o).heap[w.heap.size]?=some o:=by unfold World.alloc; simp
def rv (r:R4):Nat→Value
 | 0=>.int .i64 r.c1
 | 1=>.int .i64 r.r1
 | 2=>.int .i64 r.c2
 | _=>.int .i64 r.r2
def k8 (w:World) (B:Nat) (a:Option Addr) (n:Nat) (f:Nat→R4):Prop:=jc 4 w B a n (fun i j=>rv (f i) j)
theorem k8.below {w w':World} {B B' n:Nat} {a:Option Addr} {f:Nat→R4} (h:k8 w B a n f) (hb:Below B w w') (hB:B≤B'):k8 w' B' a n f:=jc.below h hb hB
section
open Go.RowKit
end
section
open Go.RowKit
end
section
open Go.RowKit
end
