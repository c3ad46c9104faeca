/- Plain: ranges, and what package rect's small functions compute. No program stands here but by the name of its kit. The contract of the reference's Valid. Contracts of package rect's corners, Check, and of their references. Maps that a call makes and fills with known keys. No program stands here. Short forms of the moves in a drawn region. A loop over an iterator that keeps its state in one captured cell: one integer a round, nobody leaves early. No program stands here. Contracts of the reference's From, To and Check of ranges, and of package rect's all. A loop over an iterator that writes no captured cell: one value a round, nobody leaves early (XIter's like). No program stands here. Contracts of package rect's Meet and of its reference. Contracts of package rect's rest, Minus and Area, and of the reference's. Contracts of Minus, package rect's and the reference's, and of the kit's EqualRects. Contracts of Has, One and Inside, package rect's and the reference's. -/
import Derived.Test.YtfffihcadhfplaaGreatDoorPAddrP
import Derived.WideMake
import Derived.Carry
import Derived.Test.YtfffihcadhfplaaGreatDoorPShelf
import Derived.Deep.RegionHeld
import Derived.RangeFuncNested
import Derived.RangeFuncBound
import Derived.RangeFuncCalls
import Derived.RangeFuncLeaves
import Derived.RangeFuncBox
import Derived.Shelf.Abstract
import Derived.OwnWalkIn
import Derived.TacticsInMore
import Derived.LoopNIn
import Derived.LoopIn
import Derived.Maps.AppendAt
import Derived.Deep.AppendLies
import Derived.Deep.Onto
import Derived.Deep.RegionHeld3
namespace Go.Proofs.YtfffihcadhfplaaGreatDoor
structure R4 where
 c1:Int
 r1:Int
 c2:Int
 r2:Int
deriving DecidableEq
def R4.zero:R4:=⟨0,0,0,0⟩
def checkB (r:R4):Bool:=validN r.c1 r.r1 && validN r.c2 r.r2 && decide (r.c1≤r.c2) && decide (r.r1≤r.r2)
def checkE (r:R4):Int:=if checkB r=true then 0 else 3
theorem checkB_iff (r:R4):checkB r=true↔1≤r.c1∧r.c1≤r.c2∧r.c2≤1024∧1≤r.r1∧r.r1≤r.r2∧r.r2≤1024:=by
 simp only [checkB,validN,Bool.and_eq_true,decide_eq_true_eq]; omega
open Go.RowKit
set_option maxHeartbeats 2000000
theorem rect_corners (c1 r1 c2 r2:Int) (w:World) :
  Calls Tryz.prog 140 #[.agg #[.int .i64 c1,.int .i64 r1,.int .i64 c2,.int .i64 r2]] w fun e w'=>e=.returned (.tuple #[.agg #[.int .i64 c1,.int .i64 r1],.agg #[.int .i64 c2,.int .i64 r2]])∧Below w.heap.size w w':=by
 go_enter Tryz.func140,Tryz.ntmps140
 go_wp2
 go_region
 go_wp2
 refine bodyPost_ret (v:=.tuple #[.agg #[.int .i64 c1,.int .i64 r1],.agg #[.int .i64 c2,.int .i64 r2]]) (by simp [results,Tryz.results140,go_sem]) rfl ⟨rfl,?_⟩
 exact ((((Below.refl _ _).alloc (Nat.le_refl _) _).alloc (by simp) _).alloc (by simp; omega) _).drew
theorem checkE_yes {r:R4} (h:checkB r=true):checkE r=0:=by unfold checkE; rw [if_pos h]
theorem checkE_no {r:R4} (h:checkB r=false):checkE r=3:=by unfold checkE; rw [if_neg (by simp [h])]
theorem rect_Check (c1 r1 c2 r2:Int) (w:World) :
  Calls Tryz.prog 139 #[.agg #[.int .i64 c1,.int .i64 r1,.int .i64 c2,.int .i64 r2]] w fun e w'=>e=.returned (.int .i64 (checkE ⟨c1,r1,c2,r2⟩))∧Below w.heap.size w w':=by
 go_enter Tryz.func139,Tryz.ntmps139
 go_wp2_with fail
 have k0:=Blk.new w 88 #[.int .i64 c1,.int .i64 r1,.int .i64 c2,.int .i64 r2]
 refine (rect_corners _ _ _ _ _).mono ?_
 rintro e w1 ⟨rfl,hb1⟩
 have hz1:w.heap.size<w1.heap.size:=by have:=hb1.size; simp at this; omega
 have HB1:=Lib.hid (((Below.refl w.heap.size w).alloc (Nat.le_refl _) (.cells #[.int .i64 c1,.int .i64 r1,.int .i64 c2,.int .i64 r2] 88)).trans (hb1.mono (by simp)))
 have k1:=((k0.below hb1 (by simp)).alloc (.cells #[.int .i64 c1,.int .i64 r1] 49)).alloc (.cells #[.int .i64 c2,.int .i64 r2] 49)
 have ka:=(Blk.new w1 49 #[.int .i64 c1,.int .i64 r1]).alloc (.cells #[.int .i64 c2,.int .i64 r2] 49)
 have kb:=Blk.new (w1.alloc (.cells #[.int .i64 c1,.int .i64 r1] 49)) 49 #[.int .i64 c2,.int .i64 r2]
 rw [World.size_alloc] at kb
 have HB2:Hid (Below w.heap.size w ((w1.alloc (.cells #[.int .i64 c1,.int .i64 r1] 49)).alloc (.cells #[.int .i64 c2,.int .i64 r2] 49))):=(HB1.out.alloc HB1.out.size _).alloc (by have:=HB1.out.size; simp; omega) _
 clear hb1 k0
 go_wp2_with fail
 generalize ((w1.alloc (.cells #[.int .i64 c1,.int .i64 r1] 49)).alloc (.cells #[.int .i64 c2,.int .i64 r2] 49))=W2 at k1 ka kb HB2 ⊢
 have c0:=k1.cell 0
 have c1':=k1.cell 1
 have c2':=k1.cell 2
 have c3:=k1.cell 3
 have d0:=kb.cell 0
 have d1:=kb.cell 1
 simp at c0 c1' c2' c3 d0 d1
 clear k1 ka kb HB1
 refine (addr_Valid _ _ _).mono ?_
 rintro e w3 ⟨rfl,hb3⟩
 have e0:=cell_step hb3 c0
 have e1:=cell_step hb3 c1'
 have e2:=cell_step hb3 c2'
 have e3:=cell_step hb3 c3
 have q0:=cell_step hb3 d0
 have q1:=cell_step hb3 d1
 have HB3:=Lib.hid (below_step HB2.out hb3)
 clear hb3 c0 c1' c2' c3 d0 d1 HB2
 cases hv1:validN c1 r1
 ·have HE:=Lib.hid (checkE_no (r:=⟨c1,r1,c2,r2⟩) (by simp [checkB,hv1]))
  clear hv1
  go_wp2_with fail
  go_ret
  exact ⟨by rw [HE.out]; rfl,HB3.out⟩
 ·have HV1:=Lib.hid hv1
  clear hv1
  go_wp2_with fail
  refine (addr_Valid _ _ _).mono ?_
  rintro e w4 ⟨rfl,hb4⟩
  have c0:=cell_step hb4 e0
  have c1':=cell_step hb4 e1
  have c2':=cell_step hb4 e2
  have c3:=cell_step hb4 e3
  have HB4:=Lib.hid (below_step HB3.out hb4)
  clear hb4 e0 e1 e2 e3 q0 q1 HB3
  cases hv2:validN c2 r2
  ·have HE:=Lib.hid (checkE_no (r:=⟨c1,r1,c2,r2⟩) (by simp [checkB,hv2]))
   clear hv2
   go_wp2_with fail
   go_ret
   exact ⟨by rw [HE.out]; rfl,HB4.out⟩
  ·by_cases h1:c1≤c2
   ·by_cases h2:r1≤r2
    ·have HE:=Lib.hid (checkE_yes (r:=⟨c1,r1,c2,r2⟩) (by simp [checkB,HV1.out,hv2,h1,h2]))
     clear hv2
     go_wp2_with fail
     go_ret
     exact ⟨by rw [HE.out]; rfl,HB4.out⟩
    ·have HE:=Lib.hid (checkE_no (r:=⟨c1,r1,c2,r2⟩) (by simp [checkB,h2]))
     clear hv2
     go_wp2_with fail
     go_ret
     exact ⟨by rw [HE.out]; rfl,HB4.out⟩
   ·have HE:=Lib.hid (checkE_no (r:=⟨c1,r1,c2,r2⟩) (by simp [checkB,h1]))
    clear hv2
    go_wp2_with fail
    go_ret
    exact ⟨by rw [HE.out]; rfl,HB4.out⟩
theorem alloc_put (w:World) (o o2:Obj):{ w.alloc o with heap:=(w.alloc o).heap.setIfInBounds w.heap.size o2 }=w.alloc o2:=by
 have e:(w.heap.push o).setIfInBounds w.heap.size o2=w.heap.push o2:=by
  apply Array.ext_getElem?
  intro i
  rw [Array.getElem?_setIfInBounds,Array.getElem?_push,Array.getElem?_push,Array.size_push]
  by_cases h:w.heap.size=i
  ·subst h; simp
  ·have h2:i≠w.heap.size:=fun e=>h e.symm
   simp [h,h2]
 unfold World.alloc
 rw [e]
theorem ins_new {P:Program} (mty kt et:TypeId) (kd:TypeDesc) (hm:P.underlying mty=some (.map kt et)) (hk:P.underlying kt=some kd) (es:Array MapEntry) (c:Nat) (key val:Value) (hkey:MapKept.IsKey kd key) (hf:Instr.findNow kd key es.toList 0=some none) (w:World) :
  (Instr.mapUpdate mty (.map (some w.heap.size)) key val).run P (w.alloc (.map es c))=.ok () (w.alloc (.map (es.push { key:=key,val:=val,born:=c }) (c+1))):=by
 have hb:(w.alloc (.map es c)).heap[w.heap.size]?=some (.map es c):=by unfold World.alloc; simp
 have hc:(Instr.checkKey false 10000 kt key).run P (w.alloc (.map es c))=.ok () (w.alloc (.map es c)):=MapKept.run_checkKey (k:=key) hk hkey false 9999
 simp [Instr.mapUpdate,run_underlying hm,MapKept.run_getObj_map hb,hc,MapKept.run_findKey hk hf,MapKept.run_setObj_map _ hb,Result.andThen]
 exact alloc_put w _ _
theorem look_at {P:Program} (mty kt et:TypeId) (kd:TypeDesc) (hm:P.underlying mty=some (.map kt et)) (hk:P.underlying kt=some kd) {es:Array MapEntry} {c r i:Nat} {w:World} (hb:w.heap[r]?=some (.map es c)) (key val:Value) (hkey:MapKept.IsKey kd key) (hf:Instr.findNow kd key es.toList 0=some (some (i,val))) :
  (Instr.lookup mty (.map (some r)) key false).run P w=.ok val w:=by
 have hc:(Instr.checkKey es.isEmpty 10000 kt key).run P w=.ok () w:=MapKept.run_checkKey (k:=key) hk hkey _ 9999
 simp [Instr.lookup,run_underlying hm,MapKept.run_getObj_map hb,hc,MapKept.run_findKey hk hf,Result.andThen]
theorem look_ok {P:Program} (mty kt et:TypeId) (kd:TypeDesc) (hm:P.underlying mty=some (.map kt et)) (hk:P.underlying kt=some kd) {es:Array MapEntry} {c r i:Nat} {w:World} (hb:w.heap[r]?=some (.map es c)) (key val:Value) (hkey:MapKept.IsKey kd key) (hf:Instr.findNow kd key es.toList 0=some (some (i,val))) :
  (Instr.lookup mty (.map (some r)) key true).run P w=.ok (.tuple #[val,.bool true]) w:=by
 have hc:(Instr.checkKey es.isEmpty 10000 kt key).run P w=.ok () w:=MapKept.run_checkKey (k:=key) hk hkey _ 9999
 simp [Instr.lookup,run_underlying hm,MapKept.run_getObj_map hb,hc,MapKept.run_findKey hk hf,Result.andThen]
theorem heap_of_alloc (w:World) (o:Obj):(w.alloc o).heap[w.heap.size]?=some o:=by unfold World.alloc; simp
section
variable {P:Program} {md:Region.Mode} {ops:Array Oper} {Q:Exit→Act→World→Prop} {S:World→Prop} {i:Nat} {oi:Oper} {v:Value} {fuel:Nat} {listed:Array Bool} {a:Act} {w:World}
theorem wtg (hi:ops[i]?=some oi) (hy:∀ W,S W→(execOp a.eval oi).run P W=.ok (.value v) W) (hS:S w)
 (h:wpAnyH P md ops Q S fuel (listed.setIfInBounds i true) (a.put oi.dst v) w)
 (hs:Region.noSelect ops=true:=by kernel_rfl) (hf:Region.free md ops listed i=true:=by kernel_rfl) (hr:(Region.ready md ops listed).contains i=true:=by kernel_rfl)
 (hQ:∀ c a w,Q (.panic c) (a.put oi.dst v) w→Q (.panic c) a w:=by exact fun _ _ _ h=>h) (hw:Region.wanted oi (yielded ops a.tmps)=true:=by rfl):wpAnyH P md ops Q S (fuel+1) listed a w :=
 wpAnyH_take hi hs hf hr hQ (.inl ⟨hw,hy⟩) hS h
theorem wsg (hi:ops[i]?=some oi) (hS:S w)
 (h:wpAnyH P md ops Q S fuel (listed.setIfInBounds i true) (a.put oi.dst undef) w)
 (hs:Region.noSelect ops=true:=by kernel_rfl) (hf:Region.free md ops listed i=true:=by kernel_rfl) (hr:(Region.ready md ops listed).contains i=true:=by kernel_rfl)
 (hQ:∀ c a w,Q (.panic c) (a.put oi.dst undef) w→Q (.panic c) a w:=by exact fun _ _ _ h=>h) (hw:Region.wanted oi (yielded ops a.tmps)=false:=by rfl):wpAnyH P md ops Q S (fuel+1) listed a w :=
 wpAnyH_take hi hs hf hr hQ (.inr ⟨hw,rfl⟩) hS h
theorem wsk {a':Act} (hi:ops[i]?=some oi) (hS:S w)
 (h:wpAnyH P md ops Q S fuel (listed.setIfInBounds i true) a' w)
 (ha:a.put oi.dst undef=a':=by ((try simp only [Act.put,List.setIfInBounds_toArray,List.set_cons_zero,List.set_cons_succ,List.getElem_toArray,List.getElem_cons_succ,List.getElem_cons_zero]); exact rfl))
 (hs:Region.noSelect ops=true:=by kernel_rfl) (hf:Region.free md ops listed i=true:=by kernel_rfl) (hr:(Region.ready md ops listed).contains i=true:=by kernel_rfl)
 (hQ:∀ c a w,Q (.panic c) (a.put oi.dst undef) w→Q (.panic c) a w:=by exact fun _ _ _ h=>h) (hw:Region.wanted oi (yielded ops a.tmps)=false:=by rfl):wpAnyH P md ops Q S (fuel+1) listed a w :=
 wpAnyH_take hi hs hf hr hQ (.inr ⟨hw,rfl⟩) hS (ha▸h)
theorem wal (ho:ops[i]?=some oi)
 (h:∀ K':Act→World→Prop,Shut (∀ (a:Act) (w:World),S w→(S w→wpAnyH P md ops Q S fuel (listed.setIfInBounds i true) a w)→K' a w)→if Region.wanted oi (yielded ops a.tmps)=true then Oper.wp P oi a w K' Q else K' (a.put oi.dst undef) w)
 (hr:Region.ready md ops listed=[i]:=by kernel_rfl):wpAnyH P md ops Q S (fuel+1) listed a w :=
 wpAnyH_ready hr (by simp) (AllReadyH.cons ho h AllReadyH.nil)
theorem wtn (hi:ops[i]?=some oi) (hy:∀ W,(execOp a.eval oi).run P W=.ok (.value v) W)
 (h:wpAny P md ops Q fuel (listed.setIfInBounds i true) (a.put oi.dst v) w)
 (hs:Region.noSelect ops=true:=by kernel_rfl) (hf:Region.free md ops listed i=true:=by kernel_rfl) (hr:(Region.ready md ops listed).contains i=true:=by kernel_rfl)
 (hQ:∀ c a w,Q (.panic c) (a.put oi.dst v) w→Q (.panic c) a w:=by exact fun _ _ _ h=>h) (hw:Region.wanted oi (yielded ops a.tmps)=true:=by rfl):wpAny P md ops Q (fuel+1) listed a w :=
 wpAny_take hi hs hf hr hQ (.inl ⟨hw,hy⟩) h
theorem wp1 {α:Type} (l:List α) (i:Nat) (a:α):l.toArray.setIfInBounds i a=(l.set i a).toArray:=List.setIfInBounds_toArray ..
theorem wp4 {α : Type} {l : List α} {i : Nat} (h : i < l.toArray.size) : l.toArray[i] = l[i]'(by simpa using h):=rfl
theorem wp5 {α : Type} {x : α} {l : List α} {i : Nat} (h : i + 1 < (x :: l).length) : (x :: l)[i + 1] = l[i]'(by simpa using h):=rfl
theorem wp6 {α:Type} {x:α} {l:List α} (h:0<(x::l).length):(x::l)[0]=x:=rfl
theorem wp2 {α:Type} {x:α} {l:List α} {a:α}:(x::l).set 0 a=a::l:=rfl
theorem wp3 {α:Type} {x:α} {l:List α} {i:Nat} {a:α}:(x::l).set (i+1) a=x::l.set i a:=rfl
variable {w0:World} {ps:List Pers} {a':Act}
theorem wt3 (hi:ops[i]?=some oi) (hS:Ok w0 ps w)
 (h:wpAnyH P md ops Q (fun W=>Ok w0 ps W) fuel (listed.setIfInBounds i true) a' w)
 (hy:∀ W,Ok w0 ps W→(execOp a.eval oi).run P W=.ok (.value v) W:=by (intro w hSw; have F:=Ok.sees hSw; clear hSw; simp only [sees,kBlk,kVar,kCells,cellsFrom,cellsAt,Nat.add_zero,Nat.reduceAdd,and_true] at F; go_simp; try with_reducible rfl))
 (ha:a.put oi.dst v=a':=by ((try simp only [Act.put,List.setIfInBounds_toArray,List.set_cons_zero,List.set_cons_succ,List.getElem_toArray,List.getElem_cons_succ,List.getElem_cons_zero]); exact rfl))
 (hs:Region.noSelect ops=true:=by kernel_rfl) (hf:Region.free md ops listed i=true:=by kernel_rfl) (hr:(Region.ready md ops listed).contains i=true:=by kernel_rfl)
 (hQ:∀ c a w,Q (.panic c) (a.put oi.dst v) w→Q (.panic c) a w:=by exact fun _ _ _ h=>h) (hw:Region.wanted oi (yielded ops a.tmps)=true:=by rfl):wpAnyH P md ops Q (fun W=>Ok w0 ps W) (fuel+1) listed a w :=
 wpAnyH_take hi hs hf hr hQ (.inl ⟨hw,hy⟩) hS (ha▸h)
theorem wt4 (hi:ops[i]?=some oi) (hS:Ok w0 ps w)
 (h:wpAnyH P md ops Q (fun W=>Ok w0 ps W) fuel (listed.setIfInBounds i true) a' w)
 (hy:∀ W,Ok w0 ps W→(execOp a.eval oi).run P W=.ok (.value v) W:=by (intro w hSw; have F:=Ok.sees hSw; clear hSw; simp only [sees,kBlk,kVar,kCells,cellsFrom,cellsAt,Nat.add_zero,Nat.reduceAdd,and_true] at F; go_simp; (try rw [if_neg (by omega)]); try with_reducible rfl))
 (ha:a.put oi.dst v=a':=by ((try simp only [Act.put,List.setIfInBounds_toArray,List.set_cons_zero,List.set_cons_succ,List.getElem_toArray,List.getElem_cons_succ,List.getElem_cons_zero]); exact rfl))
 (hs:Region.noSelect ops=true:=by kernel_rfl) (hf:Region.free md ops listed i=true:=by kernel_rfl) (hr:(Region.ready md ops listed).contains i=true:=by kernel_rfl)
 (hQ:∀ c a w,Q (.panic c) (a.put oi.dst v) w→Q (.panic c) a w:=by exact fun _ _ _ h=>h) (hw:Region.wanted oi (yielded ops a.tmps)=true:=by rfl):wpAnyH P md ops Q (fun W=>Ok w0 ps W) (fuel+1) listed a w :=
 wpAnyH_take hi hs hf hr hQ (.inl ⟨hw,hy⟩) hS (ha▸h)
end
open Go.RowKit
def goesOn (R:World→Prop):Exit→Act→World→Prop
 | .normal,_,w=>R w
 | _,_,_=>False
def rv (r:R4):Nat→Value
 | 0=>.int .i64 r.c1
 | 1=>.int .i64 r.r1
 | 2=>.int .i64 r.c2
 | _=>.int .i64 r.r2
def IsRects (w:World) (B:Nat) (a:Option Addr) (n:Nat) (f:Nat→R4):Prop:=IsRows 4 w B a n (fun i j=>rv (f i) j)
theorem IsRects.below {w w':World} {B B' n:Nat} {a:Option Addr} {f:Nat→R4} (h:IsRects w B a n f) (hb:Below B w w') (hB:B≤B'):IsRects w' B' a n f:=IsRows.below h hb hB
def RoundsV (F:Fence) (m:Nat) (P:Program) (l:Nat) (os:List Nat) (xs:List Value) (J:List Value→World→Prop):Prop :=
 ∀ (pre:List Value) (x:Value) (W1:World),J pre W1→pre++[x] <+: xs→YieldAt F m P l #[x] W1 fun e W'=>e=.returned (.bool true)∧J (pre++[x]) W'∧∀ o∈os,W'.heap[o]?=W1.heap[o]?
def HandsV (F:Fence) (n:Nat) (P:Program) (gf:Nat) (lb:Array Value) (os:List Nat) (K:World→Prop) (xs:List Value) (w:World):Prop :=
 ∀ (l:Nat) (J:List Value→World→Prop) (W:World),(∀ pre W,J pre W→K W)→(∀ pre W,J pre W→J pre W.drew)→RoundsV F (n - 1) P l os xs J→(∀ o∈os,W.heap[o]?=w.heap[o]?)→J [] W →
  CallsIn F n P gf (#[.func (.yield l) #[] #[]]++lb) W fun e W'=>(∃ v,e=.returned v)∧J xs W'
theorem range_handsV {F:Fence} {n:Nat} {P:Program} {g:Operand} {ps:Array Tmp} {assign body:Code} {Q:Exit→Act→World→Prop} {a:Act} {w:World}
  (hro:F.round=none) (h1:1≤n) {gf:Nat} {lb:Array Value} (hg:a.eval g=.func (.func gf) #[] lb) (hFg:F.fn gf) (eg:∀ args w,(callFunc gf args).run P w=.ok (.enter gf args) w)
  (xs:List Value) (hps:ps.size=1) (os:List Nat) (ho:∀ o∈os,o<w.heap.size) {K:World→Prop} (hseq:HandsV F (n - 1) P gf lb os K xs w)
  (I:List Value→World→Prop)
  (hIp:∀ pre W l ob ob',I pre W→w.heap.size≤l→W.heap[l]?=some ob→ob.isCells=false→I pre (W.putObj l ob'))
  (hIa:∀ pre W ob,I pre W→I pre (W.alloc ob)) (hId:∀ pre W,I pre W→I pre W.drew) (hIK:∀ pre W,I pre W→K W) (h0:I [] w) (a₁:Value→Act)
  (hassign:∀ (l:Nat) (x:Value) (W:World) (K:Act→World→Prop),K (a₁ x) W →
   assign.wpIn (F.inRound l) (n - 1 - 1) P (Exit.then K (fun _ _ _=>False)) { tmps:=(ps.zip #[x]).foldl (fun t (p,v)=>t.setIfInBounds p v) a.tmps,defers:=[] } W)
  (hbody:∀ (l:Nat) (pre:List Value) (x:Value) (W:World),w.heap.size≤l→I pre W→(∀ o∈os,o<W.heap.size)→pre++[x] <+: xs →
   body.wpIn (F.inRound l) (n - 1 - 1) P (goesOn fun W'=>KeepsFrom w.heap.size W W'∧I (pre++[x]) W'∧∀ o∈os,W'.heap[o]?=W.heap[o]?) (a₁ x) W)
  (hdone:∀ (D:Nat) (W:World),w.heap.size≤D→I xs W→W.heap[D]?=some (.deferred (some []))→Q .normal { a with defers:={ target:=.collected D,args:=#[] }::a.defers } W) :
  (Code.rangeFunc g ps assign body).wpIn F n P Q a w:=by
 refine wpIn_rangeFunc fun fn hfn => ?_
 rw [hro]
 obtain ⟨L,hL⟩:∃ L:LoopState→Option Code→Loop,L=fun st pe=>{ state:=st,pending:=pe,fn,tmps:=a.tmps,params:=ps,assign,body,defers:=w.heap.size }:=⟨_,rfl⟩
 obtain ⟨W1,hW1⟩:∃ W1,(w.alloc (.deferred (some []))).alloc (.loop (L .ready none))=W1:=⟨_,rfl⟩
 have hl:W1.heap[w.heap.size+1]?=some (.loop (L .ready none)):=by
  rw [← hW1]
  have:=World.alloc_heap_new (w.alloc (.deferred (some []))) (.loop (L .ready none))
  rwa [World.size_alloc] at this
 have hd:W1.heap[w.heap.size]?=some (.deferred (some [])):=by
  rw [← hW1]
  exact (Below.heap_alloc _ _ _ (by simp)).trans (World.alloc_heap_new w _)
 have hoo:∀ o∈os,W1.heap[o]?=w.heap[o]?:=by
  intro o hox
  have hlt:=ho o hox
  rw [← hW1]
  exact (Below.heap_alloc _ _ _ (by simp; omega)).trans (Below.heap_alloc w _ _ hlt)
 refine ⟨w.heap.size+1,[{ target:=.collected w.heap.size,args:=#[] }],W1,{ target:=.fn (.func gf) lb,args:=#[.func (.yield (w.heap.size+1)) #[] #[]] },W1,gf,
  #[.func (.yield (w.heap.size+1)) #[] #[]]++lb,W1,?_,?_,?_,?_,fun _=>h1,?_⟩
 ·rw [← hW1,hL]
  exact run_enterLoop_outer _ _ _ _ _
 ·simp only [resolve,hg]
  simp [go_sem]
 ·intro f' hf'
  simp [Target.leads] at hf'
  subst hf'
  exact hFg
 ·simp [invoke,go_sem,eg]
 ·refine (hseq (w.heap.size+1) (fun pre W=>I pre W∧W.heap[w.heap.size+1]?=some (.loop (L .ready none))∧W.heap[w.heap.size]?=some (.deferred (some []))∧∀ o∈os,o<W.heap.size) W1
   (fun pre W h=>hIK pre W h.1)
   (fun pre W h=>⟨hId pre W h.1,h.2⟩) ?_ hoo ⟨by rw [← hW1]; exact hIa _ _ _ (hIa _ _ _ h0),hl,hd,fun o hox=>by have:=ho o hox; rw [← hW1]; simp; omega⟩).mono ?_
  ·rintro pre x W ⟨hi,hl,hd,hoW⟩ hpx
   have hlt:w.heap.size+1<W.heap.size:=(Array.getElem?_eq_some_iff.1 hl).1
   have hy:=run_yield (P:=P) (args:=#[x]) hl (by rw [hL]; exact hps.symm)
   rw [hL] at hy
   refine ⟨fn,_,assign,body,hy,roundIn_of_wpIn hfn (hassign _ x W _ ⟨_,run_beginRound hl (by rw [hL]),?_⟩)⟩
   clear hy
   have hl2:(W.putObj (w.heap.size+1) (.loop { L .ready none with state:=.busy })).heap[w.heap.size+1]?=some (.loop { L .ready none with state:=.busy }):=World.putObj_heap_same hlt
   have hd2:(W.putObj (w.heap.size+1) (.loop { L .ready none with state:=.busy })).heap[w.heap.size]?=some (.deferred (some [])):=(World.putObj_heap_other (by omega)).trans hd
   have ho2:∀ o∈os,(W.putObj (w.heap.size+1) (.loop { L .ready none with state:=.busy })).heap[o]?=W.heap[o]?:=fun o hox=>World.putObj_heap_other (by have:=ho o hox; omega)
   refine wpIn_mono (hbody _ pre x _ (by omega) (hIp _ _ _ _ _ hi (by omega) hl rfl) (fun o hox=>by simpa using hoW o hox) hpx) ?_
   rintro e a3 W3 hp
   cases e with
   | normal =>
    obtain ⟨hk3,hi3,ho3⟩:=hp
    have hl3:=hk3.same _ _ (by omega) hl2 rfl
    have hd3:=hk3.same _ _ (Nat.le_refl _) hd2 rfl
    have hr:=run_endRound (P:=P) none hl3
    have hoW3:∀ o∈os,o<W3.heap.size:=fun o hox=>Nat.lt_of_lt_of_le (by simpa using hoW o hox) hk3.size
    refine ⟨_,_,hr,rfl,⟨hIp _ _ _ _ _ hi3 (by omega) hl3 rfl,?_,(World.putObj_heap_other (by omega)).trans hd3,fun o hox=>by simpa using hoW3 o hox⟩,fun o hox=>(World.putObj_heap_other (by have:=ho o hox; omega)).trans ((ho3 o hox).trans (ho2 o hox))⟩
    rw [World.putObj_heap_same (Array.getElem?_eq_some_iff.1 hl3).1,hL]
    rfl
   | ret=>exact hp.elim
   | exit id=>exact hp.elim
   | goto t=>exact hp.elim
   | panic ch=>exact hp.elim
   | outgrown=>exact hp.elim
  ·rintro e W2 ⟨⟨v,rfl⟩,hi,hl,hd,_⟩
   have hr:=run_endLoop (P:=P) hl (by rw [hL]; simp)
   rw [show (L .ready none).pending=none from by rw [hL]] at hr
   exact ⟨none,_,hr,hdone _ _ (Nat.le_refl _) (hIp _ _ _ _ _ hi (by omega) hl rfl) ((World.putObj_heap_other (by omega)).trans hd)⟩
section
open Go.RowKit
end
section
open Go.RowKit
end
section
open Go.RowKit
end
open Go.RowKit
