/- Plain helpers: a slice of integers among the facts that outlive every call. Maps that a call makes and fills with known keys. No program stands here. Contracts of the reference's From, To and Check of ranges, and of package rect's all. -/
import Derived.Test.YtmalncmdfmoccaaGreatDoorBOk
import Derived.WideMake
import Derived.Carry
import Derived.Test.YtmalncmdfmoccaaGreatDoorBRectW
namespace Go.Proofs.YtmalncmdfmoccaaGreatDoor
open Go.RowKit
theorem IsInts.spot {k : IntKind} {w : World} {B n : Nat} {a : Option Addr} {f : Nat → Int} (h : IsInts k w B a n f) (hn : 0 < n) :
    ∃ b o,a = some ⟨b,o,none⟩ ∧ b < B ∧ ∀ i,i < n → w.cell? ⟨b,o + i,none⟩ = some (.int k (f i)):=by
  obtain ⟨⟨b,o,sp⟩,rfl,hB,hc⟩:=h hn
  have h0:=hc 0 hn
  have hs : sp = none:=by simpa [Addr.add] using World.cell?_spot h0
  subst hs
  refine ⟨b,o,rfl,hB,fun i hi => ?_⟩
  have:=hc i hi
  rwa [show (⟨b,o,none⟩ : Addr).add i = ⟨b,o + i,none⟩ from by unfold Addr.add; split <;> simp_all] at this
end Go.Proofs.YtmalncmdfmoccaaGreatDoor
namespace Go.Proofs.YtmalncmdfmoccaaGreatDoor
open Go.RowKit
theorem alloc_put (w : World) (o o2 : Obj) : { w.alloc o with heap:=(w.alloc o).heap.setIfInBounds w.heap.size o2 } = w.alloc o2:=by
  have e : (w.heap.push o).setIfInBounds w.heap.size o2 = w.heap.push o2:=by
    apply Array.ext_getElem?
    intro i
    rw [Array.getElem?_setIfInBounds,Array.getElem?_push,Array.getElem?_push,Array.size_push]
    by_cases h : w.heap.size = i
    · subst h; simp
    · have h2 : i ≠ w.heap.size:=fun e => h e.symm
      simp [h,h2]
  unfold World.alloc
  rw [e]
theorem ins_new {P : Program} (mty kt et : TypeId) (kd : TypeDesc) (hm : P.underlying mty = some (.map kt et)) (hk : P.underlying kt = some kd) (es : Array MapEntry) (c : Nat) (key val : Value) (hkey : MapKept.IsKey kd key) (hf : Instr.findNow kd key es.toList 0 = some none) (w : World) :
    (Instr.mapUpdate mty (.map (some w.heap.size)) key val).run P (w.alloc (.map es c)) = .ok () (w.alloc (.map (es.push { key:=key,val:=val,born:=c }) (c + 1))):=by
  have hb : (w.alloc (.map es c)).heap[w.heap.size]? = some (.map es c):=by unfold World.alloc; simp
  have hc : (Instr.checkKey false 10000 kt key).run P (w.alloc (.map es c)) = .ok () (w.alloc (.map es c)):=MapKept.run_checkKey (k:=key) hk hkey false 9999
  simp [Instr.mapUpdate,run_underlying hm,MapKept.run_getObj_map hb,hc,MapKept.run_findKey hk hf,MapKept.run_setObj_map _ hb,Result.andThen]
  exact alloc_put w _ _
theorem look_ok {P : Program} (mty kt et : TypeId) (kd : TypeDesc) (hm : P.underlying mty = some (.map kt et)) (hk : P.underlying kt = some kd) {es : Array MapEntry} {c r i : Nat} {w : World} (hb : w.heap[r]? = some (.map es c)) (key val : Value) (hkey : MapKept.IsKey kd key) (hf : Instr.findNow kd key es.toList 0 = some (some (i,val))) :
    (Instr.lookup mty (.map (some r)) key true).run P w = .ok (.tuple #[val,.bool true]) w:=by
  have hc : (Instr.checkKey es.isEmpty 10000 kt key).run P w = .ok () w:=MapKept.run_checkKey (k:=key) hk hkey _ 9999
  simp [Instr.lookup,run_underlying hm,MapKept.run_getObj_map hb,hc,MapKept.run_findKey hk hf,Result.andThen]
theorem heap_of_alloc (w : World) (o : Obj) : (w.alloc o).heap[w.heap.size]? = some o:=by unfold World.alloc; simp
end Go.Proofs.YtmalncmdfmoccaaGreatDoor
namespace Go.Proofs.YtmalncmdfmoccaaGreatDoor
open Go.RowKit
def rv (r : R4) : Nat → Value
  | 0 => .int .i64 r.c1
  | 1 => .int .i64 r.r1
  | 2 => .int .i64 r.c2
  | _ => .int .i64 r.r2
def IsRects (w : World) (B : Nat) (a : Option Addr) (n : Nat) (f : Nat → R4) : Prop:=IsRows 4 w B a n (fun i j => rv (f i) j)
theorem IsRects.below {w w' : World} {B B' n : Nat} {a : Option Addr} {f : Nat → R4} (h : IsRects w B a n f) (hb : Below B w w') (hB : B ≤ B') : IsRects w' B' a n f:=IsRows.below h hb hB
theorem IsRects.spot {w : World} {B n : Nat} {a : Option Addr} {f : Nat → R4} (h : IsRects w B a n f) (hn : 0 < n) :
    ∃ b off,a = some ⟨b,off,none⟩ ∧ b < B ∧ ∀ i,i < n → (w.cell? ⟨b,off + i * 4,none⟩ = some (.int .i64 (f i).c1) ∧ w.cell? ⟨b,off + i * 4 + 1,none⟩ = some (.int .i64 (f i).r1) ∧ w.cell? ⟨b,off + i * 4 + 2,none⟩ = some (.int .i64 (f i).c2) ∧ w.cell? ⟨b,off + i * 4 + 3,none⟩ = some (.int .i64 (f i).r2)):=by
  obtain ⟨⟨b,off,spot⟩,rfl,hB,hc⟩:=h hn
  have h0:=hc 0 0 hn (by omega)
  have hs : spot = none:=by simpa [Addr.add] using World.cell?_spot h0
  subst hs
  refine ⟨b,off,rfl,hB,fun i hi => ⟨?_,?_,?_,?_⟩⟩
  · have:=hc i 0 hi (by omega); rwa [show (⟨b,off,none⟩ : Addr).add (i * 4 + 0) = ⟨b,off + i * 4,none⟩ from by unfold Addr.add; split <;> simp_all] at this
  · have:=hc i 1 hi (by omega); rwa [show (⟨b,off,none⟩ : Addr).add (i * 4 + 1) = ⟨b,off + i * 4 + 1,none⟩ from by unfold Addr.add; simp; omega] at this
  · have:=hc i 2 hi (by omega); rwa [show (⟨b,off,none⟩ : Addr).add (i * 4 + 2) = ⟨b,off + i * 4 + 2,none⟩ from by unfold Addr.add; simp; omega] at this
  · have:=hc i 3 hi (by omega); rwa [show (⟨b,off,none⟩ : Addr).add (i * 4 + 3) = ⟨b,off + i * 4 + 3,none⟩ from by unfold Addr.add; simp; omega] at this
end Go.Proofs.YtmalncmdfmoccaaGreatDoor
