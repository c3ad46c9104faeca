/- Chapter 42: a line that is read: book lines, and lines of no kind. -/
import Derived.Test.YtmalncmdfmoccaaGreatDoorCLnQ
import Derived.Test.YtmalncmdfmoccaaGreatDoorCTz
namespace Go.Proofs.YtmalncmdfmoccaaGreatDoor
open Go.RowKit
theorem Split32 (l : List UInt8) (w : World) (hs : l.length < 4294967281) (he : Env6 w) :
    Calls Tryz.prog 71 #[.string ⟨l.toArray⟩,.string ⟨#[32]⟩] w fun e w' => e = .returned (.slice (some ⟨w.heap.size,0,none⟩) (Lib.split l [32]).length (Lib.split l [32]).length) ∧ w' = w.alloc (.cells (strsV (Lib.split l [32])).toArray 9):=by
  obtain ⟨m,hm⟩:=he.2.2.1
  have hw0:=Lib.splitB_data ⟨#[32]⟩ 0 (Lib.countB ⟨l.toArray⟩ ⟨#[32]⟩) ⟨l.toArray⟩
  have hw1:=Lib.splitB_all ⟨#[32]⟩ (by decide) 0 _ ⟨l.toArray⟩ rfl
  have hw2 : (Lib.splitB ⟨#[32]⟩ 0 (Lib.countB ⟨l.toArray⟩ ⟨#[32]⟩) ⟨l.toArray⟩).map (·.data.toList) = Lib.split l [32]:=by rw [hw0]; rfl
  have hlen : (Lib.split l [32]).length = Lib.countB ⟨l.toArray⟩ ⟨#[32]⟩ + 1:=by rw [← hw2,List.length_map,hw1]
  have hval : (Lib.splitB ⟨#[32]⟩ 0 (Lib.countB ⟨l.toArray⟩ ⟨#[32]⟩) ⟨l.toArray⟩).map Value.string = strsV (Lib.split l [32]):=by
    rw [← hw2]; unfold strsV; rw [List.map_map]; rfl
  refine (Tryz.strings_Split ⟨l.toArray⟩ ⟨#[32]⟩ m w hs hm (by decide)).mono ?_
  rintro e w' ⟨rfl,rfl⟩
  rw [hlen,hval]; exact ⟨rfl,rfl⟩
def kMap (r : Nat) (es : Array MapEntry) (c : Nat) : Pers where
  p w:=w.heap[r]? = some (.map es c)
  s _:=True
  far row:=some r ≠ row
  st w w' row hr hb h:=(hb.block r (by have:=(Array.getElem?_eq_some_iff.1 h).1; exact this) hr).trans h
  vis _ _:=trivial
  none_:=by simp
  new w k hk h:=by
    have:=(Array.getElem?_eq_some_iff.1 h).1
    simp; omega
theorem from_at {w : World} {b : Nat} (l : List Value) (j : Nat) (h : cellsAt w b j l) : cellsFrom w b 0 j l:=by
  induction l generalizing j with
  | nil => exact trivial
  | cons v l ih => exact ⟨by rw [Nat.zero_add]; exact h.1,ih _ h.2⟩
def kindsEs (rb : Nat) : Array MapEntry:=#[{ key:=.string { data:=#[98,111,111,107] },val:=.agg #[.int .i64 1,.func (.func 75) #[.pointer (some ⟨rb,0,none⟩)] #[]],born:=0 },{ key:=.string { data:=#[99,101,108,108] },val:=.agg #[.int .i64 2,.func (.func 76) #[.pointer (some ⟨rb,0,none⟩)] #[]],born:=1 },{ key:=.string { data:=#[114,105,103,104,116] },val:=.agg #[.int .i64 3,.func (.func 77) #[.pointer (some ⟨rb,0,none⟩)] #[]],born:=2 },{ key:=.string { data:=#[114,101,108,101,97,115,101] },val:=.agg #[.int .i64 4,.func (.func 78) #[.pointer (some ⟨rb,0,none⟩)] #[]],born:=3 },{ key:=.string { data:=#[101,118,101,110,116] },val:=.agg #[.int .i64 5,.func (.func 79) #[.pointer (some ⟨rb,0,none⟩)] #[]],born:=4 },{ key:=.string { data:=#[115,104,111,119,110] },val:=.agg #[.int .i64 6,.func (.func 80) #[.pointer (some ⟨rb,0,none⟩)] #[]],born:=5 },{ key:=.string { data:=#[114,117,110] },val:=.agg #[.int .i64 7,.func (.func 81) #[.pointer (some ⟨rb,0,none⟩)] #[]],born:=6 }]
theorem kd_map : Tryz.prog.underlying 121 = some (.map 9 120):=by kernel_rfl
theorem kd_key : Tryz.prog.underlying 9 = some .string:=by kernel_rfl
theorem kd_1 (rb : Nat) (w : World) : (Instr.mapUpdate 121 (.map (some w.heap.size)) (.string { data:=#[98,111,111,107] }) (.agg #[.int .i64 1,.func (.func 75) #[.pointer (some ⟨rb,0,none⟩)] #[]])).run Tryz.prog (w.alloc (.map #[] 0)) = .ok () (w.alloc (.map #[{ key:=.string { data:=#[98,111,111,107] },val:=.agg #[.int .i64 1,.func (.func 75) #[.pointer (some ⟨rb,0,none⟩)] #[]],born:=0 }] 1)) :=
  ins_new _ _ _ _ kd_map kd_key _ _ _ _ (by simp [MapKept.IsKey]) rfl w
theorem kd_2 (rb : Nat) (w : World) : (Instr.mapUpdate 121 (.map (some w.heap.size)) (.string { data:=#[99,101,108,108] }) (.agg #[.int .i64 2,.func (.func 76) #[.pointer (some ⟨rb,0,none⟩)] #[]])).run Tryz.prog (w.alloc (.map #[{ key:=.string { data:=#[98,111,111,107] },val:=.agg #[.int .i64 1,.func (.func 75) #[.pointer (some ⟨rb,0,none⟩)] #[]],born:=0 }] 1)) = .ok () (w.alloc (.map #[{ key:=.string { data:=#[98,111,111,107] },val:=.agg #[.int .i64 1,.func (.func 75) #[.pointer (some ⟨rb,0,none⟩)] #[]],born:=0 },{ key:=.string { data:=#[99,101,108,108] },val:=.agg #[.int .i64 2,.func (.func 76) #[.pointer (some ⟨rb,0,none⟩)] #[]],born:=1 }] 2)) :=
  ins_new _ _ _ _ kd_map kd_key _ _ _ _ (by simp [MapKept.IsKey]) rfl w
theorem kd_3 (rb : Nat) (w : World) : (Instr.mapUpdate 121 (.map (some w.heap.size)) (.string { data:=#[114,105,103,104,116] }) (.agg #[.int .i64 3,.func (.func 77) #[.pointer (some ⟨rb,0,none⟩)] #[]])).run Tryz.prog (w.alloc (.map #[{ key:=.string { data:=#[98,111,111,107] },val:=.agg #[.int .i64 1,.func (.func 75) #[.pointer (some ⟨rb,0,none⟩)] #[]],born:=0 },{ key:=.string { data:=#[99,101,108,108] },val:=.agg #[.int .i64 2,.func (.func 76) #[.pointer (some ⟨rb,0,none⟩)] #[]],born:=1 }] 2)) = .ok () (w.alloc (.map #[{ key:=.string { data:=#[98,111,111,107] },val:=.agg #[.int .i64 1,.func (.func 75) #[.pointer (some ⟨rb,0,none⟩)] #[]],born:=0 },{ key:=.string { data:=#[99,101,108,108] },val:=.agg #[.int .i64 2,.func (.func 76) #[.pointer (some ⟨rb,0,none⟩)] #[]],born:=1 },{ key:=.string { data:=#[114,105,103,104,116] },val:=.agg #[.int .i64 3,.func (.func 77) #[.pointer (some ⟨rb,0,none⟩)] #[]],born:=2 }] 3)) :=
  ins_new _ _ _ _ kd_map kd_key _ _ _ _ (by simp [MapKept.IsKey]) rfl w
theorem kd_4 (rb : Nat) (w : World) : (Instr.mapUpdate 121 (.map (some w.heap.size)) (.string { data:=#[114,101,108,101,97,115,101] }) (.agg #[.int .i64 4,.func (.func 78) #[.pointer (some ⟨rb,0,none⟩)] #[]])).run Tryz.prog (w.alloc (.map #[{ key:=.string { data:=#[98,111,111,107] },val:=.agg #[.int .i64 1,.func (.func 75) #[.pointer (some ⟨rb,0,none⟩)] #[]],born:=0 },{ key:=.string { data:=#[99,101,108,108] },val:=.agg #[.int .i64 2,.func (.func 76) #[.pointer (some ⟨rb,0,none⟩)] #[]],born:=1 },{ key:=.string { data:=#[114,105,103,104,116] },val:=.agg #[.int .i64 3,.func (.func 77) #[.pointer (some ⟨rb,0,none⟩)] #[]],born:=2 }] 3)) = .ok () (w.alloc (.map #[{ key:=.string { data:=#[98,111,111,107] },val:=.agg #[.int .i64 1,.func (.func 75) #[.pointer (some ⟨rb,0,none⟩)] #[]],born:=0 },{ key:=.string { data:=#[99,101,108,108] },val:=.agg #[.int .i64 2,.func (.func 76) #[.pointer (some ⟨rb,0,none⟩)] #[]],born:=1 },{ key:=.string { data:=#[114,105,103,104,116] },val:=.agg #[.int .i64 3,.func (.func 77) #[.pointer (some ⟨rb,0,none⟩)] #[]],born:=2 },{ key:=.string { data:=#[114,101,108,101,97,115,101] },val:=.agg #[.int .i64 4,.func (.func 78) #[.pointer (some ⟨rb,0,none⟩)] #[]],born:=3 }] 4)) :=
  ins_new _ _ _ _ kd_map kd_key _ _ _ _ (by simp [MapKept.IsKey]) rfl w
theorem kd_5 (rb : Nat) (w : World) : (Instr.mapUpdate 121 (.map (some w.heap.size)) (.string { data:=#[101,118,101,110,116] }) (.agg #[.int .i64 5,.func (.func 79) #[.pointer (some ⟨rb,0,none⟩)] #[]])).run Tryz.prog (w.alloc (.map #[{ key:=.string { data:=#[98,111,111,107] },val:=.agg #[.int .i64 1,.func (.func 75) #[.pointer (some ⟨rb,0,none⟩)] #[]],born:=0 },{ key:=.string { data:=#[99,101,108,108] },val:=.agg #[.int .i64 2,.func (.func 76) #[.pointer (some ⟨rb,0,none⟩)] #[]],born:=1 },{ key:=.string { data:=#[114,105,103,104,116] },val:=.agg #[.int .i64 3,.func (.func 77) #[.pointer (some ⟨rb,0,none⟩)] #[]],born:=2 },{ key:=.string { data:=#[114,101,108,101,97,115,101] },val:=.agg #[.int .i64 4,.func (.func 78) #[.pointer (some ⟨rb,0,none⟩)] #[]],born:=3 }] 4)) = .ok () (w.alloc (.map #[{ key:=.string { data:=#[98,111,111,107] },val:=.agg #[.int .i64 1,.func (.func 75) #[.pointer (some ⟨rb,0,none⟩)] #[]],born:=0 },{ key:=.string { data:=#[99,101,108,108] },val:=.agg #[.int .i64 2,.func (.func 76) #[.pointer (some ⟨rb,0,none⟩)] #[]],born:=1 },{ key:=.string { data:=#[114,105,103,104,116] },val:=.agg #[.int .i64 3,.func (.func 77) #[.pointer (some ⟨rb,0,none⟩)] #[]],born:=2 },{ key:=.string { data:=#[114,101,108,101,97,115,101] },val:=.agg #[.int .i64 4,.func (.func 78) #[.pointer (some ⟨rb,0,none⟩)] #[]],born:=3 },{ key:=.string { data:=#[101,118,101,110,116] },val:=.agg #[.int .i64 5,.func (.func 79) #[.pointer (some ⟨rb,0,none⟩)] #[]],born:=4 }] 5)) :=
  ins_new _ _ _ _ kd_map kd_key _ _ _ _ (by simp [MapKept.IsKey]) rfl w
theorem kd_6 (rb : Nat) (w : World) : (Instr.mapUpdate 121 (.map (some w.heap.size)) (.string { data:=#[115,104,111,119,110] }) (.agg #[.int .i64 6,.func (.func 80) #[.pointer (some ⟨rb,0,none⟩)] #[]])).run Tryz.prog (w.alloc (.map #[{ key:=.string { data:=#[98,111,111,107] },val:=.agg #[.int .i64 1,.func (.func 75) #[.pointer (some ⟨rb,0,none⟩)] #[]],born:=0 },{ key:=.string { data:=#[99,101,108,108] },val:=.agg #[.int .i64 2,.func (.func 76) #[.pointer (some ⟨rb,0,none⟩)] #[]],born:=1 },{ key:=.string { data:=#[114,105,103,104,116] },val:=.agg #[.int .i64 3,.func (.func 77) #[.pointer (some ⟨rb,0,none⟩)] #[]],born:=2 },{ key:=.string { data:=#[114,101,108,101,97,115,101] },val:=.agg #[.int .i64 4,.func (.func 78) #[.pointer (some ⟨rb,0,none⟩)] #[]],born:=3 },{ key:=.string { data:=#[101,118,101,110,116] },val:=.agg #[.int .i64 5,.func (.func 79) #[.pointer (some ⟨rb,0,none⟩)] #[]],born:=4 }] 5)) = .ok () (w.alloc (.map #[{ key:=.string { data:=#[98,111,111,107] },val:=.agg #[.int .i64 1,.func (.func 75) #[.pointer (some ⟨rb,0,none⟩)] #[]],born:=0 },{ key:=.string { data:=#[99,101,108,108] },val:=.agg #[.int .i64 2,.func (.func 76) #[.pointer (some ⟨rb,0,none⟩)] #[]],born:=1 },{ key:=.string { data:=#[114,105,103,104,116] },val:=.agg #[.int .i64 3,.func (.func 77) #[.pointer (some ⟨rb,0,none⟩)] #[]],born:=2 },{ key:=.string { data:=#[114,101,108,101,97,115,101] },val:=.agg #[.int .i64 4,.func (.func 78) #[.pointer (some ⟨rb,0,none⟩)] #[]],born:=3 },{ key:=.string { data:=#[101,118,101,110,116] },val:=.agg #[.int .i64 5,.func (.func 79) #[.pointer (some ⟨rb,0,none⟩)] #[]],born:=4 },{ key:=.string { data:=#[115,104,111,119,110] },val:=.agg #[.int .i64 6,.func (.func 80) #[.pointer (some ⟨rb,0,none⟩)] #[]],born:=5 }] 6)) :=
  ins_new _ _ _ _ kd_map kd_key _ _ _ _ (by simp [MapKept.IsKey]) rfl w
theorem kd_7 (rb : Nat) (w : World) : (Instr.mapUpdate 121 (.map (some w.heap.size)) (.string { data:=#[114,117,110] }) (.agg #[.int .i64 7,.func (.func 81) #[.pointer (some ⟨rb,0,none⟩)] #[]])).run Tryz.prog (w.alloc (.map #[{ key:=.string { data:=#[98,111,111,107] },val:=.agg #[.int .i64 1,.func (.func 75) #[.pointer (some ⟨rb,0,none⟩)] #[]],born:=0 },{ key:=.string { data:=#[99,101,108,108] },val:=.agg #[.int .i64 2,.func (.func 76) #[.pointer (some ⟨rb,0,none⟩)] #[]],born:=1 },{ key:=.string { data:=#[114,105,103,104,116] },val:=.agg #[.int .i64 3,.func (.func 77) #[.pointer (some ⟨rb,0,none⟩)] #[]],born:=2 },{ key:=.string { data:=#[114,101,108,101,97,115,101] },val:=.agg #[.int .i64 4,.func (.func 78) #[.pointer (some ⟨rb,0,none⟩)] #[]],born:=3 },{ key:=.string { data:=#[101,118,101,110,116] },val:=.agg #[.int .i64 5,.func (.func 79) #[.pointer (some ⟨rb,0,none⟩)] #[]],born:=4 },{ key:=.string { data:=#[115,104,111,119,110] },val:=.agg #[.int .i64 6,.func (.func 80) #[.pointer (some ⟨rb,0,none⟩)] #[]],born:=5 }] 6)) = .ok () (w.alloc (.map #[{ key:=.string { data:=#[98,111,111,107] },val:=.agg #[.int .i64 1,.func (.func 75) #[.pointer (some ⟨rb,0,none⟩)] #[]],born:=0 },{ key:=.string { data:=#[99,101,108,108] },val:=.agg #[.int .i64 2,.func (.func 76) #[.pointer (some ⟨rb,0,none⟩)] #[]],born:=1 },{ key:=.string { data:=#[114,105,103,104,116] },val:=.agg #[.int .i64 3,.func (.func 77) #[.pointer (some ⟨rb,0,none⟩)] #[]],born:=2 },{ key:=.string { data:=#[114,101,108,101,97,115,101] },val:=.agg #[.int .i64 4,.func (.func 78) #[.pointer (some ⟨rb,0,none⟩)] #[]],born:=3 },{ key:=.string { data:=#[101,118,101,110,116] },val:=.agg #[.int .i64 5,.func (.func 79) #[.pointer (some ⟨rb,0,none⟩)] #[]],born:=4 },{ key:=.string { data:=#[115,104,111,119,110] },val:=.agg #[.int .i64 6,.func (.func 80) #[.pointer (some ⟨rb,0,none⟩)] #[]],born:=5 },{ key:=.string { data:=#[114,117,110] },val:=.agg #[.int .i64 7,.func (.func 81) #[.pointer (some ⟨rb,0,none⟩)] #[]],born:=6 }] 7)) :=
  ins_new _ _ _ _ kd_map kd_key _ _ _ _ (by simp [MapKept.IsKey]) rfl w
theorem kd_miss {rb r : Nat} {w : World} (hb : w.heap[r]? = some (.map (kindsEs rb) 7)) (x : ByteArray) (hf : Instr.findNow .string (.string x) (kindsEs rb).toList 0 = some none) :
    (Instr.lookup 121 (.map (some r)) (.string x) true).run Tryz.prog w = .ok (.tuple #[.agg #[.int .i64 0,.nilFunc],.bool false]) w:=by
  have hc : (Instr.checkKey (kindsEs rb).isEmpty 10000 9 (.string x)).run Tryz.prog w = .ok () w:=MapKept.run_checkKey (k:=.string x) kd_key (by simp [MapKept.IsKey]) _ 9999
  simp [Instr.lookup,run_underlying kd_map,MapKept.run_getObj_map hb,hc,MapKept.run_findKey kd_key hf,Result.andThen]
set_option maxRecDepth 100000 in
set_option maxHeartbeats 8000000 in
theorem line_none (w0 : World) (ps : List Pers) (rb : Nat) (v0 v1 v2 v3 v4 v5 v6 v7 : Value) (part : Int) (lo : List (List UInt8)) (w : World) (h : Rd w0 ps rb v0 v1 v2 v3 v4 v5 v6 v7 part lo w) (he : Env6 w0) (l x : List UInt8) (r : List (List UInt8)) (hl : l.length ≤ 100000) (hsp : Lib.split l [32] = x :: r) (hwn : (x :: r).length ≤ 1000) (hp : (part == 7) = false) (hf : ∀ rb,Instr.findNow .string (.string ⟨x.toArray⟩) (kindsEs rb).toList 0 = some none) :
    Calls Tryz.prog 42 #[.pointer (some ⟨rb,0,none⟩),.string ⟨l.toArray⟩] w (RdTook (.bool false) w0 ps rb v0 v1 v2 v3 v4 v5 v6 v7 part r):=by
  obtain ⟨R,hR⟩ : ∃ R,RdTook (.bool false) w0 ps rb v0 v1 v2 v3 v4 v5 v6 v7 part r = R:=⟨_,rfl⟩
  rw [hR]
  have HRR:=keep hR
  have HF:=keep hf
  clear hR hf
  obtain ⟨h1,h2,a0,b0,i0,c0,h3,h4,h5,h6,h7⟩:=h
  have H:=Lib.hid (h7.drop (kVar rb 89 [v0,v1,v2,v3,v4,v5,v6,v7,.int .i64 part,.slice a0 lo.length c0,.bool false] :: ps) (by intro y hy; simp at hy ⊢; rcases hy with h | h <;> simp [h]))
  clear h3 h4 h5 h6 h7
  obtain ⟨n0,hn0⟩ : ∃ n,lo.length = n:=⟨_,rfl⟩
  rw [hn0] at H
  clear hn0
  have HFA:=keep h2
  have HRB:=keep h1
  have HE:=keep he
  have HSP:=keep hsp
  have HWN:=keep hwn
  clear h1 h2 he hsp hwn
  have HSL:=keep (Split32 l w (by omega) (HE.out.below H.out.bel))
  obtain ⟨S,hS⟩ : ∃ S : ByteArray,⟨l.toArray⟩ = S:=⟨_,rfl⟩
  rw [HSP.out,hS] at HSL
  rw [hS]
  have HSS:=keep hS
  clear hS
  have F:=H.out.sees
  simp only [sees,kVar,cellsAt,Nat.reduceAdd] at F
  obtain ⟨⟨⟨z0,f0⟩,c_0,c_1,c_2,c_3,c_4,c_5,c_6,c_7,c_8,c_9,c_10,-⟩,-⟩:=F
  have hlt : rb < w.heap.size:=z0
  have HLT:=keep hlt
  clear hlt
  go_enter Tryz.func42,Tryz.ntmps42
  go_wp2_with fail
  refine HSL.out.mono ?_
  rintro e w1 ⟨rfl,hw⟩
  have HSZ:=keep (show rb < w.heap.size ∧ w0.heap.size ≤ w.heap.size from ⟨HLT.out,H.out.bel.size⟩)
  have H1:=Lib.hid ((H.out.alloc w.heap.size 9 (strsV (x :: r)) rfl).drop (kVar rb 89 [v0,v1,v2,v3,v4,v5,v6,v7,.int .i64 part,.slice a0 n0 c0,.bool false] :: kBlk w.heap.size 9 (strsV (x :: r)) :: ps) (by intro y hy; simp at hy ⊢; rcases hy with h | h | h <;> simp [h]))
  rw [← hw] at H1
  clear H z0 f0 c_0 c_1 c_2 c_3 c_4 c_5 c_6 c_7 c_8 c_9 c_10
  obtain ⟨sb,hsb⟩ : ∃ sb,w.heap.size = sb:=⟨_,rfl⟩
  rw [hsb] at H1 HSZ
  have HSB:=keep hsb
  clear hw
  rw [hsb]
  clear hsb
  have F:=H1.out.sees
  simp only [sees,kVar,cellsAt,Nat.reduceAdd] at F
  obtain ⟨⟨⟨z0,f0⟩,c_0,c_1,c_2,c_3,c_4,c_5,c_6,c_7,c_8,c_9,c_10,-⟩,-⟩:=F
  have hfar : ∀ y ∈ kBlk sb 9 (strsV (x :: r)) :: ps,y.far (some rb):=by
    intro y hy
    rcases List.mem_cons.1 hy with rfl | hy
    · show some sb ≠ some rb
      have:=HSZ.out.1
      simp; omega
    · exact HFA.out y hy
  obtain ⟨m,hm⟩ : ∃ m,(x :: r).length = m:=⟨_,rfl⟩
  have hm1 : m ≤ 1000 ∧ 0 < m:=by have:=HWN.out; have h9 : (x :: r).length = (r).length + 1:=rfl; omega
  rw [hm]
  have H2:=Lib.hid ((H1.out.set_ (i:=9) (u:=.slice (some ⟨sb,0,none⟩) m m) HRB.out hfar).set_ (i:=10) (u:=.bool false) HRB.out hfar)
  simp only [List.set_cons_zero,List.set_cons_succ] at H2
  have HM:=keep (And.intro hm hm1)
  clear hfar hm hm1
  go_upto_region 2 with fail
  generalize ((w1.setCell ⟨rb,9,none⟩ (.slice (some ⟨sb,0,none⟩) m m)).setCell ⟨rb,10,none⟩ (.bool false)) = W2 at H2 ⊢
  clear H1 z0 f0 c_0 c_1 c_2 c_3 c_4 c_5 c_6 c_7 c_8 c_9 c_10
  have F:=H2.out.sees
  simp only [sees,kVar,cellsAt,Nat.reduceAdd] at F
  obtain ⟨⟨⟨z0,f0⟩,c_0,c_1,c_2,c_3,c_4,c_5,c_6,c_7,c_8,c_9,c_10,-⟩,-⟩:=F
  have hmm:=@run_makeMap Tryz.prog
  have g1:=kd_1 rb
  have g2:=kd_2 rb
  have g3:=kd_3 rb
  have g4:=kd_4 rb
  have g5:=kd_5 rb
  have g6:=kd_6 rb
  have g7:=kd_7 rb
  go_upto_region 9 with fail
  clear hmm g1 g2 g3 g4 g5 g6 g7
  have HR:=keep (show Rd w0 (kMap W2.heap.size (kindsEs rb) 7 :: ps) rb (v0) (v1) (v2) (v3) (v4) (v5) (v6) (v7) part (x :: r) (W2.alloc (.map (kindsEs rb) 7)) from by
    have hlt : rb < W2.heap.size:=z0
    refine ⟨HRB.out,?_,some ⟨sb,0,none⟩,sb,0,m,by have:=HSZ.out.1; omega,Nat.le_of_eq HM.out.1,by have:=HM.out.2; omega,fun _ => rfl,?_⟩
    · intro y hy
      rcases List.mem_cons.1 hy with rfl | hy
      · show some W2.heap.size ≠ some rb
        simp; omega
      · exact HFA.out y hy
    · rw [HM.out.1]
      have h:=H2.out.alloc_obj (.map (kindsEs rb) 7)
      refine ⟨h.bel,fun y hy => ?_⟩
      rcases List.mem_cons.1 hy with rfl | hy
      · exact h.all _ (List.mem_cons_self ..)
      rcases List.mem_cons.1 hy with rfl | hy
      · have hq : Blk (W2.alloc (.map (kindsEs rb) 7)) sb 9 (strsV (x :: r)).toArray:=h.all (kBlk sb 9 (strsV (x :: r))) (List.mem_cons_of_mem _ (List.mem_cons_self ..))
        exact ⟨hq.lt,from_at _ 0 (cellsAt_of _ _ _ _ hq)⟩
      rcases List.mem_cons.1 hy with rfl | hy
      · exact heap_of_alloc W2 _
      · exact h.all _ (List.mem_cons_of_mem _ (List.mem_cons_of_mem _ hy)))
  obtain ⟨mb,hmb⟩ : ∃ k,W2.heap.size = k:=⟨_,rfl⟩
  rw [hmb] at HR ⊢
  obtain ⟨W3,hW3⟩ : ∃ W,W2.alloc (.map (kindsEs rb) 7) = W:=⟨_,rfl⟩
  rw [hW3] at HR
  first | rw [hW3] | (rw [show W2.alloc (.map #[{ key:=.string { data:=#[98,111,111,107] },val:=.agg #[.int .i64 1,.func (.func 75) #[.pointer (some ⟨rb,0,none⟩)] #[]],born:=0 },{ key:=.string { data:=#[99,101,108,108] },val:=.agg #[.int .i64 2,.func (.func 76) #[.pointer (some ⟨rb,0,none⟩)] #[]],born:=1 },{ key:=.string { data:=#[114,105,103,104,116] },val:=.agg #[.int .i64 3,.func (.func 77) #[.pointer (some ⟨rb,0,none⟩)] #[]],born:=2 },{ key:=.string { data:=#[114,101,108,101,97,115,101] },val:=.agg #[.int .i64 4,.func (.func 78) #[.pointer (some ⟨rb,0,none⟩)] #[]],born:=3 },{ key:=.string { data:=#[101,118,101,110,116] },val:=.agg #[.int .i64 5,.func (.func 79) #[.pointer (some ⟨rb,0,none⟩)] #[]],born:=4 },{ key:=.string { data:=#[115,104,111,119,110] },val:=.agg #[.int .i64 6,.func (.func 80) #[.pointer (some ⟨rb,0,none⟩)] #[]],born:=5 },{ key:=.string { data:=#[114,117,110] },val:=.agg #[.int .i64 7,.func (.func 81) #[.pointer (some ⟨rb,0,none⟩)] #[]],born:=6 }] 7) = W3 from hW3])
  clear H2 hmb hW3 z0 f0 c_0 c_1 c_2 c_3 c_4 c_5 c_6 c_7 c_8 c_9 c_10
  go_wp2_with fail
  refine (rd_word w0 _ rb _ _ _ _ _ _ _ _ _ x (r) _ HR.out).mono ?_
  rintro e w5 ⟨rfl,h5⟩
  clear HR
  obtain ⟨-,-,a,b,i,c,h3,h4,h5',h6,h7⟩:=h5
  have HG:=keep (show b ≠ rb ∧ (r).length ≤ c ∧ c ≤ 1000000 ∧ ((r) ≠ [] → a = some ⟨b,i,none⟩) from ⟨h3,h4,h5',h6⟩)
  have H5:=Lib.hid h7
  clear h3 h4 h5' h6 h7
  have hmp : w5.heap[mb]? = some (.map (kindsEs rb) 7):=H5.out.all (kMap mb (kindsEs rb) 7) (by simp)
  have hlk:=kd_miss hmp ⟨x.toArray⟩ (HF.out rb)
  obtain ⟨X,hX⟩ : ∃ X : ByteArray,⟨x.toArray⟩ = X:=⟨_,rfl⟩
  rw [hX] at hlk ⊢
  clear hX
  obtain ⟨n,hn⟩ : ∃ n,(r).length = n:=⟨_,rfl⟩
  rw [hn] at H5
  have HN:=keep hn
  clear hn
  have F:=H5.out.sees
  simp only [sees,kVar,cellsAt,Nat.reduceAdd] at F
  obtain ⟨⟨⟨z0,f0⟩,c_0,c_1,c_2,c_3,c_4,c_5,c_6,c_7,c_8,c_9,c_10,-⟩,-⟩:=F
  have hlt : rb < w5.heap.size:=z0
  have HKB:=keep hlt
  clear hlt
  go_upto_region 11 with fail
  clear hlk hmp
  have H6:=Lib.hid ((H5.out.alloc w5.heap.size 120 [.int .i64 0,.nilFunc] rfl).drop (kVar rb 89 [v0,v1,v2,v3,v4,v5,v6,v7,.int .i64 part,.slice a n c,.bool false] :: kBlk w5.heap.size 120 [.int .i64 0,.nilFunc] :: kCells b i (strsV (r)) :: kMap mb (kindsEs rb) 7 :: ps) (by intro y hy; simp at hy ⊢; rcases hy with h | h | h | h | h <;> simp [h]))
  obtain ⟨kb,hkb⟩ : ∃ k,w5.heap.size = k:=⟨_,rfl⟩
  generalize (w5.alloc (.cells #[.int .i64 0,.nilFunc] 120)) = W6 at H6 ⊢
  rw [hkb] at H6 HKB ⊢
  clear hkb
  obtain ⟨qs,hqs⟩ : ∃ q,kCells b i (strsV (r)) :: kMap mb (kindsEs rb) 7 :: ps = q:=⟨_,rfl⟩
  rw [hqs] at H6
  have HQS:=keep hqs
  clear hqs H5 z0 f0 c_0 c_1 c_2 c_3 c_4 c_5 c_6 c_7 c_8 c_9 c_10
  have F21:=H6.out.sees
  simp only [sees,kBlk,kVar,cellsAt,Nat.reduceAdd] at F21
  obtain ⟨⟨⟨z0,fz0⟩,c0_0,c0_1,c0_2,c0_3,c0_4,c0_5,c0_6,c0_7,c0_8,c0_9,c0_10,-⟩,⟨z1,c1_0,c1_1,-⟩,-⟩:=F21
  refine wp_region_held_drew (S:=fun W => Ok w0 (kVar (rb) 89 [v0,v1,v2,v3,v4,v5,v6,v7,.int .i64 part,.slice a n c,.bool false] :: kBlk (kb) 120 [.int .i64 0,.nilFunc] :: qs) W) (by kernel_rfl) H6.out.drew (fun hHeld => ?_)
  refine wpAnyH_take (i:=0) (v:=?vx1_0) rfl (by kernel_rfl) (by kernel_rfl) (by kernel_rfl) (fun _ _ _ h => h) (Or.inl ⟨by rfl,?hyx1_0⟩) (by assumption) ?restx1_0
  case hyx1_0 => (intro w hSw; have F:=Ok.sees hSw; clear hSw; simp only [sees,kBlk,kVar,cellsAt,Nat.reduceAdd] at F; go_simp; try with_reducible rfl)
  try simp only [Act.put,List.setIfInBounds_toArray,List.set_cons_zero,List.set_cons_succ,List.getElem_toArray,List.getElem_cons_zero]
  refine wpAnyH_take (i:=1) (v:=?vx2_1) rfl (by kernel_rfl) (by kernel_rfl) (by kernel_rfl) (fun _ _ _ h => h) (Or.inl ⟨by rfl,?hyx2_1⟩) (by assumption) ?restx2_1
  case hyx2_1 => (intro w hSw; have F:=Ok.sees hSw; clear hSw; simp only [sees,kBlk,kVar,cellsAt,Nat.reduceAdd] at F; go_simp; try with_reducible rfl)
  try simp only [Act.put,List.setIfInBounds_toArray,List.set_cons_zero,List.set_cons_succ,List.getElem_toArray,List.getElem_cons_succ,List.getElem_cons_zero]
  refine wpAnyH_take (i:=2) (v:=?vx3_2) rfl (by kernel_rfl) (by kernel_rfl) (by kernel_rfl) (fun _ _ _ h => h) (Or.inl ⟨by rfl,?hyx3_2⟩) (by assumption) ?restx3_2
  case hyx3_2 => (intro w hSw; have F:=Ok.sees hSw; clear hSw; simp only [sees,kBlk,kVar,cellsAt,Nat.reduceAdd] at F; go_simp; try with_reducible rfl)
  try simp only [Act.put,List.setIfInBounds_toArray,List.set_cons_zero,List.set_cons_succ,List.getElem_toArray,List.getElem_cons_succ,List.getElem_cons_zero]
  refine wpAnyH_take (i:=3) (v:=undef) rfl (by kernel_rfl) (by kernel_rfl) (by kernel_rfl) (fun _ _ _ h => h) (Or.inr ⟨by rfl,rfl⟩) (by assumption) ?_
  try simp only [Act.put,List.setIfInBounds_toArray,List.set_cons_zero,List.set_cons_succ,List.getElem_toArray,List.getElem_cons_succ,List.getElem_cons_zero]
  refine wpAnyH_take (i:=4) (v:=undef) rfl (by kernel_rfl) (by kernel_rfl) (by kernel_rfl) (fun _ _ _ h => h) (Or.inr ⟨by rfl,rfl⟩) (by assumption) ?_
  try simp only [Act.put,List.setIfInBounds_toArray,List.set_cons_zero,List.set_cons_succ,List.getElem_toArray,List.getElem_cons_succ,List.getElem_cons_zero]
  refine wpAnyH_take (i:=5) (v:=undef) rfl (by kernel_rfl) (by kernel_rfl) (by kernel_rfl) (fun _ _ _ h => h) (Or.inr ⟨by rfl,rfl⟩) (by assumption) ?_
  try simp only [Act.put,List.setIfInBounds_toArray,List.set_cons_zero,List.set_cons_succ,List.getElem_toArray,List.getElem_cons_succ,List.getElem_cons_zero]
  refine wpAnyH_take (i:=6) (v:=undef) rfl (by kernel_rfl) (by kernel_rfl) (by kernel_rfl) (fun _ _ _ h => h) (Or.inr ⟨by rfl,rfl⟩) (by assumption) ?_
  try simp only [Act.put,List.setIfInBounds_toArray,List.set_cons_zero,List.set_cons_succ,List.getElem_toArray,List.getElem_cons_succ,List.getElem_cons_zero]
  refine wpAnyH_take (i:=7) (v:=undef) rfl (by kernel_rfl) (by kernel_rfl) (by kernel_rfl) (fun _ _ _ h => h) (Or.inr ⟨by rfl,rfl⟩) (by assumption) ?_
  try simp only [Act.put,List.setIfInBounds_toArray,List.set_cons_zero,List.set_cons_succ,List.getElem_toArray,List.getElem_cons_succ,List.getElem_cons_zero]
  refine wpAnyH_take (i:=8) (v:=undef) rfl (by kernel_rfl) (by kernel_rfl) (by kernel_rfl) (fun _ _ _ h => h) (Or.inr ⟨by rfl,rfl⟩) (by assumption) ?_
  try simp only [Act.put,List.setIfInBounds_toArray,List.set_cons_zero,List.set_cons_succ,List.getElem_toArray,List.getElem_cons_succ,List.getElem_cons_zero]
  refine wpAnyH_take (i:=9) (v:=undef) rfl (by kernel_rfl) (by kernel_rfl) (by kernel_rfl) (fun _ _ _ h => h) (Or.inr ⟨by rfl,rfl⟩) (by assumption) ?_
  try simp only [Act.put,List.setIfInBounds_toArray,List.set_cons_zero,List.set_cons_succ,List.getElem_toArray,List.getElem_cons_succ,List.getElem_cons_zero]
  refine wpAnyH_take (i:=10) (v:=?vx11_10) rfl (by kernel_rfl) (by kernel_rfl) (by kernel_rfl) (fun _ _ _ h => h) (Or.inl ⟨by rfl,?hyx11_10⟩) (by assumption) ?restx11_10
  case hyx11_10 => (intro w hSw; have F:=Ok.sees hSw; clear hSw; simp only [sees,kBlk,kVar,cellsAt,Nat.reduceAdd] at F; go_simp; try with_reducible rfl)
  try simp only [Act.put,List.setIfInBounds_toArray,List.set_cons_zero,List.set_cons_succ,List.getElem_toArray,List.getElem_cons_succ,List.getElem_cons_zero]
  refine wpAnyH_take (i:=11) (v:=?vx12_11) rfl (by kernel_rfl) (by kernel_rfl) (by kernel_rfl) (fun _ _ _ h => h) (Or.inl ⟨by rfl,?hyx12_11⟩) (by assumption) ?restx12_11
  case hyx12_11 => (intro w hSw; have F:=Ok.sees hSw; clear hSw; simp only [sees,kBlk,kVar,cellsAt,Nat.reduceAdd] at F; go_simp; try with_reducible rfl)
  try simp only [Act.put,List.setIfInBounds_toArray,List.set_cons_zero,List.set_cons_succ,List.getElem_toArray,List.getElem_cons_succ,List.getElem_cons_zero]
  refine wpAnyH_take (i:=12) (v:=undef) rfl (by kernel_rfl) (by kernel_rfl) (by kernel_rfl) (fun _ _ _ h => h) (Or.inr ⟨by rfl,rfl⟩) (by assumption) ?_
  try simp only [Act.put,List.setIfInBounds_toArray,List.set_cons_zero,List.set_cons_succ,List.getElem_toArray,List.getElem_cons_succ,List.getElem_cons_zero]
  refine wpAnyH_take (i:=13) (v:=undef) rfl (by kernel_rfl) (by kernel_rfl) (by kernel_rfl) (fun _ _ _ h => h) (Or.inr ⟨by rfl,rfl⟩) (by assumption) ?_
  try simp only [Act.put,List.setIfInBounds_toArray,List.set_cons_zero,List.set_cons_succ,List.getElem_toArray,List.getElem_cons_succ,List.getElem_cons_zero]
  refine wpAnyH_take (i:=14) (v:=undef) rfl (by kernel_rfl) (by kernel_rfl) (by kernel_rfl) (fun _ _ _ h => h) (Or.inr ⟨by rfl,rfl⟩) (by assumption) ?_
  try simp only [Act.put,List.setIfInBounds_toArray,List.set_cons_zero,List.set_cons_succ,List.getElem_toArray,List.getElem_cons_succ,List.getElem_cons_zero]
  refine wpAnyH_take (i:=15) (v:=undef) rfl (by kernel_rfl) (by kernel_rfl) (by kernel_rfl) (fun _ _ _ h => h) (Or.inr ⟨by rfl,rfl⟩) (by assumption) ?_
  try simp only [Act.put,List.setIfInBounds_toArray,List.set_cons_zero,List.set_cons_succ,List.getElem_toArray,List.getElem_cons_succ,List.getElem_cons_zero]
  refine wpAnyH_take (i:=16) (v:=undef) rfl (by kernel_rfl) (by kernel_rfl) (by kernel_rfl) (fun _ _ _ h => h) (Or.inr ⟨by rfl,rfl⟩) (by assumption) ?_
  try simp only [Act.put,List.setIfInBounds_toArray,List.set_cons_zero,List.set_cons_succ,List.getElem_toArray,List.getElem_cons_succ,List.getElem_cons_zero]
  refine wpAnyH_take (i:=17) (v:=undef) rfl (by kernel_rfl) (by kernel_rfl) (by kernel_rfl) (fun _ _ _ h => h) (Or.inr ⟨by rfl,rfl⟩) (by assumption) ?_
  try simp only [Act.put,List.setIfInBounds_toArray,List.set_cons_zero,List.set_cons_succ,List.getElem_toArray,List.getElem_cons_succ,List.getElem_cons_zero]
  refine wpAnyH_take (i:=18) (v:=undef) rfl (by kernel_rfl) (by kernel_rfl) (by kernel_rfl) (fun _ _ _ h => h) (Or.inr ⟨by rfl,rfl⟩) (by assumption) ?_
  try simp only [Act.put,List.setIfInBounds_toArray,List.set_cons_zero,List.set_cons_succ,List.getElem_toArray,List.getElem_cons_succ,List.getElem_cons_zero]
  refine wpAnyH_take (i:=19) (v:=?vx20_19) rfl (by kernel_rfl) (by kernel_rfl) (by kernel_rfl) (fun _ _ _ h => h) (Or.inl ⟨by rfl,?hyx20_19⟩) (by assumption) ?restx20_19
  case hyx20_19 => (intro w hSw; have F:=Ok.sees hSw; clear hSw; simp only [sees,kBlk,kVar,cellsAt,Nat.reduceAdd] at F; go_simp; try with_reducible rfl)
  try simp only [Act.put,List.setIfInBounds_toArray,List.set_cons_zero,List.set_cons_succ,List.getElem_toArray,List.getElem_cons_succ,List.getElem_cons_zero]
  refine wpAnyH_done (by kernel_rfl) ?_ _
  clear z0 fz0 c0_0 c0_1 c0_2 c0_3 c0_4 c0_5 c0_6 c0_7 c0_8 c0_9 c0_10 z1 c1_0 c1_1
  clear H6
  have H23:=Lib.hid hHeld
  clear hHeld
  go_wp2_with fail
  rw [← HRR.out]
  subst_vars
  obtain ⟨h3,h4,h5,h6⟩:=HG.out
  refine ⟨rfl,HRB.out,HFA.out,a,b,i,c,h3,h4,h5,h6,?_⟩
  rw [HN.out]
  have h:=H23.out
  rw [← HQS.out] at h
  exact h.drop _ (by intro y hy; simp at hy ⊢; rcases hy with h | h | h <;> simp [h])
set_option maxRecDepth 100000 in
set_option maxHeartbeats 8000000 in
theorem line_book (w0 : World) (ps : List Pers) (rb : Nat) (p0 s0 : Int) (a1 : Option Addr) (n1 k1 : Nat) (a2 : Option Addr) (n2 k2 : Nat) (a3 : Option Addr) (n3 k3 : Nat) (a4 : Option Addr) (n4 k4 : Nat) (a5 : Option Addr) (n5 k5 : Nat) (v7 : Value) (lo : List (List UInt8)) (w : World) (h : Rd w0 ps rb (.int .i64 p0) (.slice a1 n1 k1) (.slice a2 n2 k2) (.slice a3 n3 k3) (.slice a4 n4 k4) (.slice a5 n5 k5) (.int .i64 s0) v7 0 lo w) (he : Env6 w0) (l xx yy : List UInt8) (hl : l.length ≤ 100000) (hsp : Lib.split l [32] = [98,111,111,107] :: [xx,yy]) (u st : Int) (hx : xx.length ≤ 100000) (hy : yy.length ≤ 100000) (hu : numP xx = some u) (hs : numP yy = some st) (hbk : bookL u st = l) :
    Calls Tryz.prog 42 #[.pointer (some ⟨rb,0,none⟩),.string ⟨l.toArray⟩] w (RdTook (.bool true) w0 ps rb (.int .i64 u) (.slice a1 n1 k1) (.slice a2 n2 k2) (.slice a3 n3 k3) (.slice a4 n4 k4) (.slice a5 n5 k5) (.int .i64 st) v7 1 []):=by
  obtain ⟨R,hR⟩ : ∃ R,RdTook (.bool true) w0 ps rb (.int .i64 u) (.slice a1 n1 k1) (.slice a2 n2 k2) (.slice a3 n3 k3) (.slice a4 n4 k4) (.slice a5 n5 k5) (.int .i64 st) v7 1 [] = R:=⟨_,rfl⟩
  rw [hR]
  have HRR:=keep hR
  have HEE:=keep he
  have HNU:=keep (show xx.length ≤ 100000 ∧ yy.length ≤ 100000 ∧ numP xx = some u ∧ numP yy = some st from ⟨hx,hy,hu,hs⟩)
  have HBK:=keep (congrArg (fun l : List UInt8 => (⟨l.toArray⟩ : ByteArray)) hbk)
  have hwn : ([98,111,111,107] :: [xx,yy]).length ≤ 1000:=by simp
  clear hR hx hy hu hs hbk
  obtain ⟨x,hxq⟩ : ∃ x : List UInt8,[98,111,111,107] = x:=⟨_,rfl⟩
  rw [hxq] at hsp hwn
  have HXQ:=keep hxq
  clear hxq
  obtain ⟨h1,h2,a0,b0,i0,c0,h3,h4,h5,h6,h7⟩:=h
  have H:=Lib.hid (h7.drop (kVar rb 89 [.int .i64 p0,.slice a1 n1 k1,.slice a2 n2 k2,.slice a3 n3 k3,.slice a4 n4 k4,.slice a5 n5 k5,.int .i64 s0,v7,.int .i64 0,.slice a0 lo.length c0,.bool false] :: ps) (by intro y hy; simp at hy ⊢; rcases hy with h | h <;> simp [h]))
  clear h3 h4 h5 h6 h7
  obtain ⟨n0,hn0⟩ : ∃ n,lo.length = n:=⟨_,rfl⟩
  rw [hn0] at H
  clear hn0
  have HFA:=keep h2
  have HRB:=keep h1
  have HE:=keep he
  have HSP:=keep hsp
  have HWN:=keep hwn
  clear h1 h2 he hsp hwn
  have HSL:=keep (Split32 l w (by omega) (HE.out.below H.out.bel))
  obtain ⟨S,hS⟩ : ∃ S : ByteArray,⟨l.toArray⟩ = S:=⟨_,rfl⟩
  rw [HSP.out,hS] at HSL
  rw [hS]
  have HSS:=keep hS
  clear hS
  have F:=H.out.sees
  simp only [sees,kVar,cellsAt,Nat.reduceAdd] at F
  obtain ⟨⟨⟨z0,f0⟩,c_0,c_1,c_2,c_3,c_4,c_5,c_6,c_7,c_8,c_9,c_10,-⟩,-⟩:=F
  have hlt : rb < w.heap.size:=z0
  have HLT:=keep hlt
  clear hlt
  go_enter Tryz.func42,Tryz.ntmps42
  go_wp2_with fail
  refine HSL.out.mono ?_
  rintro e w1 ⟨rfl,hw⟩
  have HSZ:=keep (show rb < w.heap.size ∧ w0.heap.size ≤ w.heap.size from ⟨HLT.out,H.out.bel.size⟩)
  have H1:=Lib.hid ((H.out.alloc w.heap.size 9 (strsV (x :: [xx,yy])) rfl).drop (kVar rb 89 [.int .i64 p0,.slice a1 n1 k1,.slice a2 n2 k2,.slice a3 n3 k3,.slice a4 n4 k4,.slice a5 n5 k5,.int .i64 s0,v7,.int .i64 0,.slice a0 n0 c0,.bool false] :: kBlk w.heap.size 9 (strsV (x :: [xx,yy])) :: ps) (by intro y hy; simp at hy ⊢; rcases hy with h | h | h <;> simp [h]))
  rw [← hw] at H1
  clear H z0 f0 c_0 c_1 c_2 c_3 c_4 c_5 c_6 c_7 c_8 c_9 c_10
  obtain ⟨sb,hsb⟩ : ∃ sb,w.heap.size = sb:=⟨_,rfl⟩
  rw [hsb] at H1 HSZ
  have HSB:=keep hsb
  clear hw
  rw [hsb]
  clear hsb
  have F:=H1.out.sees
  simp only [sees,kVar,cellsAt,Nat.reduceAdd] at F
  obtain ⟨⟨⟨z0,f0⟩,c_0,c_1,c_2,c_3,c_4,c_5,c_6,c_7,c_8,c_9,c_10,-⟩,-⟩:=F
  have hfar : ∀ y ∈ kBlk sb 9 (strsV (x :: [xx,yy])) :: ps,y.far (some rb):=by
    intro y hy
    rcases List.mem_cons.1 hy with rfl | hy
    · show some sb ≠ some rb
      have:=HSZ.out.1
      simp; omega
    · exact HFA.out y hy
  obtain ⟨m,hm⟩ : ∃ m,(x :: [xx,yy]).length = m:=⟨_,rfl⟩
  have hm1 : m ≤ 1000 ∧ 0 < m:=by have:=HWN.out; have h9 : (x :: [xx,yy]).length = ([xx,yy]).length + 1:=rfl; omega
  rw [hm]
  have H2:=Lib.hid ((H1.out.set_ (i:=9) (u:=.slice (some ⟨sb,0,none⟩) m m) HRB.out hfar).set_ (i:=10) (u:=.bool false) HRB.out hfar)
  simp only [List.set_cons_zero,List.set_cons_succ] at H2
  have HM:=keep (And.intro hm hm1)
  clear hfar hm hm1
  go_upto_region 2 with fail
  generalize ((w1.setCell ⟨rb,9,none⟩ (.slice (some ⟨sb,0,none⟩) m m)).setCell ⟨rb,10,none⟩ (.bool false)) = W2 at H2 ⊢
  clear H1 z0 f0 c_0 c_1 c_2 c_3 c_4 c_5 c_6 c_7 c_8 c_9 c_10
  have F:=H2.out.sees
  simp only [sees,kVar,cellsAt,Nat.reduceAdd] at F
  obtain ⟨⟨⟨z0,f0⟩,c_0,c_1,c_2,c_3,c_4,c_5,c_6,c_7,c_8,c_9,c_10,-⟩,-⟩:=F
  have hmm:=@run_makeMap Tryz.prog
  have g1:=kd_1 rb
  have g2:=kd_2 rb
  have g3:=kd_3 rb
  have g4:=kd_4 rb
  have g5:=kd_5 rb
  have g6:=kd_6 rb
  have g7:=kd_7 rb
  go_upto_region 9 with fail
  clear hmm g1 g2 g3 g4 g5 g6 g7
  have HR:=keep (show Rd w0 (kMap W2.heap.size (kindsEs rb) 7 :: ps) rb (.int .i64 p0) (.slice a1 n1 k1) (.slice a2 n2 k2) (.slice a3 n3 k3) (.slice a4 n4 k4) (.slice a5 n5 k5) (.int .i64 s0) (v7) 0 (x :: [xx,yy]) (W2.alloc (.map (kindsEs rb) 7)) from by
    have hlt : rb < W2.heap.size:=z0
    refine ⟨HRB.out,?_,some ⟨sb,0,none⟩,sb,0,m,by have:=HSZ.out.1; omega,Nat.le_of_eq HM.out.1,by have:=HM.out.2; omega,fun _ => rfl,?_⟩
    · intro y hy
      rcases List.mem_cons.1 hy with rfl | hy
      · show some W2.heap.size ≠ some rb
        simp; omega
      · exact HFA.out y hy
    · rw [HM.out.1]
      have h:=H2.out.alloc_obj (.map (kindsEs rb) 7)
      refine ⟨h.bel,fun y hy => ?_⟩
      rcases List.mem_cons.1 hy with rfl | hy
      · exact h.all _ (List.mem_cons_self ..)
      rcases List.mem_cons.1 hy with rfl | hy
      · have hq : Blk (W2.alloc (.map (kindsEs rb) 7)) sb 9 (strsV (x :: [xx,yy])).toArray:=h.all (kBlk sb 9 (strsV (x :: [xx,yy]))) (List.mem_cons_of_mem _ (List.mem_cons_self ..))
        exact ⟨hq.lt,from_at _ 0 (cellsAt_of _ _ _ _ hq)⟩
      rcases List.mem_cons.1 hy with rfl | hy
      · exact heap_of_alloc W2 _
      · exact h.all _ (List.mem_cons_of_mem _ (List.mem_cons_of_mem _ hy)))
  obtain ⟨mb,hmb⟩ : ∃ k,W2.heap.size = k:=⟨_,rfl⟩
  rw [hmb] at HR ⊢
  obtain ⟨W3,hW3⟩ : ∃ W,W2.alloc (.map (kindsEs rb) 7) = W:=⟨_,rfl⟩
  rw [hW3] at HR
  first | rw [hW3] | (rw [show W2.alloc (.map #[{ key:=.string { data:=#[98,111,111,107] },val:=.agg #[.int .i64 1,.func (.func 75) #[.pointer (some ⟨rb,0,none⟩)] #[]],born:=0 },{ key:=.string { data:=#[99,101,108,108] },val:=.agg #[.int .i64 2,.func (.func 76) #[.pointer (some ⟨rb,0,none⟩)] #[]],born:=1 },{ key:=.string { data:=#[114,105,103,104,116] },val:=.agg #[.int .i64 3,.func (.func 77) #[.pointer (some ⟨rb,0,none⟩)] #[]],born:=2 },{ key:=.string { data:=#[114,101,108,101,97,115,101] },val:=.agg #[.int .i64 4,.func (.func 78) #[.pointer (some ⟨rb,0,none⟩)] #[]],born:=3 },{ key:=.string { data:=#[101,118,101,110,116] },val:=.agg #[.int .i64 5,.func (.func 79) #[.pointer (some ⟨rb,0,none⟩)] #[]],born:=4 },{ key:=.string { data:=#[115,104,111,119,110] },val:=.agg #[.int .i64 6,.func (.func 80) #[.pointer (some ⟨rb,0,none⟩)] #[]],born:=5 },{ key:=.string { data:=#[114,117,110] },val:=.agg #[.int .i64 7,.func (.func 81) #[.pointer (some ⟨rb,0,none⟩)] #[]],born:=6 }] 7) = W3 from hW3])
  clear H2 hmb hW3 z0 f0 c_0 c_1 c_2 c_3 c_4 c_5 c_6 c_7 c_8 c_9 c_10
  go_wp2_with fail
  refine (rd_word w0 _ rb _ _ _ _ _ _ _ _ _ x ([xx,yy]) _ HR.out).mono ?_
  rintro e w5 ⟨rfl,h5⟩
  clear HR
  obtain ⟨-,-,a,b,i,c,h3,h4,h5',h6,h7⟩:=h5
  have HG:=keep (show b ≠ rb ∧ ([xx,yy]).length ≤ c ∧ c ≤ 1000000 ∧ (([xx,yy]) ≠ [] → a = some ⟨b,i,none⟩) from ⟨h3,h4,h5',h6⟩)
  have H5:=Lib.hid h7
  clear h3 h4 h5' h6 h7
  have hmp : w5.heap[mb]? = some (.map (kindsEs rb) 7):=H5.out.all (kMap mb (kindsEs rb) 7) (by simp)
  have hlk:=look_ok (i:=0) _ _ _ _ kd_map kd_key hmp (.string ⟨x.toArray⟩) (.agg #[.int .i64 1,.func (.func 75) #[.pointer (some ⟨rb,0,none⟩)] #[]]) (by simp [MapKept.IsKey]) (by rw [← HXQ.out]; rfl)
  obtain ⟨X,hX⟩ : ∃ X : ByteArray,⟨x.toArray⟩ = X:=⟨_,rfl⟩
  rw [hX] at hlk ⊢
  clear hX
  obtain ⟨n,hn⟩ : ∃ n,([xx,yy]).length = n:=⟨_,rfl⟩
  rw [hn] at H5
  have HN:=keep hn
  clear hn
  have F:=H5.out.sees
  simp only [sees,kVar,cellsAt,Nat.reduceAdd] at F
  obtain ⟨⟨⟨z0,f0⟩,c_0,c_1,c_2,c_3,c_4,c_5,c_6,c_7,c_8,c_9,c_10,-⟩,-⟩:=F
  have hlt : rb < w5.heap.size:=z0
  have HKB:=keep hlt
  clear hlt
  go_upto_region 11 with fail
  clear hlk hmp
  have H6:=Lib.hid ((H5.out.alloc w5.heap.size 120 [.int .i64 1,.func (.func 75) #[.pointer (some ⟨rb,0,none⟩)] #[]] rfl).drop (kVar rb 89 [.int .i64 p0,.slice a1 n1 k1,.slice a2 n2 k2,.slice a3 n3 k3,.slice a4 n4 k4,.slice a5 n5 k5,.int .i64 s0,v7,.int .i64 0,.slice a n c,.bool false] :: kBlk w5.heap.size 120 [.int .i64 1,.func (.func 75) #[.pointer (some ⟨rb,0,none⟩)] #[]] :: kCells b i (strsV ([xx,yy])) :: kMap mb (kindsEs rb) 7 :: ps) (by intro y hy; simp at hy ⊢; rcases hy with h | h | h | h | h <;> simp [h]))
  obtain ⟨kb,hkb⟩ : ∃ k,w5.heap.size = k:=⟨_,rfl⟩
  generalize (w5.alloc (.cells #[.int .i64 1,.func (.func 75) #[.pointer (some ⟨rb,0,none⟩)] #[]] 120)) = W6 at H6 ⊢
  rw [hkb] at H6 HKB ⊢
  clear hkb
  obtain ⟨qs,hqs⟩ : ∃ q,kCells b i (strsV ([xx,yy])) :: kMap mb (kindsEs rb) 7 :: ps = q:=⟨_,rfl⟩
  rw [hqs] at H6
  have HQS:=keep hqs
  clear hqs H5 z0 f0 c_0 c_1 c_2 c_3 c_4 c_5 c_6 c_7 c_8 c_9 c_10
  have F21:=H6.out.sees
  simp only [sees,kBlk,kVar,cellsAt,Nat.reduceAdd] at F21
  obtain ⟨⟨⟨z0,fz0⟩,c0_0,c0_1,c0_2,c0_3,c0_4,c0_5,c0_6,c0_7,c0_8,c0_9,c0_10,-⟩,⟨z1,c1_0,c1_1,-⟩,-⟩:=F21
  refine wp_region_held_drew (S:=fun W => Ok w0 (kVar (rb) 89 [.int .i64 p0,.slice a1 n1 k1,.slice a2 n2 k2,.slice a3 n3 k3,.slice a4 n4 k4,.slice a5 n5 k5,.int .i64 s0,v7,.int .i64 0,.slice a n c,.bool false] :: kBlk (kb) 120 [.int .i64 1,.func (.func 75) #[.pointer (some ⟨rb,0,none⟩)] #[]] :: qs) W) (by kernel_rfl) H6.out.drew (fun hHeld => ?_)
  refine wpAnyH_take (i:=0) (v:=?vx21_0) rfl (by kernel_rfl) (by kernel_rfl) (by kernel_rfl) (fun _ _ _ h => h) (Or.inl ⟨by rfl,?hyx21_0⟩) (by assumption) ?restx21_0
  case hyx21_0 => (intro w hSw; have F:=Ok.sees hSw; clear hSw; simp only [sees,kBlk,kVar,cellsAt,Nat.reduceAdd] at F; go_simp; try with_reducible rfl)
  try simp only [Act.put,List.setIfInBounds_toArray,List.set_cons_zero,List.set_cons_succ,List.getElem_toArray,List.getElem_cons_zero]
  refine wpAnyH_take (i:=1) (v:=?vx22_1) rfl (by kernel_rfl) (by kernel_rfl) (by kernel_rfl) (fun _ _ _ h => h) (Or.inl ⟨by rfl,?hyx22_1⟩) (by assumption) ?restx22_1
  case hyx22_1 => (intro w hSw; have F:=Ok.sees hSw; clear hSw; simp only [sees,kBlk,kVar,cellsAt,Nat.reduceAdd] at F; go_simp; try with_reducible rfl)
  try simp only [Act.put,List.setIfInBounds_toArray,List.set_cons_zero,List.set_cons_succ,List.getElem_toArray,List.getElem_cons_succ,List.getElem_cons_zero]
  refine wpAnyH_take (i:=2) (v:=?vx23_2) rfl (by kernel_rfl) (by kernel_rfl) (by kernel_rfl) (fun _ _ _ h => h) (Or.inl ⟨by rfl,?hyx23_2⟩) (by assumption) ?restx23_2
  case hyx23_2 => (intro w hSw; have F:=Ok.sees hSw; clear hSw; simp only [sees,kBlk,kVar,cellsAt,Nat.reduceAdd] at F; go_simp; try with_reducible rfl)
  try simp only [Act.put,List.setIfInBounds_toArray,List.set_cons_zero,List.set_cons_succ,List.getElem_toArray,List.getElem_cons_succ,List.getElem_cons_zero]
  refine wpAnyH_take (i:=3) (v:=?vx24_3) rfl (by kernel_rfl) (by kernel_rfl) (by kernel_rfl) (fun _ _ _ h => h) (Or.inl ⟨by rfl,?hyx24_3⟩) (by assumption) ?restx24_3
  case hyx24_3 => (intro w hSw; have F:=Ok.sees hSw; clear hSw; simp only [sees,kBlk,kVar,cellsAt,Nat.reduceAdd] at F; go_simp; try with_reducible rfl)
  try simp only [Act.put,List.setIfInBounds_toArray,List.set_cons_zero,List.set_cons_succ,List.getElem_toArray,List.getElem_cons_succ,List.getElem_cons_zero]
  refine wpAnyH_take (i:=4) (v:=?vx25_4) rfl (by kernel_rfl) (by kernel_rfl) (by kernel_rfl) (fun _ _ _ h => h) (Or.inl ⟨by rfl,?hyx25_4⟩) (by assumption) ?restx25_4
  case hyx25_4 => (intro w hSw; have F:=Ok.sees hSw; clear hSw; simp only [sees,kBlk,kVar,cellsAt,Nat.reduceAdd] at F; go_simp; try with_reducible rfl)
  try simp only [Act.put,List.setIfInBounds_toArray,List.set_cons_zero,List.set_cons_succ,List.getElem_toArray,List.getElem_cons_succ,List.getElem_cons_zero]
  refine wpAnyH_take (i:=5) (v:=?vx26_5) rfl (by kernel_rfl) (by kernel_rfl) (by kernel_rfl) (fun _ _ _ h => h) (Or.inl ⟨by rfl,?hyx26_5⟩) (by assumption) ?restx26_5
  case hyx26_5 => (intro w hSw; have F:=Ok.sees hSw; clear hSw; simp only [sees,kBlk,kVar,cellsAt,Nat.reduceAdd] at F; go_simp; try with_reducible rfl)
  try simp only [Act.put,List.setIfInBounds_toArray,List.set_cons_zero,List.set_cons_succ,List.getElem_toArray,List.getElem_cons_succ,List.getElem_cons_zero]
  refine wpAnyH_take (i:=6) (v:=?vx27_6) rfl (by kernel_rfl) (by kernel_rfl) (by kernel_rfl) (fun _ _ _ h => h) (Or.inl ⟨by rfl,?hyx27_6⟩) (by assumption) ?restx27_6
  case hyx27_6 => (intro w hSw; have F:=Ok.sees hSw; clear hSw; simp only [sees,kBlk,kVar,cellsAt,Nat.reduceAdd] at F; go_simp; try with_reducible rfl)
  try simp only [Act.put,List.setIfInBounds_toArray,List.set_cons_zero,List.set_cons_succ,List.getElem_toArray,List.getElem_cons_succ,List.getElem_cons_zero]
  refine wpAnyH_take (i:=7) (v:=?vx28_7) rfl (by kernel_rfl) (by kernel_rfl) (by kernel_rfl) (fun _ _ _ h => h) (Or.inl ⟨by rfl,?hyx28_7⟩) (by assumption) ?restx28_7
  case hyx28_7 => (intro w hSw; have F:=Ok.sees hSw; clear hSw; simp only [sees,kBlk,kVar,cellsAt,Nat.reduceAdd] at F; go_simp; try with_reducible rfl)
  try simp only [Act.put,List.setIfInBounds_toArray,List.set_cons_zero,List.set_cons_succ,List.getElem_toArray,List.getElem_cons_succ,List.getElem_cons_zero]
  refine wpAnyH_take (i:=8) (v:=?vx29_8) rfl (by kernel_rfl) (by kernel_rfl) (by kernel_rfl) (fun _ _ _ h => h) (Or.inl ⟨by rfl,?hyx29_8⟩) (by assumption) ?restx29_8
  case hyx29_8 => (intro w hSw; have F:=Ok.sees hSw; clear hSw; simp only [sees,kBlk,kVar,cellsAt,Nat.reduceAdd] at F; go_simp; try with_reducible rfl)
  try simp only [Act.put,List.setIfInBounds_toArray,List.set_cons_zero,List.set_cons_succ,List.getElem_toArray,List.getElem_cons_succ,List.getElem_cons_zero]
  refine wpAnyH_take (i:=9) (v:=?vx30_9) rfl (by kernel_rfl) (by kernel_rfl) (by kernel_rfl) (fun _ _ _ h => h) (Or.inl ⟨by rfl,?hyx30_9⟩) (by assumption) ?restx30_9
  case hyx30_9 => (intro w hSw; have F:=Ok.sees hSw; clear hSw; simp only [sees,kBlk,kVar,cellsAt,Nat.reduceAdd] at F; go_simp; try with_reducible rfl)
  try simp only [Act.put,List.setIfInBounds_toArray,List.set_cons_zero,List.set_cons_succ,List.getElem_toArray,List.getElem_cons_succ,List.getElem_cons_zero]
  refine wpAnyH_take (i:=10) (v:=?vx31_10) rfl (by kernel_rfl) (by kernel_rfl) (by kernel_rfl) (fun _ _ _ h => h) (Or.inl ⟨by rfl,?hyx31_10⟩) (by assumption) ?restx31_10
  case hyx31_10 => (intro w hSw; have F:=Ok.sees hSw; clear hSw; simp only [sees,kBlk,kVar,cellsAt,Nat.reduceAdd] at F; go_simp; try with_reducible rfl)
  try simp only [Act.put,List.setIfInBounds_toArray,List.set_cons_zero,List.set_cons_succ,List.getElem_toArray,List.getElem_cons_succ,List.getElem_cons_zero]
  refine wpAnyH_take (i:=11) (v:=?vx32_11) rfl (by kernel_rfl) (by kernel_rfl) (by kernel_rfl) (fun _ _ _ h => h) (Or.inl ⟨by rfl,?hyx32_11⟩) (by assumption) ?restx32_11
  case hyx32_11 => (intro w hSw; have F:=Ok.sees hSw; clear hSw; simp only [sees,kBlk,kVar,cellsAt,Nat.reduceAdd] at F; go_simp; try with_reducible rfl)
  try simp only [Act.put,List.setIfInBounds_toArray,List.set_cons_zero,List.set_cons_succ,List.getElem_toArray,List.getElem_cons_succ,List.getElem_cons_zero]
  refine wpAnyH_take (i:=12) (v:=?vx33_12) rfl (by kernel_rfl) (by kernel_rfl) (by kernel_rfl) (fun _ _ _ h => h) (Or.inl ⟨by rfl,?hyx33_12⟩) (by assumption) ?restx33_12
  case hyx33_12 => (intro w hSw; have F:=Ok.sees hSw; clear hSw; simp only [sees,kBlk,kVar,cellsAt,Nat.reduceAdd] at F; go_simp; try with_reducible rfl)
  try simp only [Act.put,List.setIfInBounds_toArray,List.set_cons_zero,List.set_cons_succ,List.getElem_toArray,List.getElem_cons_succ,List.getElem_cons_zero]
  refine wpAnyH_take (i:=13) (v:=?vx34_13) rfl (by kernel_rfl) (by kernel_rfl) (by kernel_rfl) (fun _ _ _ h => h) (Or.inl ⟨by rfl,?hyx34_13⟩) (by assumption) ?restx34_13
  case hyx34_13 => (intro w hSw; have F:=Ok.sees hSw; clear hSw; simp only [sees,kBlk,kVar,cellsAt,Nat.reduceAdd] at F; go_simp; try with_reducible rfl)
  try simp only [Act.put,List.setIfInBounds_toArray,List.set_cons_zero,List.set_cons_succ,List.getElem_toArray,List.getElem_cons_succ,List.getElem_cons_zero]
  refine wpAnyH_take (i:=14) (v:=?vx35_14) rfl (by kernel_rfl) (by kernel_rfl) (by kernel_rfl) (fun _ _ _ h => h) (Or.inl ⟨by rfl,?hyx35_14⟩) (by assumption) ?restx35_14
  case hyx35_14 => (intro w hSw; have F:=Ok.sees hSw; clear hSw; simp only [sees,kBlk,kVar,cellsAt,Nat.reduceAdd] at F; go_simp; try with_reducible rfl)
  try simp only [Act.put,List.setIfInBounds_toArray,List.set_cons_zero,List.set_cons_succ,List.getElem_toArray,List.getElem_cons_succ,List.getElem_cons_zero]
  refine wpAnyH_take (i:=15) (v:=?vx36_15) rfl (by kernel_rfl) (by kernel_rfl) (by kernel_rfl) (fun _ _ _ h => h) (Or.inl ⟨by rfl,?hyx36_15⟩) (by assumption) ?restx36_15
  case hyx36_15 => (intro w hSw; have F:=Ok.sees hSw; clear hSw; simp only [sees,kBlk,kVar,cellsAt,Nat.reduceAdd] at F; go_simp; try with_reducible rfl)
  try simp only [Act.put,List.setIfInBounds_toArray,List.set_cons_zero,List.set_cons_succ,List.getElem_toArray,List.getElem_cons_succ,List.getElem_cons_zero]
  refine wpAnyH_take (i:=16) (v:=?vx37_16) rfl (by kernel_rfl) (by kernel_rfl) (by kernel_rfl) (fun _ _ _ h => h) (Or.inl ⟨by rfl,?hyx37_16⟩) (by assumption) ?restx37_16
  case hyx37_16 => (intro w hSw; have F:=Ok.sees hSw; clear hSw; simp only [sees,kBlk,kVar,cellsAt,Nat.reduceAdd] at F; go_simp; try with_reducible rfl)
  try simp only [Act.put,List.setIfInBounds_toArray,List.set_cons_zero,List.set_cons_succ,List.getElem_toArray,List.getElem_cons_succ,List.getElem_cons_zero]
  refine wpAnyH_take (i:=17) (v:=?vx38_17) rfl (by kernel_rfl) (by kernel_rfl) (by kernel_rfl) (fun _ _ _ h => h) (Or.inl ⟨by rfl,?hyx38_17⟩) (by assumption) ?restx38_17
  case hyx38_17 => (intro w hSw; have F:=Ok.sees hSw; clear hSw; simp only [sees,kBlk,kVar,cellsAt,Nat.reduceAdd] at F; go_simp; try with_reducible rfl)
  try simp only [Act.put,List.setIfInBounds_toArray,List.set_cons_zero,List.set_cons_succ,List.getElem_toArray,List.getElem_cons_succ,List.getElem_cons_zero]
  refine wpAnyH_take (i:=18) (v:=?vx39_18) rfl (by kernel_rfl) (by kernel_rfl) (by kernel_rfl) (fun _ _ _ h => h) (Or.inl ⟨by rfl,?hyx39_18⟩) (by assumption) ?restx39_18
  case hyx39_18 => (intro w hSw; have F:=Ok.sees hSw; clear hSw; simp only [sees,kBlk,kVar,cellsAt,Nat.reduceAdd] at F; go_simp; try with_reducible rfl)
  try simp only [Act.put,List.setIfInBounds_toArray,List.set_cons_zero,List.set_cons_succ,List.getElem_toArray,List.getElem_cons_succ,List.getElem_cons_zero]
  refine wpAnyH_take (i:=19) (v:=?vx40_19) rfl (by kernel_rfl) (by kernel_rfl) (by kernel_rfl) (fun _ _ _ h => h) (Or.inl ⟨by rfl,?hyx40_19⟩) (by assumption) ?restx40_19
  case hyx40_19 => (intro w hSw; have F:=Ok.sees hSw; clear hSw; simp only [sees,kBlk,kVar,cellsAt,Nat.reduceAdd] at F; go_simp; try with_reducible rfl)
  try simp only [Act.put,List.setIfInBounds_toArray,List.set_cons_zero,List.set_cons_succ,List.getElem_toArray,List.getElem_cons_succ,List.getElem_cons_zero]
  refine wpAnyH_done (by kernel_rfl) ?_ _
  clear z0 fz0 c0_0 c0_1 c0_2 c0_3 c0_4 c0_5 c0_6 c0_7 c0_8 c0_9 c0_10 z1 c1_0 c1_1
  clear H6
  have H23:=Lib.hid hHeld
  clear hHeld
  have h:=H23.out
  rw [← HQS.out] at h
  have H8:=Lib.hid (h.drop (kVar rb 89 [.int .i64 p0,.slice a1 n1 k1,.slice a2 n2 k2,.slice a3 n3 k3,.slice a4 n4 k4,.slice a5 n5 k5,.int .i64 s0,v7,.int .i64 0,.slice a n c,.bool false] :: kBlk kb 120 [.int .i64 1,.func (.func 75) #[.pointer (some ⟨rb,0,none⟩)] #[]] :: kCells b i (strsV [xx,yy]) :: ps) (by intro y hy; simp at hy ⊢; rcases hy with h | h | h | h <;> simp [h]))
  clear h H23 
  have F:=H8.out.sees
  simp only [sees,kVar,kBlk,cellsAt,Nat.reduceAdd] at F
  obtain ⟨⟨⟨z0,f0⟩,c_0,c_1,c_2,c_3,c_4,c_5,c_6,c_7,c_8,c_9,c_10,-⟩,⟨z1,d_0,d_1,-⟩,-⟩:=F
  have hfar : ∀ y ∈ kBlk kb 120 [.int .i64 1,.func (.func 75) #[.pointer (some ⟨rb,0,none⟩)] #[]] :: kCells b i (strsV [xx,yy]) :: ps,y.far (some rb):=by
    intro y hy
    rcases List.mem_cons.1 hy with rfl | hy
    · show some kb ≠ some rb
      have:=HKB.out
      simp; omega
    rcases List.mem_cons.1 hy with rfl | hy
    · show some b ≠ some rb
      have:=HG.out.1
      simp; omega
    · exact HFA.out y hy
  have H9:=Lib.hid (H8.out.set_ (i:=8) (u:=.int .i64 1) HRB.out hfar)
  simp only [List.set_cons_zero,List.set_cons_succ] at H9
  clear hfar
  go_upto_region 14 with fail
  obtain ⟨W9,hW9⟩ : ∃ W,(W6.setCell ⟨rb,8,none⟩ (.int .i64 1)).drew = W:=⟨_,rfl⟩
  rw [hW9]
  replace H9 : Hid (Ok w0 (kVar rb 89 [.int .i64 p0,.slice a1 n1 k1,.slice a2 n2 k2,.slice a3 n3 k3,.slice a4 n4 k4,.slice a5 n5 k5,.int .i64 s0,v7,.int .i64 1,.slice a n c,.bool false] :: kBlk kb 120 [.int .i64 1,.func (.func 75) #[.pointer (some ⟨rb,0,none⟩)] #[]] :: kCells b i (strsV [xx,yy]) :: ps) W9):=by rw [← hW9]; exact H9
  clear hW9
  clear H8 z0 f0 c_0 c_1 c_2 c_3 c_4 c_5 c_6 c_7 c_8 c_9 c_10 z1 d_0 d_1
  have F:=H9.out.sees
  simp only [sees,kVar,kBlk,cellsAt,Nat.reduceAdd] at F
  obtain ⟨⟨⟨z0,f0⟩,c_0,c_1,c_2,c_3,c_4,c_5,c_6,c_7,c_8,c_9,c_10,-⟩,⟨z1,d_0,d_1,-⟩,-⟩:=F
  have HR9:=keep (show Rd w0 ps rb (.int .i64 p0) (.slice a1 n1 k1) (.slice a2 n2 k2) (.slice a3 n3 k3) (.slice a4 n4 k4) (.slice a5 n5 k5) (.int .i64 s0) v7 1 [xx,yy] W9 from by
    obtain ⟨h3,h4,h5,h6⟩:=HG.out
    refine ⟨HRB.out,HFA.out,a,b,i,c,h3,h4,h5,h6,?_⟩
    rw [HN.out]
    exact H9.out.drop _ (by intro y hy; simp at hy ⊢; rcases hy with h | h | h <;> simp [h]))
  go_wp2_with fail
  refine (rd_book w0 ps rb p0 s0 a1 n1 k1 a2 n2 k2 a3 n3 k3 a4 n4 k4 a5 n5 k5 v7 1 xx yy [] _ HR9.out HEE.out u st HNU.out.1 HNU.out.2.1 HNU.out.2.2.1 HNU.out.2.2.2).mono ?_
  rintro e w10 ⟨rfl,h10⟩
  clear HR9 H9 z0 f0 c_0 c_1 c_2 c_3 c_4 c_5 c_6 c_7 c_8 c_9 c_10 z1 d_0 d_1
  have H10:=keep h10
  obtain ⟨-,-,a',b',i',c',-,-,-,-,h7⟩:=h10
  have F:=h7.sees
  simp only [sees,kVar,cellsAt,Nat.reduceAdd,List.length_nil] at F
  obtain ⟨⟨⟨z0,f0⟩,c_0,c_1,c_2,c_3,c_4,c_5,c_6,c_7,c_8,c_9,c_10,-⟩,-⟩:=F
  clear h7
  rw [show (⟨(bookL u st).toArray⟩ : ByteArray) = S from HBK.out.trans HSS.out]
  go_wp2_with fail
  rw [← HRR.out]
  exact ⟨rfl,H10.out⟩
end Go.Proofs.YtmalncmdfmoccaaGreatDoor
