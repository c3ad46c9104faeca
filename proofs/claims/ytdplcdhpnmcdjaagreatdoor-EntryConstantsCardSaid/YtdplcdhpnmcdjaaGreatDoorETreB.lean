/- show.signs: the map of the operators. Contracts of tree.below and tree.fits. -/
import Derived.Test.YtdplcdhpnmcdjaaGreatDoorETg
import Derived.Test.YtdplcdhpnmcdjaaGreatDoorETreA
import Derived.Test.YtdplcdhpnmcdjaaGreatDoorEParK
namespace Go.Proofs.YtdplcdhpnmcdjaaGreatDoor
set_option maxRecDepth 100000
set_option maxHeartbeats 4000000
open Go.RowKit Go.Proofs.Tryz
def lL:Array MapEntry:=#[{ key:=.int .i64 1,val:=.string { data:=#[43] },born:=0 },{ key:=.int .i64 2,val:=.string { data:=#[45] },born:=1 },{ key:=.int .i64 3,val:=.string { data:=#[42] },born:=2 },{ key:=.int .i64 4,val:=.string { data:=#[47] },born:=3 },{ key:=.int .i64 5,val:=.string { data:=#[94] },born:=4 },{ key:=.int .i64 6,val:=.string { data:=#[38] },born:=5 },{ key:=.int .i64 7,val:=.string { data:=#[61] },born:=6 },{ key:=.int .i64 8,val:=.string { data:=#[60,62] },born:=7 },{ key:=.int .i64 9,val:=.string { data:=#[60] },born:=8 },{ key:=.int .i64 10,val:=.string { data:=#[60,61] },born:=9 },{ key:=.int .i64 11,val:=.string { data:=#[62] },born:=10 },{ key:=.int .i64 12,val:=.string { data:=#[62,61] },born:=11 }]
theorem bB:prog.underlying 114=some (.map 2 9):=by kernel_rfl
theorem bA:prog.underlying 2=some (.int .i64):=by kernel_rfl
theorem yU (w:World):(Instr.mapUpdate 114 (.map (some w.heap.size)) (.int .i64 1) (.string { data:=#[43] })).run prog (w.alloc (.map #[] 0))=.ok () (w.alloc (.map #[{ key:=.int .i64 1,val:=.string { data:=#[43] },born:=0 }] 1)) :=
 bb _ _ _ _ bB bA _ _ _ _ (by simp [MapKept.IsKey]) rfl w
theorem yV (w:World):(Instr.mapUpdate 114 (.map (some w.heap.size)) (.int .i64 2) (.string { data:=#[45] })).run prog (w.alloc (.map #[{ key:=.int .i64 1,val:=.string { data:=#[43] },born:=0 }] 1))=.ok () (w.alloc (.map #[{ key:=.int .i64 1,val:=.string { data:=#[43] },born:=0 },{ key:=.int .i64 2,val:=.string { data:=#[45] },born:=1 }] 2)) :=
 bb _ _ _ _ bB bA _ _ _ _ (by simp [MapKept.IsKey]) rfl w
theorem yW (w:World):(Instr.mapUpdate 114 (.map (some w.heap.size)) (.int .i64 3) (.string { data:=#[42] })).run prog (w.alloc (.map #[{ key:=.int .i64 1,val:=.string { data:=#[43] },born:=0 },{ key:=.int .i64 2,val:=.string { data:=#[45] },born:=1 }] 2))=.ok () (w.alloc (.map #[{ key:=.int .i64 1,val:=.string { data:=#[43] },born:=0 },{ key:=.int .i64 2,val:=.string { data:=#[45] },born:=1 },{ key:=.int .i64 3,val:=.string { data:=#[42] },born:=2 }] 3)) :=
 bb _ _ _ _ bB bA _ _ _ _ (by simp [MapKept.IsKey]) rfl w
theorem yX (w:World):(Instr.mapUpdate 114 (.map (some w.heap.size)) (.int .i64 4) (.string { data:=#[47] })).run prog (w.alloc (.map #[{ key:=.int .i64 1,val:=.string { data:=#[43] },born:=0 },{ key:=.int .i64 2,val:=.string { data:=#[45] },born:=1 },{ key:=.int .i64 3,val:=.string { data:=#[42] },born:=2 }] 3))=.ok () (w.alloc (.map #[{ key:=.int .i64 1,val:=.string { data:=#[43] },born:=0 },{ key:=.int .i64 2,val:=.string { data:=#[45] },born:=1 },{ key:=.int .i64 3,val:=.string { data:=#[42] },born:=2 },{ key:=.int .i64 4,val:=.string { data:=#[47] },born:=3 }] 4)) :=
 bb _ _ _ _ bB bA _ _ _ _ (by simp [MapKept.IsKey]) rfl w
theorem yY (w:World):(Instr.mapUpdate 114 (.map (some w.heap.size)) (.int .i64 5) (.string { data:=#[94] })).run prog (w.alloc (.map #[{ key:=.int .i64 1,val:=.string { data:=#[43] },born:=0 },{ key:=.int .i64 2,val:=.string { data:=#[45] },born:=1 },{ key:=.int .i64 3,val:=.string { data:=#[42] },born:=2 },{ key:=.int .i64 4,val:=.string { data:=#[47] },born:=3 }] 4))=.ok () (w.alloc (.map #[{ key:=.int .i64 1,val:=.string { data:=#[43] },born:=0 },{ key:=.int .i64 2,val:=.string { data:=#[45] },born:=1 },{ key:=.int .i64 3,val:=.string { data:=#[42] },born:=2 },{ key:=.int .i64 4,val:=.string { data:=#[47] },born:=3 },{ key:=.int .i64 5,val:=.string { data:=#[94] },born:=4 }] 5)) :=
 bb _ _ _ _ bB bA _ _ _ _ (by simp [MapKept.IsKey]) rfl w
theorem yZ (w:World):(Instr.mapUpdate 114 (.map (some w.heap.size)) (.int .i64 6) (.string { data:=#[38] })).run prog (w.alloc (.map #[{ key:=.int .i64 1,val:=.string { data:=#[43] },born:=0 },{ key:=.int .i64 2,val:=.string { data:=#[45] },born:=1 },{ key:=.int .i64 3,val:=.string { data:=#[42] },born:=2 },{ key:=.int .i64 4,val:=.string { data:=#[47] },born:=3 },{ key:=.int .i64 5,val:=.string { data:=#[94] },born:=4 }] 5))=.ok () (w.alloc (.map #[{ key:=.int .i64 1,val:=.string { data:=#[43] },born:=0 },{ key:=.int .i64 2,val:=.string { data:=#[45] },born:=1 },{ key:=.int .i64 3,val:=.string { data:=#[42] },born:=2 },{ key:=.int .i64 4,val:=.string { data:=#[47] },born:=3 },{ key:=.int .i64 5,val:=.string { data:=#[94] },born:=4 },{ key:=.int .i64 6,val:=.string { data:=#[38] },born:=5 }] 6)) :=
 bb _ _ _ _ bB bA _ _ _ _ (by simp [MapKept.IsKey]) rfl w
theorem y9 (w:World):(Instr.mapUpdate 114 (.map (some w.heap.size)) (.int .i64 7) (.string { data:=#[61] })).run prog (w.alloc (.map #[{ key:=.int .i64 1,val:=.string { data:=#[43] },born:=0 },{ key:=.int .i64 2,val:=.string { data:=#[45] },born:=1 },{ key:=.int .i64 3,val:=.string { data:=#[42] },born:=2 },{ key:=.int .i64 4,val:=.string { data:=#[47] },born:=3 },{ key:=.int .i64 5,val:=.string { data:=#[94] },born:=4 },{ key:=.int .i64 6,val:=.string { data:=#[38] },born:=5 }] 6))=.ok () (w.alloc (.map #[{ key:=.int .i64 1,val:=.string { data:=#[43] },born:=0 },{ key:=.int .i64 2,val:=.string { data:=#[45] },born:=1 },{ key:=.int .i64 3,val:=.string { data:=#[42] },born:=2 },{ key:=.int .i64 4,val:=.string { data:=#[47] },born:=3 },{ key:=.int .i64 5,val:=.string { data:=#[94] },born:=4 },{ key:=.int .i64 6,val:=.string { data:=#[38] },born:=5 },{ key:=.int .i64 7,val:=.string { data:=#[61] },born:=6 }] 7)) :=
 bb _ _ _ _ bB bA _ _ _ _ (by simp [MapKept.IsKey]) rfl w
theorem za (w:World):(Instr.mapUpdate 114 (.map (some w.heap.size)) (.int .i64 8) (.string { data:=#[60,62] })).run prog (w.alloc (.map #[{ key:=.int .i64 1,val:=.string { data:=#[43] },born:=0 },{ key:=.int .i64 2,val:=.string { data:=#[45] },born:=1 },{ key:=.int .i64 3,val:=.string { data:=#[42] },born:=2 },{ key:=.int .i64 4,val:=.string { data:=#[47] },born:=3 },{ key:=.int .i64 5,val:=.string { data:=#[94] },born:=4 },{ key:=.int .i64 6,val:=.string { data:=#[38] },born:=5 },{ key:=.int .i64 7,val:=.string { data:=#[61] },born:=6 }] 7))=.ok () (w.alloc (.map #[{ key:=.int .i64 1,val:=.string { data:=#[43] },born:=0 },{ key:=.int .i64 2,val:=.string { data:=#[45] },born:=1 },{ key:=.int .i64 3,val:=.string { data:=#[42] },born:=2 },{ key:=.int .i64 4,val:=.string { data:=#[47] },born:=3 },{ key:=.int .i64 5,val:=.string { data:=#[94] },born:=4 },{ key:=.int .i64 6,val:=.string { data:=#[38] },born:=5 },{ key:=.int .i64 7,val:=.string { data:=#[61] },born:=6 },{ key:=.int .i64 8,val:=.string { data:=#[60,62] },born:=7 }] 8)) :=
 bb _ _ _ _ bB bA _ _ _ _ (by simp [MapKept.IsKey]) rfl w
theorem zb (w:World):(Instr.mapUpdate 114 (.map (some w.heap.size)) (.int .i64 9) (.string { data:=#[60] })).run prog (w.alloc (.map #[{ key:=.int .i64 1,val:=.string { data:=#[43] },born:=0 },{ key:=.int .i64 2,val:=.string { data:=#[45] },born:=1 },{ key:=.int .i64 3,val:=.string { data:=#[42] },born:=2 },{ key:=.int .i64 4,val:=.string { data:=#[47] },born:=3 },{ key:=.int .i64 5,val:=.string { data:=#[94] },born:=4 },{ key:=.int .i64 6,val:=.string { data:=#[38] },born:=5 },{ key:=.int .i64 7,val:=.string { data:=#[61] },born:=6 },{ key:=.int .i64 8,val:=.string { data:=#[60,62] },born:=7 }] 8))=.ok () (w.alloc (.map #[{ key:=.int .i64 1,val:=.string { data:=#[43] },born:=0 },{ key:=.int .i64 2,val:=.string { data:=#[45] },born:=1 },{ key:=.int .i64 3,val:=.string { data:=#[42] },born:=2 },{ key:=.int .i64 4,val:=.string { data:=#[47] },born:=3 },{ key:=.int .i64 5,val:=.string { data:=#[94] },born:=4 },{ key:=.int .i64 6,val:=.string { data:=#[38] },born:=5 },{ key:=.int .i64 7,val:=.string { data:=#[61] },born:=6 },{ key:=.int .i64 8,val:=.string { data:=#[60,62] },born:=7 },{ key:=.int .i64 9,val:=.string { data:=#[60] },born:=8 }] 9)) :=
 bb _ _ _ _ bB bA _ _ _ _ (by simp [MapKept.IsKey]) rfl w
theorem yj (w:World):(Instr.mapUpdate 114 (.map (some w.heap.size)) (.int .i64 10) (.string { data:=#[60,61] })).run prog (w.alloc (.map #[{ key:=.int .i64 1,val:=.string { data:=#[43] },born:=0 },{ key:=.int .i64 2,val:=.string { data:=#[45] },born:=1 },{ key:=.int .i64 3,val:=.string { data:=#[42] },born:=2 },{ key:=.int .i64 4,val:=.string { data:=#[47] },born:=3 },{ key:=.int .i64 5,val:=.string { data:=#[94] },born:=4 },{ key:=.int .i64 6,val:=.string { data:=#[38] },born:=5 },{ key:=.int .i64 7,val:=.string { data:=#[61] },born:=6 },{ key:=.int .i64 8,val:=.string { data:=#[60,62] },born:=7 },{ key:=.int .i64 9,val:=.string { data:=#[60] },born:=8 }] 9))=.ok () (w.alloc (.map #[{ key:=.int .i64 1,val:=.string { data:=#[43] },born:=0 },{ key:=.int .i64 2,val:=.string { data:=#[45] },born:=1 },{ key:=.int .i64 3,val:=.string { data:=#[42] },born:=2 },{ key:=.int .i64 4,val:=.string { data:=#[47] },born:=3 },{ key:=.int .i64 5,val:=.string { data:=#[94] },born:=4 },{ key:=.int .i64 6,val:=.string { data:=#[38] },born:=5 },{ key:=.int .i64 7,val:=.string { data:=#[61] },born:=6 },{ key:=.int .i64 8,val:=.string { data:=#[60,62] },born:=7 },{ key:=.int .i64 9,val:=.string { data:=#[60] },born:=8 },{ key:=.int .i64 10,val:=.string { data:=#[60,61] },born:=9 }] 10)) :=
 bb _ _ _ _ bB bA _ _ _ _ (by simp [MapKept.IsKey]) rfl w
theorem yk (w:World):(Instr.mapUpdate 114 (.map (some w.heap.size)) (.int .i64 11) (.string { data:=#[62] })).run prog (w.alloc (.map #[{ key:=.int .i64 1,val:=.string { data:=#[43] },born:=0 },{ key:=.int .i64 2,val:=.string { data:=#[45] },born:=1 },{ key:=.int .i64 3,val:=.string { data:=#[42] },born:=2 },{ key:=.int .i64 4,val:=.string { data:=#[47] },born:=3 },{ key:=.int .i64 5,val:=.string { data:=#[94] },born:=4 },{ key:=.int .i64 6,val:=.string { data:=#[38] },born:=5 },{ key:=.int .i64 7,val:=.string { data:=#[61] },born:=6 },{ key:=.int .i64 8,val:=.string { data:=#[60,62] },born:=7 },{ key:=.int .i64 9,val:=.string { data:=#[60] },born:=8 },{ key:=.int .i64 10,val:=.string { data:=#[60,61] },born:=9 }] 10))=.ok () (w.alloc (.map #[{ key:=.int .i64 1,val:=.string { data:=#[43] },born:=0 },{ key:=.int .i64 2,val:=.string { data:=#[45] },born:=1 },{ key:=.int .i64 3,val:=.string { data:=#[42] },born:=2 },{ key:=.int .i64 4,val:=.string { data:=#[47] },born:=3 },{ key:=.int .i64 5,val:=.string { data:=#[94] },born:=4 },{ key:=.int .i64 6,val:=.string { data:=#[38] },born:=5 },{ key:=.int .i64 7,val:=.string { data:=#[61] },born:=6 },{ key:=.int .i64 8,val:=.string { data:=#[60,62] },born:=7 },{ key:=.int .i64 9,val:=.string { data:=#[60] },born:=8 },{ key:=.int .i64 10,val:=.string { data:=#[60,61] },born:=9 },{ key:=.int .i64 11,val:=.string { data:=#[62] },born:=10 }] 11)) :=
 bb _ _ _ _ bB bA _ _ _ _ (by simp [MapKept.IsKey]) rfl w
theorem yl (w:World):(Instr.mapUpdate 114 (.map (some w.heap.size)) (.int .i64 12) (.string { data:=#[62,61] })).run prog (w.alloc (.map #[{ key:=.int .i64 1,val:=.string { data:=#[43] },born:=0 },{ key:=.int .i64 2,val:=.string { data:=#[45] },born:=1 },{ key:=.int .i64 3,val:=.string { data:=#[42] },born:=2 },{ key:=.int .i64 4,val:=.string { data:=#[47] },born:=3 },{ key:=.int .i64 5,val:=.string { data:=#[94] },born:=4 },{ key:=.int .i64 6,val:=.string { data:=#[38] },born:=5 },{ key:=.int .i64 7,val:=.string { data:=#[61] },born:=6 },{ key:=.int .i64 8,val:=.string { data:=#[60,62] },born:=7 },{ key:=.int .i64 9,val:=.string { data:=#[60] },born:=8 },{ key:=.int .i64 10,val:=.string { data:=#[60,61] },born:=9 },{ key:=.int .i64 11,val:=.string { data:=#[62] },born:=10 }] 11))=.ok () (w.alloc (.map #[{ key:=.int .i64 1,val:=.string { data:=#[43] },born:=0 },{ key:=.int .i64 2,val:=.string { data:=#[45] },born:=1 },{ key:=.int .i64 3,val:=.string { data:=#[42] },born:=2 },{ key:=.int .i64 4,val:=.string { data:=#[47] },born:=3 },{ key:=.int .i64 5,val:=.string { data:=#[94] },born:=4 },{ key:=.int .i64 6,val:=.string { data:=#[38] },born:=5 },{ key:=.int .i64 7,val:=.string { data:=#[61] },born:=6 },{ key:=.int .i64 8,val:=.string { data:=#[60,62] },born:=7 },{ key:=.int .i64 9,val:=.string { data:=#[60] },born:=8 },{ key:=.int .i64 10,val:=.string { data:=#[60,61] },born:=9 },{ key:=.int .i64 11,val:=.string { data:=#[62] },born:=10 },{ key:=.int .i64 12,val:=.string { data:=#[62,61] },born:=11 }] 12)) :=
 bb _ _ _ _ bB bA _ _ _ _ (by simp [MapKept.IsKey]) rfl w
theorem oo (w:World) :
  Calls prog 90 #[] w fun e w'=>e=.returned (.map (some w.heap.size))∧w'=w.alloc (.map lL 12):=by
 have hmm:=@run_makeMap prog
 have g1:=yU
 have g2:=yV
 have g3:=yW
 have g4:=yX
 have g5:=yY
 have g6:=yZ
 have g7:=y9
 have g8:=za
 have g9:=zb
 have g10:=yj
 have g11:=yk
 have g12:=yl
 go_enter func90,ntmps90
 go_wp2_with fail
 go_ret
 exact ⟨rfl,rfl⟩
theorem vi (op:Int) (h1:1≤op) (h12:op≤12) (r:Nat) (w:World) (hb:w.heap[r]?=some (.map lL 12)):(Instr.lookup 114 (.map (some r)) (.int .i64 op) false).run prog w=.ok (.string ⟨(fA op).toArray⟩) w:=by
 have h:op=1∨op=2∨op=3∨op=4∨op=5∨op=6∨op=7∨op=8∨op=9∨op=10∨op=11∨op=12:=by omega
 rcases h with rfl | rfl | rfl | rfl | rfl | rfl | rfl | rfl | rfl | rfl | rfl | rfl
 ·exact cG (i:=0) _ _ _ _ bB bA hb _ _ (by simp [MapKept.IsKey]) rfl
 ·exact cG (i:=1) _ _ _ _ bB bA hb _ _ (by simp [MapKept.IsKey]) rfl
 ·exact cG (i:=2) _ _ _ _ bB bA hb _ _ (by simp [MapKept.IsKey]) rfl
 ·exact cG (i:=3) _ _ _ _ bB bA hb _ _ (by simp [MapKept.IsKey]) rfl
 ·exact cG (i:=4) _ _ _ _ bB bA hb _ _ (by simp [MapKept.IsKey]) rfl
 ·exact cG (i:=5) _ _ _ _ bB bA hb _ _ (by simp [MapKept.IsKey]) rfl
 ·exact cG (i:=6) _ _ _ _ bB bA hb _ _ (by simp [MapKept.IsKey]) rfl
 ·exact cG (i:=7) _ _ _ _ bB bA hb _ _ (by simp [MapKept.IsKey]) rfl
 ·exact cG (i:=8) _ _ _ _ bB bA hb _ _ (by simp [MapKept.IsKey]) rfl
 ·exact cG (i:=9) _ _ _ _ bB bA hb _ _ (by simp [MapKept.IsKey]) rfl
 ·exact cG (i:=10) _ _ _ _ bB bA hb _ _ (by simp [MapKept.IsKey]) rfl
 exact cG (i:=11) _ _ _ _ bB bA hb _ _ (by simp [MapKept.IsKey]) rfl
set_option maxRecDepth 100000
set_option maxHeartbeats 4000000
def bi (w:World) (a:Option Addr) (s:Nat) (l:List (List Value)):Prop :=
 l≠[]→∃ b o,a=some ⟨b,o,none⟩∧b<w.heap.size∧∀ i r,l[i]?=some r→∀ j v,r[j]?=some v→w.cell? ⟨b,o+(i * s+j),none⟩=some v
theorem bi.below {w w':World} {a:Option Addr} {s:Nat} {l:List (List Value)} (h:bi w a s l) (hb:Below w.heap.size w w'):bi w' a s l:=by
 intro hl
 obtain ⟨b,o,e,h1,h2⟩:=h hl
 exact ⟨b,o,e,Nat.lt_of_lt_of_le h1 hb.size,fun i r hi j v hj=>(hb.cell h1).trans (h2 i r hi j v hj)⟩
def eB (p:Pt):List Value:=[.int .i64 (p.root:Nat),.int .i64 (p.depth:Nat),.bool p.wide]
def ak (l:List Pt):List Value:=l.flatMap eB
theorem lX (n:Nd):(n.kind=4∧aw n=1)∨(n.kind=5∧aw n=1)∨(n.kind=6∧aw n=2)∨(n.kind=7∧aw n=n.n)∨(n.kind≠4∧n.kind≠5∧n.kind≠6∧n.kind≠7∧aw n=0):=by
 unfold aw
 by_cases h4:n.kind=4
 ·exact .inl ⟨h4,if_pos (.inl h4)⟩
 by_cases h5:n.kind=5
 ·exact .inr (.inl ⟨h5,if_pos (.inr h5)⟩)
 rw [if_neg (by omega)]
 by_cases h6:n.kind=6
 ·exact .inr (.inr (.inl ⟨h6,if_pos h6⟩))
 rw [if_neg h6]
 by_cases h7:n.kind=7
 ·exact .inr (.inr (.inr (.inl ⟨h7,if_pos h7⟩)))
 exact .inr (.inr (.inr (.inr ⟨h4,h5,h6,h7,if_neg h7⟩)))
theorem oz (n:Nd) (w:World) :
  Calls prog 138 #[ndA n] w fun e w'=>e=.returned (.int .i64 (aw n:Nat))∧Below w.heap.size w w':=by
 have hc:=lX n
 obtain ⟨nk,vk,vn,vt,⟨r1,r2,r3,r4⟩,op,fn,nn⟩:=n
 obtain ⟨k,hk⟩:=ex (aw ⟨nk,vk,vn,vt,⟨r1,r2,r3,r4⟩,op,fn,nn⟩)
 rw [hk] at hc ⊢
 clear hk
 simp only [] at hc
 unfold ndA du
 simp only []
 have H1:=Lib.hid ((Ok.start w).alloc w.heap.size 39 [.int .u8 nk,.int .u8 vk,.int .i64 vn,.string ⟨vt.toArray⟩,.int .i64 r1,.int .i64 r2,.int .i64 r3,.int .i64 r4,.int .i64 op,.int .u8 fn,.int .i64 nn] rfl)
 rcases hc with ⟨rfl,rfl⟩ | ⟨rfl,rfl⟩ | ⟨rfl,rfl⟩ | ⟨rfl,rfl⟩ | ⟨a4,a5,a6,a7,rfl⟩
 ·go_enter func138,ntmps138
  go_wp2_with fail
  go_ret
  exact ⟨rfl,H1.out.bel⟩
 ·go_enter func138,ntmps138
  go_wp2_with fail
  go_ret
  exact ⟨rfl,H1.out.bel⟩
 ·go_enter func138,ntmps138
  go_wp2_with fail
  go_ret
  exact ⟨rfl,H1.out.bel⟩
 ·go_enter func138,ntmps138
  go_wp2_with fail
  go_ret
  exact ⟨rfl,H1.out.bel⟩
 have b4:((nk:Int) == 4)=false:=by simp; omega
 have b5:((nk:Int) == 5)=false:=by simp; omega
 have b6:((nk:Int) == 6)=false:=by simp; omega
 have b7:((nk:Int) == 7)=false:=by simp; omega
 clear a4 a5 a6 a7
 go_enter func138,ntmps138
 go_wp2_with fail
 go_ret
 exact ⟨rfl,H1.out.bel⟩
theorem pZ (t:List Nd) (n:Nd) (l:List Pt) (i:Nat) (h:i<l.length):ek t n i (l.drop i)=(d8 t n i l[i] && ek t n (i+1) (l.drop (i+1))):=by
 rw [List.drop_eq_getElem_cons h]
 rfl
theorem oA (ts:List (List Value)) (t:List Nd) (n:Nd) (l:List Pt) (ta la:Option Addr) (tc lc:Nat) (w:World) (hts:ts.length=t.length) (hkd:∀ (i:Nat) (q:Nd),t[i]?=some q→∃ r:List Value,ts[i]?=some r∧r[0]?=some (.int .u8 (q.kind:Nat))) (ht:bi w ta 11 ts) (hl:bi w la 3 (l.map eB)) (_htl:t.length≤1000) (hll:l.length≤1000) (hroot:∀ p∈l,p.root<t.length) (hfn:n.kind=7→1≤n.fn∧n.fn≤50) :
  Calls prog 139 #[.slice ta t.length tc,ndA n,.slice la l.length lc] w fun e w'=>e=.returned (.bool (ek t n 0 l))∧Below w.heap.size w w':=by
 have HR:=keep hroot
 have HT:=keep ht
 have HTS:=keep hts
 have HKD:=keep hkd
 clear hts hkd
 have HLR:=keep hl
 have HFN:=keep hfn
 clear hroot ht hl hfn
 obtain ⟨tl,htl2⟩:=ex (t.length)
 obtain ⟨ll,hll2⟩:=ex (l.length)
 rw [htl2]
 rw [hll2] at hll ⊢
 have HTL:=keep htl2
 have HLL:=keep hll2
 clear htl2 hll2
 obtain ⟨nd,hnd⟩:=ex (n)
 have HND:=keep hnd
 obtain ⟨nk,vk,vn,vt,⟨r1,r2,r3,r4⟩,op,fn,nn⟩:=n
 clear hnd
 have HN:=keep (show ndA ⟨nk,vk,vn,vt,⟨r1,r2,r3,r4⟩,op,fn,nn⟩=.agg #[.int .u8 nk,.int .u8 vk,.int .i64 vn,.string ⟨vt.toArray⟩,.int .i64 r1,.int .i64 r2,.int .i64 r3,.int .i64 r4,.int .i64 op,.int .u8 fn,.int .i64 nn] from rfl)
 unfold ndA du
 simp only []
 obtain ⟨FF,hFF⟩:∃ FF:Nat→List Pt→Bool,FF=ek t ⟨nk,vk,vn,vt,⟨r1,r2,r3,r4⟩,op,fn,nn⟩:=⟨_,rfl⟩
 have HFF:=keep hFF
 rw [← hFF]
 clear hFF
 simp only [] at HFN
 have H1:=Lib.hid ((Ok.start w).alloc w.heap.size 39 [.int .u8 nk,.int .u8 vk,.int .i64 vn,.string ⟨vt.toArray⟩,.int .i64 r1,.int .i64 r2,.int .i64 r3,.int .i64 r4,.int .i64 op,.int .u8 fn,.int .i64 nn] rfl)
 obtain ⟨V,hV⟩:=ex (FF 0 l)
 rw [hV]
 have HV:=keep hV
 clear hV
 go_enter func139,ntmps139
 go_wp2_with fail
 generalize (w.alloc (.cells #[.int .u8 nk,.int .u8 vk,.int .i64 vn,.string ⟨vt.toArray⟩,.int .i64 r1,.int .i64 r2,.int .i64 r3,.int .i64 r4,.int .i64 op,.int .u8 fn,.int .i64 nn] 39))=W2 at H1 ⊢
 go_loopw [13] (fun iv wr=>∃ i:Nat,i≤ll∧iv=.int .i64 (i:Int)∧ao (FF i (l.drop i)=V)∧Hid (Ok w [ac (w.heap.size) 39 [.int .u8 nk,.int .u8 vk,.int .i64 vn,.string ⟨vt.toArray⟩,.int .i64 r1,.int .i64 r2,.int .i64 r3,.int .i64 r4,.int .i64 op,.int .u8 fn,.int .i64 nn]] wr)) (fun iv _=>ll - (intOf iv).toNat)
 case atStart=>exact ⟨0,Nat.zero_le _,rfl,HV,H1⟩
 case round =>
  clear H1 HV
  obtain ⟨i,hi,rfl,HK,HW⟩:=hrel
  obtain ⟨wp,rfl⟩:∃ wp:World,wp=wr:=⟨_,rfl⟩
  by_cases hlt:(i:Int)<ll
  ·have hil:i<l.length:=by rw [HLL.out]; omega
   have HIL:=keep hil
   have hstep:=HK.out
   rw [HFF.out,pZ _ _ _ _ hil,← HFF.out] at hstep
   obtain ⟨p,hp⟩:=ex (l[i])
   rw [hp] at hstep
   have hpm:p∈l:=by rw [← hp]; exact List.getElem_mem _
   have hroot:=HR.out p hpm
   obtain ⟨lb,lo,hla,hlb,hlcell⟩:=HLR.out (by intro e; have h9:=congrArg List.length e; rw [List.length_map] at h9; simp only [List.length_nil] at h9; omega)
   have hlc:=hlcell i (eB p) (by rw [List.getElem?_map,List.getElem?_eq_getElem hil,hp]; rfl)
   obtain ⟨tb,tz,hta,htb,htcell⟩:=HT.out (by intro e; have h9:=congrArg List.length e; rw [HTS.out] at h9; simp only [List.length_nil] at h9; omega)
   obtain ⟨q,hq⟩:=ex (t[p.root])
   obtain ⟨rq,hrq,hrq0⟩:=HKD.out p.root q (by rw [List.getElem?_eq_getElem hroot,hq])
   have htc:=htcell p.root rq hrq 0 (.int .u8 (q.kind:Nat)) hrq0
   have hkat:lz t p.root=q.kind:=by unfold lz; rw [List.getElem?_eq_getElem hroot,hq]; rfl
   subst hla hta
   obtain ⟨pr,pd,pw⟩:=p
   simp only [] at htc hkat hroot
   have hbel:=HW.out.bel
   have hl0:=(hbel.cell hlb).trans (hlc 0 (.int .i64 (pr:Nat)) rfl)
   have hl1:=(hbel.cell hlb).trans (hlc 1 (.int .i64 (pd:Nat)) rfl)
   have hl2:=(hbel.cell hlb).trans (hlc 2 (.bool pw) rfl)
   have ht0:=(hbel.cell htb).trans htc
   simp only [Nat.add_zero] at hl0 ht0
   have hlbw:lb<wp.heap.size:=Nat.lt_of_lt_of_le hlb hbel.size
   have htbw:tb<wp.heap.size:=Nat.lt_of_lt_of_le htb hbel.size
   have hprt:(pr:Int)<tl:=by have:=HTL.out; omega
   obtain ⟨kq,hkq⟩:=ex (q.kind)
   rw [hkq] at ht0 hkat
   have HST:=keep hstep
   have HKAT:=keep hkat
   have H1:=Lib.hid (((HW.out.add (ae lb (lo+i * 3) [.int .i64 (pr:Nat),.int .i64 (pd:Nat),.bool pw]) ⟨hlbw,by simpa [ag] using hl0,by simpa [ag,Nat.add_assoc] using hl1,by simpa [ag,Nat.add_assoc] using hl2,trivial⟩).add (ae tb (tz+pr * 11) [.int .u8 (kq:Nat)]) ⟨htbw,by simpa [ag] using ht0,trivial⟩))
   clear hil hstep hp hpm hlcell hlc htcell hq htc hkat hbel hl0 hl1 hl2 ht0 hlbw htbw hlb htb hkq HW
   have F3:=sE H1
   go_upto_region 4 with fail
   clear F3
   have H4:=Lib.hid (H1.out.alloc wp.heap.size 167 [.int .i64 (pr:Nat),.int .i64 (pd:Nat),.bool pw] rfl)
   clear H1
   generalize (wp.alloc (.cells #[.int .i64 (pr:Nat),.int .i64 (pd:Nat),.bool pw] 167))=W5 at H4 ⊢
   have F6:=sE H4
   by_cases h7:nk=7
   ·have h7b:((nk:Int) == 7)=true:=by rw [h7]; rfl
    have hfn:=HFN.out h7
    obtain ⟨hf1,hf2⟩:=hfn
    obtain ⟨wi,hwi⟩:=ex (cE fn i)
    have HWI:=keep hwi
    clear hwi
    obtain ⟨rl,hrl⟩:=ex (decide (46≤fn∧fn≤50))
    have HRL:=keep hrl
    clear hrl
    have HV7:=keep (show d8 t ⟨nk,vk,vn,vt,⟨r1,r2,r3,r4⟩,op,fn,nn⟩ i ⟨pr,pd,pw⟩=(!(pw && !wi) && !(rl && decide (kq≠2∧kq≠3))) by unfold d8 lx yi; simp only [h7,HWI.out,HRL.out,HKAT.out,decide_true,Bool.true_and])
    clear h7
    go_wp2_with fail
    refine (iC fn i _ hf1 hf2).mono ?_
    rintro e w9 ⟨rfl,hw⟩
    obtain rfl:W5=w9:=hw.symm
    rw [HWI.out]
    cases hpw:(pw && !wi)
    ·have hpw2:pw=false∨wi=true:=by cases pw <;> cases wi <;> simp at hpw ⊢
     rcases hpw2 with rfl | rfl
     ·clear hpw
      go_wp2_with fail
      refine (dh fn _).mono ?_
      rintro e w10 ⟨rfl,hw⟩
      obtain rfl:W5=w10:=hw.symm
      rw [HRL.out]
      cases rl
      ·go_wp2_with fail
       go_roundw
       case rel=>exact ⟨i+1,by omega,by go_num,keep (by have h9:=HST.out; rw [show d8 t _ i _=true by rw [HV7.out]; simp,Bool.true_and] at h9; exact h9),H4.out.drop _ (by simp)⟩
       case measure=>simp [intOf]; omega
      by_cases k2:kq=2
      ·have k2b:((kq:Int) != 2)=false:=by rw [k2]; rfl
       have KK:=keep k2
       clear k2
       go_wp2_with fail
       go_roundw
       case rel=>exact ⟨i+1,by omega,by go_num,keep (by have h9:=HST.out; rw [show d8 t _ i _=true by rw [HV7.out]; simp [KK.out],Bool.true_and] at h9; exact h9),H4.out.drop _ (by simp)⟩
       case measure=>simp [intOf]; omega
      have k2b:((kq:Int) != 2)=true:=by simp; omega
      by_cases k3:kq=3
      ·have k3b:((kq:Int) != 3)=false:=by rw [k3]; rfl
       have KK:=keep k3
       clear k3 k2
       go_wp2_with fail
       go_roundw
       case rel=>exact ⟨i+1,by omega,by go_num,keep (by have h9:=HST.out; rw [show d8 t _ i _=true by rw [HV7.out]; simp [KK.out],Bool.true_and] at h9; exact h9),H4.out.drop _ (by simp)⟩
       case measure=>simp [intOf]; omega
      have k3b:((kq:Int) != 3)=true:=by simp; omega
      have KK:=keep (And.intro k2 k3)
      clear k2 k3
      go_wp2_with fail
      go_ret
      exact ⟨by have h9:=HST.out; rw [show d8 t _ i _=false by rw [HV7.out]; simp [KK.out.1,KK.out.2],Bool.false_and] at h9; rw [← h9]; rfl,H4.out.bel⟩
     clear hpw
     cases pw
     ·go_wp2_with fail
      refine (dh fn _).mono ?_
      rintro e w10 ⟨rfl,hw⟩
      obtain rfl:W5=w10:=hw.symm
      rw [HRL.out]
      cases rl
      ·go_wp2_with fail
       go_roundw
       case rel=>exact ⟨i+1,by omega,by go_num,keep (by have h9:=HST.out; rw [show d8 t _ i _=true by rw [HV7.out]; simp,Bool.true_and] at h9; exact h9),H4.out.drop _ (by simp)⟩
       case measure=>simp [intOf]; omega
      by_cases k2:kq=2
      ·have k2b:((kq:Int) != 2)=false:=by rw [k2]; rfl
       have KK:=keep k2
       clear k2
       go_wp2_with fail
       go_roundw
       case rel=>exact ⟨i+1,by omega,by go_num,keep (by have h9:=HST.out; rw [show d8 t _ i _=true by rw [HV7.out]; simp [KK.out],Bool.true_and] at h9; exact h9),H4.out.drop _ (by simp)⟩
       case measure=>simp [intOf]; omega
      have k2b:((kq:Int) != 2)=true:=by simp; omega
      by_cases k3:kq=3
      ·have k3b:((kq:Int) != 3)=false:=by rw [k3]; rfl
       have KK:=keep k3
       clear k3 k2
       go_wp2_with fail
       go_roundw
       case rel=>exact ⟨i+1,by omega,by go_num,keep (by have h9:=HST.out; rw [show d8 t _ i _=true by rw [HV7.out]; simp [KK.out],Bool.true_and] at h9; exact h9),H4.out.drop _ (by simp)⟩
       case measure=>simp [intOf]; omega
      have k3b:((kq:Int) != 3)=true:=by simp; omega
      have KK:=keep (And.intro k2 k3)
      clear k2 k3
      go_wp2_with fail
      go_ret
      exact ⟨by have h9:=HST.out; rw [show d8 t _ i _=false by rw [HV7.out]; simp [KK.out.1,KK.out.2],Bool.false_and] at h9; rw [← h9]; rfl,H4.out.bel⟩
     go_wp2_with fail
     refine (dh fn _).mono ?_
     rintro e w10 ⟨rfl,hw⟩
     obtain rfl:W5=w10:=hw.symm
     rw [HRL.out]
     cases rl
     ·go_wp2_with fail
      go_roundw
      case rel=>exact ⟨i+1,by omega,by go_num,keep (by have h9:=HST.out; rw [show d8 t _ i _=true by rw [HV7.out]; simp,Bool.true_and] at h9; exact h9),H4.out.drop _ (by simp)⟩
      case measure=>simp [intOf]; omega
     by_cases k2:kq=2
     ·have k2b:((kq:Int) != 2)=false:=by rw [k2]; rfl
      have KK:=keep k2
      clear k2
      go_wp2_with fail
      go_roundw
      case rel=>exact ⟨i+1,by omega,by go_num,keep (by have h9:=HST.out; rw [show d8 t _ i _=true by rw [HV7.out]; simp [KK.out],Bool.true_and] at h9; exact h9),H4.out.drop _ (by simp)⟩
      case measure=>simp [intOf]; omega
     have k2b:((kq:Int) != 2)=true:=by simp; omega
     by_cases k3:kq=3
     ·have k3b:((kq:Int) != 3)=false:=by rw [k3]; rfl
      have KK:=keep k3
      clear k3 k2
      go_wp2_with fail
      go_roundw
      case rel=>exact ⟨i+1,by omega,by go_num,keep (by have h9:=HST.out; rw [show d8 t _ i _=true by rw [HV7.out]; simp [KK.out],Bool.true_and] at h9; exact h9),H4.out.drop _ (by simp)⟩
      case measure=>simp [intOf]; omega
     have k3b:((kq:Int) != 3)=true:=by simp; omega
     have KK:=keep (And.intro k2 k3)
     clear k2 k3
     go_wp2_with fail
     go_ret
     exact ⟨by have h9:=HST.out; rw [show d8 t _ i _=false by rw [HV7.out]; simp [KK.out.1,KK.out.2],Bool.false_and] at h9; rw [← h9]; rfl,H4.out.bel⟩
    have hpw2:pw=true∧wi=false:=by cases pw <;> cases wi <;> simp at hpw ⊢
    obtain ⟨rfl,rfl⟩:=hpw2
    clear hpw
    go_wp2_with fail
    go_ret
    exact ⟨by have h9:=HST.out; rw [show d8 t _ i _=false by rw [HV7.out]; simp,Bool.false_and] at h9; rw [← h9]; rfl,H4.out.bel⟩
   have h7b:((nk:Int) == 7)=false:=by simp; omega
   have HV7:=keep (show d8 t ⟨nk,vk,vn,vt,⟨r1,r2,r3,r4⟩,op,fn,nn⟩ i ⟨pr,pd,pw⟩=!pw by unfold d8 lx; simp [h7])
   clear h7
   cases pw
   ·go_wp2_with fail
    go_roundw
    case rel=>exact ⟨i+1,by omega,by go_num,keep (by have h9:=HST.out; rw [show d8 t _ i _=true by rw [HV7.out]; rfl,Bool.true_and] at h9; exact h9),H4.out.drop _ (by simp)⟩
    case measure=>simp [intOf]; omega
   go_wp2_with fail
   go_ret
   exact ⟨by have h9:=HST.out; rw [show d8 t _ i _=false by rw [HV7.out]; rfl,Bool.false_and] at h9; rw [← h9]; rfl,H4.out.bel⟩
  obtain rfl:i=ll:=by omega
  have hend:=HK.out
  rw [HFF.out,List.drop_of_length_le (by rw [HLL.out]; exact Nat.le_refl _)] at hend
  have HE:=keep (show V=true from hend.symm)
  clear hend
  go_wp2_with fail
  go_ret
  exact ⟨by rw [HE.out]; rfl,HW.out.bel⟩
