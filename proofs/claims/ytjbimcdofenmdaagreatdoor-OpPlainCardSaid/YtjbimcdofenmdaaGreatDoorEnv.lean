/- The shelf of this seat, under its other name. What the library's functions want of its variables: the table of TrailingZeros64, MaxLen, ErrSyntax, ErrRange; kept by whatever grows. The contract of the reference's digits. The contract of the reference's Format. -/
import Derived.Test.YtjbimcdofenmdaaGreatDoorShelf
import Derived.Test.YtjbimcdofenmdaaGreatDoorTz
import Derived.Stop.LaidErr
import Derived.LaidLaws
import Derived.Test.YtjbimcdofenmdaaGreatDoorGrpF
import Derived.Test.YtjbimcdofenmdaaGreatDoorGrpJ

namespace Go.Proofs.YtjbimcdofenmdaaGreatDoor
open Go.RowKit
def Env (w : World) : Prop:=Bru w ∧ (∃ m,w.cell? ⟨2,0,none⟩ = some (.int .i64 m)) ∧ (∃ te pe,w.cell? ⟨5,0,none⟩ = some (.iface te pe)) ∧ ∃ te pe,w.cell? ⟨6,0,none⟩ = some (.iface te pe)
theorem Env.below {w w' : World} (h : Env w) (hb : Below w.heap.size w w') : Env w':=by
  obtain ⟨h1,⟨m,h2⟩,⟨t,p,h3⟩,t',p',h4⟩:=h
  exact ⟨h1.below hb (bru_lt h1),⟨m,cell_step hb h2⟩,⟨t,p,cell_step hb h3⟩,t',p',cell_step hb h4⟩
theorem err_star : "*" ++ "errors.errorString" = "*errors.errorString" := by decide
theorem err_row (u : TypeId) (h : Tryz.prog.typeName? 3 u = some "*errors.errorString") : u = 175 :=
  typeName_ptr_named (nm := "errors.errorString") (by rw [err_star]; kernel_rfl) (by kernel_rfl) (by decide) u (by rw [err_star]; exact h)
theorem err_cells : Tryz.prog.cellsOf 177 = 1:=by kernel_rfl
theorem str_cells : Tryz.prog.cellsOf 9 = 1:=by kernel_rfl
theorem syn_name : Tryz.prog.globalNamed "strconv.ErrSyntax" = some 5 := by kernel_rfl
theorem syn_type : (Tryz.prog.globals[5]?).map (·.type) = some 79:=by kernel_rfl
theorem rng_name : Tryz.prog.globalNamed "strconv.ErrRange" = some 6 := by kernel_rfl
theorem rng_type : (Tryz.prog.globals[6]?).map (·.type) = some 79:=by kernel_rfl
theorem env_of {W : World} {l : List (String × DataW Unit)} (h : laidMetH Tryz.prog l W) (hS : W.ShapedOpen Tryz.prog)
    (hl : l.filter (fun x => x.1 == "math/bits.deBruijn64tab") = [("math/bits.deBruijn64tab", Rows.laid_math_bits_deBruijn64tab)])
    (hs : l.filter (fun x => x.1 == "strconv.ErrSyntax") = [("strconv.ErrSyntax", Rows.laid_strconv_ErrSyntax)])
    (hr : l.filter (fun x => x.1 == "strconv.ErrRange") = [("strconv.ErrRange", Rows.laid_strconv_ErrRange)]) : Env W := by
  have h2 := h.filter (fun x => x.1 == "strconv.ErrSyntax")
  have h3 := h.filter (fun x => x.1 == "strconv.ErrRange")
  rw [hs] at h2
  rw [hr] at h3
  obtain ⟨a1,s1,hv1,_,_,_⟩:=laid_sentinel ((laidMetH_iff ..).1 h2).1 syn_name syn_type Tryz.underlying79 err_row Tryz.underlying175 Tryz.underlying177 rfl rfl Tryz.underlying9 err_cells str_cells
  obtain ⟨a2,s2,hv2,_,_,_⟩:=laid_sentinel ((laidMetH_iff ..).1 h3).1 rng_name rng_type Tryz.underlying79 err_row Tryz.underlying175 Tryz.underlying177 rfl rfl Tryz.underlying9 err_cells str_cells
  refine ⟨bru_of_laid h hl,Tryz.laysM145.s1_3 W hS,⟨_,_,by simpa using World.var?_cell syn_name hv1 0⟩,_,_,by simpa using World.var?_cell rng_name hv2 0⟩
end Go.Proofs.YtjbimcdofenmdaaGreatDoor
namespace Go.Proofs.YtjbimcdofenmdaaGreatDoor
open Go.RowKit
end Go.Proofs.YtjbimcdofenmdaaGreatDoor
namespace Go.Proofs.YtjbimcdofenmdaaGreatDoor
open Go.RowKit
def byt (l : List UInt8) : ByteArray:=⟨l.toArray⟩
theorem byt_eq (l : List UInt8) : (⟨l.toArray⟩ : ByteArray) = byt l:=rfl
theorem byt_45 : (⟨#[45]⟩ : ByteArray) = byt [45]:=rfl
theorem byt_size (l : List UInt8) : (byt l).size = l.length:=rfl
theorem byt_app (a b : List UInt8) : byt a ++ byt b = byt (a ++ b):=by
  unfold byt; apply ByteArray.ext; simp
attribute [local irreducible] wordsF textW gfmtL byt lastS dig2
end Go.Proofs.YtjbimcdofenmdaaGreatDoor
