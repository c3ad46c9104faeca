/- What the library's functions want of its variables: the table of TrailingZeros64, MaxLen, ErrSyntax, ErrRange; kept by whatever grows. -/
import Derived.Test.YtjjdlhbbkkkjnaaDoorTz
import Derived.Test.YtjjdlhbbkkkjnaaDoorShelfG
import Derived.Stop.LaidErr
import Derived.LaidLaws
namespace Go.Proofs.YtjjdlhbbkkkjnaaDoor
open Go.RowKit

/-- the library's variables are as its functions want them -/
def Env (w : World) : Prop := Bru w ∧ (∃ m, w.cell? ⟨1, 0, none⟩ = some (.int .i64 m)) ∧ (∃ te pe, w.cell? ⟨2, 0, none⟩ = some (.iface te pe)) ∧ ∃ te pe, w.cell? ⟨3, 0, none⟩ = some (.iface te pe)
theorem Env.below {w w' : World} (h : Env w) (hb : Below w.heap.size w w') : Env w' := by
  obtain ⟨h1, ⟨m, h2⟩, ⟨t, p, h3⟩, t', p', h4⟩ := h
  exact ⟨h1.below hb (bru_lt h1), ⟨m, cell_step hb h2⟩, ⟨t, p, cell_step hb h3⟩, t', p', cell_step hb h4⟩
theorem err_star : "*" ++ "errors.errorString" = "*errors.errorString" := by decide
theorem err_row (u : TypeId) (h : Tryd.prog.typeName? 3 u = some "*errors.errorString") : u = 113 :=
  typeName_ptr_named (nm := "errors.errorString") (by rw [err_star]; kernel_rfl) (by kernel_rfl) (by decide) u (by rw [err_star]; exact h)
theorem err_cells : Tryd.prog.cellsOf 115 = 1 := by kernel_rfl
theorem str_cells : Tryd.prog.cellsOf 9 = 1 := by kernel_rfl
theorem syn_name : Tryd.prog.globalNamed "strconv.ErrSyntax" = some 2 := by kernel_rfl
theorem syn_type : (Tryd.prog.globals[2]?).map (·.type) = some 61 := by kernel_rfl
theorem rng_name : Tryd.prog.globalNamed "strconv.ErrRange" = some 3 := by kernel_rfl
theorem rng_type : (Tryd.prog.globals[3]?).map (·.type) = some 61 := by kernel_rfl
theorem env_of {W : World} {l : List (String × DataW Unit)} (h : laidMetH Tryd.prog l W) (hS : W.ShapedOpen Tryd.prog)
    (hl : l.filter (fun x => x.1 == "math/bits.deBruijn64tab") = [("math/bits.deBruijn64tab", Rows.laid_math_bits_deBruijn64tab)])
    (hs : l.filter (fun x => x.1 == "strconv.ErrSyntax") = [("strconv.ErrSyntax", Rows.laid_strconv_ErrSyntax)])
    (hr : l.filter (fun x => x.1 == "strconv.ErrRange") = [("strconv.ErrRange", Rows.laid_strconv_ErrRange)]) : Env W := by
  have h2 := h.filter (fun x => x.1 == "strconv.ErrSyntax")
  have h3 := h.filter (fun x => x.1 == "strconv.ErrRange")
  rw [hs] at h2
  rw [hr] at h3
  obtain ⟨a1, s1, hv1, _, _, _⟩ := laid_sentinel ((laidMetH_iff ..).1 h2).1 syn_name syn_type Tryd.underlying61 err_row Tryd.underlying113 Tryd.underlying115 rfl rfl Tryd.underlying9 err_cells str_cells
  obtain ⟨a2, s2, hv2, _, _, _⟩ := laid_sentinel ((laidMetH_iff ..).1 h3).1 rng_name rng_type Tryd.underlying61 err_row Tryd.underlying113 Tryd.underlying115 rfl rfl Tryd.underlying9 err_cells str_cells
  refine ⟨bru_of_laid h hl, Tryd.laysM145.s1_3 W hS, ⟨_, _, by simpa using World.var?_cell syn_name hv1 0⟩, _, _, by simpa using World.var?_cell rng_name hv2 0⟩
end Go.Proofs.YtjjdlhbbkkkjnaaDoor
