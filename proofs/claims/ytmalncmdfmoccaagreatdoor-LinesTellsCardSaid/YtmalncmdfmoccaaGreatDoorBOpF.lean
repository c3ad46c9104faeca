/- What the library's functions want of its variables; joins; the contract of op.ranged. Contracts of group.user and group.Parse: what gparseG says. Conditions: the library's variables (Env); a text of fewer than 2^32 - 15 bytes. The contracts of op.must and of the methods that read a line. -/
import Derived.Test.YtmalncmdfmoccaaGreatDoorBLexJ
import Derived.Test.YtmalncmdfmoccaaGreatDoorBOpP
import Derived.Test.YtmalncmdfmoccaaGreatDoorBGrpF
import Derived.Test.YtmalncmdfmoccaaGreatDoorBGrpM
import Derived.Test.YtmalncmdfmoccaaGreatDoorBGrpJ
import Derived.Test.YtmalncmdfmoccaaGreatDoorBParP
import Derived.Lib.AtoiErrMem
import Derived.Test.YtmalncmdfmoccaaGreatDoorBParA
namespace Go.Proofs.YtmalncmdfmoccaaGreatDoor
open Go.RowKit
def Env6 (w : World) : Prop:=Pow w ∧ Env w
theorem Env6.below {w w' : World} (h : Env6 w) (hb : Below w.heap.size w w') : Env6 w':=⟨h.1.below hb,h.2.below hb⟩
theorem Itoa6 (n : Int) (h : i64B n) (w : World) (he : Env6 w) :
    Calls Tryz.prog 51 #[.int .i64 n] w fun e w' => e = .returned (.string ⟨(Lib.itoa n).toArray⟩) ∧ Below w.heap.size w w' :=
  (Tryz.strconv_Itoa n h.1 h.2 w he.1).mono fun _ _ ⟨he,k,os,hw⟩ => ⟨he,hw ▸ Lib.below_grow _ _ (Nat.le_refl _) k os⟩
theorem itoa_len (n : Int) (h : i64B n) : (Lib.itoa n).length ≤ 30:=by
  have key : ∀ (k u : Nat),u < 10 ^ (k + 1) → (Lib.decDigits u).length ≤ k + 1:=by
    intro k
    induction k with
    | zero => intro u hu; rw [Lib.decDigits,dif_pos (by simpa using hu)]; simp
    | succ k ih =>
      intro u hu
      rw [Lib.decDigits]
      split
      · simp
      · have:=ih (u / 10) (by rw [Nat.pow_succ] at hu; omega)
        simp; omega
  obtain ⟨h1,h2⟩:=h
  unfold Lib.itoa
  split
  · have:=key 19 n.natAbs (by omega)
    simp; omega
  · have:=key 19 n.toNat (by omega)
    omega
theorem comma_len (r : R4) (h1 : i64B r.c1) (h2 : i64B r.r1) (h3 : i64B r.c2) (h4 : i64B r.r2) : (commaL r).length ≤ 200:=by
  have e : commaL r = Lib.itoa r.c1 ++ 44 :: (Lib.itoa r.r1 ++ 44 :: (Lib.itoa r.c2 ++ 44 :: Lib.itoa r.r2)):=by
    simp [commaL,Lib.join,List.intercalate]
  have:=itoa_len _ h1
  have:=itoa_len _ h2
  have:=itoa_len _ h3
  have:=itoa_len _ h4
  rw [e]; simp; omega
end Go.Proofs.YtmalncmdfmoccaaGreatDoor
namespace Go.Proofs.YtmalncmdfmoccaaGreatDoor
open Go.RowKit
theorem world_cases {w w' : World} {e : Nat} (h : w' = w ∨ ∃ t,w' = Lib.bytesWorld w e t) : Below w.heap.size w w':=by
  rcases h with rfl | ⟨t,rfl⟩
  · exact Below.refl _ _
  · exact Lib.bytesWorld_below _ _ _
attribute [local irreducible] readG wordG userW rightW runN gfmtL byt
end Go.Proofs.YtmalncmdfmoccaaGreatDoor
namespace Go.Proofs.YtmalncmdfmoccaaGreatDoor
open Go.RowKit
theorem Atoi_yes (l : List UInt8) (v : Int) (w : World) (hs : l.length ≤ 4294967296) (h : numP l = some v) :
    Calls Tryz.prog 173 #[.string ⟨l.toArray⟩] w fun e w' => e = .returned (.tuple #[.int .i64 v,.nilIface]) ∧ Below w.heap.size w w':=by
  unfold numP at h
  rcases hv : Lib.atoiAll l with x | _ | _
  · rw [hv] at h
    obtain rfl:=Option.some.inj h
    exact (Tryz.strconv_Atoi_ok ⟨l.toArray⟩ (Nat.le_trans hs (by decide)) x hv w).mono fun _ _ ⟨he,hw⟩ => ⟨he,world_cases hw⟩
  · rw [hv] at h; cases h
  · rw [hv] at h; cases h
theorem numP_i64 {l : List UInt8} {v : Int} (h : numP l = some v) : i64B v:=by
  unfold numP at h
  rcases hv : Lib.atoiAll l with x | _ | _
  · rw [hv] at h
    obtain rfl:=Option.some.inj h
    exact Lib.atoiAll_bounds hv
  · rw [hv] at h; cases h
  · rw [hv] at h; cases h
theorem snd_len (l : List UInt8) : (sndW l).length ≤ l.length:=by
  unfold sndW Lib.cut; split <;> simp
def Ln (w0 : World) (ps : List Pers) (lb : Nat) (l : List UInt8) (W : World) : Prop :=
  w0.heap.size ≤ lb ∧ (∀ x ∈ ps,x.far (some lb)) ∧ l.length ≤ 100000 ∧ Ok w0 (kVar lb 200 [.string ⟨l.toArray⟩] :: ps) W
section
variable {w0 w w' : World} {ps : List Pers} {lb : Nat} {l : List UInt8}
theorem Ln.below (h : Ln w0 ps lb l w) (hb : Below w.heap.size w w') : Ln w0 ps lb l w':=⟨h.1,h.2.1,h.2.2.1,h.2.2.2.below hb⟩
theorem Ln.bel (h : Ln w0 ps lb l w) : Below w0.heap.size w0 w:=h.2.2.2.bel
theorem Ln.next (h : Ln w0 ps lb l w) : Ln w0 ps lb (sndW l) (w.setCell ⟨lb,0,none⟩ (.string ⟨(sndW l).toArray⟩)) :=
  ⟨h.1,h.2.1,Nat.le_trans (snd_len l) h.2.2.1,h.2.2.2.set_ (i:=0) (u:=.string ⟨(sndW l).toArray⟩) h.1 h.2.1⟩
end
end Go.Proofs.YtmalncmdfmoccaaGreatDoor
