/- Contracts of the reference's From, To and Check of ranges, and of package rect's all. Contracts of package rect's Meet and of its reference. Contracts of package rect's rest, Minus and Area, and of the reference's. Contracts of Minus, package rect's and the reference's, and of the kit's EqualRects. Contracts of Has, One and Inside, package rect's and the reference's. -/
import Derived.Test.YtjbimcdofenmdaaGreatDoorKRectW
import Derived.Deep.AppendLies
import Derived.Deep.Onto
import Derived.Deep.RegionHeld3
namespace Go.Proofs.YtjbimcdofenmdaaGreatDoor
open Go.RowKit
theorem ref_From (c1 r1 c2 r2 : Int) (w : World) :
    Calls Tryz.prog 80 #[.agg #[.int .i64 c1,.int .i64 r1,.int .i64 c2,.int .i64 r2]] w fun e w' => e = .returned (.agg #[.int .i64 c1,.int .i64 r1]) ∧ Below w.heap.size w w':=by
  go_enter Tryz.func80,Tryz.ntmps80
  go_wp2
  refine bodyPost_ret (v:=.agg #[.int .i64 c1,.int .i64 r1]) (by simp [results,Tryz.results80,go_sem]) rfl ⟨rfl,?_⟩
  exact ((Below.refl _ _).alloc (Nat.le_refl _) _).alloc (by simp) _
theorem ref_To (c1 r1 c2 r2 : Int) (w : World) :
    Calls Tryz.prog 81 #[.agg #[.int .i64 c1,.int .i64 r1,.int .i64 c2,.int .i64 r2]] w fun e w' => e = .returned (.agg #[.int .i64 c2,.int .i64 r2]) ∧ Below w.heap.size w w':=by
  go_enter Tryz.func81,Tryz.ntmps81
  go_wp2
  refine bodyPost_ret (v:=.agg #[.int .i64 c2,.int .i64 r2]) (by simp [results,Tryz.results81,go_sem]) rfl ⟨rfl,?_⟩
  exact ((Below.refl _ _).alloc (Nat.le_refl _) _).alloc (by simp) _
set_option maxHeartbeats 2000000 in
theorem ref_Check (c1 r1 c2 r2 : Int) (w : World) :
    Calls Tryz.prog 78 #[.agg #[.int .i64 c1,.int .i64 r1,.int .i64 c2,.int .i64 r2]] w fun e w' => e = .returned (.int .i64 (checkE ⟨c1,r1,c2,r2⟩)) ∧ Below w.heap.size w w':=by
  go_enter Tryz.func78,Tryz.ntmps78
  go_wp2_with fail
  have k0:=Blk.new w 23 #[.int .i64 c1,.int .i64 r1,.int .i64 c2,.int .i64 r2]
  have HB_0 : Hid (Below w.heap.size w (w.alloc (.cells #[.int .i64 c1,.int .i64 r1,.int .i64 c2,.int .i64 r2] 23))):=(Below.refl w.heap.size w).alloc (Nat.le_refl _) _
  generalize (w.alloc (.cells #[.int .i64 c1,.int .i64 r1,.int .i64 c2,.int .i64 r2] 23)) = W0 at k0 HB_0 ⊢
  have a_0:=k0.cell 0
  have b_0:=k0.cell 1
  have c_0:=k0.cell 2
  have d_0:=k0.cell 3
  simp at a_0 b_0 c_0 d_0
  clear k0
  refine (ref_From _ _ _ _ _).mono ?_
  rintro e w_1 ⟨rfl,hb_1⟩
  have a_1:=cell_step hb_1 a_0
  have b_1:=cell_step hb_1 b_0
  have c_1:=cell_step hb_1 c_0
  have d_1:=cell_step hb_1 d_0
  have HB_1:=Lib.hid (below_step HB_0.out hb_1)
  clear hb_1 a_0 b_0 c_0 d_0
  go_wp2_with fail
  refine (ref_Valid _ _ _).mono ?_
  rintro e w_2 ⟨rfl,hb_2⟩
  have a_2:=cell_step hb_2 a_1
  have b_2:=cell_step hb_2 b_1
  have c_2:=cell_step hb_2 c_1
  have d_2:=cell_step hb_2 d_1
  have HB_2:=Lib.hid (below_step HB_1.out hb_2)
  clear hb_2 a_1 b_1 c_1 d_1
  cases hv1 : validN c1 r1
  · have HE:=Lib.hid (checkE_no (r:=⟨c1,r1,c2,r2⟩) (by simp [checkB,hv1]))
    clear hv1
    go_wp2_with fail
    go_ret
    exact ⟨by rw [HE.out]; rfl,HB_2.out⟩
  · have HV1:=Lib.hid hv1
    clear hv1
    go_wp2_with fail
    refine (ref_To _ _ _ _ _).mono ?_
    rintro e w_103 ⟨rfl,hb_103⟩
    have a_103:=cell_step hb_103 a_2
    have b_103:=cell_step hb_103 b_2
    have c_103:=cell_step hb_103 c_2
    have d_103:=cell_step hb_103 d_2
    have HB_103:=Lib.hid (below_step HB_2.out hb_103)
    clear hb_103 a_2 b_2 c_2 d_2
    go_wp2_with fail
    refine (ref_Valid _ _ _).mono ?_
    rintro e w_104 ⟨rfl,hb_104⟩
    have a_104:=cell_step hb_104 a_103
    have b_104:=cell_step hb_104 b_103
    have c_104:=cell_step hb_104 c_103
    have d_104:=cell_step hb_104 d_103
    have HB_104:=Lib.hid (below_step HB_103.out hb_104)
    clear hb_104 a_103 b_103 c_103 d_103
    cases hv2 : validN c2 r2
    · have HE:=Lib.hid (checkE_no (r:=⟨c1,r1,c2,r2⟩) (by simp [checkB,hv2]))
      clear hv2
      go_wp2_with fail
      go_ret
      exact ⟨by rw [HE.out]; rfl,HB_104.out⟩
    · by_cases h1 : c1 ≤ c2
      · by_cases h2 : r1 ≤ r2
        · have HE:=Lib.hid (checkE_yes (r:=⟨c1,r1,c2,r2⟩) (by simp [checkB,HV1.out,hv2,h1,h2]))
          clear hv2
          go_wp2_with fail
          go_ret
          exact ⟨by rw [HE.out]; rfl,HB_104.out⟩
        · have HE:=Lib.hid (checkE_no (r:=⟨c1,r1,c2,r2⟩) (by simp [checkB,h2]))
          clear hv2
          go_wp2_with fail
          go_ret
          exact ⟨by rw [HE.out]; rfl,HB_104.out⟩
      · have HE:=Lib.hid (checkE_no (r:=⟨c1,r1,c2,r2⟩) (by simp [checkB,h1]))
        clear hv2
        go_wp2_with fail
        go_ret
        exact ⟨by rw [HE.out]; rfl,HB_104.out⟩
def rv (r : R4) : Nat → Value
  | 0 => .int .i64 r.c1
  | 1 => .int .i64 r.r1
  | 2 => .int .i64 r.c2
  | _ => .int .i64 r.r2
def IsRects (w : World) (B : Nat) (a : Option Addr) (n : Nat) (f : Nat → R4) : Prop:=IsRows 4 w B a n (fun i j => rv (f i) j)
theorem IsRects.below {w w' : World} {B B' n : Nat} {a : Option Addr} {f : Nat → R4} (h : IsRects w B a n f) (hb : Below B w w') (hB : B ≤ B') : IsRects w' B' a n f:=IsRows.below h hb hB
theorem IsRects.spot {w : World} {B n : Nat} {a : Option Addr} {f : Nat → R4} (h : IsRects w B a n f) (hn : 0 < n) :
    ∃ b off,a = some ⟨b,off,none⟩ ∧ b < B ∧ ∀ i,i < n → (w.cell? ⟨b,off + i * 4,none⟩ = some (.int .i64 (f i).c1) ∧ w.cell? ⟨b,off + i * 4 + 1,none⟩ = some (.int .i64 (f i).r1) ∧ w.cell? ⟨b,off + i * 4 + 2,none⟩ = some (.int .i64 (f i).c2) ∧ w.cell? ⟨b,off + i * 4 + 3,none⟩ = some (.int .i64 (f i).r2)):=by
  obtain ⟨⟨b,off,spot⟩,rfl,hB,hc⟩:=h hn
  have h0:=hc 0 0 hn (by omega)
  have hs : spot = none:=by simpa [Addr.add] using World.cell?_spot h0
  subst hs
  refine ⟨b,off,rfl,hB,fun i hi => ⟨?_,?_,?_,?_⟩⟩
  · have:=hc i 0 hi (by omega); rwa [show (⟨b,off,none⟩ : Addr).add (i * 4 + 0) = ⟨b,off + i * 4,none⟩ from by unfold Addr.add; split <;> simp_all] at this
  · have:=hc i 1 hi (by omega); rwa [show (⟨b,off,none⟩ : Addr).add (i * 4 + 1) = ⟨b,off + i * 4 + 1,none⟩ from by unfold Addr.add; simp; omega] at this
  · have:=hc i 2 hi (by omega); rwa [show (⟨b,off,none⟩ : Addr).add (i * 4 + 2) = ⟨b,off + i * 4 + 2,none⟩ from by unfold Addr.add; simp; omega] at this
  · have:=hc i 3 hi (by omega); rwa [show (⟨b,off,none⟩ : Addr).add (i * 4 + 3) = ⟨b,off + i * 4 + 3,none⟩ from by unfold Addr.add; simp; omega] at this
def allB (f : Nat → R4) : Nat → Bool
  | 0 => true
  | k + 1 => allB f k && checkB (f k)
theorem allB_no (f : Nat → R4) (k : Nat) (h : checkB (f k) = false) : ∀ n,k < n → allB f n = false:=by
  intro n
  induction n with
  | zero => intro h; omega
  | succ n ih =>
    intro hk
    rcases Nat.lt_or_ge k n with h1 | h1
    · simp [allB,ih h1]
    · have : k = n:=by omega
      subst this; simp [allB,h]
theorem allB_iff (f : Nat → R4) (n : Nat) : allB f n = true ↔ ∀ i,i < n → checkB (f i) = true:=by
  induction n with
  | zero => simp [allB]
  | succ n ih =>
    rw [allB,Bool.and_eq_true,ih]
    constructor
    · rintro ⟨h1,h2⟩ i hi
      rcases Nat.lt_or_ge i n with h | h
      · exact h1 i h
      · have : i = n:=by omega
        subst this; exact h2
    · intro h
      exact ⟨fun i hi => h i (by omega),h n (by omega)⟩
end Go.Proofs.YtjbimcdofenmdaaGreatDoor
namespace Go.Proofs.YtjbimcdofenmdaaGreatDoor
section
open Go.RowKit
theorem rects_of_blk {w : World} {b n : Nat} {t : TypeId} {cs : Array Value} (f : Nat → R4) (h : Blk w b t cs) (hc : ∀ i j,i < n → j < 4 → cs[i * 4 + j]? = some (rv (f i) j)) : IsRects w w.heap.size (some ⟨b,0,none⟩) n f:=by
  intro _
  refine ⟨_,rfl,h.lt,fun i j hi hj => ?_⟩
  rw [show (⟨b,0,none⟩ : Addr).add (i * 4 + j) = ⟨b,i * 4 + j,none⟩ from by unfold Addr.add; split <;> simp_all]
  rw [h.cell]; exact hc i j hi hj
def three (a b c : R4) : Nat → R4
  | 0 => a
  | 1 => b
  | _ => c
def rcells (l : List R4) : List Value:=l.flatMap fun r => [.int .i64 r.c1,.int .i64 r.r1,.int .i64 r.c2,.int .i64 r.r2]
theorem rcells_at (l : List R4) (d : R4) : ∀ i j,i < l.length → j < 4 → (rcells l)[i * 4 + j]? = some (rv (l.getD i d) j):=by
  induction l with
  | nil => intro i j h; simp at h
  | cons r l ih =>
    intro i j hi hj
    match i with
    | 0 =>
      rcases (show j = 0 ∨ j = 1 ∨ j = 2 ∨ j = 3 from by omega) with rfl | rfl | rfl | rfl <;> simp [rcells,rv]
    | i + 1 =>
      have:=ih i j (by simpa using hi) hj
      rw [show (i + 1) * 4 + j = (i * 4 + j) + 4 from by omega]
      simpa [rcells,rv] using this
theorem three_all (a b c : R4) : allB (three a b c) 3 = (checkB a && checkB b && checkB c):=by
  simp [allB,three]
theorem meetS_no {a b : R4} (h : meets a b = false) : meetS a b = R4.zero:=by unfold meetS; rw [if_neg (by simp [h])]
theorem meetS_yes {a b : R4} (h : meets a b = true) : meetS a b = meetR a b:=by unfold meetS; rw [if_pos h]
end
section
open Go.RowKit
def restParts (a m : R4) : List R4:=[⟨a.c1,a.r1,a.c2,m.r1 - 1⟩,⟨a.c1,m.r1,m.c1 - 1,m.r2⟩,⟨m.c2 + 1,m.r1,a.c2,m.r2⟩,⟨a.c1,m.r2 + 1,a.c2,a.r2⟩]
def fine (r : R4) : Bool:=decide (r.c1 ≤ r.c2) && decide (r.r1 ≤ r.r2)
def restM (a m : R4) : List R4:=(restParts a m).filter fine
def restL (a b : R4) : List R4:=if meets a b = true then restM a (meetS a b) else [a]
def areaN (r : R4) : Int:=(r.c2 - r.c1 + 1) * (r.r2 - r.r1 + 1)
def areaS (r : R4) : Int × Int:=if checkB r = true then (areaN r,0) else (0,3)
theorem areaS_no {r : R4} (h : checkB r = false) : areaS r = (0,3):=by unfold areaS; rw [if_neg (by simp [h])]
theorem areaS_yes {r : R4} (h : checkB r = true) : areaS r = (areaN r,0):=by unfold areaS; rw [if_pos h]
theorem area_le {r : R4} (h : checkB r = true) : 1 ≤ areaN r ∧ areaN r ≤ 1048576:=by
  have h':=(checkB_iff r).1 h
  unfold areaN
  have h1 : 1 ≤ r.c2 - r.c1 + 1 ∧ r.c2 - r.c1 + 1 ≤ 1024:=by omega
  have h2 : 1 ≤ r.r2 - r.r1 + 1 ∧ r.r2 - r.r1 + 1 ≤ 1024:=by omega
  generalize r.c2 - r.c1 + 1 = x at *
  generalize r.r2 - r.r1 + 1 = y at *
  have h3 : 1 * 1 ≤ x * y:=Int.mul_le_mul h1.1 h2.1 (by omega) (by omega)
  have h4 : x * y ≤ 1024 * 1024:=Int.mul_le_mul h1.2 h2.2 (by omega) (by omega)
  omega
theorem info_rect : (Tryz.prog.info? 23).map (fun i => (i.zero,i.size,i.bytes)) = some (some (.agg #[.int .i64 0,.int .i64 0,.int .i64 0,.int .i64 0]),4,32):=by kernel_rfl
end
section
open Go.RowKit
def minusE (a b : R4) : Int:=if checkB a && checkB b then 0 else 3
def minusL (a b : R4) : List R4:=if checkB a && checkB b then restL a b else []
end
end Go.Proofs.YtjbimcdofenmdaaGreatDoor
namespace Go.Proofs.YtjbimcdofenmdaaGreatDoor
open Go.RowKit
def hasR (r : R4) (c t : Int) : Bool:=decide (r.c1 ≤ c) && decide (c ≤ r.c2) && decide (r.r1 ≤ t) && decide (t ≤ r.r2)
theorem has_cases (a1 a2 a3 a4 c t : Int) (P : Prop) (h1 : ¬ a1 ≤ c → P) (h2 : a1 ≤ c → ¬ c ≤ a3 → P) (h3 : a1 ≤ c → c ≤ a3 → ¬ a2 ≤ t → P) (h4 : a1 ≤ c → c ≤ a3 → a2 ≤ t → ¬ t ≤ a4 → P) (h5 : a1 ≤ c → c ≤ a3 → a2 ≤ t → t ≤ a4 → P) : P:=by
  by_cases x1 : a1 ≤ c
  · by_cases x2 : c ≤ a3
    · by_cases x3 : a2 ≤ t
      · by_cases x4 : t ≤ a4
        · exact h5 x1 x2 x3 x4
        · exact h4 x1 x2 x3 x4
      · exact h3 x1 x2 x3
    · exact h2 x1 x2
  · exact h1 x1
def insideB (a b : R4) : Bool:=checkB a && checkB b && hasR b a.c1 a.r1 && hasR b a.c2 a.r2
theorem inside_meet (a b : R4) : insideB a b = (meets a b && decide (meetS a b = a)):=by
  obtain ⟨a1,a2,a3,a4⟩:=a
  obtain ⟨b1,b2,b3,b4⟩:=b
  rw [Bool.eq_iff_iff]
  unfold insideB meetS meets
  simp only [Bool.and_eq_true,checkB_iff,hasR,decide_eq_true_eq,meetR]
  constructor
  · rintro ⟨⟨⟨h1,h2⟩,h3⟩,h4⟩
    have e : (⟨max a1 b1,max a2 b2,min a3 b3,min a4 b4⟩ : R4) = ⟨a1,a2,a3,a4⟩:=by congr 1 <;> omega
    refine ⟨⟨⟨h1,h2⟩,by omega⟩,?_⟩
    rw [if_pos ⟨⟨h1,h2⟩,by omega⟩,e]
  · rintro ⟨⟨⟨h1,h2⟩,h5⟩,h6⟩
    rw [if_pos ⟨⟨h1,h2⟩,h5⟩] at h6
    simp only [R4.mk.injEq] at h6
    exact ⟨⟨⟨h1,h2⟩,by omega⟩,by omega⟩
end Go.Proofs.YtjbimcdofenmdaaGreatDoor
