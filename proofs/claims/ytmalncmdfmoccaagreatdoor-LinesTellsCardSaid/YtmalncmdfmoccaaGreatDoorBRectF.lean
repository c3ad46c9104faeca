/- Contracts of Format, package rect's and the reference's. The contract of the reference's Format. The contracts of the lexer's fail and sign. -/
import Derived.Test.YtmalncmdfmoccaaGreatDoorBRound
import Derived.Test.YtmalncmdfmoccaaGreatDoorBLexJ
import Derived.Test.YtmalncmdfmoccaaGreatDoorBGrpJ
import Derived.Test.YtmalncmdfmoccaaGreatDoorBDpP
import Derived.Test.YtmalncmdfmoccaaGreatDoorBLexP
import Derived.Test.YtmalncmdfmoccaaGreatDoorBVal
import Derived.Lib.Strings
import Derived.Laws.Strings3
import Derived.Deep.DeepCutAuto
namespace Go.Proofs.YtmalncmdfmoccaaGreatDoor
open Go.RowKit
def fmtL (r : R4) : List UInt8:=(formatS r.c1 r.r1).1 ++ (if r.c1 = r.c2 ∧ r.r1 = r.r2 then [] else 58 :: (formatS r.c2 r.r2).1)
def fmtR (r : R4) : List UInt8 × Int:=if checkB r = true then (fmtL r,0) else ([],3)
theorem fmtR_no {r : R4} (h : checkB r = false) : fmtR r = ([],3):=by unfold fmtR; rw [if_neg (by simp [h])]
theorem fmtR_yes {r : R4} (h : checkB r = true) : fmtR r = (fmtL r,0):=by unfold fmtR; rw [if_pos h]
theorem check_valid {a1 a2 a3 a4 : Int} (h : checkB ⟨a1,a2,a3,a4⟩ = true) : validN a1 a2 = true ∧ validN a3 a4 = true:=by
  unfold checkB at h; simp only [Bool.and_eq_true] at h; exact ⟨h.1.1.1,h.1.1.2⟩
theorem format_inj {c r c' r' : Int} (h : validN c r = true) (h' : validN c' r' = true) (e : (formatS c r).1 = (formatS c' r').1) : c = c' ∧ r = r':=by
  have h1:=parse_format c r h
  rw [e,parse_format c' r' h'] at h1
  simp only [Prod.mk.injEq] at h1
  exact ⟨h1.1.symm,h1.2.1.symm⟩
theorem format_len (c r : Int) : (formatS c r).1.length ≤ 3000:=by
  cases hv : validN c r
  · rw [formatS_bad c r hv]; simp
  · have:=validN_parts hv
    rw [formatS_good c r hv]
    have h1:=lettersN_len c.toNat (by omega)
    have h2:=dec_len r.toNat (by omega)
    simp; omega
set_option maxRecDepth 100000 in
set_option maxHeartbeats 4000000 in
theorem rect_Format (a1 a2 a3 a4 : Int) (w : World) (hp : Pow w) :
    Calls Tryz.prog 102 #[.agg #[.int .i64 a1,.int .i64 a2,.int .i64 a3,.int .i64 a4]] w fun e w' => e = .returned (.tuple #[.string ⟨(fmtR ⟨a1,a2,a3,a4⟩).1.toArray⟩,.int .i64 (fmtR ⟨a1,a2,a3,a4⟩).2]) ∧ Below w.heap.size w w':=by
  have hb0 : Below w.heap.size w (w.alloc (.cells #[.int .i64 a1,.int .i64 a2,.int .i64 a3,.int .i64 a4] 49)):=(Below.refl _ _).alloc (Nat.le_refl _) _
  have k0:=Blk.new w 49 #[.int .i64 a1,.int .i64 a2,.int .i64 a3,.int .i64 a4]
  have hz0 : w.heap.size < (w.alloc (.cells #[.int .i64 a1,.int .i64 a2,.int .i64 a3,.int .i64 a4] 49)).heap.size:=by simp
  have HP:=Lib.hid hp
  have HB0:=Lib.hid hb0
  have HK:=Lib.hid k0
  clear hb0 k0 hp
  go_enter Tryz.func102,Tryz.ntmps102
  go_wp2_with fail
  generalize (w.alloc (.cells #[.int .i64 a1,.int .i64 a2,.int .i64 a3,.int .i64 a4] 49)) = W0 at HB0 HK hz0 ⊢
  refine (rect_Check _ _ _ _ _).mono ?_
  rintro e w1 ⟨rfl,hb1⟩
  have k1:=HK.out.below hb1 hz0
  have c0:=k1.cell 0
  have c1:=k1.cell 1
  have c2:=k1.cell 2
  have c3:=k1.cell 3
  simp only [List.getElem?_toArray,List.getElem?_cons_zero,List.getElem?_cons_succ] at c0 c1 c2 c3
  have HB1:=Lib.hid (below_step HB0.out hb1)
  clear hb1 k1 HB0 HK hz0
  have hv1 : checkE ⟨a1,a2,a3,a4⟩ = if checkB ⟨a1,a2,a3,a4⟩ = true then 0 else 3:=rfl
  cases ha : checkB ⟨a1,a2,a3,a4⟩
  · rw [ha] at hv1
    rw [hv1]
    have HA:=Lib.hid (fmtR_no ha)
    clear ha hv1
    go_wp2_with fail
    go_ret2
    exact ⟨by rw [HA.out]; rfl,HB1.out⟩
  · rw [ha] at hv1
    rw [hv1]
    obtain ⟨hva,hvb⟩:=check_valid ha
    have HVA:=Lib.hid hva
    have HVB:=Lib.hid hvb
    have HA:=Lib.hid (fmtR_yes ha)
    clear ha hv1 hva hvb
    go_wp2_with fail
    refine (rect_corners _ _ _ _ _).mono ?_
    rintro e w2 ⟨rfl,hb2⟩
    have HB2:=Lib.hid (below_step HB1.out hb2)
    clear hb2 c0 c1 c2 c3 HB1
    have hb3 : Below w.heap.size w ((w2.alloc (.cells #[.int .i64 a1,.int .i64 a2] 45)).alloc (.cells #[.int .i64 a3,.int .i64 a4] 45)):=(HB2.out.alloc HB2.out.size _).alloc (by have:=HB2.out.size; simp; omega) _
    have K1 : Blk ((w2.alloc (.cells #[.int .i64 a1,.int .i64 a2] 45)).alloc (.cells #[.int .i64 a3,.int .i64 a4] 45)) w2.heap.size 45 #[.int .i64 a1,.int .i64 a2]:=(Blk.new w2 45 #[.int .i64 a1,.int .i64 a2]).alloc _
    have K2 : Blk ((w2.alloc (.cells #[.int .i64 a1,.int .i64 a2] 45)).alloc (.cells #[.int .i64 a3,.int .i64 a4] 45)) (w2.heap.size + 1) 45 #[.int .i64 a3,.int .i64 a4]:=by
      have:=Blk.new (w2.alloc (.cells #[.int .i64 a1,.int .i64 a2] 45)) 45 #[.int .i64 a3,.int .i64 a4]
      simpa using this
    have hz : w2.heap.size + 1 < ((w2.alloc (.cells #[.int .i64 a1,.int .i64 a2] 45)).alloc (.cells #[.int .i64 a3,.int .i64 a4] 45)).heap.size:=by simp
    have HB3:=Lib.hid hb3
    have HK1:=Lib.hid K1
    have HK2:=Lib.hid K2
    clear hb3 K1 K2
    go_wp2_with fail
    generalize ((w2.alloc (.cells #[.int .i64 a1,.int .i64 a2] 45)).alloc (.cells #[.int .i64 a3,.int .i64 a4] 45)) = W4 at HB3 HK1 HK2 hz ⊢
    refine (addr_Format _ _ _ (HP.out.below HB3.out)).mono ?_
    rintro e w5 ⟨rfl,hb⟩
    have k1:=HK1.out.below hb (by omega)
    have k2:=HK2.out.below hb (by omega)
    have c0:=k1.cell 0
    have c1:=k1.cell 1
    simp only [List.getElem?_toArray,List.getElem?_cons_zero,List.getElem?_cons_succ] at c0 c1
    have d0:=k2.cell 0
    have d1:=k2.cell 1
    simp only [List.getElem?_toArray,List.getElem?_cons_zero,List.getElem?_cons_succ] at d0 d1
    have hz5 : w2.heap.size + 1 < w5.heap.size:=by have:=hb.size; omega
    have HB5:=Lib.hid (below_step HB3.out hb)
    clear hb k1 k2 HB3 HK1 HK2 hz
    have hl1:=format_len a1 a2
    generalize hS : (formatS a1 a2).1 = S at hl1 ⊢
    have HS:=Lib.hid hS
    clear hS
    rcases (show (¬ a1 = a3) ∨ (a1 = a3 ∧ ¬ a2 = a4) ∨ (a1 = a3 ∧ a2 = a4) from by omega) with hne | ⟨he,hne⟩ | ⟨he,he2⟩
    · have HF : Hid (fmtL ⟨a1,a2,a3,a4⟩ = S ++ 58 :: (formatS a3 a4).1):=by show _ = _; unfold fmtL; simp only []; rw [if_neg (fun h => hne h.1),HS.out]
      go_wp2_with fail
      refine (addr_Format _ _ _ (HP.out.below HB5.out)).mono ?_
      rintro e w6 ⟨rfl,hb⟩
      have HB6:=Lib.hid (below_step HB5.out hb)
      clear hb
      have hl2:=format_len a3 a4
      generalize hT : (formatS a3 a4).1 = U at hl2 HF ⊢
      have HT:=Lib.hid hT
      clear hT
      go_wp2_with fail
      go_ret2
      exact ⟨by rw [HA.out,HF.out]; simp [bytes_append],HB6.out⟩
    · subst he
      have HF : Hid (fmtL ⟨a1,a2,a1,a4⟩ = S ++ 58 :: (formatS a1 a4).1):=by show _ = _; unfold fmtL; simp only []; rw [if_neg (fun h => hne h.2),HS.out]
      go_wp2_with fail
      refine (addr_Format _ _ _ (HP.out.below HB5.out)).mono ?_
      rintro e w6 ⟨rfl,hb⟩
      have HB6:=Lib.hid (below_step HB5.out hb)
      clear hb
      have hl2:=format_len a1 a4
      generalize hT : (formatS a1 a4).1 = U at hl2 HF ⊢
      have HT:=Lib.hid hT
      clear hT
      go_wp2_with fail
      go_ret2
      exact ⟨by rw [HA.out,HF.out]; simp [bytes_append],HB6.out⟩
    · subst he
      subst he2
      have HF : Hid (fmtL ⟨a1,a2,a1,a2⟩ = S):=by show _ = _; unfold fmtL; simp only []; rw [if_pos (by simp),HS.out,List.append_nil]
      go_wp2_with fail
      go_ret2
      exact ⟨by rw [HA.out,HF.out]; rfl,HB5.out⟩
end Go.Proofs.YtmalncmdfmoccaaGreatDoor
namespace Go.Proofs.YtmalncmdfmoccaaGreatDoor
open Go.RowKit
theorem byt_eq (l : List UInt8) : (⟨l.toArray⟩ : ByteArray) = byt l:=rfl
theorem byt_45 : (⟨#[45]⟩ : ByteArray) = byt [45]:=rfl
theorem byt_size (l : List UInt8) : (byt l).size = l.length:=rfl
theorem byt_app (a b : List UInt8) : byt a ++ byt b = byt (a ++ b):=by
  unfold byt; apply ByteArray.ext; simp
attribute [local irreducible] wordsF textW gfmtL byt lastS dig2
end Go.Proofs.YtmalncmdfmoccaaGreatDoor
namespace Go.Proofs.YtmalncmdfmoccaaGreatDoor
open Go.RowKit
def errR (l : List UInt8) (i : Nat) : Option (Tk × Nat):=(errS l).map fun x => (⟨4,x.1,[],R4.zero,i⟩,x.2)
def signR (l : List UInt8) (i : Nat) : Option (Tk × Nat):=(opS l).map fun x => (⟨x.1,x.2.1,[],R4.zero,i⟩,x.2.2)
def pre (x l : List UInt8) : Prop:=l.take x.length = x
instance (x l : List UInt8) : Decidable (pre x l):=inferInstanceAs (Decidable (l.take x.length = x))
end Go.Proofs.YtmalncmdfmoccaaGreatDoor
