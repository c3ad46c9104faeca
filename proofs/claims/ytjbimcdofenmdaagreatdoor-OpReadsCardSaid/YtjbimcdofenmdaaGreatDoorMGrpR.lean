/- The contract of the reference's Format. Plain: operations, and which are well formed. No program stands here. Contracts of the lexer's tests of bytes. The iterator piece of the lexer, and length: how many bytes from a place on pass a test. Plain helpers: a row of bytes of the call's own (as in XAddrC, without the law's capitals). The contract of glyph.Upper. Contracts of dec.digits, dec.signed and of the lexer's next and plain. -/
import Derived.Test.YtjbimcdofenmdaaGreatDoorMAddrW3
import Derived.Test.YtjbimcdofenmdaaGreatDoorMLexP
import Derived.Test.YtjbimcdofenmdaaGreatDoorMMem
import Derived.IntWalk
import Derived.Test.YtjbimcdofenmdaaGreatDoorMAddrP
import Derived.Laws.IdiomStrings
import Derived.Test.YtjbimcdofenmdaaGreatDoorMOk
import Derived.RangeFuncBox
import Derived.RangeFuncNested
import Derived.Lib.Strings
namespace Go.Proofs.YtjbimcdofenmdaaGreatDoor
open Go.RowKit
def byt (l : List UInt8) : ByteArray:=⟨l.toArray⟩
theorem byt_eq (l : List UInt8) : (⟨l.toArray⟩ : ByteArray) = byt l:=rfl
theorem byt_45 : (⟨#[45]⟩ : ByteArray) = byt [45]:=rfl
theorem byt_size (l : List UInt8) : (byt l).size = l.length:=rfl
theorem byt_app (a b : List UInt8) : byt a ++ byt b = byt (a ++ b):=by
 unfold byt; apply ByteArray.ext; simp
theorem byt_empty (T : List UInt8) : (byt T).toList.isEmpty = T.isEmpty:=by
 rw [ByteArray.toList_eq]; rfl
theorem byt_add0 (T x : List UInt8) (h : (byt T).toList.isEmpty = true) : byt T ++ byt x = byt (addW T x):=by
 rw [byt_empty] at h
 have : T = []:=by simpa using h
 subst this
 rw [byt_app]; rfl
theorem byt_add1 (T x : List UInt8) (h : (byt T).toList.isEmpty = false) : byt T ++ ⟨#[44]⟩ ++ byt x = byt (addW T x):=by
 rw [byt_empty] at h
 have : T ≠ []:=by intro e; subst e; cases h
 rw [show (⟨#[44]⟩ : ByteArray) = byt [44] from rfl,byt_app,byt_app,addW,if_neg this]; simp
attribute [local irreducible] wordsF textW gfmtL byt lastS dig2
set_option maxRecDepth 100000 in
set_option maxHeartbeats 4000000 in
theorem ref18_Format (s : Nat) (w : World) (hs : s < 18446744073709551616) : Calls Tryz.prog 34 #[.int .u64 s] w fun e w' => e = .returned (.string (byt (gfmtL s))) ∧ w = w':=by
 have HS:=keep hs
 by_cases h0 : s = 0
 ·subst h0
  have e : byt (gfmtL 0) = ⟨#[45]⟩:=by unfold gfmtL byt; rfl
  rw [e]
  go_enter Tryz.func34,Tryz.ntmps34
  go_wp2_with fail
  refine (ref_all _ _).mono ?_
  rintro e w' ⟨rfl,rfl⟩
  rw [show allR 64 = 18446744073709551615 from by decide,show allE 64 = 0 from by decide]
  go_wp2_with fail
  go_ret
  exact ⟨rfl,rfl⟩
 by_cases h1 : s = 18446744073709551615
 ·subst h1
  have e : byt (gfmtL 18446744073709551615) = ⟨#[42]⟩:=by unfold gfmtL byt; rfl
  rw [e]
  go_enter Tryz.func34,Tryz.ntmps34
  go_wp2_with fail
  refine (ref_all _ _).mono ?_
  rintro e w' ⟨rfl,rfl⟩
  rw [show allR 64 = 18446744073709551615 from by decide,show allE 64 = 0 from by decide]
  go_wp2_with fail
  go_ret
  exact ⟨rfl,rfl⟩
 have e : gfmtL s = textW s 64:=by unfold gfmtL; rw [if_neg h0,if_neg h1]
 rw [e]
 have q0 : ((s : Int) == 0) = false:=by simp; omega
 have q1 : ((s : Int) == 18446744073709551615) = false:=by simp; omega
 go_enter Tryz.func34,Tryz.ntmps34
 go_wp2_with fail
 refine (ref_all _ _).mono ?_
 rintro e w' ⟨rfl,rfl⟩
 rw [show allR 64 = 18446744073709551615 from by decide,show allE 64 = 0 from by decide]
 go_wp2_with fail
 go_loop [5,6] (fun sv uv => ∃ (j : Nat) (B : ByteArray),j ≤ 64 ∧ uv = .int .i64 j ∧ sv = .string B ∧ Keep (byt (textW s j) = B ∧ (wordsF s j).1 ≤ j)) (fun _ uv => 64 - (intOf uv).toNat)
 case atStart => exact ⟨0,_,by omega,rfl,rfl,keep ⟨by unfold textW wordsF byt; rfl,by unfold wordsF; exact Nat.le_refl _⟩⟩
 case round =>
  obtain ⟨j,B,hj,rfl,rfl,HB⟩:=hrel
  by_cases hlt : (j : Int) < 64
  ·go_wp2_with fail
   refine (ref_has s j _ (by omega) (by omega)).mono ?_
   rintro e w' ⟨rfl,rfl⟩
   have hh : hasB s j = s.testBit j:=by simp [hasB]; intro; omega
   rw [Int.toNat_natCast,hh]
   clear hh
   cases hb : s.testBit j
   ·have H1:=keep (wordsF_off s j hb)
    clear hb
    go_wp2_with fail
    go_round
    case rel => exact ⟨j + 1,B,by omega,by go_num,rfl,keep ⟨by rw [← HB.out.1]; unfold textW; rw [H1.out],by rw [H1.out]; have:=HB.out.2; omega⟩⟩
    case measure => simp [intOf]; omega
   ·have H1:=keep hb
    clear hb
    go_wp2_with fail
    go_loop [7] (fun lv => ∃ v : Nat,j ≤ v ∧ v < 64 ∧ lv = .int .i64 v ∧ Keep (∀ i,j < i → i ≤ v → s.testBit i = true)) (fun lv => 64 - (intOf lv).toNat)
    case atStart => exact ⟨j,Nat.le_refl _,by omega,rfl,keep (fun i h1 h2 => by omega)⟩
    case round =>
     obtain ⟨v,hjv,hv,rfl,HV⟩:=hrel
     go_wp2_with fail
     refine (ref_has s (v + 1) _ (by omega) (by omega)).mono ?_
     rintro e w' ⟨rfl,rfl⟩
     have hh : hasB s ((v : Int) + 1) = s.testBit (v + 1):=by
      by_cases c : v + 1 < 64
      ·simp [hasB]; intro; omega
      ·rw [over_bit s (v + 1) HS.out (by omega)]; simp [hasB]; intro; omega
     rw [Int.toNat_natCast,hh]
     clear hh
     cases hb : s.testBit (v + 1)
     ·have H2:=keep hb
      clear hb
      have HV2:=keep (lastS_of s j v HS.out ⟨hjv,HV.out,H2.out⟩)
      have hlen : B.size ≤ 384:=by rw [← HB.out.1]; have:=textW_len s j; rw [byt_size]; omega
      by_cases hl : (v : Int) - j < 2
      ·by_cases hT : B.toList.isEmpty = true
       ·go_wp2_with fail
        refine (ref_digits j (by omega) _).mono ?_
        rintro e w' ⟨rfl,rfl⟩
        generalize hD : (⟨(dig2 j).toArray⟩ : ByteArray) = D
        have hDl : D.size ≤ 2:=by rw [← hD]; exact dig2_len j
        have HD:=keep hD
        clear hD
        go_wp2_with fail
        have H3:=text_one s j H1.out HB.out.2 (by rw [HV2.out]; omega)
        exact ⟨⟨j + 1,_,by omega,by go_num,rfl,keep ⟨by rw [H3.1,← HB.out.1,← HD.out,byt_eq (dig2 j)]; exact (byt_add0 _ _ (by rw [HB.out.1]; exact hT)).symm,H3.2⟩⟩,by simp [intOf]; omega⟩
       ·have hT : B.toList.isEmpty = false:=by simpa using hT
        go_wp2_with fail
        refine (ref_digits j (by omega) _).mono ?_
        rintro e w' ⟨rfl,rfl⟩
        generalize hD : (⟨(dig2 j).toArray⟩ : ByteArray) = D
        have hDl : D.size ≤ 2:=by rw [← hD]; exact dig2_len j
        have HD:=keep hD
        clear hD
        go_wp2_with fail
        have H3:=text_one s j H1.out HB.out.2 (by rw [HV2.out]; omega)
        exact ⟨⟨j + 1,_,by omega,by go_num,rfl,keep ⟨by rw [H3.1,← HB.out.1,← HD.out,byt_eq (dig2 j)]; exact (byt_add1 _ _ (by rw [HB.out.1]; exact hT)).symm,H3.2⟩⟩,by simp [intOf]; omega⟩
      ·by_cases hT : B.toList.isEmpty = true
       ·go_wp2_with fail
        refine (ref_digits j (by omega) _).mono ?_
        rintro e w' ⟨rfl,rfl⟩
        generalize hD : (⟨(dig2 j).toArray⟩ : ByteArray) = D
        have hDl : D.size ≤ 2:=by rw [← hD]; exact dig2_len j
        have HD:=keep hD
        clear hD
        go_wp2_with fail
        refine (ref_digits v (by omega) _).mono ?_
        rintro e w' ⟨rfl,rfl⟩
        generalize hE : (⟨(dig2 v).toArray⟩ : ByteArray) = E
        have hEl : E.size ≤ 2:=by rw [← hE]; exact dig2_len v
        have HE:=keep hE
        clear hE
        go_wp2_with fail
        have H3:=text_run s j H1.out HB.out.2 (by rw [HV2.out]; omega)
        rw [HV2.out] at H3
        refine ⟨⟨v + 1,_,by omega,by go_num,rfl,keep ⟨?_,H3.2⟩⟩,by simp [intOf]; omega⟩
        rw [H3.1,← HB.out.1,← HD.out,← HE.out,← byt_add0 _ _ (by rw [HB.out.1]; exact hT)]
        rw [byt_eq (dig2 j),byt_eq (dig2 v),byt_45]
        simp only [byt_app]
        simp
       ·have hT : B.toList.isEmpty = false:=by simpa using hT
        go_wp2_with fail
        refine (ref_digits j (by omega) _).mono ?_
        rintro e w' ⟨rfl,rfl⟩
        generalize hD : (⟨(dig2 j).toArray⟩ : ByteArray) = D
        have hDl : D.size ≤ 2:=by rw [← hD]; exact dig2_len j
        have HD:=keep hD
        clear hD
        go_wp2_with fail
        refine (ref_digits v (by omega) _).mono ?_
        rintro e w' ⟨rfl,rfl⟩
        generalize hE : (⟨(dig2 v).toArray⟩ : ByteArray) = E
        have hEl : E.size ≤ 2:=by rw [← hE]; exact dig2_len v
        have HE:=keep hE
        clear hE
        go_wp2_with fail
        have H3:=text_run s j H1.out HB.out.2 (by rw [HV2.out]; omega)
        rw [HV2.out] at H3
        refine ⟨⟨v + 1,_,by omega,by go_num,rfl,keep ⟨?_,H3.2⟩⟩,by simp [intOf]; omega⟩
        rw [H3.1,← HB.out.1,← HD.out,← HE.out,← byt_add1 _ _ (by rw [HB.out.1]; exact hT)]
        rw [byt_eq (dig2 j),byt_eq (dig2 v),byt_45]
        simp only [ByteArray.append_assoc,byt_app]
        simp
     ·have hv2 : v + 1 < 64:=by
       rcases Nat.lt_or_ge (v + 1) 64 with c | c
       ·exact c
       ·rw [over_bit s _ HS.out c] at hb; cases hb
      have H2:=keep hb
      clear hb
      go_wp2_with fail
      go_round
      case rel =>
       refine ⟨v + 1,by omega,hv2,by go_num,keep (fun i h1 h2 => ?_)⟩
       rcases Nat.lt_or_ge v i with c | c
       ·obtain rfl : i = v + 1:=by omega
        exact H2.out
       ·exact HV.out i h1 c
      case measure => simp [intOf]; omega
  ·have hje : j = 64:=by omega
   subst hje
   go_wp2_with fail
   go_ret
   exact ⟨by rw [HB.out.1]; rfl,rfl⟩
end Go.Proofs.YtjbimcdofenmdaaGreatDoor
namespace Go.Proofs.YtjbimcdofenmdaaGreatDoor
open Go.RowKit
def i64B (n : Int) : Prop:=-9223372036854775808 ≤ n ∧ n ≤ 9223372036854775807
structure OpV where
 kind : Nat
 user : Int
 rect : R4
 input : List UInt8
 rd : Nat
 wr : Nat
 ow : Nat
 fns : Nat
 tg : Nat
 idx : Int
deriving DecidableEq
def OpV.zero : OpV:=⟨0,0,R4.zero,[],0,0,0,0,0,0⟩
structure OpV.Ok (x : OpV) : Prop where
 kind : x.kind < 256
 user : i64B x.user
 c1 : i64B x.rect.c1
 r1 : i64B x.rect.r1
 c2 : i64B x.rect.c2
 r2 : i64B x.rect.r2
 rd : x.rd < 18446744073709551616
 wr : x.wr < 18446744073709551616
 ow : x.ow < 18446744073709551616
 fns : x.fns < 256
 tg : x.tg < 18446744073709551616
 idx : i64B x.idx
def OpV.V (x : OpV) : Value:=.agg #[.int .u8 x.kind,.int .i64 x.user,.int .i64 x.rect.c1,.int .i64 x.rect.r1,.int .i64 x.rect.c2,.int .i64 x.rect.r2,.string ⟨x.input.toArray⟩,.int .u64 x.rd,.int .u64 x.wr,.int .u64 x.ow,.int .u8 x.fns,.int .u64 x.tg,.int .i64 x.idx]
def usesR (k : Nat) : Bool:=decide (3 ≤ k) && decide (k ≤ 8)
def plainV (x : OpV) : OpV :=
 if 1 ≤ x.kind ∧ x.kind ≤ 10 then
  ⟨x.kind,x.user,if usesR x.kind = true then x.rect else R4.zero,if x.kind = 3 then x.input else [],if x.kind = 7 then x.rd else 0,if x.kind = 7 then x.wr else 0,if x.kind = 7 then x.ow else 0,if x.kind = 8 then x.fns else 0,if x.kind = 8 then x.tg else 0,if x.kind = 9 then x.idx else 0⟩
 else ⟨x.kind,0,R4.zero,[],0,0,0,0,0,0⟩
def textB (l : List UInt8) : Bool:=decide (l.length ≤ 256) && l.all plainB
def goodV (x : OpV) : Prop:=1 ≤ x.kind ∧ x.kind ≤ 10 ∧ plainV x = x ∧ ((x.kind = 3 ∨ x.kind = 6) → x.rect.c1 = x.rect.c2 ∧ x.rect.r1 = x.rect.r2) ∧ textB x.input = true ∧ (x.kind = 8 → 1 ≤ x.fns ∧ x.fns ≤ 31)
instance (x : OpV) : Decidable (goodV x):=by unfold goodV; exact inferInstance
def checkV (x : OpV) : Int:=if goodV x then 0 else 4
def mutV (k : Nat) : Bool:=k == 3 || k == 4 || k == 7 || k == 8 || k == 9
end Go.Proofs.YtjbimcdofenmdaaGreatDoor
namespace Go.Proofs.YtjbimcdofenmdaaGreatDoor
section
open Go.RowKit
end
section
open Go.RowKit
attribute [local go_sem] Oper.semAt_some
def bytesV (l : List UInt8) : List Value:=l.map fun b => .int .u8 b.toNat
end
section
open Go.RowKit
def Bytes8 (w : World) (b : Nat) (l : List UInt8) : Prop:=∀ j (hj : j < l.length),w.cell? ⟨b,j,none⟩ = some (.int .u8 (l[j].toNat : Int)) ∧ w.frozen? ⟨b,j,none⟩ = false
theorem Bytes8.set_ {w : World} {b : Nat} {l : List UInt8} (h : Bytes8 w b l) (i : Nat) (_hi : i < l.length) (x : UInt8) (v : Int) (hv : v = (x.toNat : Int)) : Bytes8 (w.setCell ⟨b,i,none⟩ (.int .u8 v)) b (l.set i x):=by
 subst hv
 intro j hj
 have hj' : j < l.length:=by simpa using hj
 refine ⟨?_,by rw [World.frozen?_setCell]; exact (h j hj').2⟩
 by_cases e : i = j
 ·subst e
  rw [World.cell?_setCell_same' _ _ _ (by rw [(h i hj').1]; rfl)]; simp
 ·rw [World.cell?_setCell_other (h:=by intro h; injection h with _ h2 _; exact e h2),(h j hj').1]; simp [e]
theorem Bytes8.made (w : World) (s : ByteArray) (t : TypeId) (cap : Nat) : Bytes8 (w.alloc (.cells (bytesRow s cap) t ((bytesRow s cap).size,(bytesRow s cap).size + 1))) w.heap.size s.data.toList:=by
 intro j hj
 have hj' : j < s.data.size:=by simpa using hj
 have hsz : s.data.size ≤ (bytesRow s cap).size:=by unfold bytesRow; simp
 refine ⟨?_,?_⟩
 ·rw [World.cell?_alloc_mark,bytesRow_at s cap j hj']
  simp
 ·rw [World.frozen?_alloc_mark]
  simp; omega
theorem addr_add0 (b j : Nat) : (Addr.add ⟨b,0,none⟩ j) = ⟨b,j,none⟩:=by
 unfold Addr.add; split
 ·subst_vars; rfl
 ·simp
theorem Bytes8.string {P : Program} {w : World} {b : Nat} {l : List UInt8} (h : Bytes8 w b l) (src dst e : TypeId) (hs : P.underlying src = some (.slice e)) (he : P.underlying e = some (.int .u8)) (hd : P.underlying dst = some .string) (cap : Nat) :
  (convert src dst (.slice (some ⟨b,0,none⟩) l.length cap)).run P w = .ok (.string ⟨l.toArray⟩) w :=
 run_convert_bytes_back w src dst e ⟨b,0,none⟩ cap l hs he hd fun j hj => by have:=(h j hj).1; have e : (Addr.add ⟨b,0,none⟩ j) = ⟨b,j,none⟩:=addr_add0 b j; rw [e]; exact this
end
section
open Go.RowKit
end
section
open Go.RowKit
end
end Go.Proofs.YtjbimcdofenmdaaGreatDoor
