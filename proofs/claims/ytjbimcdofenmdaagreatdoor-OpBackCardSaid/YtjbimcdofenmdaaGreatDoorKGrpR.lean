/- The shelf's contracts, by their other name. What the library's functions want of its variables: the table of TrailingZeros64, MaxLen, ErrSyntax, ErrRange; kept by whatever grows. The contract of the reference's digits. The contract of the reference's Format. A region that draws its order, in a round of a range over a function: walked by the rules of plain regions. No program stands here. -/
import Derived.Test.YtjbimcdofenmdaaGreatDoorKShelf
import Derived.Test.YtjbimcdofenmdaaGreatDoorKTz
import Derived.Stop.LaidErr
import Derived.LaidLaws
import Derived.Test.YtjbimcdofenmdaaGreatDoorKGrpSets
import Derived.Test.YtjbimcdofenmdaaGreatDoorKIter

namespace Go.Proofs.YtjbimcdofenmdaaGreatDoor
open Go.RowKit
def Env (w : World) : Prop:=Bru w ∧ (∃ m,w.cell? ⟨2,0,none⟩ = some (.int .i64 m)) ∧ (∃ te pe,w.cell? ⟨5,0,none⟩ = some (.iface te pe)) ∧ ∃ te pe,w.cell? ⟨6,0,none⟩ = some (.iface te pe)
theorem Env.below {w w' : World} (h : Env w) (hb : Below w.heap.size w w') : Env w':=by
  obtain ⟨h1,⟨m,h2⟩,⟨t,p,h3⟩,t',p',h4⟩:=h
  exact ⟨h1.below hb (bru_lt h1),⟨m,cell_step hb h2⟩,⟨t,p,cell_step hb h3⟩,t',p',cell_step hb h4⟩
theorem err_star : "*" ++ "errors.errorString" = "*errors.errorString" := by decide
theorem err_row (u : TypeId) (h : Tryz.prog.typeName? 3 u = some "*errors.errorString") : u = 175 :=
  typeName_ptr_named (nm := "errors.errorString") (by rw [err_star]; kernel_rfl) (by kernel_rfl) (by decide) u (by rw [err_star]; exact h)
theorem err_cells : Tryz.prog.cellsOf 177 = 1:=by kernel_rfl
theorem str_cells : Tryz.prog.cellsOf 9 = 1:=by kernel_rfl
theorem syn_name : Tryz.prog.globalNamed "strconv.ErrSyntax" = some 5 := by kernel_rfl
theorem syn_type : (Tryz.prog.globals[5]?).map (·.type) = some 79:=by kernel_rfl
theorem rng_name : Tryz.prog.globalNamed "strconv.ErrRange" = some 6 := by kernel_rfl
theorem rng_type : (Tryz.prog.globals[6]?).map (·.type) = some 79:=by kernel_rfl
theorem env_of {W : World} {l : List (String × DataW Unit)} (h : laidMetH Tryz.prog l W) (hS : W.ShapedOpen Tryz.prog)
    (hl : l.filter (fun x => x.1 == "math/bits.deBruijn64tab") = [("math/bits.deBruijn64tab", Rows.laid_math_bits_deBruijn64tab)])
    (hs : l.filter (fun x => x.1 == "strconv.ErrSyntax") = [("strconv.ErrSyntax", Rows.laid_strconv_ErrSyntax)])
    (hr : l.filter (fun x => x.1 == "strconv.ErrRange") = [("strconv.ErrRange", Rows.laid_strconv_ErrRange)]) : Env W := by
  have h2 := h.filter (fun x => x.1 == "strconv.ErrSyntax")
  have h3 := h.filter (fun x => x.1 == "strconv.ErrRange")
  rw [hs] at h2
  rw [hr] at h3
  obtain ⟨a1,s1,hv1,_,_,_⟩:=laid_sentinel ((laidMetH_iff ..).1 h2).1 syn_name syn_type Tryz.underlying79 err_row Tryz.underlying175 Tryz.underlying177 rfl rfl Tryz.underlying9 err_cells str_cells
  obtain ⟨a2,s2,hv2,_,_,_⟩:=laid_sentinel ((laidMetH_iff ..).1 h3).1 rng_name rng_type Tryz.underlying79 err_row Tryz.underlying175 Tryz.underlying177 rfl rfl Tryz.underlying9 err_cells str_cells
  refine ⟨bru_of_laid h hl,Tryz.laysM145.s1_3 W hS,⟨_,_,by simpa using World.var?_cell syn_name hv1 0⟩,_,_,by simpa using World.var?_cell rng_name hv2 0⟩
end Go.Proofs.YtjbimcdofenmdaaGreatDoor
namespace Go.Proofs.YtjbimcdofenmdaaGreatDoor
open Go.RowKit
theorem enc_dig (m : Nat) (h : m < 10) : Utf8.encode (48 + (m : Int)) = ⟨#[UInt8.ofNat (48 + m)]⟩:=by
  have key : ∀ m : Fin 10,Utf8.encode (48 + ((m.1 : Nat) : Int)) = ⟨#[UInt8.ofNat (48 + m.1)]⟩:=by decide +kernel
  exact key ⟨m,h⟩
set_option maxRecDepth 100000 in
theorem ref_digits (n : Nat) (h : n < 64) (w : World) : Calls Tryz.prog 57 #[.int .i64 n] w fun e w' => e = .returned (.string ⟨(dig2 n).toArray⟩) ∧ w = w':=by
  by_cases hn : (n : Int) < 10
  · go_enter Tryz.func57,Tryz.ntmps57
    go_wp2_with fail
    go_ret
    refine ⟨?_,rfl⟩
    rw [dig2,if_pos (by omega)]
    show Ending.returned (.string _) = _
    rw [enc_dig n (by omega)]
  · obtain ⟨q,r,hq,hr,e,hn2⟩ : ∃ q r : Nat,q < 10 ∧ r < 10 ∧ n = 10 * q + r ∧ 1 ≤ q:=⟨n / 10,n % 10,by omega,by omega,by omega,by omega⟩
    have h1 : (n : Int).tdiv 10 = (q : Int):=by rw [Int.tdiv_eq_ediv_of_nonneg (by omega)]; omega
    have h2 : (n : Int).tmod 10 = (r : Int):=by rw [Int.tmod_eq_emod_of_nonneg (by omega)]; omega
    have h3 : dig2 n = [UInt8.ofNat (48 + q),UInt8.ofNat (48 + r)]:=by rw [dig2,if_neg (by omega),show n / 10 = q from by omega,show n % 10 = r from by omega]
    rw [h3]
    generalize hB : (⟨[UInt8.ofNat (48 + q),UInt8.ofNat (48 + r)].toArray⟩ : ByteArray) = B
    have HB:=keep hB
    clear hB
    have E:=keep (And.intro (enc_dig q hq) (enc_dig r hr))
    have hx : (n : Int) < 64:=by omega
    have hq' : (q : Int) < 10:=by omega
    have hr' : (r : Int) < 10:=by omega
    have hq0 : 0 ≤ (q : Int):=by omega
    have hr0 : 0 ≤ (r : Int):=by omega
    clear h3 e hn2 hq hr h
    generalize (n : Int) = x at *
    have s1 : (Utf8.encode (48 + (q : Int))).size = 1:=by rw [E.out.1]; rfl
    have s2 : (Utf8.encode (48 + (r : Int))).size = 1:=by rw [E.out.2]; rfl
    generalize (q : Int) = qi at *
    generalize (r : Int) = ri at *
    go_enter Tryz.func57,Tryz.ntmps57
    go_wp2_with fail
    go_ret
    refine ⟨?_,rfl⟩
    show Ending.returned (.string _) = _
    rw [E.out.1,E.out.2,← HB.out]
    rfl
end Go.Proofs.YtjbimcdofenmdaaGreatDoor
namespace Go.Proofs.YtjbimcdofenmdaaGreatDoor
open Go.RowKit
def byt (l : List UInt8) : ByteArray:=⟨l.toArray⟩
theorem byt_eq (l : List UInt8) : (⟨l.toArray⟩ : ByteArray) = byt l:=rfl
theorem byt_44 : (⟨#[44]⟩ : ByteArray) = byt [44]:=rfl
theorem byt_45 : (⟨#[45]⟩ : ByteArray) = byt [45]:=rfl
theorem byt_size (l : List UInt8) : (byt l).size = l.length:=rfl
theorem byt_app (a b : List UInt8) : byt a ++ byt b = byt (a ++ b):=by
  unfold byt; apply ByteArray.ext; simp
theorem byt_empty (T : List UInt8) : (byt T).toList.isEmpty = T.isEmpty:=by
  rw [ByteArray.toList_eq]; rfl
theorem byt_add0 (T x : List UInt8) (h : (byt T).toList.isEmpty = true) : byt T ++ byt x = byt (addW T x):=by
  rw [byt_empty] at h
  have : T = []:=by simpa using h
  subst this
  rw [byt_app]; rfl
theorem byt_add1 (T x : List UInt8) (h : (byt T).toList.isEmpty = false) : byt T ++ ⟨#[44]⟩ ++ byt x = byt (addW T x):=by
  rw [byt_empty] at h
  have : T ≠ []:=by intro e; subst e; cases h
  rw [show (⟨#[44]⟩ : ByteArray) = byt [44] from rfl,byt_app,byt_app,addW,if_neg this]; simp
attribute [local irreducible] wordsF textW gfmtL byt lastS dig2
set_option maxRecDepth 100000 in
set_option maxHeartbeats 4000000 in
theorem ref18_Format (s : Nat) (w : World) (hs : s < 18446744073709551616) : Calls Tryz.prog 34 #[.int .u64 s] w fun e w' => e = .returned (.string (byt (gfmtL s))) ∧ w = w':=by
  have HS:=keep hs
  by_cases h0 : s = 0
  · subst h0
    have e : byt (gfmtL 0) = ⟨#[45]⟩:=by unfold gfmtL byt; rfl
    rw [e]
    go_enter Tryz.func34,Tryz.ntmps34
    go_wp2_with fail
    refine (ref_all _ _).mono ?_
    rintro e w' ⟨rfl,rfl⟩
    rw [show allR 64 = 18446744073709551615 from by decide,show allE 64 = 0 from by decide]
    go_wp2_with fail
    go_ret
    exact ⟨rfl,rfl⟩
  by_cases h1 : s = 18446744073709551615
  · subst h1
    have e : byt (gfmtL 18446744073709551615) = ⟨#[42]⟩:=by unfold gfmtL byt; rfl
    rw [e]
    go_enter Tryz.func34,Tryz.ntmps34
    go_wp2_with fail
    refine (ref_all _ _).mono ?_
    rintro e w' ⟨rfl,rfl⟩
    rw [show allR 64 = 18446744073709551615 from by decide,show allE 64 = 0 from by decide]
    go_wp2_with fail
    go_ret
    exact ⟨rfl,rfl⟩
  have e : gfmtL s = textW s 64:=by unfold gfmtL; rw [if_neg h0,if_neg h1]
  rw [e]
  have q0 : ((s : Int) == 0) = false:=by simp; omega
  have q1 : ((s : Int) == 18446744073709551615) = false:=by simp; omega
  go_enter Tryz.func34,Tryz.ntmps34
  go_wp2_with fail
  refine (ref_all _ _).mono ?_
  rintro e w' ⟨rfl,rfl⟩
  rw [show allR 64 = 18446744073709551615 from by decide,show allE 64 = 0 from by decide]
  go_wp2_with fail
  go_loop [5,6] (fun sv uv => ∃ (j : Nat) (B : ByteArray),j ≤ 64 ∧ uv = .int .i64 j ∧ sv = .string B ∧ Keep (byt (textW s j) = B ∧ (wordsF s j).1 ≤ j)) (fun _ uv => 64 - (intOf uv).toNat)
  case atStart => exact ⟨0,_,by omega,rfl,rfl,keep ⟨by unfold textW wordsF byt; rfl,by unfold wordsF; exact Nat.le_refl _⟩⟩
  case round =>
    obtain ⟨j,B,hj,rfl,rfl,HB⟩:=hrel
    by_cases hlt : (j : Int) < 64
    · go_wp2_with fail
      refine (ref_has s j _ (by omega) (by omega)).mono ?_
      rintro e w' ⟨rfl,rfl⟩
      have hh : hasB s j = s.testBit j:=by simp [hasB]; intro; omega
      rw [Int.toNat_natCast,hh]
      clear hh
      cases hb : s.testBit j
      · have H1:=keep (wordsF_off s j hb)
        clear hb
        go_wp2_with fail
        go_round
        case rel => exact ⟨j + 1,B,by omega,by go_num,rfl,keep ⟨by rw [← HB.out.1]; unfold textW; rw [H1.out],by rw [H1.out]; have:=HB.out.2; omega⟩⟩
        case measure => simp [intOf]; omega
      · have H1:=keep hb
        clear hb
        go_wp2_with fail
        go_loop [7] (fun lv => ∃ v : Nat,j ≤ v ∧ v < 64 ∧ lv = .int .i64 v ∧ Keep (∀ i,j < i → i ≤ v → s.testBit i = true)) (fun lv => 64 - (intOf lv).toNat)
        case atStart => exact ⟨j,Nat.le_refl _,by omega,rfl,keep (fun i h1 h2 => by omega)⟩
        case round =>
          obtain ⟨v,hjv,hv,rfl,HV⟩:=hrel
          go_wp2_with fail
          refine (ref_has s (v + 1) _ (by omega) (by omega)).mono ?_
          rintro e w' ⟨rfl,rfl⟩
          have hh : hasB s ((v : Int) + 1) = s.testBit (v + 1):=by
            by_cases c : v + 1 < 64
            · simp [hasB]; intro; omega
            · rw [over_bit s (v + 1) HS.out (by omega)]; simp [hasB]; intro; omega
          rw [Int.toNat_natCast,hh]
          clear hh
          cases hb : s.testBit (v + 1)
          · have H2:=keep hb
            clear hb
            have HV2:=keep (lastS_of s j v HS.out ⟨hjv,HV.out,H2.out⟩)
            have hlen : B.size ≤ 384:=by rw [← HB.out.1]; have:=textW_len s j; rw [byt_size]; omega
            by_cases hl : (v : Int) - j < 2
            · by_cases hT : B.toList.isEmpty = true
              · go_wp2_with fail
                refine (ref_digits j (by omega) _).mono ?_
                rintro e w' ⟨rfl,rfl⟩
                generalize hD : (⟨(dig2 j).toArray⟩ : ByteArray) = D
                have hDl : D.size ≤ 2:=by rw [← hD]; exact dig2_len j
                have HD:=keep hD
                clear hD
                go_wp2_with fail
                have H3:=text_one s j H1.out HB.out.2 (by rw [HV2.out]; omega)
                exact ⟨⟨j + 1,_,by omega,by go_num,rfl,keep ⟨by rw [H3.1,← HB.out.1,← HD.out,byt_eq (dig2 j)]; exact (byt_add0 _ _ (by rw [HB.out.1]; exact hT)).symm,H3.2⟩⟩,by simp [intOf]; omega⟩
              · have hT : B.toList.isEmpty = false:=by simpa using hT
                go_wp2_with fail
                refine (ref_digits j (by omega) _).mono ?_
                rintro e w' ⟨rfl,rfl⟩
                generalize hD : (⟨(dig2 j).toArray⟩ : ByteArray) = D
                have hDl : D.size ≤ 2:=by rw [← hD]; exact dig2_len j
                have HD:=keep hD
                clear hD
                go_wp2_with fail
                have H3:=text_one s j H1.out HB.out.2 (by rw [HV2.out]; omega)
                exact ⟨⟨j + 1,_,by omega,by go_num,rfl,keep ⟨by rw [H3.1,← HB.out.1,← HD.out,byt_eq (dig2 j)]; exact (byt_add1 _ _ (by rw [HB.out.1]; exact hT)).symm,H3.2⟩⟩,by simp [intOf]; omega⟩
            · by_cases hT : B.toList.isEmpty = true
              · go_wp2_with fail
                refine (ref_digits j (by omega) _).mono ?_
                rintro e w' ⟨rfl,rfl⟩
                generalize hD : (⟨(dig2 j).toArray⟩ : ByteArray) = D
                have hDl : D.size ≤ 2:=by rw [← hD]; exact dig2_len j
                have HD:=keep hD
                clear hD
                go_wp2_with fail
                refine (ref_digits v (by omega) _).mono ?_
                rintro e w' ⟨rfl,rfl⟩
                generalize hE : (⟨(dig2 v).toArray⟩ : ByteArray) = E
                have hEl : E.size ≤ 2:=by rw [← hE]; exact dig2_len v
                have HE:=keep hE
                clear hE
                go_wp2_with fail
                have H3:=text_run s j H1.out HB.out.2 (by rw [HV2.out]; omega)
                rw [HV2.out] at H3
                refine ⟨⟨v + 1,_,by omega,by go_num,rfl,keep ⟨?_,H3.2⟩⟩,by simp [intOf]; omega⟩
                rw [H3.1,← HB.out.1,← HD.out,← HE.out,← byt_add0 _ _ (by rw [HB.out.1]; exact hT)]
                rw [byt_eq (dig2 j),byt_eq (dig2 v),byt_45]
                simp only [byt_app]
                simp
              · have hT : B.toList.isEmpty = false:=by simpa using hT
                go_wp2_with fail
                refine (ref_digits j (by omega) _).mono ?_
                rintro e w' ⟨rfl,rfl⟩
                generalize hD : (⟨(dig2 j).toArray⟩ : ByteArray) = D
                have hDl : D.size ≤ 2:=by rw [← hD]; exact dig2_len j
                have HD:=keep hD
                clear hD
                go_wp2_with fail
                refine (ref_digits v (by omega) _).mono ?_
                rintro e w' ⟨rfl,rfl⟩
                generalize hE : (⟨(dig2 v).toArray⟩ : ByteArray) = E
                have hEl : E.size ≤ 2:=by rw [← hE]; exact dig2_len v
                have HE:=keep hE
                clear hE
                go_wp2_with fail
                have H3:=text_run s j H1.out HB.out.2 (by rw [HV2.out]; omega)
                rw [HV2.out] at H3
                refine ⟨⟨v + 1,_,by omega,by go_num,rfl,keep ⟨?_,H3.2⟩⟩,by simp [intOf]; omega⟩
                rw [H3.1,← HB.out.1,← HD.out,← HE.out,← byt_add1 _ _ (by rw [HB.out.1]; exact hT)]
                rw [byt_eq (dig2 j),byt_eq (dig2 v),byt_45]
                simp only [ByteArray.append_assoc,byt_app]
                simp
          · have hv2 : v + 1 < 64:=by
              rcases Nat.lt_or_ge (v + 1) 64 with c | c
              · exact c
              · rw [over_bit s _ HS.out c] at hb; cases hb
            have H2:=keep hb
            clear hb
            go_wp2_with fail
            go_round
            case rel =>
              refine ⟨v + 1,by omega,hv2,by go_num,keep (fun i h1 h2 => ?_)⟩
              rcases Nat.lt_or_ge v i with c | c
              · obtain rfl : i = v + 1:=by omega
                exact H2.out
              · exact HV.out i h1 c
            case measure => simp [intOf]; omega
    · have hje : j = 64:=by omega
      subst hje
      go_wp2_with fail
      go_ret
      exact ⟨by rw [HB.out.1]; rfl,rfl⟩
end Go.Proofs.YtjbimcdofenmdaaGreatDoor
namespace Go.Proofs.YtjbimcdofenmdaaGreatDoor
open Go.RowKit
def notDefer (o : Oper) : Bool:=match o.op with
  | .defer _ => false
  | _ => true
theorem notDefer_ne {o : Oper} (h : notDefer o = true) : ∀ c,o.op ≠ .defer c:=fun c e => by
  unfold notDefer at h; rw [e] at h; cases h
theorem steps_round {P : Program} {m m' : Machine} (l : Nat) (h : Steps P m m') : StepsIn (Machine.fenced P (Fence.wide.inRound l)) P m m':=stepsIn_wide.2 h
theorem oper_round {n : Nat} {P : Program} {o : Oper} {a : Act} {w : World} {K : Act → World → Prop} {Q : Exit → Act → World → Prop} (l : Nat) (hd : ∀ c,o.op ≠ .defer c) (h : o.wp P a w K Q) : o.wpIn (Fence.wide.inRound l) n P a w K Q:=by
  unfold Oper.wpIn
  unfold Oper.wp at h
  refine ⟨fun _ _ => trivial,?_⟩
  rw [Oper.semAt_eq _ _ _ hd]
  generalize (execOp a.eval o).run P w = r at *
  cases r with
  | ok x w' =>
    cases x with
    | value v => exact h
    | skip => exact h
    | defer d => exact h
    | enter f args => exact ⟨fun h0 => by simp [Fence.wide] at h0,CallsIn.inRound l (callsIn_wide.2 h)⟩
    | row row args => exact ⟨fun h0 => by simp [Fence.wide] at h0,fun c cs _ => let ⟨v,w',r,s⟩:=h c cs; ⟨v,w',r,steps_round l s⟩⟩
    | _ => exact h.elim
  | halt x w' => cases x <;> first | exact h | exact h.elim
theorem wpOp_round {n : Nat} {P : Program} {ops : Array Oper} {Q : Exit → Act → World → Prop} {i : Nat} {K : Act → World → Prop} {a : Act} {w : World} (l : Nat) (hd : ∀ (j : Nat) o,ops[j]? = some o → ∀ c,o.op ≠ .defer c) (hQ : ¬ LetsOut Q)
    (h : wpOp P ops Q i K a w) : wpOpIn (Fence.wide.inRound l) n P ops Q i K a w:=by
  unfold wpOpIn
  unfold wpOp at h
  cases ho : ops[i]? with
  | none => rw [ho] at h; exact h
  | some o =>
    rw [ho] at h
    simp only at h ⊢
    split
    · next hw =>
      rw [if_pos hw] at h
      rcases h with h | h
      · exact oper_round l (hd i o ho) h
      · exact absurd h.2 hQ
    · next hw =>
      rw [if_neg hw] at h
      exact ⟨fun _ _ => trivial,h⟩
theorem wpAny_round {n : Nat} {P : Program} {md : Region.Mode} {ops : Array Oper} {Q : Exit → Act → World → Prop} (l : Nat) (hd : ∀ (j : Nat) o,ops[j]? = some o → ∀ c,o.op ≠ .defer c) (hQ : ¬ LetsOut Q) :
    ∀ (fuel : Nat) (listed : Array Bool) (a : Act) (w : World),wpAny P md ops Q fuel listed a w → wpAnyIn (Fence.wide.inRound l) n P md ops Q fuel listed a w
  | 0,_,_,_,h => h
  | fuel + 1,_,_,_,h => ⟨h.1,fun i hi => wpOp_round l hd hQ (wpOp_mono (fun a' w' h' => wpAny_round l hd hQ fuel _ a' w' h') (h.2 i hi))⟩
def OnlyN (Q : Exit → Act → World → Prop) : Exit → Act → World → Prop
  | .normal,a,w => Q .normal a w
  | _,_,_ => False
theorem onlyN_lets (Q : Exit → Act → World → Prop) : ¬ LetsOut (OnlyN Q):=fun ⟨_,_,h⟩ => h
theorem onlyN_imp (Q : Exit → Act → World → Prop) : ∀ e a w,OnlyN Q e a w → Q e a w:=fun e a w h => by cases e <;> first | exact h | exact h.elim
theorem wpIn_region_plain {l n : Nat} {P : Program} {id : Nat} {ops : Array Oper} {Q : Exit → Act → World → Prop} {a : Act} {w : World} (hm : P.follows .mixedOrders = true) (hd : ops.all notDefer = true)
    (h : wpAny P .any ops (OnlyN Q) ops.size (Array.replicate ops.size false) a w.drew) : (Code.region id ops true).wpIn (Fence.wide.inRound l) n P Q a w :=
  wpIn_mono (wpIn_region_any hm (wpAny_round l (fun j o ho => notDefer_ne (by
    rw [Array.all_eq_true] at hd
    obtain ⟨hj,e⟩:=Array.getElem?_eq_some_iff.1 ho
    rw [← e]; exact hd j hj)) (onlyN_lets Q) _ _ _ _ h)) (onlyN_imp Q)
theorem wpIn_region_held {l n : Nat} {P : Program} {id : Nat} {ops : Array Oper} {Q : Exit → Act → World → Prop} {S : World → Prop} {a : Act} {w : World} (hm : P.follows .mixedOrders = true) (hd : ops.all notDefer = true) (hS : S w.drew)
    (h : S w.drew → wpAnyH P .any ops (OnlyN Q) S ops.size (Array.replicate ops.size false) a w.drew) : (Code.region id ops true).wpIn (Fence.wide.inRound l) n P Q a w :=
  wpIn_region_plain hm hd (wpAny_of_held _ _ _ _ (h hS))
end Go.Proofs.YtjbimcdofenmdaaGreatDoor
