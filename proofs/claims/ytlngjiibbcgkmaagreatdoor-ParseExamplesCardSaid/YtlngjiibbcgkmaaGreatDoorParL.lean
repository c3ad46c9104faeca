/- Plain: a formula is parsed, or has its fault at one of its bytes, or at its end. No program stands here. ParseFormulas: the walk. -/
import Derived.Test.YtlngjiibbcgkmaaGreatDoorParM
import Derived.Test.YtlngjiibbcgkmaaGreatDoorRqJ
import Derived.Test.YtlngjiibbcgkmaaGreatDoorForC
import Derived.Test.YtlngjiibbcgkmaaGreatDoorAwk9
namespace Go.Proofs.YtlngjiibbcgkmaaGreatDoor
open Go.RowKit
theorem toks_err : ∀ (f k : Nat) (s : List UInt8) (i : Nat),toksF f k s = .error i → k ≤ i ∧ i < k + s.length
 | 0,_,_,_,h => by simp [toksF] at h
 | _ + 1,_,[],_,h => by simp [toksF] at h
 | f + 1,k,b :: r,i,h => by
  rw [toksF] at h
  split at h
  ·have:=toks_err f _ _ _ h
   simp only [List.length_cons]
   omega
  ·split at h
   ·simp only [Except.error.injEq] at h
    subst h
    simp
   ·rename_i t n ht
    have hn:=tok_le ht
    cases hr : toksF f (k + n) ((b :: r).drop n) with
    | error j =>
     rw [hr] at h
     simp only [Except.map,Except.error.injEq] at h
     subst h
     have:=toks_err f _ _ _ hr
     rw [List.length_drop] at this
     omega
    | ok l => rw [hr] at h; simp [Except.map] at h
theorem tokens_cases (L : List UInt8) : (∃ a e,tokensS L = ([],a,e) ∧ e ≠ 0 ∧ 0 ≤ a ∧ a ≤ L.length) ∨ ∃ ts,tokensS L = (ts,0,0):=by
 unfold tokensS
 split
 ·exact .inl ⟨0,5,rfl,by decide,by omega,by omega⟩
 ·split
  ·rename_i i hf
   have hi:=(List.findIdx?_eq_some_iff_getElem.1 hf).1
   exact .inl ⟨i,4,rfl,by decide,by omega,by omega⟩
  ·split
   ·exact .inr ⟨_,rfl⟩
   ·rename_i i ht
    have:=toks_err _ _ _ _ ht
    exact .inl ⟨i,4,rfl,by decide,by omega,by omega⟩
theorem lies_le {L : List UInt8} {ts us : List Tk} {a : Nat} (h : Lex 0 L ts []) (hl : Lies L.length us a) (hs : ∀ t ∈ us,t ∈ ts) : a ≤ L.length:=by
 rcases hl with rfl | ⟨t,ht,rfl⟩
 ·exact Nat.le_refl _
 ·obtain ⟨i,hi⟩:=List.getElem?_of_mem (hs t ht)
  exact Nat.le_of_lt (gaps_at h i t hi).1
theorem form_cases (L : List UInt8) : (∃ a e,formS L = ([],a,e) ∧ e ≠ 0 ∧ 0 ≤ a ∧ a ≤ L.length) ∨
  ∃ ts ns n,formS L = (ns,0,0) ∧ tokensS L = (ts,0,0) ∧ Pk (.lv 1) ts [] ns n ∧ checkS ns = 0:=by
 rcases tokens_cases L with ⟨a,e,h,he,h1,h2⟩ | ⟨ts,h⟩
 ·exact .inl ⟨a,e,form_lex h he,he,h1,h2⟩
 ·obtain ⟨r,hr,hf⟩:=form_of h
  obtain ⟨_,h256,hpl,hlex⟩:=tokens_ok h
  rw [hf]
  unfold parT at hr
  cases r with
  | bad a c =>
   obtain ⟨hl,hc⟩:=par_bad _ _ _ _ _ hr
   refine .inl ⟨a,c,rfl,?_,by omega,?_⟩
   ·rcases hc with rfl | rfl | rfl <;> decide
   ·have:=lies_le hlex hl (fun _ h => h)
    omega
  | ok u ns n =>
   have hp:=par_pk _ _ _ _ _ _ hr
   simp only [formR]
   by_cases hu : hkS u = 0
   ·have hu2 : u = []:=Classical.byContradiction fun e => absurd hu ((hk_pos fun t ht => tokens_good h t (hp.sub t ht)).2 e)
    subst hu2
    rw [if_neg (by simp [hkS])]
    by_cases hc : checkS ns = 0
    ·rw [if_neg (by rw [hc]; decide)]
     exact .inr ⟨ts,ns,n,rfl,h,hp,hc⟩
    ·rw [if_pos hc]
     exact .inl ⟨0,checkS ns,rfl,hc,by omega,by omega⟩
   ·rw [if_pos hu]
    refine .inl ⟨_,4,rfl,by decide,by omega,?_⟩
    have:=lies_le hlex (lies_hd u) hp.sub
    omega
end Go.Proofs.YtlngjiibbcgkmaaGreatDoor
namespace Go.Proofs.YtlngjiibbcgkmaaGreatDoor
open Go.RowKit
theorem cut_len9 (s : ByteArray) : (s.extract 0 (min (s.size : Int) 300).toNat).size ≤ 300:=by
 simp only [ByteArray.size_extract]
 omega
theorem form_short (L : List UInt8) : (formS L).1.length ≤ 256:=by
 rcases form_cases L with ⟨a,e,h,_⟩ | ⟨ts,ns,n,h,_,_,hc⟩
 ·rw [h]; exact Nat.zero_le _
 ·rw [h]
  unfold checkS at hc
  split at hc
  ·omega
  ·show ns.length ≤ 256
   omega
theorem row11 {w : World} {base g tl cap : Nat} {xs : List Value} (h : w.ownsRow base 32 11 (.slice (some ⟨g,0,none⟩) tl cap) tl xs) (i : Nat) (hi : i < tl) :
  ∃ v0 v1 v2 v3 v4 v5 v6 v7 v8 v9 v10 : Value,(w.cell? ⟨g,i * 11,none⟩ = some v0 ∧ w.cell? ⟨g,i * 11 + 1,none⟩ = some v1 ∧ w.cell? ⟨g,i * 11 + 2,none⟩ = some v2 ∧ w.cell? ⟨g,i * 11 + 3,none⟩ = some v3 ∧ w.cell? ⟨g,i * 11 + 4,none⟩ = some v4 ∧ w.cell? ⟨g,i * 11 + 5,none⟩ = some v5 ∧ w.cell? ⟨g,i * 11 + 6,none⟩ = some v6 ∧ w.cell? ⟨g,i * 11 + 7,none⟩ = some v7 ∧ w.cell? ⟨g,i * 11 + 8,none⟩ = some v8 ∧ w.cell? ⟨g,i * 11 + 9,none⟩ = some v9 ∧ w.cell? ⟨g,i * 11 + 10,none⟩ = some v10) ∧
   w.frozen? ⟨g,i * 11,none⟩ = false ∧ w.frozen? ⟨g,i * 11 + 1,none⟩ = false ∧ w.frozen? ⟨g,i * 11 + 2,none⟩ = false ∧ w.frozen? ⟨g,i * 11 + 3,none⟩ = false ∧ w.frozen? ⟨g,i * 11 + 4,none⟩ = false ∧ w.frozen? ⟨g,i * 11 + 5,none⟩ = false ∧ w.frozen? ⟨g,i * 11 + 6,none⟩ = false ∧ w.frozen? ⟨g,i * 11 + 7,none⟩ = false ∧ w.frozen? ⟨g,i * 11 + 8,none⟩ = false ∧ w.frozen? ⟨g,i * 11 + 9,none⟩ = false ∧ w.frozen? ⟨g,i * 11 + 10,none⟩ = false:=by
 have hl : xs.length = tl * 11:=h.1
 have key : ∀ j,j < 11 → ∃ v,w.cell? ⟨g,i * 11 + j,none⟩ = some v:=fun j hj => by
  refine ⟨xs[i * 11 + j]'(by omega),?_⟩
  rw [h.cellAt (i * 11 + j) (by omega)]
  exact List.getElem?_eq_getElem _
 obtain ⟨v0,h0⟩:=key 0 (by decide)
 obtain ⟨v1,h1⟩:=key 1 (by decide)
 obtain ⟨v2,h2⟩:=key 2 (by decide)
 obtain ⟨v3,h3⟩:=key 3 (by decide)
 obtain ⟨v4,h4⟩:=key 4 (by decide)
 obtain ⟨v5,h5⟩:=key 5 (by decide)
 obtain ⟨v6,h6⟩:=key 6 (by decide)
 obtain ⟨v7,h7⟩:=key 7 (by decide)
 obtain ⟨v8,h8⟩:=key 8 (by decide)
 obtain ⟨v9,h9⟩:=key 9 (by decide)
 obtain ⟨v10,h10⟩:=key 10 (by decide)
 exact ⟨v0,v1,v2,v3,v4,v5,v6,v7,v8,v9,v10,⟨h0,h1,h2,h3,h4,h5,h6,h7,h8,h9,h10⟩,h.frozenAt _,h.frozenAt _,h.frozenAt _,h.frozenAt _,h.frozenAt _,h.frozenAt _,h.frozenAt _,h.frozenAt _,h.frozenAt _,h.frozenAt _,h.frozenAt _⟩
set_option maxRecDepth 100000 in
set_option maxHeartbeats 8000000 in
theorem law_ParseFormulas (s : ByteArray) (w : World) (he : Words w) :
  Calls Tryz.prog 3 #[.string s] w fun e w' => e = .returned (.bool true) ∧ Below w.heap.size w w':=by
 have HE:=keep he
 clear he
 go_enter Tryz.func3,Tryz.ntmps3
 go_wp2_with fail
 have hS:=cut_len9 s
 generalize s.extract 0 (min (s.size : Int) 300).toNat = S at hS ⊢
 go_loopw [3] (fun rv wr => ∃ r : Nat,r ≤ 2 ∧ rv = .int .i64 (r : Int) ∧ Hid (Below w.heap.size w wr)) (fun rv _ => 2 - (intOf rv).toNat)
 case atStart => exact ⟨0,Nat.zero_le _,rfl,Below.refl _ _⟩
 case round =>
  obtain ⟨r,hr,rfl,HB⟩:=hrel
  obtain ⟨wp,rfl⟩ : ∃ wp : World,wp = wr:=⟨_,rfl⟩
  have HBASE:=Lib.hid HB.out.size
  by_cases hlt : (r : Int) < 2
  ·have hlt2 : r < 2:=by omega
   have hd1 : decide (r < 2) = true:=decide_eq_true hlt2
   have hd2 : decide ((r : Int) < 2) = true:=decide_eq_true hlt
   go_wp2_with fail
   refine (parse_Formula S _ (by omega) (HE.out.below HB.out)).mono ?_
   rintro e w1 ⟨v,rfl,hown,hb⟩
   have hlen:=form_short S.data.toList
   obtain ⟨T,hT⟩ : ∃ T,formS S.data.toList = T:=⟨_,rfl⟩
   rw [hT] at hown hlen ⊢
   have HT:=keep hT
   clear hT
   obtain ⟨ts,p,er⟩:=T
   have hown : w1.ownsRow wp.heap.size 32 11 v ts.length (ndCells ts):=hown
   have hlen : ts.length ≤ 256:=hlen
   have HOW:=Lib.hid hown
   obtain ⟨a1,c1,rfl,-,-,-⟩:=rows_own ndRow (fun _ => rfl) hown rfl
   have HA:=keep (rows_get hown).2
   have HW1:=Lib.hid (HB.out.trans (hb.mono HB.out.size))
   clear hown
   simp only []
   go_wp2_with fail
   refine (ref9_Formula S _ (by omega)).mono ?_
   rintro e w2 ⟨v2,rfl,hown2,hb2⟩
   rw [HT.out] at hown2 ⊢
   have hown2 : w2.ownsRow w1.heap.size 32 11 v2 ts.length (ndCells ts):=hown2
   obtain ⟨a2,c2,rfl,-,-,-⟩:=rows_own ndRow (fun _ => rfl) hown2 rfl
   have HA2:=keep (rows_get hown2).2
   have HA1:=keep (HA.out.below hb2)
   have HW2:=Lib.hid (HW1.out.trans (hb2.mono HW1.out.size))
   have HO2:=Lib.hid (HOW.out.kept (only_of_below hb2 none) (by
    cases h9 : (Value.slice a1 ts.length c1).ownBlock with
    | none => exact .inl rfl
    | some x => exact .inr (by simp)))
   have HSZ:=Lib.hid hb.size
   clear hown2 hb hb2 HOW HA HW1 HB
   simp only []
   go_wp2_with fail
   have heq:=equal_tree ts a1 a2 c1 c2 w2 (by omega) HA1.out HA2.out
   refine heq.mono ?_
   rintro e w3 ⟨rfl,hb3⟩
   have HW3:=Lib.hid (HW2.out.trans (hb3.mono HW2.out.size))
   have HO3:=Lib.hid (HO2.out.kept (only_of_below hb3 none) (by
    cases h9 : (Value.slice a1 ts.length c1).ownBlock with
    | none => exact .inl rfl
    | some x => exact .inr (by simp)))
   clear hb3 HW2 HO2 heq HA1 HA2
   have hpp : (p != p) = false:=by simp
   have hee : (er != er) = false:=by simp
   obtain ⟨tl,htl⟩ : ∃ tl,ts.length = tl:=⟨_,rfl⟩
   rw [htl] at hlen HO3 ⊢
   clear HSZ htl
   go_wp2_with fail
   go_loopw [10] (fun iv wr => ∃ i : Nat,i ≤ tl ∧ iv = .int .i64 (i : Int) ∧ Hid (Below w.heap.size w wr) ∧ Hid (∃ xs,wr.ownsRow wp.heap.size 32 11 (.slice a1 tl c1) tl xs)) (fun iv _ => tl - (intOf iv).toNat)
   case atStart => exact ⟨0,Nat.zero_le _,rfl,HW3,Lib.hid ⟨_,HO3.out⟩⟩
   case round =>
    clear HW3 HO3
    obtain ⟨i,hi,rfl,HBW,HOW⟩:=hrel
    obtain ⟨wq,rfl⟩ : ∃ wq : World,wq = wr:=⟨_,rfl⟩
    by_cases hit : (i : Int) < tl
    ·obtain ⟨xs,hown⟩:=HOW.out
     obtain ⟨g,cap,hv,-,-⟩:=hown.form (by omega)
     injection hv with hv1 hv2 hv3
     subst hv1
     subst hv3
     obtain ⟨v0,v1,v2,v3,v4,v5,v6,v7,v8,v9,v10,⟨c0,c1,c2,c3,c4,c5,c6,c7,c8,c9,c10⟩,f0,f1,f2,f3,f4,f5,f6,f7,f8,f9,f10⟩:=row11 hown i (by omega)
     have HX:=Lib.hid hown
     have hg : w.heap.size ≤ g:=Nat.le_trans HBASE.out (hown.lt g rfl).1
     have hgb : g < wq.heap.size:=(hown.lt g rfl).2
     clear hown HOW
     go_wp2_with fail
     clear c0 f0 c1 f1 c2 f2 c3 f3 c4 f4 c5 f5 c6 f6 c7 f7 c8 f8 c9 f9 c10 f10
     go_roundw
     case rel =>
      have h9:=HX.out
      exact ⟨i + 1,by omega,by go_num,Lib.hid (((((((((((HBW.out.setCell hg _).setCell hg _).setCell hg _).setCell hg _).setCell hg _).setCell hg _).setCell hg _).setCell hg _).setCell hg _).setCell hg _).setCell hg _),Lib.hid ⟨_,(((((((((((h9.stored (i * 11) (.int .u8 0)).1.stored (i * 11 + 1) (.int .u8 0)).1.stored (i * 11 + 2) (.int .i64 0)).1.stored (i * 11 + 3) (.string ⟨#[]⟩)).1.stored (i * 11 + 4) (.int .i64 0)).1.stored (i * 11 + 5) (.int .i64 0)).1.stored (i * 11 + 6) (.int .i64 0)).1.stored (i * 11 + 7) (.int .i64 0)).1.stored (i * 11 + 8) (.int .i64 0)).1.stored (i * 11 + 9) (.int .u8 0)).1.stored (i * 11 + 10) (.int .i64 0)).1⟩⟩
     case measure => simp [intOf]; omega
    ·clear HOW
     go_wp2_with fail
     go_roundw
     case rel => exact ⟨r + 1,by omega,by go_num,HBW⟩
     case measure => simp [intOf]; omega
  ·go_wp2_with fail
   refine (law_awake9 _ (HE.out.below HB.out)).mono ?_
   rintro e w1 ⟨rfl,hb⟩
   have HW:=Lib.hid (HB.out.trans (hb.mono HB.out.size))
   clear hb
   go_wp2_with fail
   go_ret
   exact ⟨rfl,HW.out⟩
theorem ParseFormulas_walk (s : ByteArray) (w : World) (_hs : s.size ≤ maxLen) (hL : laidMetH Tryz.prog Rows.parseFormulasRow.laid w) (hS : w.ShapedOpen Tryz.prog) :
  Calls Tryz.prog 3 #[.string s] w fun e w' => e = .returned (.bool true) ∧ Below w.heap.size w w' :=
 law_ParseFormulas s w (words_of hL (by kernel_rfl) hS)
end Go.Proofs.YtlngjiibbcgkmaaGreatDoor
