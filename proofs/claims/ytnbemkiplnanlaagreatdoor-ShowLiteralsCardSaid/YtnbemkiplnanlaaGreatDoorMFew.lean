/- The statements' Few. ShowBack, ShowDiffers: the walks. -/
import Derived.Test.YtnbemkiplnanlaaGreatDoorMRds
import Derived.Test.YtnbemkiplnanlaaGreatDoorMIterV
namespace Go.Proofs.YtnbemkiplnanlaaGreatDoor
set_option maxRecDepth 100000
set_option maxHeartbeats 8000000
open Go.RowKit
theorem cut300 (S : ByteArray) : (S.extract 0 (min (S.size : Int) 300).toNat).data.toList = S.data.toList.take 300 ∧ (S.extract 0 (min (S.size : Int) 300).toNat).size ≤ 300:=by
 have h9 : S.data.toList.length = S.size:=by rw [Array.length_toList]; rfl
 have h8 : (S.extract 0 (min (S.size : Int) 300).toNat).data.toList = S.data.toList.take 300:=by
  rw [Lib.extract_data,List.drop_zero,Nat.sub_zero]
  by_cases h8 : S.size ≤ 300
  ·rw [List.take_of_length_le (by omega),List.take_of_length_le (by omega)]
  ·congr 1; omega
 refine ⟨h8,?_⟩
 have h7 : (S.extract 0 (min (S.size : Int) 300).toNat).data.toList.length = (S.extract 0 (min (S.size : Int) 300).toNat).size:=by rw [Array.length_toList]; rfl
 rw [← h7,h8,List.length_take]
 omega
theorem cut300a (S : ByteArray) (v : List UInt8) (h : S.data.toList = v) : S.extract 0 (min (S.size : Int) 300).toNat = ⟨(v.take 300).toArray⟩:=by
 have:=(cut300 S).1
 generalize S.extract 0 (min (S.size : Int) 300).toNat = X at this ⊢
 subst h
 rw [← this]
theorem OkRow.stored_row {w0 w : World} {ps : List Pers} {e : TypeId} {size g n cap : Nat} {xs : List Value} (h : OkRow w0 ps e size (.slice (some ⟨g,0,none⟩) n cap) n xs w) (j : Nat) (u : Value) :
  OkRow w0 ps e size (.slice (some ⟨g,0,none⟩) n cap) n (xs.set j u) (w.setCell ⟨g,j,none⟩ u) :=
 h.grown (h.own.stored j u).1 (h.own.stored j u).2 (.inr (.inl rfl))
theorem few_ (t0 : List NdA) (a : Option Addr) (c : Nat) (w : World) (h : RowsAt w a 11 (t0.map aRow)) (hnc : t0.length ≤ c) (hc : c ≤ maxLen) :
  Calls Tryz.prog 14 #[.slice a t0.length c] w fun e w' => ∃ u,e = .returned u ∧ w'.ownsRow w.heap.size 41 11 u (few t0).length (ndaCells (few t0)) ∧ Below w.heap.size w w':=by
 have hc' : c ≤ 9223372036854775807:=hc
 clear hc
 obtain ⟨n,hn⟩ : ∃ n,(t0.take 300).length = n:=⟨_,rfl⟩
 have hn1 : n = min t0.length 300:=by rw [← hn,List.length_take]; omega
 have HF:=keep (show few t0 = (t0.take 300).map cutN from rfl)
 rw [show (few t0).length = n by unfold few; rw [List.length_map,hn]]
 have HR:=keep (show RowsAt w a 11 ((t0.take 300).map aRow) from by
  intro hne
  obtain ⟨b,o,e1,e2,e3⟩:=h (by intro e; rw [List.map_eq_nil_iff.1 e] at hne; exact hne rfl)
  refine ⟨b,o,e1,e2,fun i r hi => e3 i r ?_⟩
  rw [List.map_take,List.getElem?_take] at hi
  split at hi
  ·exact hi
  ·cases hi)
 generalize few t0 = f0 at HF ⊢
 clear h
 generalize t0.take 300 = t at hn HF HR
 obtain ⟨n0,hn0⟩ : ∃ n0,t0.length = n0:=⟨_,rfl⟩
 rw [hn0] at hn1 hnc ⊢
 clear hn0
 have hmin : min n0 300 = n:=by omega
 have HN:=keep hn
 have hn300 : n ≤ 300:=by omega
 have hle : min (n0 : Int) 300 ≤ c:=by omega
 have h0le : 0 ≤ min (n0 : Int) 300:=by omega
 go_enter Tryz.func14,Tryz.ntmps14
 go_wp2_with fail
 rw [show (min (n0 : Int) 300).toNat = n by omega]
 rw [← HN.out]
 refine (copy_tree t a c _ HR.out (by rw [HN.out]; omega)).mono ?_
 rintro e w1 ⟨u,rfl,hown,hb⟩
 rw [HN.out] at hown
 have HO:=Lib.hid (OkRow.of_new (Ok.start w) hb hown)
 clear hown hb HR hn hle h0le hmin hn1 hnc hc'
 by_cases hz : n = 0
 ·subst hz
  have ht : t = []:=List.length_eq_zero_iff.1 HN.out
  have hu : ∃ ad cp,u = .slice ad 0 cp:=by
   rcases HO.out.own.2 with ⟨rfl,-⟩ | ⟨g,cap,cur,rfl,-⟩
   ·exact ⟨_,_,rfl⟩
   ·exact ⟨_,_,rfl⟩
  obtain ⟨ad,cp,rfl⟩:=hu
  have HFF:=keep (show ndaCells f0 = ndaCells t by rw [HF.out,ht]; rfl)
  clear ht HF HN
  go_wp2_with fail
  go_loopw [4] (fun i wr => i = .int .i64 0 ∧ Hid (OkRow w [] 41 11 (.slice ad 0 cp) 0 (ndaCells t) wr)) (fun i _ => 0 - (intOf i).toNat)
  case atStart => exact ⟨rfl,HO⟩
  case round =>
   obtain ⟨rfl,HO2⟩:=hrel
   go_wp2_with fail
   go_ret
   exact ⟨_,rfl,by rw [HFF.out]; exact HO2.out.own,HO2.out.ok.bel⟩
 obtain ⟨g,cap,rfl,-,-⟩:=HO.out.own.form (by omega)
 have hcap:=Lib.hid (show n ≤ cap by
  rcases HO.out.own.2 with ⟨h',-⟩ | ⟨g',cap',cur,h',-,-,h6,-⟩
  ·cases h'
  ·injection h' with h1 h2 h3; omega)
 go_wp2_with fail
 go_loopw [4] (fun i wr => ∃ k : Nat,k ≤ n ∧ i = .int .i64 (k : Int) ∧ Hid (OkRow w [] 41 11 (.slice (some ⟨g,0,none⟩) n cap) n (ndaCells ((t.take k).map cutN ++ t.drop k)) wr)) (fun i _ => n - (intOf i).toNat)
 case atStart => exact ⟨0,Nat.zero_le _,rfl,by simpa using HO⟩
 case round =>
  clear HO
  obtain ⟨k,hk,rfl,HO⟩:=hrel
  obtain ⟨wp,rfl⟩ : ∃ wp : World,wp = wr:=⟨_,rfl⟩
  by_cases hlt : (k : Int) < n
  ·have hil : k < t.length:=by rw [HN.out]; omega
   obtain ⟨S,hS⟩ : ∃ S : ByteArray,S = ⟨(t[k]).vt.toArray⟩:=⟨_,rfl⟩
   have HSD:=keep (show S.data.toList = (t[k]).vt by rw [hS])
   have HCX:=keep (cut300a S _ HSD.out)
   have hx2:=(cut300 S).2
   have HST:=keep (show (ndaCells ((t.take k).map cutN ++ t.drop k)).set (k * 11 + 3) (.string (S.extract 0 (min (S.size : Int) 300).toNat)) = ndaCells ((t.take (k + 1)).map cutN ++ t.drop (k + 1)) by
    rw [HCX.out,nda_set _ k _ _ (cut_at t k hil),← cut_step t k hil]
    rfl)
   have HC3:=keep (show (ndaCells ((t.take k).map cutN ++ t.drop k))[k * 11 + 3]? = some (.string S) by
    rw [hS]
    exact flat_at aRow 11 (fun _ => rfl) _ k _ (cut_at t k hil) 3 _ rfl)
   generalize ndaCells ((t.take k).map cutN ++ t.drop k) = xs at HO HST HC3
   clear HCX HSD hS hil
   have hn9 : k < n:=by omega
   have h31 : k ≤ 300:=by omega
   have HOX:=Lib.hid HO.out.drew
   clear hlt HO
   go_upto_region 5 with fail
   refine wp_region_any (by kernel_rfl) ?_
   change wpAny _ _ _ _ _ _ _ wp.drew
   generalize wp.drew = W1 at HOX ⊢
   have HO:=HOX
   clear HOX
   have c3:=HO.out.own.cells (g:=g) rfl _ _ HC3.out
   have f3:=HO.out.own.frozenAt (k * 11 + 3)
   rw [show (⟨g,0,none⟩ : Addr).add (k * 11 + 3) = ⟨g,k * 11 + 1 + 2,none⟩ by unfold Addr.add; simp] at c3
   rw [show k * 11 + 3 = k * 11 + 1 + 2 from rfl] at f3
   have hcp:=hcap.out
   refine wtn (i:=0) (v:=?a1) rfl ?b1 ?c1
   case b1 => (intro w; go_simp; (try rw [if_neg (by omega)]); (try rw [if_pos (by omega)]); (try with_reducible rfl))
   try simp only [Act.put,wp1,wp2,wp3,wp4,wp6]
   refine wtn (i:=1) (v:=?a3) rfl ?b3 ?c3
   case b3 => (intro w; go_simp; (try rw [if_neg (by omega)]); (try rw [if_pos (by omega)]); (try with_reducible rfl))
   try simp only [Act.put,wp1,wp2,wp3,wp4,wp5,wp6]
   refine wtn (i:=2) (v:=?a5) rfl ?b5 ?c5
   case b5 => (intro w; go_simp; (try rw [if_neg (by omega)]); (try rw [if_pos (by omega)]); (try with_reducible rfl))
   try simp only [Act.put,wp1,wp2,wp3,wp4,wp5,wp6]
   refine wtn (i:=3) (v:=?a7) rfl ?b7 ?c7
   case b7 => (intro w; go_simp; (try rw [if_neg (by omega)]); (try rw [if_pos (by omega)]); (try with_reducible rfl))
   try simp only [Act.put,wp1,wp2,wp3,wp4,wp5,wp6]
   refine wtn (i:=4) (v:=?a9) rfl ?b9 ?c9
   case b9 => (intro w; go_simp; (try rw [if_neg (by omega)]); (try rw [if_pos (by omega)]); (try with_reducible rfl))
   try simp only [Act.put,wp1,wp2,wp3,wp4,wp5,wp6]
   refine wtn (i:=5) (v:=?a11) rfl ?b11 ?c11
   case b11 => (intro w; go_simp; (try rw [if_neg (by omega)]); (try rw [if_pos (by omega)]); (try with_reducible rfl))
   try simp only [Act.put,wp1,wp2,wp3,wp4,wp5,wp6]
   refine wtn (i:=6) (v:=?a13) rfl ?b13 ?c13
   case b13 => (intro w; go_simp; (try rw [if_neg (by omega)]); (try rw [if_pos (by omega)]); (try with_reducible rfl))
   try simp only [Act.put,wp1,wp2,wp3,wp4,wp5,wp6]
   refine wtn (i:=8) (v:=?a15) rfl ?b15 ?c15
   case b15 => (intro w; go_simp; (try rw [if_neg (by omega)]); (try rw [if_pos (by omega)]); (try with_reducible rfl))
   try simp only [Act.put,wp1,wp2,wp3,wp4,wp5,wp6]
   refine wtn (i:=9) (v:=?a17) rfl ?b17 ?c17
   case b17 => (intro w; go_simp; (try rw [if_neg (by omega)]); (try rw [if_pos (by omega)]); (try with_reducible rfl))
   try simp only [Act.put,wp1,wp2,wp3,wp4,wp5,wp6]
   refine wtn (i:=10) (v:=?a19) rfl ?b19 ?c19
   case b19 => (intro w; go_simp; (try rw [if_neg (by omega)]); (try rw [if_pos (by omega)]); (try with_reducible rfl))
   try simp only [Act.put,wp1,wp2,wp3,wp4,wp5,wp6]
   refine wtn (i:=11) (v:=?a21) rfl ?b21 ?c21
   case b21 => (intro w; go_simp; (try rw [if_neg (by omega)]); (try rw [if_pos (by omega)]); (try with_reducible rfl))
   try simp only [Act.put,wp1,wp2,wp3,wp4,wp5,wp6]
   refine wtn (i:=12) (v:=?a23) rfl ?b23 ?c23
   case b23 => (intro w; go_simp; (try rw [if_neg (by omega)]); (try rw [if_pos (by omega)]); (try with_reducible rfl))
   try simp only [Act.put,wp1,wp2,wp3,wp4,wp5,wp6]
   refine wpAny_ready (rs:=[7,13]) (by kernel_rfl) (by simp) ?_
   refine (AllReady.cons rfl (fun K hK => ?_) (AllReady.cons rfl (fun K hK => ?_) AllReady.nil))
   ·go_simp
    refine hK _ _ ?_
    clear hK K
    try simp only [Act.put,wp1,wp2,wp3,wp4,wp5,wp6]
    refine wpAny_ready (rs:=[13]) (by kernel_rfl) (by simp) ?_
    refine (AllReady.cons rfl (fun K hK => ?_) AllReady.nil)
    ·go_simp
     refine hK _ _ ?_
     clear hK K
     try simp only [Act.put,wp1,wp2,wp3,wp4,wp5,wp6]
     refine wtn (i:=14) (v:=?a27) rfl ?b27 ?c27
     case b27 => (intro w; go_simp; (try rw [if_neg (by omega)]); (try rw [if_pos (by omega)]); (try with_reducible rfl))
     try simp only [Act.put,wp1,wp2,wp3,wp4,wp5,wp6]
     refine wtn (i:=15) (v:=?a29) rfl ?b29 ?c29
     case b29 => (intro w; go_simp; (try rw [if_neg (by omega)]); (try rw [if_pos (by omega)]); (try with_reducible rfl))
     try simp only [Act.put,wp1,wp2,wp3,wp4,wp5,wp6]
     refine wtn (i:=16) (v:=?a31) rfl ?b31 ?c31
     case b31 => (intro w; go_simp; (try rw [if_neg (by omega)]); (try rw [if_pos (by omega)]); (try with_reducible rfl))
     try simp only [Act.put,wp1,wp2,wp3,wp4,wp5,wp6]
     refine wtn (i:=17) (v:=?a33) rfl ?b33 ?c33
     case b33 => (intro w; go_simp; (try rw [if_neg (by omega)]); (try rw [if_pos (by omega)]); (try with_reducible rfl))
     try simp only [Act.put,wp1,wp2,wp3,wp4,wp5,wp6]
     refine wtn (i:=18) (v:=?a35) rfl ?b35 ?c35
     case b35 => (intro w; go_simp; (try rw [if_neg (by omega)]); (try rw [if_pos (by omega)]); (try with_reducible rfl))
     try simp only [Act.put,wp1,wp2,wp3,wp4,wp5,wp6]
     refine wtn (i:=19) (v:=?a37) rfl ?b37 ?c37
     case b37 => (intro w; go_simp; (try rw [if_neg (by omega)]); (try rw [if_pos (by omega)]); (try with_reducible rfl))
     try simp only [Act.put,wp1,wp2,wp3,wp4,wp5,wp6]
     refine wpAny_ready (rs:=[20]) (by kernel_rfl) (by simp) ?_
     refine (AllReady.cons rfl (fun K hK => ?_) AllReady.nil)
     ·go_simp
      have HS:=Lib.hid (HO.out.stored_row (k * 11 + 3) (.string (S.extract 0 (min (S.size : Int) 300).toNat)))
      refine hK _ _ ?_
      clear hK K
      try simp only [Act.put,wp1,wp2,wp3,wp4,wp5,wp6]
      refine wpAny_done (by kernel_rfl) ?_ _
      go_wp2_with fail
      go_roundw
      case rel => exact ⟨k + 1,by omega,by go_num,Lib.hid (by rw [← HST.out]; exact HS.out)⟩
      case measure => simp [intOf]; omega
   ·go_simp
    refine hK _ _ ?_
    clear hK K
    try simp only [Act.put,wp1,wp2,wp3,wp4,wp5,wp6]
    refine wtn (i:=14) (v:=?a41) rfl ?b41 ?c41
    case b41 => (intro w; go_simp; (try rw [if_neg (by omega)]); (try rw [if_pos (by omega)]); (try with_reducible rfl))
    try simp only [Act.put,wp1,wp2,wp3,wp4,wp5,wp6]
    refine wtn (i:=15) (v:=?a43) rfl ?b43 ?c43
    case b43 => (intro w; go_simp; (try rw [if_neg (by omega)]); (try rw [if_pos (by omega)]); (try with_reducible rfl))
    try simp only [Act.put,wp1,wp2,wp3,wp4,wp5,wp6]
    refine wpAny_ready (rs:=[7]) (by kernel_rfl) (by simp) ?_
    refine (AllReady.cons rfl (fun K hK => ?_) AllReady.nil)
    ·go_simp
     refine hK _ _ ?_
     clear hK K
     try simp only [Act.put,wp1,wp2,wp3,wp4,wp5,wp6]
     refine wtn (i:=16) (v:=?a46) rfl ?b46 ?c46
     case b46 => (intro w; go_simp; (try rw [if_neg (by omega)]); (try rw [if_pos (by omega)]); (try with_reducible rfl))
     try simp only [Act.put,wp1,wp2,wp3,wp4,wp5,wp6]
     refine wtn (i:=17) (v:=?a48) rfl ?b48 ?c48
     case b48 => (intro w; go_simp; (try rw [if_neg (by omega)]); (try rw [if_pos (by omega)]); (try with_reducible rfl))
     try simp only [Act.put,wp1,wp2,wp3,wp4,wp5,wp6]
     refine wtn (i:=18) (v:=?a50) rfl ?b50 ?c50
     case b50 => (intro w; go_simp; (try rw [if_neg (by omega)]); (try rw [if_pos (by omega)]); (try with_reducible rfl))
     try simp only [Act.put,wp1,wp2,wp3,wp4,wp5,wp6]
     refine wtn (i:=19) (v:=?a52) rfl ?b52 ?c52
     case b52 => (intro w; go_simp; (try rw [if_neg (by omega)]); (try rw [if_pos (by omega)]); (try with_reducible rfl))
     try simp only [Act.put,wp1,wp2,wp3,wp4,wp5,wp6]
     refine wpAny_ready (rs:=[20]) (by kernel_rfl) (by simp) ?_
     refine (AllReady.cons rfl (fun K hK => ?_) AllReady.nil)
     ·go_simp
      have HS:=Lib.hid (HO.out.stored_row (k * 11 + 3) (.string (S.extract 0 (min (S.size : Int) 300).toNat)))
      refine hK _ _ ?_
      clear hK K
      try simp only [Act.put,wp1,wp2,wp3,wp4,wp5,wp6]
      refine wpAny_done (by kernel_rfl) ?_ _
      go_wp2_with fail
      go_roundw
      case rel => exact ⟨k + 1,by omega,by go_num,Lib.hid (by rw [← HST.out]; exact HS.out)⟩
      case measure => simp [intOf]; omega
  ·obtain rfl : n = k:=by omega
   have HFF:=keep (show ndaCells f0 = ndaCells ((t.take n).map cutN ++ t.drop n) by
    rw [HF.out,List.take_of_length_le (by rw [HN.out]; exact Nat.le_refl _),List.drop_eq_nil_of_le (by rw [HN.out]; exact Nat.le_refl _),List.append_nil])
   go_wp2_with fail
   go_ret
   exact ⟨_,rfl,by rw [HFF.out]; exact HO.out.own,HO.out.ok.bel⟩
end Go.Proofs.YtnbemkiplnanlaaGreatDoor
namespace Go.Proofs.YtnbemkiplnanlaaGreatDoor
open Go.RowKit
theorem form_show {t : List NdA} (h : checkA t = 0) (hn : ∀ a ∈ t,a.vn ≤ 9223372036854775807) (hl : (showT (t.map NdA.nd)).length ≤ 256) : formS (showT (t.map NdA.nd)) = (t.map NdA.nd,0,0):=by
 obtain ⟨he,hk,-⟩:=tchk_of h hn
 obtain ⟨ts,h1,h2⟩:=show_back _ hk.ndc (checkS_of h) hl
 exact form_pk h1 h2 (checkS_of h)
theorem few_sz {t : List NdA} (h : ∀ n ∈ t,NdIn n) : ASz (few t) :=
 ⟨by have:=few_le t; omega,fun a ha => by have:=(few_in h a ha).2; omega,fun a ha => (few_in h a ha).1.num.2⟩
theorem data_list (l : List UInt8) : (⟨l.toArray⟩ : ByteArray).data.toList = l:=by simp
end Go.Proofs.YtnbemkiplnanlaaGreatDoor
