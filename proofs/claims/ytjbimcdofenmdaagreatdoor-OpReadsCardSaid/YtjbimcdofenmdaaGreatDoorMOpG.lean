/- The contract of glyph.Unquote, at every string. -/
import Derived.Test.YtjbimcdofenmdaaGreatDoorMOpP
import Derived.Test.YtjbimcdofenmdaaGreatDoorMLexI
namespace Go.Proofs.YtjbimcdofenmdaaGreatDoor
open Go.RowKit
theorem inner_len (l : List UInt8) : (innerL l).length = l.length - 2:=by
 unfold innerL; simp; omega
theorem inner_at (l : List UInt8) (j : Nat) (h : j < (innerL l).length) : (innerL l)[j] = l[j + 1]'(by have:=inner_len l; omega):=by
 have hl:=inner_len l
 have e : (innerL l)[j]? = l[j + 1]?:=by unfold innerL; rw [List.getElem?_take,if_pos (by omega),List.getElem?_drop,Nat.add_comm 1 j]
 rw [List.getElem?_eq_getElem h,List.getElem?_eq_getElem (by omega)] at e
 exact Option.some.inj e
def UnI (L : List UInt8) (k : Nat) (l : List UInt8) : Prop:=unqI (innerL L) = (unqI ((innerL L).drop (k - 1))).map (l ++ ·)
theorem UnI.start (L : List UInt8) : UnI L 1 []:=by
 unfold UnI
 rw [Nat.sub_self,List.drop_zero]
 cases unqI (innerL L) <;> rfl
theorem UnI.stop {L l : List UInt8} {k : Nat} (h : UnI L k l) (hk : k + 1 = L.length) : unqI (innerL L) = some l:=by
 unfold UnI at h
 rw [List.drop_of_length_le (by rw [inner_len]; omega)] at h
 rw [h]
 show some (l ++ []) = some l
 rw [List.append_nil]
theorem inner_drop (L : List UInt8) (k : Nat) (h1 : 1 ≤ k) (hk : k + 1 < L.length) : (innerL L).drop (k - 1) = L[k]'(by omega) :: (innerL L).drop k:=by
 have hl:=inner_len L
 rw [List.drop_eq_getElem_cons (by omega),inner_at]
 simp only [show k - 1 + 1 = k by omega]
theorem UnI.step {L l : List UInt8} {k : Nat} (h : UnI L k l) (h1 : 1 ≤ k) (hk : k + 1 < L.length) (hb : L[k]'(by omega) ≠ 34) : UnI L (k + 1) (l ++ [L[k]'(by omega)]):=by
 unfold UnI at h ⊢
 rw [h,inner_drop L k h1 hk,unqI_ne _ _ hb,Nat.add_sub_cancel]
 cases unqI ((innerL L).drop k) with
 | none => rfl
 | some t => simp
theorem UnI.two {L l : List UInt8} {k : Nat} (h : UnI L k l) (h1 : 1 ≤ k) (hk : k + 2 < L.length) (hb : L[k]'(by omega) = 34) (hc : L[k + 1]'(by omega) = 34) : UnI L (k + 2) (l ++ [34]):=by
 unfold UnI at h ⊢
 have h2:=inner_drop L (k + 1) (by omega) (by omega)
 rw [Nat.add_sub_cancel] at h2
 rw [h,inner_drop L k h1 (by omega),h2,hb,hc,unqI_two]
 show Option.map (l ++ ·) (Option.map (34 :: ·) (unqI ((innerL L).drop (k + 1)))) = Option.map (l ++ [34] ++ ·) (unqI ((innerL L).drop (k + 1)))
 cases unqI ((innerL L).drop (k + 1)) with
 | none => rfl
 | some t => simp
theorem UnI.bad {L l : List UInt8} {k : Nat} (h : UnI L k l) (h1 : 1 ≤ k) (hk : k + 2 < L.length) (hb : L[k]'(by omega) = 34) (hc : L[k + 1]'(by omega) ≠ 34) : unqI (innerL L) = none:=by
 unfold UnI at h
 have h2:=inner_drop L (k + 1) (by omega) (by omega)
 rw [Nat.add_sub_cancel] at h2
 rw [h,inner_drop L k h1 (by omega),h2,hb,unqI_bad _ _ hc]; rfl
theorem UnI.last {L l : List UInt8} {k : Nat} (h : UnI L k l) (h1 : 1 ≤ k) (hk : k + 2 = L.length) (hb : L[k]'(by omega) = 34) : unqI (innerL L) = none:=by
 unfold UnI at h
 rw [h,inner_drop L k h1 (by omega),hb,List.drop_of_length_le (by rw [inner_len]; omega)]
 rfl
theorem unqV_no {L : List UInt8} (h : litB L = false) : unqV L = ([],4):=by unfold unqV; rw [h]; rfl
theorem unqV_none {L : List UInt8} (h : unqI (innerL L) = none) : unqV L = ([],4):=by unfold unqV; rw [h]; simp
theorem unqV_some {L l : List UInt8} (h0 : litB L = true) (h : unqI (innerL L) = some l) (hl : l.length ≤ 256) : unqV L = (l,0):=by unfold unqV; rw [if_pos h0,h]; simp only [if_pos hl]
theorem unqV_long {L l : List UInt8} (h0 : litB L = true) (h : unqI (innerL L) = some l) (hl : ¬ l.length ≤ 256) : unqV L = ([],5):=by unfold unqV; rw [if_pos h0,h]; simp only [if_neg hl]
theorem byte_ne {b : UInt8} (h : b ≠ 34) : ((b.toNat : Int) != 34) = true:=by
 rw [bne_iff_ne]
 intro e
 exact h (by rw [← UInt8.toNat_inj]; show _ = 34; omega)
set_option maxRecDepth 100000 in
set_option maxHeartbeats 4000000 in
theorem glyph_UnquoteV (s : ByteArray) (w : World) (hs : s.size ≤ 100000) :
  Calls Tryz.prog 62 #[.string s] w fun e w' => e = .returned (.tuple #[.string ⟨(unqV s.data.toList).1.toArray⟩,.int .i64 (unqV s.data.toList).2]) ∧ Below w.heap.size w w':=by
 obtain ⟨i0,hi,hz0,hz1,hz2⟩:=info_parts info_u8
 have hsl : s.data.toList.length = s.size:=by rw [Array.length_toList]; rfl
 obtain ⟨r,hr⟩ : ∃ r,unqV s.data.toList = r:=⟨_,rfl⟩
 rw [hr]
 have HR:=keep hr
 clear hr
 by_cases h2 : s.size < 2
 ·have hq : r = ([],4):=by rw [← HR.out]; exact unqV_no (by unfold litB; rw [decide_eq_false (by omega)]; rfl)
  subst hq
  have g1 : (s.size : Int) < 2:=by omega
  have HSL:=keep hsl
  clear h2 hsl
  go_enter Tryz.func62,Tryz.ntmps62
  go_wp2_with fail
  go_step3
  go_wp2_with fail
  try rw [Exit.noGoto_ret]
  exact bodyPost_ret (v:=.tuple #[.string ⟨#[]⟩,.int .i64 4]) (by simp [results,Tryz.results62,go_sem]) rfl ⟨rfl,Below.refl _ _⟩
 have h0 : 0 < s.size:=by omega
 have g1 : ¬ (s.size : Int) < 2:=by omega
 by_cases hc0 : s[0]'h0 = 34
 case neg =>
  have hq : r = ([],4):=by
   rw [← HR.out]
   refine unqV_no ?_
   have : s.data.toList.head? = some (s[0]'h0):=by
    rw [List.head?_eq_getElem?,List.getElem?_eq_getElem (by rw [hsl]; exact h0)]; rfl
   unfold litB
   rw [this,decide_eq_false (fun e => hc0 (Option.some.inj e))]
   simp
  subst hq
  have hb0 : (((s[0]'h0).toNat : Int) != 34) = true:=byte_ne hc0
  have HSL:=keep hsl
  clear h2 hsl hc0
  go_enter Tryz.func62,Tryz.ntmps62
  go_wp2_with fail
  go_step3
  go_wp2_with fail
  try rw [Exit.noGoto_ret]
  exact bodyPost_ret (v:=.tuple #[.string ⟨#[]⟩,.int .i64 4]) (by simp [results,Tryz.results62,go_sem]) rfl ⟨rfl,Below.refl _ _⟩
 have hb0 : (((s[0]'h0).toNat : Int) != 34) = false:=by rw [hc0]; rfl
 obtain ⟨z,hz⟩ : ∃ z,s.size - 1 = z:=⟨_,rfl⟩
 have hzs : z < s.size:=by omega
 have hzz : (s.size : Int) - 1 = (z : Int):=by omega
 have hlast : s.data.toList.getLast? = some (s[z]'hzs):=by
  rw [List.getLast?_eq_getElem?,hsl,List.getElem?_eq_getElem (by rw [hsl]; omega)]
  simp only [hz]; rfl
 by_cases hcz : s[z]'hzs = 34
 case neg =>
  have hq : r = ([],4):=by
   rw [← HR.out]
   refine unqV_no ?_
   unfold litB
   rw [hlast,decide_eq_false (p:=some (s[z]'hzs) = some 34) (fun e => hcz (Option.some.inj e))]
   simp
  subst hq
  have hbz : (((s[z]'hzs).toNat : Int) != 34) = true:=byte_ne hcz
  have HSL:=keep hsl
  have HZ:=keep hz
  clear h2 hsl hc0 hcz hlast hz
  go_enter Tryz.func62,Tryz.ntmps62
  go_wp2_with fail
  go_step3
  go_wp2_with fail
  try rw [Exit.noGoto_ret]
  exact bodyPost_ret (v:=.tuple #[.string ⟨#[]⟩,.int .i64 4]) (by simp [results,Tryz.results62,go_sem]) rfl ⟨rfl,Below.refl _ _⟩
 have hbz : (((s[z]'hzs).toNat : Int) != 34) = false:=by rw [hcz]; rfl
 have hlit : litB s.data.toList = s.data.toList.all plainB:=by
  have : s.data.toList.head? = some (s[0]'h0):=by
   rw [List.head?_eq_getElem?,List.getElem?_eq_getElem (by rw [hsl]; exact h0)]; rfl
  unfold litB
  rw [this,hlast,hc0,hcz,decide_eq_true (by omega : 2 ≤ s.data.toList.length)]
  simp
 cases hp : s.data.toList.all plainB
 ·have hq : r = ([],4):=by rw [← HR.out]; exact unqV_no (by rw [hlit,hp])
  subst hq
  have HP:=keep hp
  have HSL:=keep hsl
  have HZ:=keep hz
  clear h2 hsl hc0 hcz hlast hz hp hlit
  go_enter Tryz.func62,Tryz.ntmps62
  go_wp2_with fail
  go_step3
  go_wp2_with fail
  refine (glyph_printable s _ (by omega)).mono ?_
  rintro e w1 ⟨rfl,hb⟩
  rw [HP.out]
  have H1:=Lib.hid hb
  clear hb
  go_wp2_with fail
  try rw [Exit.noGoto_ret]
  exact bodyPost_ret (v:=.tuple #[.string ⟨#[]⟩,.int .i64 4]) (by simp [results,Tryz.results62,go_sem]) rfl ⟨rfl,H1.out⟩
 ·rw [hp] at hlit
  have HP:=keep hp
  have HSL:=keep hsl
  have HZ:=keep hz
  have HLIT:=keep hlit
  clear h2 hsl hc0 hcz hlast hz hp hlit
  go_enter Tryz.func62,Tryz.ntmps62
  go_wp2_with fail
  go_step3
  go_wp2_with fail
  refine (glyph_printable s _ (by omega)).mono ?_
  rintro e w1 ⟨rfl,hb⟩
  rw [HP.out]
  have H1:=Lib.hid ((Ok.start w).below hb)
  clear hb
  go_wp2_with fail
  go_step3
  clear hb0 hbz
  go_wp2_with fail
  go_loopw [5,6] (fun ov iv wr => ∃ (k : Nat) (l : List UInt8),1 ≤ k ∧ k ≤ z ∧ iv = .int .i64 (k : Int) ∧ l.length ≤ k ∧ Keep (UnI s.data.toList k l) ∧ Hid (OkRow w [] 5 1 ov l.length (bytesV l) wr)) (fun _ iv _ => s.size - (intOf iv).toNat)
  case atStart => exact ⟨1,[],Nat.le_refl _,by have:=HZ.out; omega,rfl,Nat.zero_le _,keep (UnI.start _),Lib.hid (OkRow.start H1.out _ _)⟩
  case round =>
   clear H1
   obtain ⟨k,l,hk1,hk,rfl,hll,HU,H⟩:=hrel
   obtain ⟨wp,rfl⟩ : ∃ wp : World,wp = wr:=⟨_,rfl⟩
   by_cases hlt : (k : Int) = z
   ·have hlt2 : k = z:=by omega
    subst hlt2
    have hun:=HU.out.stop (by rw [HSL.out]; have:=HZ.out; omega)
    clear hlt HU
    have hcv:=own_string H.out.own
    obtain ⟨a,c,hv⟩:=own_len H.out.own
    subst hv
    by_cases hl : l.length ≤ 256
    ·have hq : r = (l,0):=by rw [← HR.out]; exact unqV_some HLIT.out hun hl
     subst hq
     have g3 : ¬ (l.length : Int) > 256:=by omega
     clear hun hl
     go_wp2_with fail
     try rw [Exit.noGoto_ret]
     exact bodyPost_ret (v:=.tuple #[.string ⟨l.toArray⟩,.int .i64 0]) (by simp [results,Tryz.results62,go_sem]) rfl ⟨rfl,H.out.ok.bel⟩
    ·have hq : r = ([],5):=by rw [← HR.out]; exact unqV_long HLIT.out hun hl
     subst hq
     have g3 : (l.length : Int) > 256:=by omega
     clear hun hl
     go_wp2_with fail
     try rw [Exit.noGoto_ret]
     exact bodyPost_ret (v:=.tuple #[.string ⟨#[]⟩,.int .i64 5]) (by simp [results,Tryz.results62,go_sem]) rfl ⟨rfl,H.out.ok.bel⟩
   ·have hkn : k + 1 < s.size:=by omega
    have hks : k < s.size:=by omega
    have hkL : k + 1 < s.data.toList.length:=by rw [HSL.out]; exact hkn
    by_cases h3 : s[k]'hks = 34
    case neg =>
     have hi3 : ¬ ((s[k]'hks).toNat : Int) = 34:=by
      intro e
      exact h3 (by rw [← UInt8.toNat_inj]; show _ = 34; omega)
     have HU2:=keep (show UnI s.data.toList (k + 1) (l ++ [s[k]'hks]) from HU.out.step hk1 hkL h3)
     obtain ⟨b,hb⟩ : ∃ b,s[k]'hks = b:=⟨_,rfl⟩
     rw [hb] at HU2 hi3
     have hbi : ((s[k]'hks).toNat : Int) = (b.toNat : Int):=by rw [hb]
     clear h3 hb
     go_wp2_with (at_builtin; refine wpList_append_lies _ rfl _ _ _ rfl w.heap.size 5 i0 _ 1 1 Tryz.underlying69 hi hz0 hz1 hz2 rfl (by omega) _ _ _ rfl (H.out.own.alloc _) ⟨wp.heap.size,0,none⟩ 1 1 [.int .u8 b.toNat] rfl rfl (World.news_of_block (cs:=#[.int .u8 b.toNat]) (t:=5) (fr:=(0,0)) (heap_alloc_new _ _)) (by intro u hu; simp at hu; rcases hu with rfl; rfl) (by omega) (by unfold maxLen; omega) (by omega) (by have:=H.out.ok.bel.size; simp; omega) _ rfl ?_; intro g cap w3 hown3 hgrow3 hat3 hlt3)
     go_roundw
     case rel => exact ⟨k + 1,l ++ [b],by omega,by omega,by go_num,by simp; omega,HU2,by rw [bytesV_snoc,List.length_append]; exact (H.out.alloc_obj _).appended hown3 hgrow3 hat3⟩
     case measure => simp [intOf]; omega
    have hb3 : (((s[k]'hks).toNat : Int) != 34) = false:=by rw [h3]; rfl
    by_cases hl2 : k + 1 = z
    ·have hq : r = ([],4):=by rw [← HR.out]; exact unqV_none (HU.out.last hk1 (by rw [HSL.out]; have:=HZ.out; omega) h3)
     subst hq
     have hne : (k : Int) + 1 = z:=by omega
     clear h3 hl2
     go_wp2_with fail
     try rw [Exit.noGoto_ret]
     exact bodyPost_ret (v:=.tuple #[.string ⟨#[]⟩,.int .i64 4]) (by simp [results,Tryz.results62,go_sem]) rfl ⟨rfl,H.out.ok.bel⟩
    have hkz : k + 2 < s.data.toList.length:=by rw [HSL.out]; have:=HZ.out; omega
    have hne : ¬ (k : Int) + 1 = z:=by omega
    have ht1 : ((k : Int) + 1).toNat = k + 1:=by omega
    by_cases h6 : s[k + 1]'hkn = 34
    ·have HU2:=keep (HU.out.two hk1 hkz h3 h6)
     have hb6 : (((s[k + 1]'hkn).toNat : Int) != 34) = false:=by rw [h6]; rfl
     clear h3 h6
     go_wp2_with (at_builtin; refine wpList_append_lies _ rfl _ _ _ rfl w.heap.size 5 i0 _ 1 1 Tryz.underlying69 hi hz0 hz1 hz2 rfl (by omega) _ _ _ rfl (H.out.own.alloc _) ⟨wp.heap.size,0,none⟩ 1 1 [.int .u8 34] rfl rfl (World.news_of_block (cs:=#[.int .u8 34]) (t:=5) (fr:=(0,0)) (heap_alloc_new _ _)) (by intro u hu; simp at hu; rcases hu with rfl; rfl) (by omega) (by unfold maxLen; omega) (by omega) (by have:=H.out.ok.bel.size; simp; omega) _ rfl ?_; intro g cap w3 hown3 hgrow3 hat3 hlt3)
     go_roundw
     case rel => exact ⟨k + 2,l ++ [34],by omega,by have:=HZ.out; rw [HSL.out] at hkz; omega,by go_num,by simp; omega,HU2,by rw [bytesV_snoc,List.length_append]; exact (H.out.alloc_obj _).appended hown3 hgrow3 hat3⟩
     case measure => simp [intOf]; omega
    ·have hq : r = ([],4):=by rw [← HR.out]; exact unqV_none (HU.out.bad hk1 hkz h3 h6)
     subst hq
     have hb6 : (((s[k + 1]'hkn).toNat : Int) != 34) = true:=byte_ne h6
     clear h3 h6
     go_wp2_with fail
     try rw [Exit.noGoto_ret]
     exact bodyPost_ret (v:=.tuple #[.string ⟨#[]⟩,.int .i64 4]) (by simp [results,Tryz.results62,go_sem]) rfl ⟨rfl,H.out.ok.bel⟩
end Go.Proofs.YtjbimcdofenmdaaGreatDoor
