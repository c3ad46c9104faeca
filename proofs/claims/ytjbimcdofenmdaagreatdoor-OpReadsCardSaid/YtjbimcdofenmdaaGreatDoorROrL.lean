/- The reference of chapter 29: numbers that are read. The reference of chapter 29: Split. The reference of chapter 29: ranges that are read. The reference's Unquote, at every string. The reference of chapter 29: Literal. -/
import Derived.Test.YtjbimcdofenmdaaGreatDoorROrD
import Derived.Test.YtjbimcdofenmdaaGreatDoorMOk
import Derived.Test.YtjbimcdofenmdaaGreatDoorMOpJ
import Derived.Test.YtjbimcdofenmdaaGreatDoorMOpG
namespace Go.Proofs.YtjbimcdofenmdaaGreatDoor
open Go.RowKit
def valQ (l : List UInt8) : Nat:=l.foldl (fun v b => 10 * v + (b.toNat - 48)) 0
theorem valQ_snoc (l : List UInt8) (b : UInt8) : valQ (l ++ [b]) = 10 * valQ l + (b.toNat - 48):=by unfold valQ; rw [List.foldl_append]; rfl
theorem valQ_dec (m : Nat) : valQ (Lib.decDigits m) = m:=by
 induction m using Nat.strongRecOn with
 | _ u ih =>
  by_cases hu : u < 10
  ·rw [Lib.decDigits,dif_pos hu]
   show 10 * 0 + ((UInt8.ofNat (48 + u)).toNat - 48) = u
   rw [UInt8.toNat_ofNat']; omega
  ·rw [Lib.decDigits,dif_neg hu,valQ_snoc,ih (u / 10) (by omega),UInt8.toNat_ofNat']; omega
theorem valQ_le (l r : List UInt8) : valQ l ≤ valQ (l ++ r):=by
 induction r generalizing l with
 | nil => rw [List.append_nil]; exact Nat.le_refl _
 | cons b r ih =>
  have:=ih (l ++ [b])
  rw [List.append_assoc,valQ_snoc] at this
  exact Nat.le_trans (by omega) this
theorem valQ_take (l : List UInt8) (k : Nat) : valQ (l.take k) ≤ valQ l:=by
 have:=valQ_le (l.take k) (l.drop k)
 rwa [List.take_append_drop] at this
theorem valQ_step (l : List UInt8) (k : Nat) (b : UInt8) (h : l[k]? = some b) : valQ (l.take (k + 1)) = 10 * valQ (l.take k) + (b.toNat - 48):=by
 obtain ⟨hk,rfl⟩:=List.getElem?_eq_some_iff.1 h
 rw [List.take_succ_eq_append_getElem hk,valQ_snoc]
def ReadD (l : List UInt8) (most n : Nat) (ok : Bool) : Prop:=n ≤ most ∧ ∀ m,m ≤ most → l = Lib.decDigits m → n = m ∧ ok = true
theorem rd_bad {l : List UInt8} {k most : Nat} {b : UInt8} (h : l[k]? = some b) (hb : b.toNat < 48 ∨ 57 < b.toNat) : ReadD l most 0 false:=by
 refine ⟨Nat.zero_le _,fun m _ e => ?_⟩
 have:=dec_dig10 m b (by rw [← e]; exact List.mem_of_getElem? h)
 omega
theorem rd_over {l : List UInt8} {k most : Nat} {b : UInt8} (h : l[k]? = some b) (hb : most < 10 * valQ (l.take k) + (b.toNat - 48)) : ReadD l most 0 false:=by
 refine ⟨Nat.zero_le _,fun m hm e => ?_⟩
 have h1:=valQ_take l (k + 1)
 rw [valQ_step l k b h,e,valQ_dec,← e] at h1
 omega
theorem rd_end {l : List UInt8} {most : Nat} (h : valQ l ≤ most) : ReadD l most (valQ l) (Lib.decDigits (valQ l) == l):=by
 refine ⟨h,fun m _ e => ?_⟩
 subst e
 rw [valQ_dec]
 exact ⟨rfl,beq_self_eq_true _⟩
def RDOut (l : List UInt8) (most : Nat) (w : World) (e : Ending) (w' : World) : Prop:=∃ n ok,e = .returned (.tuple #[.int .u64 (n : Nat),.bool ok]) ∧ ReadD l most n ok ∧ Below w.heap.size w w'
theorem at_list (s : ByteArray) (i : Nat) (h : i < s.size) (b : UInt8) (hb : s[i]'h = b) : s.data.toList[i]? = some b:=by
 rw [← hb,List.getElem?_eq_getElem (by simpa using h)]; rfl
set_option maxRecDepth 100000 in
set_option maxHeartbeats 4000000 in
theorem r9_ReadDigits (s : ByteArray) (most : Nat) (hm : most < 18446744073709551616) (hs : s.size ≤ 4294967296) (w : World) :
  Calls Tryz.prog 67 #[.string s,.int .u64 (most : Nat)] w (RDOut s.data.toList most w):=by
 obtain ⟨R,hR⟩ : ∃ R,RDOut s.data.toList most w = R:=⟨_,rfl⟩
 rw [hR]
 go_enter Tryz.func67,Tryz.ntmps67
 go_wp2_with fail
 go_loopw [6,7] (fun nv iv wr => ∃ i n : Nat,i ≤ s.size ∧ iv = .int .i64 (i : Int) ∧ nv = .int .u64 (n : Int) ∧ n ≤ most ∧ Keep (n = valQ (s.data.toList.take i)) ∧ wr = w) (fun _ iv _ => s.size - (intOf iv).toNat)
 case atStart => exact ⟨0,0,Nat.zero_le _,rfl,rfl,Nat.zero_le _,keep rfl,rfl⟩
 case round =>
  obtain ⟨i,n,hi,rfl,rfl,hn,HN,rfl⟩:=hrel
  by_cases hlt : (i : Int) < s.size
  ·have hks : i < s.size:=by omega
   obtain ⟨b,hb⟩ : ∃ b,s[i]'hks = b:=⟨_,rfl⟩
   have hbi : ((s[i]'hks).toNat : Int) = (b.toNat : Int):=by rw [hb]
   have HB:=keep (at_list s i hks b hb)
   clear hb
   obtain ⟨v,hv⟩ : ∃ v,b.toNat = v:=⟨_,rfl⟩
   rw [hv] at hbi
   have HV:=keep hv
   clear hv
   by_cases d1 : (v : Int) < 48
   ·go_wp2_with fail
    subst hR
    exact ⟨0,false,rfl,rd_bad HB.out (by have:=HV.out; omega),Below.refl _ _⟩
   by_cases d2 : (v : Int) > 57
   ·go_wp2_with fail
    subst hR
    exact ⟨0,false,rfl,rd_bad HB.out (by have:=HV.out; omega),Below.refl _ _⟩
   obtain ⟨d,hd⟩ : ∃ d,v - 48 = d:=⟨_,rfl⟩
   have e1 : IntKind.u8.wrap ((v : Int) - 48) = (d : Int):=by rw [Go.IntWalk.u8_in _ (by omega)]; omega
   have e2 : IntKind.u64.wrap (d : Int) = (d : Int):=Go.IntWalk.u64_in _ (by omega)
   by_cases d3 : (d : Int) > (most : Int)
   ·go_wp2_with fail
    subst hR
    exact ⟨0,false,rfl,rd_over HB.out (by have:=HV.out; omega),Below.refl _ _⟩
   obtain ⟨z,hz⟩ : ∃ z,most - d = z:=⟨_,rfl⟩
   obtain ⟨q,hq⟩ : ∃ q,z / 10 = q:=⟨_,rfl⟩
   have e3 : IntKind.u64.wrap ((most : Int) - (d : Int)) = (z : Int):=by rw [Go.IntWalk.u64_in _ (by omega)]; omega
   have e4 : (z : Int).tdiv 10 = (q : Int):=by rw [Int.tdiv_eq_ediv_of_nonneg (by omega)]; omega
   have e5 : (z : Int) / 10 = (q : Int):=by omega
   have e6 : IntKind.u64.wrap (q : Int) = (q : Int):=Go.IntWalk.u64_in _ (by omega)
   by_cases d4 : (n : Int) > (q : Int)
   ·go_wp2_with fail
    subst hR
    exact ⟨0,false,rfl,rd_over HB.out (by have:=HV.out; have:=HN.out; omega),Below.refl _ _⟩
   obtain ⟨m,hm10⟩ : ∃ m,10 * n = m:=⟨_,rfl⟩
   obtain ⟨p,hp⟩ : ∃ p,m + d = p:=⟨_,rfl⟩
   have e7 : IntKind.u64.wrap (10 * (n : Int)) = (m : Int):=by rw [Go.IntWalk.u64_in _ (by omega)]; omega
   have e8 : IntKind.u64.wrap ((m : Int) + (d : Int)) = (p : Int):=by rw [Go.IntWalk.u64_in _ (by omega)]; omega
   have HP:=keep (show p = valQ (s.data.toList.take (i + 1)) by rw [valQ_step _ i b HB.out,← HN.out]; have:=HV.out; omega)
   have hpm : p ≤ most:=by omega
   have hw9 : IntKind.i64.wrap ((i : Int) + 1) = (i : Int) + 1:=Go.IntWalk.i64_in _ (by omega)
   clear hz hq hm10 hp hd
   go_wp2_with fail
   go_roundw
   case rel => exact ⟨i + 1,p,by omega,by go_num,rfl,hpm,HP,trivial⟩
   case measure => simp [intOf]; omega
  ·have hii : i = s.size:=by omega
   have HN2:=keep (show n = valQ s.data.toList by rw [HN.out,hii,List.take_of_length_le (by simp)])
   clear hi hii
   go_wp2_with fail
   refine (ref1_Digits n _ (by omega)).mono ?_
   rintro e w1 ⟨rfl,hb⟩
   have H:=Lib.hid hb
   clear hb
   go_wp2_with fail
   subst hR
   refine ⟨n,_,rfl,?_,H.out⟩
   rw [HN2.out] at hn ⊢
   rw [ByteArray.toList_eq]
   exact rd_end hn
def RNOut (l : List UInt8) (w : World) (e : Ending) (w' : World) : Prop:=∃ v ok,e = .returned (.tuple #[.int .i64 v,.bool ok]) ∧ i64B v ∧ (∀ m,i64B m → l = Lib.itoa m → v = m) ∧ Below w.heap.size w w'
theorem itoa_head (m : Int) (l : List UInt8) (h : l = Lib.itoa m) : (l.head? = some 45 ∧ m < 0 ∧ l.drop 1 = Lib.decDigits m.natAbs) ∨ (l.head? ≠ some 45 ∧ ¬ m < 0 ∧ l = Lib.decDigits m.natAbs):=by
 unfold Lib.itoa at h
 by_cases hm : m < 0
 ·rw [if_pos hm] at h
  subst h
  exact .inl ⟨rfl,hm,rfl⟩
 ·rw [if_neg hm,show m.toNat = m.natAbs by omega] at h
  subst h
  refine .inr ⟨fun e => ?_,hm,rfl⟩
  have:=dec_dig10 m.natAbs 45 (List.mem_of_head? e)
  exact absurd this.1 (by decide)
theorem ext_drop (s : ByteArray) (i : Nat) : (s.extract i s.size).data.toList = s.data.toList.drop i:=by
 have h : s.data.toList.length = s.size:=Array.length_toList
 rw [Lib.extract_data,List.take_of_length_le (by rw [List.length_drop,h]; omega)]
theorem ext_size (s : ByteArray) (i j : Nat) : (s.extract i j).size ≤ s.size:=by
 rw [ByteArray.size_extract]; omega
set_option maxRecDepth 100000 in
set_option maxHeartbeats 4000000 in
theorem r9_num_empty (s : ByteArray) (hs : s.size ≤ 2000) (hc : s.size = 0) (w : World) :
  Calls Tryz.prog 64 #[.string s] w (RNOut s.data.toList w):=by
 obtain ⟨R,hR⟩ : ∃ R,RNOut s.data.toList w = R:=⟨_,rfl⟩
 rw [hR]
 have g0 : ¬ (s.size : Int) > 0:=by omega
 have HC:=keep (show s.data.toList.head? ≠ some 45 by
  have : s.data.toList = []:=List.eq_nil_of_length_eq_zero (by simpa using hc)
  rw [this]; simp)
 clear hc
 have HX:=keep (ext_drop s 0)
 have HXS:=keep (ext_size s 0 s.size)
 obtain ⟨X,hX⟩ : ∃ X,s.extract 0 s.size = X:=⟨_,rfl⟩
 rw [hX] at HX HXS
 go_enter Tryz.func64,Tryz.ntmps64
 go_wp2_with fail
 refine (r9_ReadDigits X 9223372036854775808 (by decide) (by have:=HXS.out; omega) _).mono ?_
 rintro e w1 ⟨n,ok,rfl,hr,hb⟩
 have H:=Lib.hid hb
 have HD:=keep (show ∀ m,i64B m → s.data.toList = Lib.itoa m → n = m.natAbs ∧ ok = true ∧ ¬ m < 0 from by
  intro m hm e
  have hb1:=hm.1
  have hb2:=hm.2
  rcases itoa_head m _ e with ⟨h1,h2,h3⟩ | ⟨h1,h2,h3⟩
  ·exact absurd h1 HC.out
  ·have:=hr.2 m.natAbs (by omega) (HX.out.trans ((List.drop_zero).trans h3)); exact ⟨this.1,this.2,h2⟩)
 have hn:=hr.1
 clear hb hr
 cases ok
 ·go_wp2_with fail
  subst hR
  exact ⟨0,false,rfl,⟨by decide,by decide⟩,fun m hm e => absurd (HD.out m hm e).2.1 (by decide),H.out⟩
 ·obtain ⟨v1,hv1,hv2⟩ : ∃ v1,IntKind.i64.wrap (n : Int) = v1 ∧ ((v1 = (n : Int) ∧ n ≤ 9223372036854775807) ∨ (v1 = -9223372036854775808 ∧ n = 9223372036854775808)):=by
   by_cases h : n ≤ 9223372036854775807
   ·exact ⟨_,rfl,.inl ⟨Go.IntWalk.i64_in _ (by omega),h⟩⟩
   ·have : n = 9223372036854775808:=by omega
    subst this
    exact ⟨_,rfl,.inr ⟨by decide,rfl⟩⟩
  obtain ⟨v2,hv⟩ : ∃ v2,v1 = v2:=⟨_,rfl⟩
  subst hv
  have HB:=keep (show i64B v1 from ⟨by rcases hv2 with ⟨h,h'⟩ | ⟨h,h'⟩ <;> omega,by rcases hv2 with ⟨h,h'⟩ | ⟨h,h'⟩ <;> omega⟩)
  have HE:=keep (show ∀ m,i64B m → s.data.toList = Lib.itoa m → v1 = m from fun m hm e => by have:=HD.out m hm e; have:=hm.2; rcases hv2 with ⟨h,h'⟩ | ⟨h,h'⟩ <;> omega)
  clear hv2
  go_wp2_with fail
  refine (r9_Number v1 HB.out _).mono ?_
  rintro e w2 ⟨rfl,hb⟩
  have H2:=Lib.hid (below_step H.out hb)
  clear hb
  go_wp2_with fail
  subst hR
  exact ⟨v1,_,rfl,HB.out,HE.out,H2.out⟩
set_option maxRecDepth 100000 in
set_option maxHeartbeats 4000000 in
theorem r9_num_plus (s : ByteArray) (hs : s.size ≤ 2000) (h0 : 0 < s.size) (hc : s[0]'h0 ≠ 45) (w : World) :
  Calls Tryz.prog 64 #[.string s] w (RNOut s.data.toList w):=by
 obtain ⟨R,hR⟩ : ∃ R,RNOut s.data.toList w = R:=⟨_,rfl⟩
 rw [hR]
 have q0 : (((s[0]'h0).toNat : Int) == 45) = false:=by
  simp only [beq_eq_false_iff_ne]
  intro e
  exact hc (by rw [← UInt8.toNat_inj]; show _ = 45; omega)
 have g0 : (s.size : Int) > 0:=by omega
 have HC:=keep (show s.data.toList.head? ≠ some 45 by
  rw [List.head?_eq_getElem?,at_list s 0 h0 _ rfl]
  exact fun e => hc (Option.some.inj e))
 clear hc
 have HX:=keep (ext_drop s 0)
 have HXS:=keep (ext_size s 0 s.size)
 obtain ⟨X,hX⟩ : ∃ X,s.extract 0 s.size = X:=⟨_,rfl⟩
 rw [hX] at HX HXS
 go_enter Tryz.func64,Tryz.ntmps64
 go_wp2_with fail
 refine (r9_ReadDigits X 9223372036854775808 (by decide) (by have:=HXS.out; omega) _).mono ?_
 rintro e w1 ⟨n,ok,rfl,hr,hb⟩
 have H:=Lib.hid hb
 have HD:=keep (show ∀ m,i64B m → s.data.toList = Lib.itoa m → n = m.natAbs ∧ ok = true ∧ ¬ m < 0 from by
  intro m hm e
  have hb1:=hm.1
  have hb2:=hm.2
  rcases itoa_head m _ e with ⟨h1,h2,h3⟩ | ⟨h1,h2,h3⟩
  ·exact absurd h1 HC.out
  ·have:=hr.2 m.natAbs (by omega) (HX.out.trans ((List.drop_zero).trans h3)); exact ⟨this.1,this.2,h2⟩)
 have hn:=hr.1
 clear hb hr
 cases ok
 ·go_wp2_with fail
  subst hR
  exact ⟨0,false,rfl,⟨by decide,by decide⟩,fun m hm e => absurd (HD.out m hm e).2.1 (by decide),H.out⟩
 ·obtain ⟨v1,hv1,hv2⟩ : ∃ v1,IntKind.i64.wrap (n : Int) = v1 ∧ ((v1 = (n : Int) ∧ n ≤ 9223372036854775807) ∨ (v1 = -9223372036854775808 ∧ n = 9223372036854775808)):=by
   by_cases h : n ≤ 9223372036854775807
   ·exact ⟨_,rfl,.inl ⟨Go.IntWalk.i64_in _ (by omega),h⟩⟩
   ·have : n = 9223372036854775808:=by omega
    subst this
    exact ⟨_,rfl,.inr ⟨by decide,rfl⟩⟩
  obtain ⟨v2,hv⟩ : ∃ v2,v1 = v2:=⟨_,rfl⟩
  subst hv
  have HB:=keep (show i64B v1 from ⟨by rcases hv2 with ⟨h,h'⟩ | ⟨h,h'⟩ <;> omega,by rcases hv2 with ⟨h,h'⟩ | ⟨h,h'⟩ <;> omega⟩)
  have HE:=keep (show ∀ m,i64B m → s.data.toList = Lib.itoa m → v1 = m from fun m hm e => by have:=HD.out m hm e; have:=hm.2; rcases hv2 with ⟨h,h'⟩ | ⟨h,h'⟩ <;> omega)
  clear hv2
  go_wp2_with fail
  refine (r9_Number v1 HB.out _).mono ?_
  rintro e w2 ⟨rfl,hb⟩
  have H2:=Lib.hid (below_step H.out hb)
  clear hb
  go_wp2_with fail
  subst hR
  exact ⟨v1,_,rfl,HB.out,HE.out,H2.out⟩
set_option maxRecDepth 100000 in
set_option maxHeartbeats 4000000 in
theorem r9_num_minus (s : ByteArray) (hs : s.size ≤ 2000) (h0 : 0 < s.size) (hc : s[0]'h0 = 45) (w : World) :
  Calls Tryz.prog 64 #[.string s] w (RNOut s.data.toList w):=by
 obtain ⟨R,hR⟩ : ∃ R,RNOut s.data.toList w = R:=⟨_,rfl⟩
 rw [hR]
 have q0 : (((s[0]'h0).toNat : Int) == 45) = true:=by rw [hc]; rfl
 have g0 : (s.size : Int) > 0:=by omega
 have HC:=keep (show s.data.toList.head? = some 45 by rw [List.head?_eq_getElem?]; exact at_list s 0 h0 45 hc)
 clear hc
 have HX:=keep (ext_drop s 1)
 have HXS:=keep (ext_size s 1 s.size)
 obtain ⟨X,hX⟩ : ∃ X,s.extract 1 s.size = X:=⟨_,rfl⟩
 rw [hX] at HX HXS
 go_enter Tryz.func64,Tryz.ntmps64
 go_wp2_with fail
 refine (r9_ReadDigits X 9223372036854775808 (by decide) (by have:=HXS.out; omega) _).mono ?_
 rintro e w1 ⟨n,ok,rfl,hr,hb⟩
 have H:=Lib.hid hb
 have HD:=keep (show ∀ m,i64B m → s.data.toList = Lib.itoa m → n = m.natAbs ∧ ok = true ∧ m < 0 from by
  intro m hm e
  have hb1:=hm.1
  have hb2:=hm.2
  rcases itoa_head m _ e with ⟨h1,h2,h3⟩ | ⟨h1,h2,h3⟩
  ·have:=hr.2 m.natAbs (by omega) (HX.out.trans h3); exact ⟨this.1,this.2,h2⟩
  ·exact absurd HC.out h1)
 have hn:=hr.1
 clear hb hr
 cases ok
 ·go_wp2_with fail
  subst hR
  exact ⟨0,false,rfl,⟨by decide,by decide⟩,fun m hm e => absurd (HD.out m hm e).2.1 (by decide),H.out⟩
 ·obtain ⟨v1,hv1,hv2⟩ : ∃ v1,IntKind.i64.wrap (n : Int) = v1 ∧ ((v1 = (n : Int) ∧ n ≤ 9223372036854775807) ∨ (v1 = -9223372036854775808 ∧ n = 9223372036854775808)):=by
   by_cases h : n ≤ 9223372036854775807
   ·exact ⟨_,rfl,.inl ⟨Go.IntWalk.i64_in _ (by omega),h⟩⟩
   ·have : n = 9223372036854775808:=by omega
    subst this
    exact ⟨_,rfl,.inr ⟨by decide,rfl⟩⟩
  obtain ⟨v2,hv⟩ : ∃ v2,-(n : Int) = v2:=⟨_,rfl⟩
  have hv3 : IntKind.i64.wrap (-v1) = v2:=by
   rcases hv2 with ⟨h,h'⟩ | ⟨h,h'⟩
   ·rw [h,Go.IntWalk.i64_in _ (by omega)]; exact hv
   ·rw [h,← hv,h']; decide
  have HB:=keep (show i64B v2 from ⟨by omega,by omega⟩)
  have HE:=keep (show ∀ m,i64B m → s.data.toList = Lib.itoa m → v2 = m from fun m hm e => by have:=HD.out m hm e; omega)
  clear hv2 hv
  go_wp2_with fail
  refine (r9_Number v2 HB.out _).mono ?_
  rintro e w2 ⟨rfl,hb⟩
  have H2:=Lib.hid (below_step H.out hb)
  clear hb
  go_wp2_with fail
  subst hR
  exact ⟨v2,_,rfl,HB.out,HE.out,H2.out⟩
theorem r9_ReadNumber (s : ByteArray) (hs : s.size ≤ 2000) (w : World) : Calls Tryz.prog 64 #[.string s] w (RNOut s.data.toList w):=by
 by_cases h : 0 < s.size
 ·by_cases hc : s[0]'h = 45
  ·exact r9_num_minus s hs h hc w
  ·exact r9_num_plus s hs h hc w
 ·exact r9_num_empty s hs (by omega) w
end Go.Proofs.YtjbimcdofenmdaaGreatDoor
namespace Go.Proofs.YtjbimcdofenmdaaGreatDoor
open Go.RowKit
def piecesC (c : UInt8) : List UInt8 → List (List UInt8)
 | [] => [[]]
 | x :: r => if x = c then [] :: piecesC c r else match piecesC c r with
  | [] => [[x]]
  | p :: ps => (x :: p) :: ps
theorem pieces_some (c : UInt8) (l : List UInt8) : piecesC c l ≠ []:=by
 cases l with
 | nil => simp [piecesC]
 | cons x r =>
  unfold piecesC
  split
  ·simp
  ·split <;> simp
theorem pieces_plain (c : UInt8) (w : List UInt8) (h : ∀ b ∈ w,b ≠ c) : piecesC c w = [w]:=by
 induction w with
 | nil => rfl
 | cons x r ih =>
  unfold piecesC
  rw [if_neg (h x (by simp)),ih fun b hb => h b (by simp [hb])]
theorem pieces_cut (c : UInt8) (w r : List UInt8) (h : ∀ b ∈ w,b ≠ c) : piecesC c (w ++ c :: r) = w :: piecesC c r:=by
 induction w with
 | nil =>
  show piecesC c (c :: r) = _
  rw [piecesC,if_pos rfl]
 | cons x w ih =>
  rw [List.cons_append,piecesC,if_neg (h x (by simp)),ih fun b hb => h b (by simp [hb])]
theorem pieces_le (c : UInt8) (l : List UInt8) : ∀ p ∈ piecesC c l,p.length ≤ l.length:=by
 induction l with
 | nil => intro p hp; simp [piecesC] at hp; subst hp; simp
 | cons x r ih =>
  intro p hp
  unfold piecesC at hp
  split at hp
  ·rcases List.mem_cons.1 hp with rfl | hp
   ·simp
   ·have:=ih p hp; simp; omega
  ·split at hp
   ·simp at hp; subst hp; simp
   ·next q ps h =>
    rcases List.mem_cons.1 hp with rfl | hp
    ·have:=ih q (by rw [h]; simp); simp; omega
    ·have:=ih p (by rw [h]; simp [hp]); simp; omega
def SplI (c : UInt8) (l : List UInt8) (L : List (List UInt8)) (f i : Nat) : Prop :=
 (f ≤ i ∧ i ≤ l.length ∧ L.length ≤ f ∧ L ++ piecesC c (l.drop f) = piecesC c l ∧ ∀ b ∈ (l.drop f).take (i - f),b ≠ c) ∨ (i = l.length + 1 ∧ f = i ∧ L.length ≤ f ∧ L = piecesC c l)
theorem SplI.start (c : UInt8) (l : List UInt8) : SplI c l [] 0 0:=.inl ⟨Nat.le_refl _,Nat.zero_le _,Nat.le_refl _,rfl,by simp⟩
theorem SplI.step {c : UInt8} {l : List UInt8} {L : List (List UInt8)} {f i : Nat} (h : SplI c l L f i) (hi : i < l.length) (hb : l[i]'hi ≠ c) : SplI c l L f (i + 1):=by
 rcases h with ⟨h1,h2,h3,h4,h5⟩ | ⟨h1,h2,h3⟩
 ·refine .inl ⟨by omega,by omega,h3,h4,fun b hm => ?_⟩
  have e : (l.drop f).take (i + 1 - f) = (l.drop f).take (i - f) ++ [l[i]'hi]:=by
   rw [show i + 1 - f = (i - f) + 1 by omega,List.take_succ_eq_append_getElem (by rw [List.length_drop]; omega),List.getElem_drop]
   simp only [show f + (i - f) = i by omega]
  rw [e] at hm
  rcases List.mem_append.1 hm with hm | hm
  ·exact h5 b hm
  ·rw [List.mem_singleton] at hm; subst hm; exact hb
 ·omega
theorem SplI.cut {c : UInt8} {l : List UInt8} {L : List (List UInt8)} {f i : Nat} (h : SplI c l L f i) (hi : i < l.length) (hb : l[i]'hi = c) : SplI c l (L ++ [(l.drop f).take (i - f)]) (i + 1) (i + 1):=by
 rcases h with ⟨h1,h2,h3,h4,h5⟩ | ⟨h1,h2,h3⟩
 ·refine .inl ⟨Nat.le_refl _,by omega,by simp; omega,?_,by simp⟩
  have e : l.drop f = (l.drop f).take (i - f) ++ c :: l.drop (i + 1):=by
   conv => lhs; rw [← List.take_append_drop (i - f) (l.drop f)]
   rw [List.drop_drop,show f + (i - f) = i by omega,List.drop_eq_getElem_cons hi,hb]
  rw [← h4,e,pieces_cut c _ _ h5,← e,List.append_assoc]
  rfl
 ·omega
theorem SplI.last {c : UInt8} {l : List UInt8} {L : List (List UInt8)} {f i : Nat} (h : SplI c l L f i) (hi : i = l.length) : SplI c l (L ++ [(l.drop f).take (i - f)]) (i + 1) (i + 1):=by
 rcases h with ⟨h1,h2,h3,h4,h5⟩ | ⟨h1,h2,h3⟩
 ·have e : (l.drop f).take (i - f) = l.drop f:=List.take_of_length_le (by rw [List.length_drop]; omega)
  rw [e] at h5 ⊢
  refine .inr ⟨by omega,rfl,by simp; omega,?_⟩
  rw [← h4,pieces_plain c _ h5]
 ·omega
theorem SplI.done {c : UInt8} {l : List UInt8} {L : List (List UInt8)} {f i : Nat} (h : SplI c l L f i) (hi : l.length < i) : L = piecesC c l:=by
 rcases h with ⟨h1,h2,h3,h4,h5⟩ | ⟨h1,h2,h3⟩
 ·omega
 ·exact h3.2
theorem SplI.bound {c : UInt8} {l : List UInt8} {L : List (List UInt8)} {f i : Nat} (h : SplI c l L f i) : L.length ≤ f ∧ f ≤ i ∧ i ≤ l.length + 1:=by
 rcases h with ⟨h1,h2,h3,h4,h5⟩ | ⟨h1,h2,h3⟩ <;> omega
theorem strsV_add (L : List (List UInt8)) (x : List UInt8) : strsV (L ++ [x]) = strsV L ++ [.string (byt x)]:=by unfold strsV; rw [List.map_append]; rfl
theorem own_cells {w : World} {base : Nat} {e : TypeId} {v : Value} {n : Nat} {xs : List Value} (h : w.ownsRow base e 1 v n xs) (hn : 0 < n) : ∃ g c,v = .slice (some ⟨g,0,none⟩) n c ∧ n ≤ c ∧ base ≤ g ∧ (kCells g 0 xs).p w:=by
 rcases h.2 with ⟨-,hl⟩ | ⟨g,cap,cur,rfl,hb,hg,hnc,hm,hcs,htk⟩
 ·omega
 ·refine ⟨g,cap,rfl,hnc,hb,?_,?_⟩
  ·exact (Array.getElem?_eq_some_iff.1 hg).1
  ·have hc:=@World.ownsRow.cells _ _ _ _ _ _ _ h g rfl
   have key : ∀ (ds : List Value) (i : Nat),(∀ j,j < ds.length → xs[i + j]? = ds[j]?) → cellsFrom w g 0 i ds:=by
    intro ds
    induction ds with
    | nil => intro i _; trivial
    | cons d ds ih =>
     intro i hd
     refine ⟨?_,ih (i + 1) fun j hj => ?_⟩
     ·have h0:=hd 0 (by simp)
      have:=hc i d (by simpa using h0)
      rw [show (⟨g,0,none⟩ : Addr).add i = ⟨g,0 + i,none⟩ from by unfold Addr.add; split <;> simp_all] at this
      exact this
     ·have:=hd (j + 1) (by simp; omega)
      rw [show i + 1 + j = i + (j + 1) by omega,this]
      simp
   exact key xs 0 fun j hj => by rw [Nat.zero_add]
theorem ext_mid (s : ByteArray) (f i : Nat) : (s.extract f i).data.toList = (s.data.toList.drop f).take (i - f):=Lib.extract_data ..
def SplitOut (L : List (List UInt8)) (w : World) (e : Ending) (w' : World) : Prop:=∃ g c,e = .returned (.slice (some ⟨g,0,none⟩) L.length c) ∧ L.length ≤ c ∧ w.heap.size ≤ g ∧ (kCells g 0 (strsV L)).p w' ∧ Below w.heap.size w w'
set_option maxRecDepth 100000 in
set_option maxHeartbeats 4000000 in
theorem r9_Split (s : ByteArray) (c : UInt8) (hs : s.size ≤ 2000) (w : World) :
  Calls Tryz.prog 41 #[.string s,.int .u8 (c.toNat : Nat)] w (SplitOut (piecesC c s.data.toList) w):=by
 obtain ⟨i0,hi,hz0,hz1,hz2⟩:=info_parts info_str
 have HSL:=keep (show s.data.toList.length = s.size from Array.length_toList)
 obtain ⟨R,hR⟩ : ∃ R,SplitOut (piecesC c s.data.toList) w = R:=⟨_,rfl⟩
 rw [hR]
 go_enter Tryz.func41,Tryz.ntmps41
 go_wp2_with fail
 go_loopw [5,6,7] (fun ov fv iv wr => ∃ (i f : Nat) (L : List (List UInt8)),iv = .int .i64 (i : Int) ∧ fv = .int .i64 (f : Int) ∧ L.length ≤ f ∧ f ≤ i ∧ i ≤ s.size + 1 ∧ Keep (SplI c s.data.toList L f i) ∧ Hid (OkRow w [] 9 1 ov L.length (strsV L) wr)) (fun _ _ iv _ => s.size + 1 - (intOf iv).toNat)
 case atStart => exact ⟨0,0,[],rfl,rfl,Nat.le_refl _,Nat.le_refl _,Nat.zero_le _,keep (SplI.start _ _),Lib.hid (OkRow.start (Ok.start w) _ _)⟩
 case round =>
  obtain ⟨i,f,L,rfl,rfl,hLf,hfi,hin,HS,H⟩:=hrel
  obtain ⟨wp,rfl⟩ : ∃ wp : World,wp = wr:=⟨_,rfl⟩
  by_cases hlt : (i : Int) ≤ s.size
  ·have hw9 : IntKind.i64.wrap ((i : Int) + 1) = (i : Int) + 1:=Go.IntWalk.i64_in _ (by omega)
   have hii : i ≤ s.size:=by omega
   obtain ⟨X,hX⟩ : ∃ X,s.extract f i = X:=⟨_,rfl⟩
   have HX:=keep (show byt ((s.data.toList.drop f).take (i - f)) = X by unfold byt; rw [← ext_mid,hX])
   by_cases he : (i : Int) = s.size
   ·have heb : ((i : Int) == (s.size : Int)) = true:=by simpa using he
    have HS2:=keep (HS.out.last (by rw [HSL.out]; omega))
    clear he
    go_wp2_with (at_builtin; refine wpList_append_lies _ rfl _ _ _ rfl w.heap.size 9 i0 _ 1 16 Tryz.underlying44 hi hz0 hz1 hz2 rfl (by omega) _ _ _ rfl (H.out.own.alloc _) ⟨wp.heap.size,0,none⟩ 1 1 [.string X] rfl rfl (World.news_of_block (cs:=#[.string X]) (t:=9) (fr:=(0,0)) (heap_alloc_new _ _)) (by intro u hu; simp at hu; rcases hu with rfl <;> rfl) (by omega) (by unfold maxLen; omega) (by omega) (by have:=H.out.ok.bel.size; simp; omega) _ rfl ?_; intro g3 cap3 w3 hown3 hgrow3 hat3 hlt3)
    go_roundw
    case rel => exact ⟨i + 1,i + 1,_,by go_num,by go_num,HS2.out.bound.1,Nat.le_refl _,by omega,HS2,by rw [strsV_add,List.length_append,HX.out]; exact Lib.hid ((H.out.alloc_obj _).appended hown3 hgrow3 hat3)⟩
    case measure => simp [intOf]; omega
   ·have heb : ((i : Int) == (s.size : Int)) = false:=by simpa using he
    have hks : i < s.size:=by omega
    have hkl : i < s.data.toList.length:=by rw [HSL.out]; exact hks
    obtain ⟨b,hb⟩ : ∃ b,s[i]'hks = b:=⟨_,rfl⟩
    have hbl : s.data.toList[i]'hkl = b:=hb
    have hbi : ((s[i]'hks).toNat : Int) = (b.toNat : Int):=by rw [hb]
    by_cases hc : b = c
    ·have hcb : ((b.toNat : Int) == (c.toNat : Int)) = true:=by rw [hc]; simp
     have HS2:=keep (HS.out.cut hkl (hbl.trans hc))
     clear he hb hbl hc
     go_wp2_with (at_builtin; refine wpList_append_lies _ rfl _ _ _ rfl w.heap.size 9 i0 _ 1 16 Tryz.underlying44 hi hz0 hz1 hz2 rfl (by omega) _ _ _ rfl (H.out.own.alloc _) ⟨wp.heap.size,0,none⟩ 1 1 [.string X] rfl rfl (World.news_of_block (cs:=#[.string X]) (t:=9) (fr:=(0,0)) (heap_alloc_new _ _)) (by intro u hu; simp at hu; rcases hu with rfl <;> rfl) (by omega) (by unfold maxLen; omega) (by omega) (by have:=H.out.ok.bel.size; simp; omega) _ rfl ?_; intro g3 cap3 w3 hown3 hgrow3 hat3 hlt3)
     go_roundw
     case rel => exact ⟨i + 1,i + 1,_,by go_num,by go_num,HS2.out.bound.1,Nat.le_refl _,by omega,HS2,by rw [strsV_add,List.length_append,HX.out]; exact Lib.hid ((H.out.alloc_obj _).appended hown3 hgrow3 hat3)⟩
     case measure => simp [intOf]; omega
    ·have hcb : ((b.toNat : Int) == (c.toNat : Int)) = false:=by
      simp only [beq_eq_false_iff_ne]
      intro e
      exact hc (by rw [← UInt8.toNat_inj]; omega)
     have HS2:=keep (HS.out.step hkl (by rw [hbl]; exact hc))
     clear he hb hbl hc hX HX
     go_wp2_with fail
     go_roundw
     case rel => exact ⟨i + 1,f,L,by go_num,rfl,hLf,by omega,by omega,HS2,H⟩
     case measure => simp [intOf]; omega
  ·have hL:=HS.out.done (by rw [HSL.out]; omega)
   have h0 : 0 < L.length:=List.length_pos_iff.2 (by rw [hL]; exact pieces_some _ _)
   have HL:=keep hL
   clear hL
   go_wp2_with fail
   obtain ⟨g,cc,hv,hle,hgs,hk⟩:=own_cells H.out.own h0
   subst hv
   subst hR
   rw [← HL.out]
   exact ⟨g,cc,rfl,hle,hgs,hk,H.out.ok.bel⟩
end Go.Proofs.YtjbimcdofenmdaaGreatDoor
namespace Go.Proofs.YtjbimcdofenmdaaGreatDoor
open Go.RowKit
def R4I (r : R4) : Prop:=i64B r.c1 ∧ i64B r.r1 ∧ i64B r.c2 ∧ i64B r.r2
def RROut (l : List UInt8) (w : World) (e : Ending) (w' : World) : Prop:=∃ r : R4,∃ ok,e = .returned (.tuple #[.agg #[.int .i64 r.c1,.int .i64 r.r1,.int .i64 r.c2,.int .i64 r.r2],.bool ok]) ∧ R4I r ∧ (∀ q : R4,R4I q → l = rangeL q → r = q) ∧ Below w.heap.size w w'
theorem pieces_comma (r : R4) : piecesC 44 (commaL r) = [Lib.itoa r.c1,Lib.itoa r.r1,Lib.itoa r.c2,Lib.itoa r.r2]:=by
 have h : ∀ n : Int,∀ b ∈ Lib.itoa n,b ≠ 44:=fun n => itoa_not n 44 (by decide) (by decide)
 have e : commaL r = Lib.itoa r.c1 ++ 44 :: (Lib.itoa r.r1 ++ 44 :: (Lib.itoa r.c2 ++ 44 :: Lib.itoa r.r2)):=by
  simp [commaL,Lib.join,List.intercalate]
 rw [e,pieces_cut _ _ _ (h _),pieces_cut _ _ _ (h _),pieces_cut _ _ _ (h _),pieces_plain _ _ (h _)]
theorem rr_good {l : List UInt8} (h : (parseR l).2 = 0) : R4I (parseR l).1 ∧ ∀ q : R4,R4I q → l = rangeL q → (parseR l).1 = q:=by
 refine ⟨?_,fun q _ e => ?_⟩
 ·have hr : rangeP l = some (parseR l).1:=by unfold rangeP; rw [if_pos h]
  exact rangeP_i64 hr
 ·unfold rangeL at e
  by_cases hc : checkB q = true
  ·rw [if_pos hc] at e; rw [e,parse_fmt q hc]
  ·rw [if_neg hc] at e; rw [e,comma_no] at h; exact absurd h (by decide)
theorem rr_comma {l : List UInt8} {q : R4} (h : (parseR l).2 ≠ 0) (e : l = rangeL q) : l = commaL q:=by
 unfold rangeL at e
 by_cases hc : checkB q = true
 ·rw [if_pos hc] at e; rw [e,parse_fmt q hc] at h; exact absurd rfl h
 ·rw [if_neg hc] at e; exact e
theorem bne_i {a b : Int} (h : a ≠ b) : (a != b) = true:=by simpa using h
set_option maxRecDepth 100000 in
set_option maxHeartbeats 4000000 in
theorem r9_rr_ok (s : ByteArray) (p1 p2 p3 p4 : Int) (RS : ByteArray) (HP : ∀ W,Calls Tryz.prog 93 #[.string s] W fun e w' => e = .returned (.tuple #[.agg #[.int .i64 p1,.int .i64 p2,.int .i64 p3,.int .i64 p4],.int .i64 0]) ∧ Below W.heap.size W w') (HR : ∀ W,Calls Tryz.prog 31 #[.agg #[.int .i64 p1,.int .i64 p2,.int .i64 p3,.int .i64 p4]] W fun e w' => e = .returned (.string RS) ∧ Below W.heap.size W w') (hf : R4I ⟨p1,p2,p3,p4⟩ ∧ ∀ q : R4,R4I q → s.data.toList = rangeL q → (⟨p1,p2,p3,p4⟩ : R4) = q) (w : World) :
  Calls Tryz.prog 65 #[.string s] w (RROut s.data.toList w):=by
 have HP:=keep HP
 have HR:=keep HR
 have HFF:=keep hf
 clear hf
 have H1:=Lib.hid ((Ok.start w).var w.heap.size 23 [.int .i64 0,.int .i64 0,.int .i64 0,.int .i64 0] rfl)
 go_enter Tryz.func65,Tryz.ntmps65
 go_wp2_with fail
 generalize (w.alloc (.cells #[.int .i64 0,.int .i64 0,.int .i64 0,.int .i64 0] 23)) = W2 at H1 ⊢
 refine (HP.out _).mono ?_
 rintro e w3 ⟨rfl,hb4⟩
 have H5:=Lib.hid (H1.out.below hb4)
 clear hb4 H1
 have F6:=H5.out.sees
 simp only [sees,kVar,cellsAt,Nat.reduceAdd] at F6
 obtain ⟨⟨⟨z0,fz0⟩,q00,q01,q02,q03,-⟩,-⟩:=F6
 go_upto_region 2 with fail
 have y7:=z0
 clear z0 fz0 q00 q01 q02 q03
 have H8:=Lib.hid (H5.out.var w3.heap.size 23 [.int .i64 p1,.int .i64 p2,.int .i64 p3,.int .i64 p4] rfl)
 clear H5
 generalize (w3.alloc (.cells #[.int .i64 p1,.int .i64 p2,.int .i64 p3,.int .i64 p4] 23)) = W9 at H8 ⊢
 have F10:=H8.out.sees
 simp only [sees,kVar,cellsAt,Nat.reduceAdd] at F10
 obtain ⟨⟨⟨z0,fz0⟩,q00,q01,q02,q03,-⟩,⟨⟨z1,fz1⟩,q10,q11,q12,q13,-⟩,-⟩:=F10
 go_upto_region 10 with fail
 refine wp_region_held_drew (S:=fun W => Ok w [kVar (w3.heap.size) 23 [.int .i64 p1,.int .i64 p2,.int .i64 p3,.int .i64 p4]] W) (by kernel_rfl) (H8.out.drop [kVar (w3.heap.size) 23 [.int .i64 p1,.int .i64 p2,.int .i64 p3,.int .i64 p4]] (by simp)).drew (fun hHeld => ?_)
 clear z0 fz0 q00 q01 q02 q03 z1 fz1 q10 q11 q12 q13
 have H11:=Lib.hid H8.out.drew
 clear H8
 generalize W9.drew = W12 at hHeld H11 ⊢
 refine wtg (i:=0) (v:=?a1) rfl ?b1 (by assumption) ?c1
 case b1 => (intro w h;have F:=Ok.sees h;clear h;simp only [sees,kVar,cellsAt,Nat.reduceAdd] at F; go_simp;try with_reducible rfl)
 try simp only [Act.put,wp1,wp2,wp3,wp4,wp6]
 refine wtg (i:=1) (v:=?a3) rfl ?b3 (by assumption) ?c3
 case b3 => (intro w h;have F:=Ok.sees h;clear h;simp only [sees,kVar,cellsAt,Nat.reduceAdd] at F; go_simp;try with_reducible rfl)
 try simp only [Act.put,wp1,wp2,wp3,wp4,wp5,wp6]
 refine wtg (i:=3) (v:=?a5) rfl ?b5 (by assumption) ?c5
 case b5 => (intro w h;have F:=Ok.sees h;clear h;simp only [sees,kVar,cellsAt,Nat.reduceAdd] at F; go_simp;try with_reducible rfl)
 try simp only [Act.put,wp1,wp2,wp3,wp4,wp5,wp6]
 refine wpAnyH_ready (rs:=[2]) (by kernel_rfl) (by simp) ?_
 refine AllReadyH.cons rfl (fun K hK => ?_) AllReadyH.nil
 go_simp
 refine (HR.out _).mono ?_
 rintro e w13 ⟨rfl,hb14⟩
 go_wp2_with fail
 have H15:=Lib.hid (H11.out.below hb14)
 clear H11
 refine hK.out _ _ (hHeld.below hb14) (fun hHeld => ?_)
 clear hK K
 try simp only [Act.put,wp1,wp2,wp3,wp4,wp5,wp6]
 clear hb14
 refine wtg (i:=4) (v:=?a8) rfl ?b8 (by assumption) ?c8
 case b8 => (intro w h;have F:=Ok.sees h;clear h;simp only [sees,kVar,cellsAt,Nat.reduceAdd] at F; go_simp;try with_reducible rfl)
 try simp only [Act.put,wp1,wp2,wp3,wp4,wp5,wp6]
 refine wpAnyH_ready (rs:=[5]) (by kernel_rfl) (by simp) ?_
 refine AllReadyH.cons rfl (fun K hK => ?_) AllReadyH.nil
 have F16:=H15.out.sees
 simp only [sees,kVar,cellsAt,Nat.reduceAdd] at F16
 go_split_ands
 go_simp
 have hfar:=farOf H15.out.b1 (by simp [kVar] <;> omega)
 have H17:=Lib.hid ((((H15.out.b1.set_ (i:=0) (u:=.int .i64 p1) (by omega) hfar).set_ (i:=1) (u:=.int .i64 p2) (by omega) hfar).set_ (i:=2) (u:=.int .i64 p3) (by omega) hfar).set_ (i:=3) (u:=.int .i64 p4) (by omega) hfar)
 simp only [List.set_cons_zero,List.set_cons_succ] at H17
 clear hfar
 clear H15
 refine hK.out _ _ (H17.out.drop [kVar (w3.heap.size) 23 [.int .i64 p1,.int .i64 p2,.int .i64 p3,.int .i64 p4]] (by simp)) (fun hHeld => ?_)
 clear hK K
 try simp only [Act.put,wp1,wp2,wp3,wp4,wp5,wp6]
 generalize ((((w13.setCell ⟨w.heap.size,0,none⟩ (.int .i64 p1)).setCell ⟨w.heap.size,1,none⟩ (.int .i64 p2)).setCell ⟨w.heap.size,2,none⟩ (.int .i64 p3)).setCell ⟨w.heap.size,3,none⟩ (.int .i64 p4)) = W18 at H17 hHeld ⊢
 refine wtg (i:=6) (v:=?a11) rfl ?b11 (by assumption) ?c11
 case b11 => (intro w h;have F:=Ok.sees h;clear h;simp only [sees,kVar,cellsAt,Nat.reduceAdd] at F; go_simp;try with_reducible rfl)
 try simp only [Act.put,wp1,wp2,wp3,wp4,wp5,wp6]
 refine wpAnyH_done (by kernel_rfl) ?_ _
 clear hHeld
 go_wp2_with fail
 have hK:=H17.out.get (kVar (w.heap.size) 23 [.int .i64 p1,.int .i64 p2,.int .i64 p3,.int .i64 p4]) (by simp)
 have hE:=(show Blk W18 (w.heap.size) 23 _ from hK)
 have r0:=hE.cell 0
 have r1:=hE.cell 1
 have r2:=hE.cell 2
 have r3:=hE.cell 3
 simp at r0 r1 r2 r3
 exact bodyPost_ret (v:=.tuple #[.agg #[.int .i64 p1,.int .i64 p2,.int .i64 p3,.int .i64 p4],.bool (RS.toList == s.toList)]) (by simp [results,Tryz.results65,go_sem,r0,r1,r2,r3]) rfl ⟨⟨p1,p2,p3,p4⟩,_,rfl,HFF.out.1,HFF.out.2,H17.out.bel⟩
set_option maxRecDepth 100000 in
set_option maxHeartbeats 4000000 in
theorem r9_rr_few (s : ByteArray) (p1 p2 p3 p4 e0 : Int) (he : (e0 != 0) = true) (hs : s.size ≤ 2000) (HP : ∀ W,Calls Tryz.prog 93 #[.string s] W fun e w' => e = .returned (.tuple #[.agg #[.int .i64 p1,.int .i64 p2,.int .i64 p3,.int .i64 p4],.int .i64 e0]) ∧ Below W.heap.size W w') (hl : (piecesC 44 s.data.toList).length ≠ 4) (hf : ∀ q : R4,R4I q → s.data.toList = rangeL q → R4.zero = q) (w : World) :
  Calls Tryz.prog 65 #[.string s] w (RROut s.data.toList w):=by
 have HP:=keep HP
 have HFF:=keep hf
 clear hf
 obtain ⟨L,hL⟩ : ∃ L,piecesC 44 s.data.toList = L:=⟨_,rfl⟩
 rw [hL] at hl
 have HS:=keep (fun W => r9_Split s 44 hs W)
 rw [hL] at HS
 have hl4 : ((L.length : Int) != 4) = true:=by simp; omega
 clear hL hl hs
 have H1:=Lib.hid ((Ok.start w).var w.heap.size 23 [.int .i64 0,.int .i64 0,.int .i64 0,.int .i64 0] rfl)
 go_enter Tryz.func65,Tryz.ntmps65
 go_wp2_with fail
 generalize (w.alloc (.cells #[.int .i64 0,.int .i64 0,.int .i64 0,.int .i64 0] 23)) = W2 at H1 ⊢
 refine (HP.out _).mono ?_
 rintro e w3 ⟨rfl,hb4⟩
 have H5:=Lib.hid (H1.out.below hb4)
 clear hb4 H1
 have F6:=H5.out.sees
 simp only [sees,kVar,cellsAt,Nat.reduceAdd] at F6
 obtain ⟨⟨⟨z0,fz0⟩,q00,q01,q02,q03,-⟩,-⟩:=F6
 go_upto_region 2 with fail
 have y7:=z0
 clear z0 fz0 q00 q01 q02 q03
 have H8:=Lib.hid (H5.out.var w3.heap.size 23 [.int .i64 p1,.int .i64 p2,.int .i64 p3,.int .i64 p4] rfl)
 clear H5
 generalize (w3.alloc (.cells #[.int .i64 p1,.int .i64 p2,.int .i64 p3,.int .i64 p4] 23)) = W9 at H8 ⊢
 have F10:=H8.out.sees
 simp only [sees,kVar,cellsAt,Nat.reduceAdd] at F10
 obtain ⟨⟨⟨z0,fz0⟩,q00,q01,q02,q03,-⟩,⟨⟨z1,fz1⟩,q10,q11,q12,q13,-⟩,-⟩:=F10
 go_wp2_with fail
 refine (HS.out _).mono ?_
 rintro e w11 ⟨g,cc,rfl,hle,hgs,hk,hb12⟩
 clear z0 fz0 q00 q01 q02 q03 z1 fz1 q10 q11 q12 q13
 have H13:=Lib.hid (H8.out.below hb12)
 clear hb12 H8 hk hgs
 have F14:=H13.out.sees
 simp only [sees,kVar,cellsAt,Nat.reduceAdd] at F14
 obtain ⟨⟨⟨z0,fz0⟩,q00,q01,q02,q03,-⟩,⟨⟨z1,fz1⟩,q10,q11,q12,q13,-⟩,-⟩:=F14
 go_wp2_with fail
 try rw [Exit.noGoto_ret]
 have hfar:=farOf H13.out.b1 (by simp [kVar] <;> omega)
 have H15:=Lib.hid ((((H13.out.b1.set_ (i:=0) (u:=.int .i64 0) (by omega) hfar).set_ (i:=1) (u:=.int .i64 0) (by omega) hfar).set_ (i:=2) (u:=.int .i64 0) (by omega) hfar).set_ (i:=3) (u:=.int .i64 0) (by omega) hfar)
 simp only [List.set_cons_zero,List.set_cons_succ] at H15
 clear hfar
 have hK:=H15.out.get (kVar (w.heap.size) 23 [.int .i64 0,.int .i64 0,.int .i64 0,.int .i64 0]) (by simp)
 have hE:=(show Blk ((((w11.setCell ⟨w.heap.size,0,none⟩ (.int .i64 0)).setCell ⟨w.heap.size,1,none⟩ (.int .i64 0)).setCell ⟨w.heap.size,2,none⟩ (.int .i64 0)).setCell ⟨w.heap.size,3,none⟩ (.int .i64 0)) (w.heap.size) 23 _ from hK)
 have r0:=hE.cell 0
 have r1:=hE.cell 1
 have r2:=hE.cell 2
 have r3:=hE.cell 3
 simp at r0 r1 r2 r3
 exact bodyPost_ret (v:=.tuple #[.agg #[.int .i64 0,.int .i64 0,.int .i64 0,.int .i64 0],.bool false]) (by simp [results,Tryz.results65,go_sem,r0,r1,r2,r3]) rfl ⟨R4.zero,_,rfl,⟨⟨by decide,by decide⟩,⟨by decide,by decide⟩,⟨by decide,by decide⟩,⟨by decide,by decide⟩⟩,HFF.out,H15.out.bel⟩
set_option maxRecDepth 100000 in
set_option maxHeartbeats 4000000 in
theorem r9_rr_four (s : ByteArray) (p1 p2 p3 p4 e0 : Int) (he : (e0 != 0) = true) (hs : s.size ≤ 2000) (HP : ∀ W,Calls Tryz.prog 93 #[.string s] W fun e w' => e = .returned (.tuple #[.agg #[.int .i64 p1,.int .i64 p2,.int .i64 p3,.int .i64 p4],.int .i64 e0]) ∧ Below W.heap.size W w') (a1 a2 a3 a4 : List UInt8) (hl : piecesC 44 s.data.toList = [a1,a2,a3,a4]) (hf : ∀ q : R4,R4I q → s.data.toList = rangeL q → a1 = Lib.itoa q.c1 ∧ a2 = Lib.itoa q.r1 ∧ a3 = Lib.itoa q.c2 ∧ a4 = Lib.itoa q.r2) (w : World) :
  Calls Tryz.prog 65 #[.string s] w (RROut s.data.toList w):=by
 have HP:=keep HP
 have HFF:=keep hf
 clear hf
 have hsz : ∀ p ∈ [a1,a2,a3,a4],p.length ≤ 2000:=fun p hp => Nat.le_trans (pieces_le 44 s.data.toList p (by rw [hl]; exact hp)) (by rw [Array.length_toList]; exact hs)
 have HN1:=keep (fun W => r9_ReadNumber (byt a1) (hsz a1 (by simp)) W)
 have HN2:=keep (fun W => r9_ReadNumber (byt a2) (hsz a2 (by simp)) W)
 have HN3:=keep (fun W => r9_ReadNumber (byt a3) (hsz a3 (by simp)) W)
 have HN4:=keep (fun W => r9_ReadNumber (byt a4) (hsz a4 (by simp)) W)
 have HS:=keep (fun W => r9_Split s 44 hs W)
 rw [hl] at HS
 clear hl hs hsz
 have H1:=Lib.hid ((Ok.start w).var w.heap.size 23 [.int .i64 0,.int .i64 0,.int .i64 0,.int .i64 0] rfl)
 go_enter Tryz.func65,Tryz.ntmps65
 go_wp2_with fail
 generalize (w.alloc (.cells #[.int .i64 0,.int .i64 0,.int .i64 0,.int .i64 0] 23)) = W2 at H1 ⊢
 refine (HP.out _).mono ?_
 rintro e w3 ⟨rfl,hb4⟩
 have H5:=Lib.hid (H1.out.below hb4)
 clear hb4 H1
 have F6:=H5.out.sees
 simp only [sees,kVar,cellsAt,Nat.reduceAdd] at F6
 obtain ⟨⟨⟨z0,fz0⟩,q00,q01,q02,q03,-⟩,-⟩:=F6
 go_upto_region 2 with fail
 have y7:=z0
 clear z0 fz0 q00 q01 q02 q03
 have H8:=Lib.hid (H5.out.var w3.heap.size 23 [.int .i64 p1,.int .i64 p2,.int .i64 p3,.int .i64 p4] rfl)
 clear H5
 generalize (w3.alloc (.cells #[.int .i64 p1,.int .i64 p2,.int .i64 p3,.int .i64 p4] 23)) = W9 at H8 ⊢
 have F10:=H8.out.sees
 simp only [sees,kVar,cellsAt,Nat.reduceAdd] at F10
 obtain ⟨⟨⟨z0,fz0⟩,q00,q01,q02,q03,-⟩,⟨⟨z1,fz1⟩,q10,q11,q12,q13,-⟩,-⟩:=F10
 go_wp2_with fail
 refine (HS.out _).mono ?_
 rintro e w11 ⟨g,cc,rfl,hle,hgs,hk,hb12⟩
 have hz4:=z0
 have hz2:=z1
 clear z0 fz0 q00 q01 q02 q03 z1 fz1 q10 q11 q12 q13
 simp only [List.length_cons,List.length_nil,Nat.zero_add,Nat.reduceAdd] at hle ⊢
 have H13:=Lib.hid ((H8.out.below hb12).add (kCells g 0 [.string (byt a1),.string (byt a2),.string (byt a3),.string (byt a4)]) hk)
 have hn4 : g ≠ w3.heap.size:=by omega
 have hn2 : g ≠ w.heap.size:=by omega
 clear hgs
 clear hb12 H8 hk
 have F14:=H13.out.sees
 simp only [sees,kVar,kCells,cellsFrom,Nat.add_zero,cellsAt,Nat.reduceAdd] at F14
 obtain ⟨⟨z0,q00,q01,q02,q03,-⟩,⟨⟨z1,fz1⟩,q10,q11,q12,q13,-⟩,⟨⟨z2,fz2⟩,q20,q21,q22,q23,-⟩,-⟩:=F14
 go_wp2_with fail
 refine (HN1.out _).mono ?_
 rintro e w15 ⟨v1,ok1,rfl,hv1,hq1,hb16⟩
 clear z0 q00 q01 q02 q03 z1 fz1 q10 q11 q12 q13 z2 fz2 q20 q21 q22 q23
 have HV1:=keep hv1
 have HQ1:=keep hq1
 have H17:=Lib.hid (H13.out.below hb16)
 clear hb16 H13 hv1 hq1
 have F18:=H17.out.sees
 simp only [sees,kVar,kCells,cellsFrom,Nat.add_zero,cellsAt,Nat.reduceAdd] at F18
 obtain ⟨⟨z0,q00,q01,q02,q03,-⟩,⟨⟨z1,fz1⟩,q10,q11,q12,q13,-⟩,⟨⟨z2,fz2⟩,q20,q21,q22,q23,-⟩,-⟩:=F18
 go_upto_region 7 with fail
 clear z0 q00 q01 q02 q03 z1 fz1 q10 q11 q12 q13 z2 fz2 q20 q21 q22 q23
 have hfar:=farOf H17.out.b1 (by simp [kCells,kVar] <;> omega)
 have H19:=Lib.hid (H17.out.b1.set_ (i:=0) (u:=.int .i64 v1) (by omega) hfar)
 simp only [List.set_cons_zero] at H19
 clear hfar
 clear H17
 generalize (w15.setCell ⟨w3.heap.size,0,none⟩ (.int .i64 v1)) = W20 at H19 ⊢
 have F21:=H19.out.sees
 simp only [sees,kVar,kCells,cellsFrom,Nat.add_zero,cellsAt,Nat.reduceAdd] at F21
 obtain ⟨⟨⟨z0,fz0⟩,q00,q01,q02,q03,-⟩,⟨z1,q10,q11,q12,q13,-⟩,⟨⟨z2,fz2⟩,q20,q21,q22,q23,-⟩,-⟩:=F21
 go_wp2_with fail
 refine (HN2.out _).mono ?_
 rintro e w22 ⟨v2,ok2,rfl,hv2,hq2,hb23⟩
 clear z0 fz0 q00 q01 q02 q03 z1 q10 q11 q12 q13 z2 fz2 q20 q21 q22 q23
 have HV2:=keep hv2
 have HQ2:=keep hq2
 have H24:=Lib.hid (H19.out.below hb23)
 clear hb23 H19 hv2 hq2
 have F25:=H24.out.sees
 simp only [sees,kVar,kCells,cellsFrom,Nat.add_zero,cellsAt,Nat.reduceAdd] at F25
 obtain ⟨⟨⟨z0,fz0⟩,q00,q01,q02,q03,-⟩,⟨z1,q10,q11,q12,q13,-⟩,⟨⟨z2,fz2⟩,q20,q21,q22,q23,-⟩,-⟩:=F25
 go_upto_region 8 with fail
 clear z0 fz0 q00 q01 q02 q03 z1 q10 q11 q12 q13 z2 fz2 q20 q21 q22 q23
 have hfar:=farOf H24.out (by simp [kCells,kVar] <;> omega)
 have H26:=Lib.hid (H24.out.set_ (i:=1) (u:=.int .i64 v2) (by omega) hfar)
 simp only [List.set_cons_zero,List.set_cons_succ] at H26
 clear hfar
 clear H24
 generalize (w22.setCell ⟨w3.heap.size,1,none⟩ (.int .i64 v2)) = W27 at H26 ⊢
 have F28:=H26.out.sees
 simp only [sees,kVar,kCells,cellsFrom,Nat.add_zero,cellsAt,Nat.reduceAdd] at F28
 obtain ⟨⟨⟨z0,fz0⟩,q00,q01,q02,q03,-⟩,⟨z1,q10,q11,q12,q13,-⟩,⟨⟨z2,fz2⟩,q20,q21,q22,q23,-⟩,-⟩:=F28
 go_wp2_with fail
 refine (HN3.out _).mono ?_
 rintro e w29 ⟨v3,ok3,rfl,hv3,hq3,hb30⟩
 clear z0 fz0 q00 q01 q02 q03 z1 q10 q11 q12 q13 z2 fz2 q20 q21 q22 q23
 have HV3:=keep hv3
 have HQ3:=keep hq3
 have H31:=Lib.hid (H26.out.below hb30)
 clear hb30 H26 hv3 hq3
 have F32:=H31.out.sees
 simp only [sees,kVar,kCells,cellsFrom,Nat.add_zero,cellsAt,Nat.reduceAdd] at F32
 obtain ⟨⟨⟨z0,fz0⟩,q00,q01,q02,q03,-⟩,⟨z1,q10,q11,q12,q13,-⟩,⟨⟨z2,fz2⟩,q20,q21,q22,q23,-⟩,-⟩:=F32
 go_upto_region 9 with fail
 clear z0 fz0 q00 q01 q02 q03 z1 q10 q11 q12 q13 z2 fz2 q20 q21 q22 q23
 have hfar:=farOf H31.out (by simp [kCells,kVar] <;> omega)
 have H33:=Lib.hid (H31.out.set_ (i:=2) (u:=.int .i64 v3) (by omega) hfar)
 simp only [List.set_cons_zero,List.set_cons_succ] at H33
 clear hfar
 clear H31
 generalize (w29.setCell ⟨w3.heap.size,2,none⟩ (.int .i64 v3)) = W34 at H33 ⊢
 have F35:=H33.out.sees
 simp only [sees,kVar,kCells,cellsFrom,Nat.add_zero,cellsAt,Nat.reduceAdd] at F35
 obtain ⟨⟨⟨z0,fz0⟩,q00,q01,q02,q03,-⟩,⟨z1,q10,q11,q12,q13,-⟩,⟨⟨z2,fz2⟩,q20,q21,q22,q23,-⟩,-⟩:=F35
 go_wp2_with fail
 refine (HN4.out _).mono ?_
 rintro e w36 ⟨v4,ok4,rfl,hv4,hq4,hb37⟩
 clear z0 fz0 q00 q01 q02 q03 z1 q10 q11 q12 q13 z2 fz2 q20 q21 q22 q23
 have HV4:=keep hv4
 have HQ4:=keep hq4
 have H38:=Lib.hid (H33.out.below hb37)
 clear hb37 H33 hv4 hq4
 have F39:=H38.out.sees
 simp only [sees,kVar,kCells,cellsFrom,Nat.add_zero,cellsAt,Nat.reduceAdd] at F39
 obtain ⟨⟨⟨z0,fz0⟩,q00,q01,q02,q03,-⟩,⟨z1,q10,q11,q12,q13,-⟩,⟨⟨z2,fz2⟩,q20,q21,q22,q23,-⟩,-⟩:=F39
 go_upto_region 10 with fail
 clear z0 fz0 q00 q01 q02 q03 z1 q10 q11 q12 q13 z2 fz2 q20 q21 q22 q23
 have hfar:=farOf H38.out (by simp [kCells,kVar] <;> omega)
 have H40:=Lib.hid (H38.out.set_ (i:=3) (u:=.int .i64 v4) (by omega) hfar)
 simp only [List.set_cons_zero,List.set_cons_succ] at H40
 clear hfar
 clear H38
 generalize (w36.setCell ⟨w3.heap.size,3,none⟩ (.int .i64 v4)) = W41 at H40 ⊢
 have F42:=H40.out.sees
 simp only [sees,kVar,kCells,cellsFrom,Nat.add_zero,cellsAt,Nat.reduceAdd] at F42
 obtain ⟨⟨⟨z0,fz0⟩,q00,q01,q02,q03,-⟩,⟨z1,q10,q11,q12,q13,-⟩,⟨⟨z2,fz2⟩,q20,q21,q22,q23,-⟩,-⟩:=F42
 obtain ⟨RS,hRS⟩ : ∃ RS,(⟨(rangeL ⟨v1,v2,v3,v4⟩).toArray⟩ : ByteArray) = RS:=⟨_,rfl⟩
 have HR:=keep (fun W => r9_Range ⟨v1,v2,v3,v4⟩ HV1.out HV2.out HV3.out HV4.out W)
 rw [hRS] at HR
 clear hRS
 refine wp_region_held_drew (S:=fun W => Ok w [kVar (w3.heap.size) 23 [.int .i64 v1,.int .i64 v2,.int .i64 v3,.int .i64 v4]] W) (by kernel_rfl) (H40.out.drop [kVar (w3.heap.size) 23 [.int .i64 v1,.int .i64 v2,.int .i64 v3,.int .i64 v4]] (by simp)).drew (fun hHeld => ?_)
 clear z0 fz0 q00 q01 q02 q03 z1 q10 q11 q12 q13 z2 fz2 q20 q21 q22 q23
 have H43:=Lib.hid H40.out.drew
 clear H40
 generalize W41.drew = W44 at hHeld H43 ⊢
 refine wtg (i:=0) (v:=?a13) rfl ?b13 (by assumption) ?c13
 case b13 => (intro w h;have F:=Ok.sees h;clear h;simp only [sees,kVar,cellsAt,Nat.reduceAdd] at F; go_simp;try with_reducible rfl)
 try simp only [Act.put,wp1,wp2,wp3,wp4,wp6]
 refine wtg (i:=1) (v:=?a15) rfl ?b15 (by assumption) ?c15
 case b15 => (intro w h;have F:=Ok.sees h;clear h;simp only [sees,kVar,cellsAt,Nat.reduceAdd] at F; go_simp;try with_reducible rfl)
 try simp only [Act.put,wp1,wp2,wp3,wp4,wp5,wp6]
 refine wtg (i:=3) (v:=?a17) rfl ?b17 (by assumption) ?c17
 case b17 => (intro w h;have F:=Ok.sees h;clear h;simp only [sees,kVar,cellsAt,Nat.reduceAdd] at F; go_simp;try with_reducible rfl)
 try simp only [Act.put,wp1,wp2,wp3,wp4,wp5,wp6]
 refine wpAnyH_ready (rs:=[2]) (by kernel_rfl) (by simp) ?_
 refine AllReadyH.cons rfl (fun K hK => ?_) AllReadyH.nil
 go_simp
 refine (HR.out _).mono ?_
 rintro e w45 ⟨rfl,hb46⟩
 go_wp2_with fail
 have H47:=Lib.hid (H43.out.below hb46)
 clear H43
 refine hK.out _ _ (hHeld.below hb46) (fun hHeld => ?_)
 clear hK K
 try simp only [Act.put,wp1,wp2,wp3,wp4,wp5,wp6]
 clear hb46
 refine wtg (i:=4) (v:=?a20) rfl ?b20 (by assumption) ?c20
 case b20 => (intro w h;have F:=Ok.sees h;clear h;simp only [sees,kVar,cellsAt,Nat.reduceAdd] at F; go_simp;try with_reducible rfl)
 try simp only [Act.put,wp1,wp2,wp3,wp4,wp5,wp6]
 refine wpAnyH_ready (rs:=[5]) (by kernel_rfl) (by simp) ?_
 refine AllReadyH.cons rfl (fun K hK => ?_) AllReadyH.nil
 have F48:=H47.out.sees
 simp only [sees,kVar,kCells,cellsFrom,Nat.add_zero,cellsAt,Nat.reduceAdd] at F48
 go_split_ands
 go_simp
 have hfar:=farOf H47.out.b2 (by simp [kCells,kVar] <;> omega)
 have H49:=Lib.hid ((((H47.out.b2.set_ (i:=0) (u:=.int .i64 v1) (by omega) hfar).set_ (i:=1) (u:=.int .i64 v2) (by omega) hfar).set_ (i:=2) (u:=.int .i64 v3) (by omega) hfar).set_ (i:=3) (u:=.int .i64 v4) (by omega) hfar)
 simp only [List.set_cons_zero,List.set_cons_succ] at H49
 clear hfar
 clear H47
 refine hK.out _ _ (H49.out.drop [kVar (w3.heap.size) 23 [.int .i64 v1,.int .i64 v2,.int .i64 v3,.int .i64 v4]] (by simp)) (fun hHeld => ?_)
 clear hK K
 try simp only [Act.put,wp1,wp2,wp3,wp4,wp5,wp6]
 generalize ((((w45.setCell ⟨w.heap.size,0,none⟩ (.int .i64 v1)).setCell ⟨w.heap.size,1,none⟩ (.int .i64 v2)).setCell ⟨w.heap.size,2,none⟩ (.int .i64 v3)).setCell ⟨w.heap.size,3,none⟩ (.int .i64 v4)) = W50 at H49 hHeld ⊢
 refine wtg (i:=6) (v:=?a23) rfl ?b23 (by assumption) ?c23
 case b23 => (intro w h;have F:=Ok.sees h;clear h;simp only [sees,kVar,cellsAt,Nat.reduceAdd] at F; go_simp;try with_reducible rfl)
 try simp only [Act.put,wp1,wp2,wp3,wp4,wp5,wp6]
 refine wpAnyH_done (by kernel_rfl) ?_ _
 clear hHeld
 go_wp2_with fail
 have hK:=H49.out.get (kVar (w.heap.size) 23 [.int .i64 v1,.int .i64 v2,.int .i64 v3,.int .i64 v4]) (by simp)
 have hE:=(show Blk W50 (w.heap.size) 23 _ from hK)
 have r0:=hE.cell 0
 have r1:=hE.cell 1
 have r2:=hE.cell 2
 have r3:=hE.cell 3
 simp at r0 r1 r2 r3
 exact bodyPost_ret (v:=.tuple #[.agg #[.int .i64 v1,.int .i64 v2,.int .i64 v3,.int .i64 v4],.bool (RS.toList == s.toList)]) (by simp [results,Tryz.results65,go_sem,r0,r1,r2,r3]) rfl ⟨⟨v1,v2,v3,v4⟩,_,rfl,⟨HV1.out,HV2.out,HV3.out,HV4.out⟩,fun q hq e => (by have h:=HFF.out q hq e; rw [HQ1.out _ hq.1 h.1,HQ2.out _ hq.2.1 h.2.1,HQ3.out _ hq.2.2.1 h.2.2.1,HQ4.out _ hq.2.2.2 h.2.2.2]),H49.out.bel⟩
theorem r9_ReadRange (s : ByteArray) (hs : s.size ≤ 2000) (w : World) : Calls Tryz.prog 65 #[.string s] w (RROut s.data.toList w):=by
 have HP:=fun W => ref3_Parse s W (by omega)
 by_cases h : (parseR s.data.toList).2 = 0
 ·rw [h] at HP
  have hf:=rr_good h
  exact r9_rr_ok s _ _ _ _ _ HP (fun W => r9_Range (parseR s.data.toList).1 hf.1.1 hf.1.2.1 hf.1.2.2.1 hf.1.2.2.2 W) hf w
 ·by_cases hl : (piecesC 44 s.data.toList).length = 4
  ·match hp : piecesC 44 s.data.toList,hl with
   | [a1,a2,a3,a4],_ =>
    refine r9_rr_four s _ _ _ _ _ (bne_i h) hs HP a1 a2 a3 a4 hp (fun q hq e => ?_) w
    have h1:=rr_comma h e
    rw [h1,pieces_comma] at hp
    simp only [List.cons.injEq,and_true] at hp
    exact ⟨hp.1.symm,hp.2.1.symm,hp.2.2.1.symm,hp.2.2.2.symm⟩
  ·refine r9_rr_few s _ _ _ _ _ (bne_i h) hs HP hl (fun q hq e => ?_) w
   have h1:=rr_comma h e
   rw [h1,pieces_comma] at hl
   exact absurd rfl hl
end Go.Proofs.YtjbimcdofenmdaaGreatDoor
namespace Go.Proofs.YtjbimcdofenmdaaGreatDoor
open Go.RowKit
set_option maxRecDepth 100000 in
set_option maxHeartbeats 4000000 in
theorem ref4_UnquoteV (s : ByteArray) (w : World) (hs : s.size ≤ 100000) :
  Calls Tryz.prog 68 #[.string s] w fun e w' => e = .returned (.tuple #[.string ⟨(unqV s.data.toList).1.toArray⟩,.int .i64 (unqV s.data.toList).2]) ∧ Below w.heap.size w w':=by
 obtain ⟨i0,hi,hz0,hz1,hz2⟩:=info_parts info_u8
 have hsl : s.data.toList.length = s.size:=by rw [Array.length_toList]; rfl
 obtain ⟨r,hr⟩ : ∃ r,unqV s.data.toList = r:=⟨_,rfl⟩
 rw [hr]
 have HR:=keep hr
 clear hr
 by_cases h2 : s.size < 2
 ·have hq : r = ([],4):=by rw [← HR.out]; exact unqV_no (by unfold litB; rw [decide_eq_false (by omega)]; rfl)
  subst hq
  obtain ⟨zi,hzi⟩ : ∃ zi,(s.size : Int) - 1 = zi:=⟨_,rfl⟩
  have hw : IntKind.i64.wrap ((s.size : Int) - 1) = zi:=by rw [Go.IntWalk.i64_in _ (by omega)]; exact hzi
  have g1 : zi < 1:=by omega
  clear hzi
  have HSL:=keep hsl
  clear h2 hsl
  go_enter Tryz.func68,Tryz.ntmps68
  go_wp2_with fail
  try rw [Exit.noGoto_ret]
  exact bodyPost_ret (v:=.tuple #[.string ⟨#[]⟩,.int .i64 4]) (by simp [results,Tryz.results68,go_sem]) rfl ⟨rfl,Below.refl _ _⟩
 have h0 : 0 < s.size:=by omega
 obtain ⟨z,hz⟩ : ∃ z,s.size - 1 = z:=⟨_,rfl⟩
 have hw : IntKind.i64.wrap ((s.size : Int) - 1) = (z : Int):=by rw [Go.IntWalk.i64_in _ (by omega)]; omega
 have g1 : ¬ (z : Int) < 1:=by omega
 by_cases hc0 : s[0]'h0 = 34
 case neg =>
  have hq : r = ([],4):=by
   rw [← HR.out]
   refine unqV_no ?_
   have : s.data.toList.head? = some (s[0]'h0):=by
    rw [List.head?_eq_getElem?,List.getElem?_eq_getElem (by rw [hsl]; exact h0)]; rfl
   unfold litB
   rw [this,decide_eq_false (fun e => hc0 (Option.some.inj e))]
   simp
  subst hq
  have hb0 : (((s[0]'h0).toNat : Int) != 34) = true:=byte_ne hc0
  have HSL:=keep hsl
  clear h2 hsl hc0
  go_enter Tryz.func68,Tryz.ntmps68
  go_wp2_with fail
  try rw [Exit.noGoto_ret]
  exact bodyPost_ret (v:=.tuple #[.string ⟨#[]⟩,.int .i64 4]) (by simp [results,Tryz.results68,go_sem]) rfl ⟨rfl,Below.refl _ _⟩
 have hb0 : (((s[0]'h0).toNat : Int) != 34) = false:=by rw [hc0]; rfl
 have hzs : z < s.size:=by omega
 have hzz : (s.size : Int) - 1 = (z : Int):=by omega
 have hlast : s.data.toList.getLast? = some (s[z]'hzs):=by
  rw [List.getLast?_eq_getElem?,hsl,List.getElem?_eq_getElem (by rw [hsl]; omega)]
  simp only [hz]; rfl
 by_cases hcz : s[z]'hzs = 34
 case neg =>
  have hq : r = ([],4):=by
   rw [← HR.out]
   refine unqV_no ?_
   unfold litB
   rw [hlast,decide_eq_false (p:=some (s[z]'hzs) = some 34) (fun e => hcz (Option.some.inj e))]
   simp
  subst hq
  have hbz : (((s[z]'hzs).toNat : Int) != 34) = true:=byte_ne hcz
  have HSL:=keep hsl
  have HZ:=keep hz
  clear h2 hsl hc0 hcz hlast hz
  go_enter Tryz.func68,Tryz.ntmps68
  go_wp2_with fail
  try rw [Exit.noGoto_ret]
  exact bodyPost_ret (v:=.tuple #[.string ⟨#[]⟩,.int .i64 4]) (by simp [results,Tryz.results68,go_sem]) rfl ⟨rfl,Below.refl _ _⟩
 have hbz : (((s[z]'hzs).toNat : Int) != 34) = false:=by rw [hcz]; rfl
 have hlit : litB s.data.toList = s.data.toList.all plainB:=by
  have : s.data.toList.head? = some (s[0]'h0):=by
   rw [List.head?_eq_getElem?,List.getElem?_eq_getElem (by rw [hsl]; exact h0)]; rfl
  unfold litB
  rw [this,hlast,hc0,hcz,decide_eq_true (by omega : 2 ≤ s.data.toList.length)]
  simp
 cases hp : s.data.toList.all plainB
 ·have hq : r = ([],4):=by rw [← HR.out]; exact unqV_no (by rw [hlit,hp])
  subst hq
  have HP:=keep hp
  have HSL:=keep hsl
  have HZ:=keep hz
  clear h2 hsl hc0 hcz hlast hz hp hlit
  go_enter Tryz.func68,Tryz.ntmps68
  go_wp2_with fail
  refine (ref4_Plain s _ (by have:=HSL.out; omega)).mono ?_
  rintro e w1 ⟨rfl,rfl⟩
  rw [HP.out]
  have H1:=Lib.hid (Below.refl w1.heap.size w1)
  go_wp2_with fail
  try rw [Exit.noGoto_ret]
  exact bodyPost_ret (v:=.tuple #[.string ⟨#[]⟩,.int .i64 4]) (by simp [results,Tryz.results68,go_sem]) rfl ⟨rfl,H1.out⟩
 ·rw [hp] at hlit
  have HP:=keep hp
  have HSL:=keep hsl
  have HZ:=keep hz
  have HLIT:=keep hlit
  clear h2 hsl hc0 hcz hlast hz hp hlit
  go_enter Tryz.func68,Tryz.ntmps68
  go_wp2_with fail
  refine (ref4_Plain s _ (by have:=HSL.out; omega)).mono ?_
  rintro e w1 ⟨rfl,rfl⟩
  rw [HP.out]
  have H1:=Lib.hid (Ok.start w1)
  go_wp2_with fail
  clear hb0 hbz
  go_wp2_with fail
  go_loopw [5,6] (fun ov iv wr => ∃ (k : Nat) (l : List UInt8),1 ≤ k ∧ k ≤ z ∧ iv = .int .i64 (k : Int) ∧ l.length ≤ k ∧ Keep (UnI s.data.toList k l) ∧ Hid (OkRow w1 [] 5 1 ov l.length (bytesV l) wr)) (fun _ iv _ => s.size - (intOf iv).toNat)
  case atStart => exact ⟨1,[],Nat.le_refl _,by have:=HZ.out; omega,rfl,Nat.zero_le _,keep (UnI.start _),Lib.hid (OkRow.start H1.out _ _)⟩
  case round =>
   clear H1
   obtain ⟨k,l,hk1,hk,rfl,hll,HU,H⟩:=hrel
   obtain ⟨wp,rfl⟩ : ∃ wp : World,wp = wr:=⟨_,rfl⟩
   by_cases hlt : (k : Int) = z
   ·have hlt2 : k = z:=by omega
    subst hlt2
    have hun:=HU.out.stop (by rw [HSL.out]; have:=HZ.out; omega)
    clear hlt HU
    have hcv:=own_string H.out.own
    obtain ⟨a,c,hv⟩:=own_len H.out.own
    subst hv
    by_cases hl : l.length ≤ 256
    ·have hq : r = (l,0):=by rw [← HR.out]; exact unqV_some HLIT.out hun hl
     subst hq
     have g3 : ¬ (l.length : Int) > 256:=by omega
     clear hun hl
     go_wp2_with fail
     try rw [Exit.noGoto_ret]
     exact bodyPost_ret (v:=.tuple #[.string ⟨l.toArray⟩,.int .i64 0]) (by simp [results,Tryz.results68,go_sem]) rfl ⟨rfl,H.out.ok.bel⟩
    ·have hq : r = ([],5):=by rw [← HR.out]; exact unqV_long HLIT.out hun hl
     subst hq
     have g3 : (l.length : Int) > 256:=by omega
     clear hun hl
     go_wp2_with fail
     try rw [Exit.noGoto_ret]
     exact bodyPost_ret (v:=.tuple #[.string ⟨#[]⟩,.int .i64 5]) (by simp [results,Tryz.results68,go_sem]) rfl ⟨rfl,H.out.ok.bel⟩
   ·have hkn : k + 1 < s.size:=by omega
    have hks : k < s.size:=by omega
    have hkL : k + 1 < s.data.toList.length:=by rw [HSL.out]; exact hkn
    have hkz0 : (k : Int) < (z : Int):=by omega
    by_cases h3 : s[k]'hks = 34
    case neg =>
     have hi3 : ¬ ((s[k]'hks).toNat : Int) = 34:=by
      intro e
      exact h3 (by rw [← UInt8.toNat_inj]; show _ = 34; omega)
     have HU2:=keep (show UnI s.data.toList (k + 1) (l ++ [s[k]'hks]) from HU.out.step hk1 hkL h3)
     obtain ⟨b,hb⟩ : ∃ b,s[k]'hks = b:=⟨_,rfl⟩
     rw [hb] at HU2 hi3
     have hbi : ((s[k]'hks).toNat : Int) = (b.toNat : Int):=by rw [hb]
     have hi4 : ((b.toNat : Int) == 34) = false:=by simpa using hi3
     clear h3 hb hi3
     go_wp2_with (at_builtin; refine wpList_append_lies _ rfl _ _ _ rfl w1.heap.size 5 i0 _ 1 1 Tryz.underlying69 hi hz0 hz1 hz2 rfl (by omega) _ _ _ rfl (H.out.own.alloc _) ⟨wp.heap.size,0,none⟩ 1 1 [.int .u8 b.toNat] rfl rfl (World.news_of_block (cs:=#[.int .u8 b.toNat]) (t:=5) (fr:=(0,0)) (heap_alloc_new _ _)) (by intro u hu; simp at hu; rcases hu with rfl; rfl) (by omega) (by unfold maxLen; omega) (by omega) (by have:=H.out.ok.bel.size; simp; omega) _ rfl ?_; intro g cap w3 hown3 hgrow3 hat3 hlt3)
     go_roundw
     case rel => exact ⟨k + 1,l ++ [b],by omega,by omega,by go_num,by simp; omega,HU2,by rw [bytesV_snoc,List.length_append]; exact (H.out.alloc_obj _).appended hown3 hgrow3 hat3⟩
     case measure => simp [intOf]; omega
    obtain ⟨b,hb⟩ : ∃ b,s[k]'hks = b:=⟨_,rfl⟩
    have hb34 : b = 34:=hb.symm.trans h3
    have hbi : ((s[k]'hks).toNat : Int) = (b.toNat : Int):=by rw [hb]
    have hi4 : ((b.toNat : Int) == 34) = true:=by rw [hb34]; rfl
    clear hb
    by_cases hl2 : k + 1 = z
    ·have hq : r = ([],4):=by rw [← HR.out]; exact unqV_none (HU.out.last hk1 (by rw [HSL.out]; have:=HZ.out; omega) h3)
     subst hq
     have hne : ((k : Int) + 1 == (z : Int)) = true:=by simp; omega
     clear hb34 h3 hl2
     go_wp2_with (at_builtin; refine wpList_append_lies _ rfl _ _ _ rfl w1.heap.size 5 i0 _ 1 1 Tryz.underlying69 hi hz0 hz1 hz2 rfl (by omega) _ _ _ rfl (H.out.own.alloc _) ⟨wp.heap.size,0,none⟩ 1 1 [.int .u8 b.toNat] rfl rfl (World.news_of_block (cs:=#[.int .u8 b.toNat]) (t:=5) (fr:=(0,0)) (heap_alloc_new _ _)) (by intro u hu; simp at hu; rcases hu with rfl; rfl) (by omega) (by unfold maxLen; omega) (by omega) (by have:=H.out.ok.bel.size; simp; omega) _ rfl ?_; intro g cap w3 hown3 hgrow3 hat3 hlt3)
     have H3:=Lib.hid ((H.out.alloc_obj _).appended hown3 hgrow3 hat3)
     try rw [Exit.noGoto_ret]
     exact bodyPost_ret (v:=.tuple #[.string ⟨#[]⟩,.int .i64 4]) (by simp [results,Tryz.results68,go_sem]) rfl ⟨rfl,H3.out.ok.bel⟩
    have hkz : k + 2 < s.data.toList.length:=by rw [HSL.out]; have:=HZ.out; omega
    have hne : ((k : Int) + 1 == (z : Int)) = false:=by simp; omega
    have ht1 : ((k : Int) + 1).toNat = k + 1:=by omega
    by_cases h6 : s[k + 1]'hkn = 34
    ·have HU2:=keep (show UnI s.data.toList (k + 2) (l ++ [b]) by rw [hb34]; exact HU.out.two hk1 hkz h3 h6)
     have hb6 : (((s[k + 1]'hkn).toNat : Int) != 34) = false:=by rw [h6]; rfl
     clear hb34 h3 h6
     go_wp2_with (at_builtin; refine wpList_append_lies _ rfl _ _ _ rfl w1.heap.size 5 i0 _ 1 1 Tryz.underlying69 hi hz0 hz1 hz2 rfl (by omega) _ _ _ rfl (H.out.own.alloc _) ⟨wp.heap.size,0,none⟩ 1 1 [.int .u8 b.toNat] rfl rfl (World.news_of_block (cs:=#[.int .u8 b.toNat]) (t:=5) (fr:=(0,0)) (heap_alloc_new _ _)) (by intro u hu; simp at hu; rcases hu with rfl; rfl) (by omega) (by unfold maxLen; omega) (by omega) (by have:=H.out.ok.bel.size; simp; omega) _ rfl ?_; intro g cap w3 hown3 hgrow3 hat3 hlt3)
     go_roundw
     case rel => exact ⟨k + 2,l ++ [b],by omega,by have:=HZ.out; rw [HSL.out] at hkz; omega,by go_num,by simp; omega,HU2,by rw [bytesV_snoc,List.length_append]; exact (H.out.alloc_obj _).appended hown3 hgrow3 hat3⟩
     case measure => simp [intOf]; omega
    ·have hq : r = ([],4):=by rw [← HR.out]; exact unqV_none (HU.out.bad hk1 hkz h3 h6)
     subst hq
     have hb6 : (((s[k + 1]'hkn).toNat : Int) != 34) = true:=byte_ne h6
     clear hb34 h3 h6
     go_wp2_with (at_builtin; refine wpList_append_lies _ rfl _ _ _ rfl w1.heap.size 5 i0 _ 1 1 Tryz.underlying69 hi hz0 hz1 hz2 rfl (by omega) _ _ _ rfl (H.out.own.alloc _) ⟨wp.heap.size,0,none⟩ 1 1 [.int .u8 b.toNat] rfl rfl (World.news_of_block (cs:=#[.int .u8 b.toNat]) (t:=5) (fr:=(0,0)) (heap_alloc_new _ _)) (by intro u hu; simp at hu; rcases hu with rfl; rfl) (by omega) (by unfold maxLen; omega) (by omega) (by have:=H.out.ok.bel.size; simp; omega) _ rfl ?_; intro g cap w3 hown3 hgrow3 hat3 hlt3)
     have H3:=Lib.hid ((H.out.alloc_obj _).appended hown3 hgrow3 hat3)
     try rw [Exit.noGoto_ret]
     exact bodyPost_ret (v:=.tuple #[.string ⟨#[]⟩,.int .i64 4]) (by simp [results,Tryz.results68,go_sem]) rfl ⟨rfl,H3.out.ok.bel⟩
end Go.Proofs.YtjbimcdofenmdaaGreatDoor
namespace Go.Proofs.YtjbimcdofenmdaaGreatDoor
open Go.RowKit
theorem cut_same (P P' Q Q' : List UInt8) (h : P ++ 32 :: Q = P' ++ 32 :: Q') (hc : P.count 32 = P'.count 32) : Q = Q':=by
 induction P generalizing P' with
 | nil =>
  cases P' with
  | nil => exact (List.cons.inj h).2
  | cons x r =>
   obtain ⟨rfl,-⟩:=List.cons.inj h
   rw [List.count_cons_self] at hc
   simp at hc
 | cons y P ih =>
  cases P' with
  | nil =>
   obtain ⟨rfl,-⟩:=List.cons.inj h
   rw [List.count_cons_self] at hc
   simp at hc
  | cons x r =>
   obtain ⟨rfl,h2⟩:=List.cons.inj h
   refine ih r h2 ?_
   rw [List.count_cons,List.count_cons] at hc
   omega
def LitOut (l : List UInt8) (w : World) (e : Ending) (w' : World) : Prop:=∃ t : List UInt8,e = .returned (.string ⟨t.toArray⟩) ∧ t.length ≤ 256 ∧ (∀ P q : List UInt8,P.count 32 = 2 → textB q = true → l = P ++ 32 :: quoteS q → t = q) ∧ Below w.heap.size w w'
theorem lit_hit {l : List UInt8} {i : Nat} (h : l[i]? = some 32) (hc : (l.take i).count 32 = 2) (P q : List UInt8) (hP : P.count 32 = 2) (hq : textB q = true) (e : l = P ++ 32 :: quoteS q) : (unqV (l.drop (i + 1))).1 = q:=by
 obtain ⟨hk,hb⟩:=List.getElem?_eq_some_iff.1 h
 have e2 : l = l.take i ++ 32 :: l.drop (i + 1):=by
  conv => lhs; rw [← List.take_append_drop i l,List.drop_eq_getElem_cons hk,hb]
 have:=cut_same _ _ _ _ (e2.symm.trans e) (hc.trans hP.symm)
 rw [this,unq_back q hq]
theorem lit_miss {l : List UInt8} (hc : l.count 32 ≤ 2) (P q : List UInt8) (hP : P.count 32 = 2) (e : l = P ++ 32 :: quoteS q) : False:=by
 rw [e,List.count_append,List.count_cons_self,hP] at hc
 omega
theorem count_step {l : List UInt8} {i : Nat} {b : UInt8} (h : l[i]? = some b) : (l.take (i + 1)).count 32 = (l.take i).count 32 + if b = 32 then 1 else 0:=by
 obtain ⟨hk,rfl⟩:=List.getElem?_eq_some_iff.1 h
 rw [List.take_succ_eq_append_getElem hk,List.count_append,List.count_singleton]
 congr 1
 by_cases hb : l[i] = 32
 ·rw [if_pos hb,hb]; rfl
 ·rw [if_neg hb,if_neg (by simpa using hb)]
set_option maxRecDepth 100000 in
set_option maxHeartbeats 4000000 in
theorem r9_Literal (s : ByteArray) (hs : s.size ≤ 2000) (w : World) :
  Calls Tryz.prog 43 #[.string s,.int .i64 3] w (LitOut s.data.toList w):=by
 obtain ⟨R,hR⟩ : ∃ R,LitOut s.data.toList w = R:=⟨_,rfl⟩
 rw [hR]
 go_enter Tryz.func43,Tryz.ntmps43
 go_wp2_with fail
 go_loopw [1,5] (fun bv iv wr => ∃ i m : Nat,i ≤ s.size ∧ iv = .int .i64 (i : Int) ∧ bv = .int .i64 (m : Int) ∧ 1 ≤ m ∧ m ≤ 3 ∧ Keep ((s.data.toList.take i).count 32 + m = 3) ∧ wr = w) (fun _ iv _ => s.size - (intOf iv).toNat)
 case atStart => exact ⟨0,3,Nat.zero_le _,rfl,rfl,by decide,by decide,keep rfl,rfl⟩
 case round =>
  obtain ⟨i,m,hi,rfl,rfl,hm1,hm3,HM,rfl⟩:=hrel
  by_cases hlt : (i : Int) < s.size
  ·have hks : i < s.size:=by omega
   obtain ⟨b,hb⟩ : ∃ b,s[i]'hks = b:=⟨_,rfl⟩
   have hbi : ((s[i]'hks).toNat : Int) = (b.toNat : Int):=by rw [hb]
   have HB:=keep (at_list s i hks b hb)
   have HC:=keep (count_step HB.out)
   have hw9 : IntKind.i64.wrap ((i : Int) + 1) = (i : Int) + 1:=Go.IntWalk.i64_in _ (by omega)
   clear hb
   by_cases h32 : b = 32
   ·have hb32 : ((b.toNat : Int) == 32) = true:=by rw [h32]; rfl
    obtain ⟨m1,hmm⟩ : ∃ m1,m - 1 = m1:=⟨_,rfl⟩
    have e1 : IntKind.i64.wrap ((m : Int) - 1) = (m1 : Int):=by rw [Go.IntWalk.i64_in _ (by omega)]; omega
    by_cases h0 : m1 = 0
    ·have hm0 : ((m1 : Int) == 0) = true:=by rw [h0]; rfl
     have ht1 : ((i : Int) + 1).toNat = i + 1:=by omega
     have hcap : (i : Int) + 1 ≤ s.size:=by omega
     have HX:=keep (ext_drop s (i + 1))
     have HXS:=keep (ext_size s (i + 1) s.size)
     obtain ⟨X,hX⟩ : ∃ X,s.extract (i + 1) s.size = X:=⟨_,rfl⟩
     rw [hX] at HX HXS
     have HU:=keep (ref4_UnquoteV X wr (by have:=HXS.out; omega))
     have HL:=keep (show ∀ P q : List UInt8,P.count 32 = 2 → textB q = true → s.data.toList = P ++ 32 :: quoteS q → (unqV X.data.toList).1 = q from fun P q hP hq e => by
      rw [HX.out]
      exact lit_hit (by rw [HB.out,h32]) (by have:=HM.out; omega) P q hP hq e)
     clear h0 h32 hmm
     go_wp2_with fail
     refine HU.out.mono ?_
     rintro e w1 ⟨rfl,hb⟩
     have H:=Lib.hid hb
     clear hb
     go_wp2_with fail
     subst hR
     exact ⟨_,rfl,unqV_len _,HL.out,H.out⟩
    ·have hm0 : ((m1 : Int) == 0) = false:=by simp; omega
     have HM2:=keep (show (s.data.toList.take (i + 1)).count 32 + m1 = 3 by rw [HC.out,if_pos h32]; have:=HM.out; omega)
     have g1 : 1 ≤ m1:=by omega
     have g3 : m1 ≤ 3:=by omega
     clear h0 h32 hmm
     go_wp2_with fail
     go_roundw
     case rel => exact ⟨i + 1,m1,by omega,by go_num,rfl,g1,g3,HM2,trivial⟩
     case measure => simp [intOf]; omega
   ·have hb32 : ((b.toNat : Int) == 32) = false:=by
     simp only [beq_eq_false_iff_ne]
     intro e
     exact h32 (by rw [← UInt8.toNat_inj]; show _ = 32; omega)
    have HM2:=keep (show (s.data.toList.take (i + 1)).count 32 + m = 3 by rw [HC.out,if_neg h32]; exact HM.out)
    clear h32
    go_wp2_with fail
    go_roundw
    case rel => exact ⟨i + 1,m,by omega,by go_num,rfl,hm1,hm3,HM2,trivial⟩
    case measure => simp [intOf]; omega
  ·have hii : i = s.size:=by omega
   have HM2:=keep (show s.data.toList.count 32 ≤ 2 by have:=HM.out; rw [hii,List.take_of_length_le (by simp)] at this; omega)
   clear hi hii
   go_wp2_with fail
   subst hR
   exact ⟨[],rfl,Nat.zero_le _,fun P q hP _ e => (lit_miss HM2.out P q hP e).elim,Below.refl _ _⟩
end Go.Proofs.YtjbimcdofenmdaaGreatDoor
