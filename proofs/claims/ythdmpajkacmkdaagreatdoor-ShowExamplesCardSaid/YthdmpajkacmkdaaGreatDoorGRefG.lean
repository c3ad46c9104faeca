/- Contracts of the reference: numbers as text, quotes, ranges as text, names. -/
import Derived.Test.YthdmpajkacmkdaaGreatDoorGParA
import Derived.Test.YthdmpajkacmkdaaGreatDoorGTg
import Derived.Test.YthdmpajkacmkdaaGreatDoorGDecF
import Derived.Test.YthdmpajkacmkdaaGreatDoorGLexI
import Derived.Test.YthdmpajkacmkdaaGreatDoorGVal
namespace Go.Proofs.YthdmpajkacmkdaaGreatDoor
set_option maxRecDepth 100000
set_option maxHeartbeats 4000000
open Go.RowKit Go.Proofs.Tryz
open Go.Lib (decDigits)
theorem tR (a:Int) (w:World) (h1 : -9223372036854775808≤a) (h2:a≤9223372036854775807) :
  Calls prog 61 #[.int .i64 a] w fun e w'=>e=.returned (.int .u64 (a.natAbs:Nat))∧w'=w:=by
 by_cases ha:a<0
 ·have e1:IntKind.i64.wrap (a+1)=a+1:=Go.IntWalk.i64_in _ (by omega)
  have e2:IntKind.i64.wrap (-(a+1))=-(a+1):=Go.IntWalk.i64_in _ (by omega)
  have e3:IntKind.u64.wrap (-(a+1))=-(a+1):=Go.IntWalk.u64_in _ (by omega)
  have e4:IntKind.u64.wrap (-(a+1)+1)=(a.natAbs:Int):=by rw [Go.IntWalk.u64_in _ (by omega)]; omega
  go_enter func61,ntmps61
  go_wp2_with fail
  go_ret
  exact ⟨rfl,rfl⟩
 have e3:IntKind.u64.wrap a=(a.natAbs:Int):=by rw [Go.IntWalk.u64_in _ (by omega)]; omega
 go_enter func61,ntmps61
 go_wp2_with fail
 go_ret
 exact ⟨rfl,rfl⟩
theorem kV (n:Nat) (w:World) (hn:n<18446744073709551616) :
  Calls prog 62 #[.int .u64 (n:Int)] w fun e w'=>e=.returned (.string ⟨(decDigits n).toArray⟩)∧Below w.heap.size w w':=by
 have hcv:=fun (W:World) (x:Int)=>kr (P:=prog) 32 9 5 underlying32 underlying5 underlying9 W x 5
 have HL:=keep (eD n hn)
 go_enter func62,ntmps62
 go_wp2
 go_loopw [0,3] (fun k s wr=>∃ (m:Nat) (acc:List UInt8),m≤n∧acc.length≤20∧k=.int .u64 m∧s=.string ⟨acc.toArray⟩∧decDigits n=decDigits m++acc∧Below w.heap.size w wr) (fun k _ _=>(intOf k).toNat)
 case atStart=>exact ⟨n,[],Nat.le_refl _,by simp,rfl,rfl,by simp,Below.refl _ _⟩
 case round =>
  obtain ⟨m,acc,hm,hl,rfl,rfl,hacc,hb⟩:=hrel
  have HA:=Lib.hid hacc
  have HB:=Lib.hid hb
  clear hacc hb
  by_cases h0:m≤9
  ·go_wp2
   go_ret
   refine ⟨?_,HB.out.alloc HB.out.size _⟩
   have e:=HA.out
   rw [dw (show m<10 from by omega),show UInt8.ofNat (48+m)=48+UInt8.ofNat m from by simp] at e
   rw [e]
   exact congrArg (fun x=>Ending.returned (Value.string x)) (bytes_append [_] acc)
  go_wp2
  go_roundw
  case measure=>simp [intOf]; omega
  case rel =>
   have e:decDigits n=decDigits (m / 10)++((48+UInt8.ofNat (m % 10))::acc):=by
    rw [HA.out,eZ (show ¬ m<10 from by omega),show UInt8.ofNat (48+m % 10)=48+UInt8.ofNat (m % 10) from by simp]; simp
   have hl2:=congrArg List.length e
   rw [List.length_append] at hl2
   have:=HL.out
   exact ⟨m / 10,(48+UInt8.ofNat (m % 10))::acc,by omega,by omega,by congr 1,congrArg Value.string (bytes_append [_] acc),e,HB.out.alloc HB.out.size _⟩
theorem py (a:Int) (w:World) (h1 : -9223372036854775808≤a) (h2:a≤9223372036854775807) :
  Calls prog 31 #[.int .i64 a] w fun e w'=>e=.returned (.string ⟨(eK a).toArray⟩)∧Below w.heap.size w w':=by
 have HS:=keep (tR a w h1 h2)
 obtain ⟨N,hN⟩:=ex (a.natAbs)
 rw [hN] at HS
 have hN2:N≤9223372036854775808:=by omega
 obtain ⟨A,hA⟩:=ex (N / 10000)
 obtain ⟨B,hB⟩:=ex (N % 10000)
 have hAi:(N:Int) / 10000=(A:Int):=by omega
 have hBi:(N:Int) % 10000=(B:Int):=by omega
 obtain ⟨P,hP⟩:∃ P:ByteArray,P=⟨((if a<0 then [45] else [])++decDigits A).toArray⟩:=⟨_,rfl⟩
 have HP:=keep (show P.data.toList=(if a<0 then [45] else [])++decDigits A by rw [hP])
 have HPE:=keep hP
 have HV:=keep (show eK a=P.data.toList++if B=0 then [] else 46::cG ((decDigits (10000+B)).drop 1) by unfold eK; rw [hN,hA,hB,HP.out])
 have hA2:A<18446744073709551616:=by omega
 have hB2:B<10000:=by omega
 have HDL:=keep (eD A hA2)
 have hPs:P.size≤21:=by
  have h9:P.size=P.data.toList.length:=by rw [Array.length_toList]; rfl
  have:=HDL.out
  rw [h9,HP.out,List.length_append]
  split <;> simp <;> omega
 clear hN hA hB hP
 go_enter func31,ntmps31
 go_wp2_with fail
 refine HS.out.mono ?_
 rintro e w1 ⟨rfl,hw⟩
 obtain rfl:w=w1:=hw.symm
 clear HS
 go_wp2_with fail
 refine (kV A _ hA2).mono ?_
 rintro e w3 ⟨rfl,hb⟩
 have HW:=Lib.hid hb
 clear hb
 obtain ⟨D,hD⟩:∃ D:ByteArray,D=⟨(decDigits A).toArray⟩:=⟨_,rfl⟩
 have hDs:D.size≤20:=by rw [hD]; exact HDL.out
 rw [← hD]
 have HD:=keep hD
 clear hD
 go_upto_if 13 with fail
 go_cut [4] (fun s4 wx=>s4=.string P∧wx=w3)
 case first =>
  by_cases ha:a<0
  ·have HPD:=keep (show (⟨#[45]⟩:ByteArray)++D=P by rw [HPE.out,if_pos ha,HD.out]; exact bytes_append [45] _)
   go_wp2_with fail
   go_meet
   exact ⟨by rw [HPD.out],rfl⟩
  have HPD:=keep (show D=P by rw [HPE.out,if_neg ha,HD.out]; rfl)
  go_wp2_with fail
  go_meet
  exact ⟨by rw [HPD.out],rfl⟩
 case rest =>
  obtain ⟨rfl,hwc⟩:=hcut
  obtain rfl:w3=wc:=hwc.symm
  by_cases hB0:B=0
  ·have hB0b:((B:Int) == 0)=true:=by rw [hB0]; rfl
   have HE:=keep (show eK a=P.data.toList by rw [HV.out,if_pos hB0,List.append_nil])
   clear hB0
   go_wp2_with fail
   go_ret
   exact ⟨by rw [HE.out]; rfl,HW.out⟩
  have hB0b:((B:Int) == 0)=false:=by rw [beq_eq_false_iff_ne]; omega
  obtain ⟨hfd,hfx⟩:=gL B hB2 hB0
  obtain ⟨E,hE⟩:=ex (10000+B)
  have HE:=keep (show eK a=P.data.toList++46::cG ((decDigits E).drop 1) by rw [HV.out,if_neg hB0,hE])
  have hEi:(10000:Int)+(B:Int)=(E:Int):=by omega
  have hE2:E<18446744073709551616:=by omega
  rw [hE] at hfd hfx
  obtain ⟨X0,hX0⟩:∃ X0:ByteArray,X0=⟨(decDigits E).toArray⟩:=⟨_,rfl⟩
  have HX0:=keep hX0
  have hx5:X0.size=5:=by rw [hX0]; exact hfd
  have HX5:=keep hx5
  have hx5a:(X0.size:Int)≤5:=by omega
  have hx5b:(1:Int)≤(X0.size:Int):=by omega
  have HX1:=keep (show (X0.extract 1 X0.size).data.toList=(decDigits E).drop 1 by
   rw [Lib.extract_data,hX0]
   show ((decDigits E).drop 1).take _=_
   rw [List.take_of_length_le]
   rw [List.length_drop]
   exact Nat.le_refl _)
  have HFX:=keep hfx
  clear hfd hfx hE hB0 hx5 hX0
  go_wp2_with fail
  refine (kV E _ hE2).mono ?_
  rintro e w4 ⟨rfl,hb4⟩
  have HW4:=Lib.hid (HW.out.trans (hb4.mono HW.out.size))
  clear hb4 HW
  rw [← HX0.out]
  go_wp2_with fail
  have hs4:(X0.extract 1 X0.size).size≤4:=by rw [ByteArray.size_extract]; omega
  generalize X0.extract 1 X0.size=X at HX1 hs4 ⊢
  go_loopg [6] X.size (fun gf pv wr=>∃ Y:ByteArray,gf=Y.size∧pv=.string Y∧Y.size≤4∧bh (cG Y.data.toList=cG ((decDigits E).drop 1))∧bh (∃ x∈Y.data.toList,x≠48)∧wr=w4)
  case atStart=>exact ⟨X,rfl,rfl,hs4,keep (by rw [HX1.out]),keep (by rw [HX1.out]; exact HFX.out),rfl⟩
  case round =>
   clear HX1 hs4 HFX
   obtain ⟨Y,hgY,rfl,hY4,HT,HNZ,hwr⟩:=hrel
   obtain rfl:w4=wr:=hwr.symm
   obtain ⟨k,hk⟩:∃ k,Y.size=k+1:=by
    obtain ⟨x,hx,-⟩:=HNZ.out
    have h9:Y.data.toList.length=Y.size:=by rw [Array.length_toList]; rfl
    have:=List.length_pos_of_mem hx
    exact ⟨Y.size - 1,by omega⟩
   have hkl:k<Y.size:=by omega
   have hki:(Y.size:Int) - 1=(k:Int):=by omega
   have hk0:(1:Int)≤(Y.size:Int):=by omega
   have hks:(k:Int)≤(Y.size:Int):=by omega
   have HK:=keep hk
   have HSN:=keep (show Y.data.toList = (Y.extract 0 k).data.toList ++ [Y[k]'hkl] by
    have h9:Y.data.toList.length=Y.size:=by rw [Array.length_toList]; rfl
    have h8:=mi Y k hkl
    rw [List.take_of_length_le (by omega)] at h8
    rw [Lib.extract_data]
    exact h8)
   subst hgY
   clear hk
   by_cases h48 : ((Y[k]'hkl).toNat : Int) = 48
   ·have hb48 : (((Y[k]'hkl).toNat : Int) == 48) = true:=by rw [h48]; rfl
    have H48:=keep (show Y[k]'hkl = 48 by rw [← UInt8.toNat_inj]; show _ = 48; omega)
    have hsz:(Y.extract 0 k).size=k:=by rw [ByteArray.size_extract]; omega
    have HSZ:=keep hsz
    have HNX:=keep (show ∃ x∈(Y.extract 0 k).data.toList,x≠48 by
     obtain ⟨x,hx,hx2⟩:=HNZ.out
     rw [HSN.out,H48.out] at hx
     rcases List.mem_append.1 hx with hx | hx
     ·exact ⟨x,hx,hx2⟩
     simp at hx; exact absurd hx hx2)
    have HTX:=keep (show cG (Y.extract 0 k).data.toList=cG ((decDigits E).drop 1) by rw [← HT.out,HSN.out,H48.out,kz])
    clear h48 hsz
    go_wp2_with fail
    go_roundg k
    case rel=>exact ⟨Y.extract 0 k,by rw [HSZ.out],rfl,by rw [HSZ.out]; omega,HTX,HNX,rfl⟩
    case measure=>omega
   have hb48 : (((Y[k]'hkl).toNat : Int) == 48) = false:=by simpa using h48
   have HTL:=keep (show cG ((decDigits E).drop 1)=Y.data.toList by
    rw [← HT.out,HSN.out,ky]
    intro e
    rw [e] at h48
    exact h48 rfl)
   clear h48
   go_wp2_with fail
   go_ret
   refine ⟨?_,HW4.out⟩
   show Ending.returned (Value.string (P++⟨#[46]⟩++Y))=_
   rw [HE.out,HTL.out]
   congr 2
   apply ByteArray.ext
   rw [ByteArray.data_append,ByteArray.data_append]
   apply Array.toList_inj.1
   simp
theorem uU (r:R4) (hv:aG r=true) (h:¬ (r.c1=r.c2∧r.r1=r.r2)):lq r=(aP r.c1 r.r1).1++(58::(aP r.c2 r.r2).1)∧(aP r.c1 r.r1).1≠(aP r.c2 r.r2).1:=by
 obtain ⟨a1,a2,a3,a4⟩:=r
 obtain ⟨h1,h2⟩:=kL hv
 refine ⟨by unfold lq; rw [if_neg h],fun e=>h ?_⟩
 have:=qB h1 h2 e
 exact this
theorem uT (r:R4) (h:r.c1=r.c2∧r.r1=r.r2):lq r=(aP r.c1 r.r1).1:=by unfold lq; rw [if_pos h,List.append_nil]
theorem kW (a1 a2 a3 a4:Int) (w:World) :
  Calls prog 84 #[.agg #[.int .i64 a1,.int .i64 a2,.int .i64 a3,.int .i64 a4]] w fun e w'=>e=.returned (.tuple #[.string ⟨(em ⟨a1,a2,a3,a4⟩).1.toArray⟩,.int .i64 (em ⟨a1,a2,a3,a4⟩).2])∧Below w.heap.size w w':=by
 have H1:=Lib.hid ((Ok.start w).alloc w.heap.size 25 [.int .i64 a1,.int .i64 a2,.int .i64 a3,.int .i64 a4] rfl)
 go_enter func84,ntmps84
 go_wp2_with fail
 generalize (w.alloc (.cells #[.int .i64 a1,.int .i64 a2,.int .i64 a3,.int .i64 a4] 25))=W2 at H1 ⊢
 cases ha:aG ⟨a1,a2,a3,a4⟩
 ·refine cM (dA _ _ _ _ _) H1 fun w3 H5=>?_
  rw [da ha]
  clear H1
  have F6:=sE H5
  have HA:=Lib.hid (rP ha)
  clear ha
  go_wp2_with fail
  go_ret2
  exact ⟨by rw [HA.out]; rfl,H5.out.bel⟩
 refine cM (dA _ _ _ _ _) H1 fun w3 H5=>?_
 rw [bb ha]
 clear H1
 have F6:=sE H5
 have HA:=Lib.hid (jr ha)
 have hv:=Lib.hid ha
 clear ha
 go_wp2_with fail
 refine cM (pz _ _ _ _ _) H5 fun w7 H9=>?_
 clear F6 H5
 have F10:=sE H9
 go_wp2_with fail
 refine cM (l6 _ _ _) H9 fun w11 H13=>?_
 clear F10 H9
 have F14:=sE H13
 go_wp2_with fail
 refine cM (v8 _ _ _ _ _) H13 fun w15 H17=>?_
 clear F14 H13
 have F18:=sE H17
 go_wp2_with fail
 refine cM (l6 _ _ _) H17 fun w19 H21=>?_
 clear F18 H17
 have F22:=sE H21
 by_cases he:a1=a3∧a2=a4
 ·have hf:=uT ⟨a1,a2,a3,a4⟩ he
  obtain ⟨rfl,rfl⟩:=he
  have HF:=Lib.hid hf
  clear hf
  generalize (aP a1 a2).1=S at HF ⊢
  go_wp2_with fail
  go_ret2
  exact ⟨by rw [HA.out,HF.out]; rfl,H21.out.bel⟩
 obtain ⟨hf,hne⟩:=uU ⟨a1,a2,a3,a4⟩ hv.out he
 have HF:=Lib.hid hf
 clear hf he hv
 have l1:=dt a1 a2
 have l2:=dt a3 a4
 simp only [] at hne
 generalize (aP a1 a2).1=S at HF hne l1 ⊢
 generalize (aP a3 a4).1=U at HF hne l2 ⊢
 have hsu:(S == U)=false:=by simpa using hne
 clear hne
 go_wp2_with fail
 go_ret2
 exact ⟨by rw [HA.out,HF.out]; simp [bytes_append],H21.out.bel⟩
theorem l5 (s:ByteArray) (w:World) (hs:s.size≤4611686018427387904) :
  Calls prog 97 #[.string s] w fun e w'=>e=.returned (.bool (s.data.toList.all aB))∧w'=w:=by
 have HSL:=keep (show s.data.toList.length=s.size by rw [Array.length_toList]; rfl)
 obtain ⟨p,hp⟩:=ex (s.data.toList.all aB)
 rw [hp]
 have HPP:=keep hp
 clear hp
 go_enter func97,ntmps97
 go_wp2_with fail
 go_loopw [3] (fun iv wr=>∃ k:Nat,k≤s.size∧iv=.int .i64 (k:Int)∧bh (∀ b∈s.data.toList.take k,aB b=true)∧wr=w) (fun iv _=>s.size - (intOf iv).toNat)
 case atStart=>exact ⟨0,Nat.zero_le _,rfl,keep (by simp),rfl⟩
 case round =>
  obtain ⟨k,hk,rfl,HP,hwr⟩:=hrel
  obtain rfl:w=wr:=hwr.symm
  by_cases hlt:(k:Int)<s.size
  ·have hks:k<s.size:=by omega
   have hno : aB (s[k]'hks) = false → p = false:=fun h => by
    rw [← HPP.out,List.all_eq_false]
    refine ⟨s[k]'hks,?_,by rw [h]; decide⟩
    show s.data.toList[k]'(by rw [HSL.out]; exact hks) ∈ _
    exact List.getElem_mem _
   rcases (show (((s[k]'hks).toNat : Int) < 32) ∨ (32 ≤ ((s[k]'hks).toNat : Int) ∧ 126 < ((s[k]'hks).toNat : Int)) ∨ (32 ≤ ((s[k]'hks).toNat : Int) ∧ ((s[k]'hks).toNat : Int) ≤ 126) by omega) with h1 | ⟨h1,h2⟩ | ⟨h1,h2⟩
   ·have HB:=keep (hno (by unfold aB; simp; omega))
    clear hno
    go_wp2_with fail
    go_ret
    exact ⟨by rw [HB.out]; rfl,rfl⟩
   ·have HB:=keep (hno (by unfold aB; simp; omega))
    clear hno
    go_wp2_with fail
    go_ret
    exact ⟨by rw [HB.out]; rfl,rfl⟩
   have HB:=keep (show ∀ b∈s.data.toList.take (k+1),aB b=true by
    intro b hb
    rw [List.take_succ_eq_append_getElem (by rw [HSL.out]; exact hks)] at hb
    rcases List.mem_append.1 hb with hb | hb
    ·exact HP.out b hb
    simp at hb
    subst hb
    show aB (s[k]'hks) = true
    unfold aB
    simp; omega)
   clear hno
   go_wp2_with fail
   go_roundw
   case rel=>exact ⟨k+1,by omega,by go_num,HB,by first | trivial | rfl⟩
   case measure=>simp [intOf]; omega
  obtain rfl:k=s.size:=by omega
  have HA:=keep (show p=true by
   rw [← HPP.out,List.all_eq_true]
   exact fun b hb=>HP.out b (by rw [← HSL.out,List.take_length]; exact hb))
  go_wp2_with fail
  go_ret
  exact ⟨by rw [HA.out]; rfl,rfl⟩
theorem f9 (s:ByteArray) (w:World) (hs:s.size≤4611686018427387904) :
  Calls prog 63 #[.string s] w fun e w'=>e=.returned (.int .i64 (bm s.data.toList))∧w'=w:=by
 have hl:s.data.toList.length=s.size:=by rw [Array.length_toList]; rfl
 by_cases h:(s.size:Int)>256
 ·have HC:=keep (show bm s.data.toList=5 by unfold bm; rw [if_pos (by omega)])
  clear hl
  go_enter func63,ntmps63
  go_wp2_with fail
  go_ret
  exact ⟨by rw [HC.out]; rfl,rfl⟩
 have HC:=keep (show bm s.data.toList=if s.data.toList.all aB then 0 else 4 by unfold bm; rw [if_neg (by omega)])
 clear hl
 obtain ⟨p,hp⟩:=ex (s.data.toList.all aB)
 have HP:=keep hp
 clear hp
 cases p
 ·have HC2:=keep (show bm s.data.toList=4 by rw [HC.out,HP.out]; rfl)
  go_enter func63,ntmps63
  go_wp2_with fail
  refine (l5 s _ hs).mono ?_
  rintro e w1 ⟨rfl,hw⟩
  obtain rfl:w=w1:=hw.symm
  rw [HP.out]
  go_wp2_with fail
  go_ret
  exact ⟨by rw [HC2.out]; rfl,rfl⟩
 have HC2:=keep (show bm s.data.toList=0 by rw [HC.out,HP.out]; rfl)
 go_enter func63,ntmps63
 go_wp2_with fail
 refine (l5 s _ hs).mono ?_
 rintro e w1 ⟨rfl,hw⟩
 obtain rfl:w=w1:=hw.symm
 rw [HP.out]
 go_wp2_with fail
 go_ret
 exact ⟨by rw [HC2.out]; rfl,rfl⟩
theorem qY (s:ByteArray) (w:World) (hs:s.size≤4611686018427387904) :
  Calls prog 32 #[.string s] w fun e w'=>e=.returned (.tuple #[.string ⟨(eP s.data.toList).toArray⟩,.int .i64 (bm s.data.toList)])∧Below w.heap.size w w':=by
 obtain ⟨i0,hi,hz0,hz1,hz2⟩:=info_parts lx
 have HSL:=keep (show s.data.toList.length=s.size by rw [Array.length_toList]; rfl)
 obtain ⟨c,hc⟩:=ex (bm s.data.toList)
 have HC:=keep hc
 clear hc
 by_cases h0:c=0
 ·subst h0
  have h256:s.size≤256:=by
   have h9:=HC.out
   unfold bm at h9
   rw [HSL.out] at h9
   split at h9
   ·cases h9
   omega
  go_enter func32,ntmps32
  go_wp2_with fail
  refine (f9 s _ hs).mono ?_
  rintro e w1 ⟨rfl,hw⟩
  obtain rfl:w=w1:=hw.symm
  rw [HC.out]
  go_upto_region 5 with fail
  have H0:=Lib.hid (show ai w [] 5 1 (.slice (some ⟨w.heap.size,0,none⟩) 1 1) ([34]:List UInt8).length (au [34]) (w.alloc (.cells #[.int .u8 34] 5)) from ai.of_new (Ok.start w) ((Below.refl _ _).alloc (Nat.le_refl _) _) (World.ownsRow_lit w #[.int .u8 34] 1 (Nat.le_refl _) (by decide) rfl))
  generalize (w.alloc (.cells #[.int .u8 34] 5))=W0 at H0 ⊢
  go_wp2_with fail
  go_loopw [5,6] (fun ov iv wr=>∃ (k:Nat) (l:List UInt8),k≤s.size∧iv=.int .i64 (k:Int)∧l.length≤2 * k+1∧bh (l=34::(s.data.toList.take k).flatMap bG)∧Hid (ai w [] 5 1 ov l.length (au l) wr)) (fun _ iv _=>s.size - (intOf iv).toNat)
  case atStart=>exact ⟨0,[34],Nat.zero_le _,rfl,by decide,keep (by rw [List.take_zero]; rfl),H0⟩
  case round =>
   clear H0
   obtain ⟨k,l,hk,rfl,hll,HQ,H⟩:=hrel
   obtain ⟨wp,rfl⟩:∃ wp:World,wp=wr:=⟨_,rfl⟩
   by_cases hlt:(k:Int)<s.size
   ·have hks:k<s.size:=by omega
    obtain ⟨b,hb⟩:=ex (s[k]'hks)
    have hbi : ∀ h,((s[k]'h).toNat : Int) = (b.toNat : Int):=fun _ => by rw [hb]
    have HQ2:=keep (show 34::(s.data.toList.take (k+1)).flatMap bG=l++bG b by
     rw [List.take_succ_eq_append_getElem (by rw [HSL.out]; exact hks),List.flatMap_append,HQ.out,show s.data.toList[k]'(by rw [HSL.out]; exact hks) = b from hb]
     simp)
    clear hb
    by_cases h34:b=34
    ·subst h34
     go_upto_region 9 with (at_builtin; refine wpList_append_lies _ rfl _ _ _ rfl w.heap.size 5 i0 _ 1 1 underlying32 hi hz0 hz1 hz2 rfl (by omega) _ _ _ rfl (H.out.own.alloc _) ⟨wp.heap.size,0,none⟩ 1 1 [.int .u8 (34:UInt8).toNat] rfl rfl (World.news_of_block (cs:=#[.int .u8 (34:UInt8).toNat]) (t:=5) (fr:=(0,0)) (heap_alloc_new _ _)) (by intro u hu; simp at hu; rcases hu with rfl; rfl) (by omega) (by unfold maxLen; omega) (by omega) (by have:=H.out.ok.bel.size; simp; omega) _ rfl ?_; intro g3 cap3 w3 hown3 hgrow3 hat3 hlt3)
     obtain ⟨m,hm⟩:=ex (l++[34])
     have hml:l.length+1=m.length:=by rw [← hm]; simp
     have H3:=Lib.hid (show ai w [] 5 1 (.slice (some ⟨g3,0,none⟩) m.length cap3) m.length (au m) w3 by rw [← hml,← hm,cU]; exact (H.out.alloc_obj _).appended hown3 hgrow3 hat3)
     have HMM:=keep hm
     have HML:=keep hml
     have hm600:m.length≤600:=by omega
     rw [hml]
     clear hown3 hgrow3 hat3 hlt3 H hm hml
     go_wp2_with (at_builtin; refine wpList_append_lies _ rfl _ _ _ rfl w.heap.size 5 i0 _ 1 1 underlying32 hi hz0 hz1 hz2 rfl (by omega) _ _ _ rfl (H3.out.own.alloc _) ⟨w3.heap.size,0,none⟩ 1 1 [.int .u8 (34:UInt8).toNat] rfl rfl (World.news_of_block (cs:=#[.int .u8 (34:UInt8).toNat]) (t:=5) (fr:=(0,0)) (heap_alloc_new _ _)) (by intro u hu; simp at hu; rcases hu with rfl; rfl) (by omega) (by unfold maxLen; omega) (by omega) (by have:=H3.out.ok.bel.size; simp; omega) _ rfl ?_; intro g4 cap4 w4 hown4 hgrow4 hat4 hlt4)
     go_roundw
     case rel=>exact ⟨k+1,m++[34],by omega,by go_num,by have:=HML.out; simp; omega,keep (by rw [HQ2.out,← HMM.out]; simp [bG]),by rw [cU,List.length_append]; exact (H3.out.alloc_obj _).appended hown4 hgrow4 hat4⟩
     case measure=>simp [intOf]; omega
    have hb34:((b.toNat:Int) == 34)=false:=by simpa using gG (k:=34) h34
    have HQ3:=keep (show bG b=[b] by unfold bG; rw [if_neg h34])
    clear h34
    go_wp2_with (at_builtin; refine wpList_append_lies _ rfl _ _ _ rfl w.heap.size 5 i0 _ 1 1 underlying32 hi hz0 hz1 hz2 rfl (by omega) _ _ _ rfl (H.out.own.alloc _) ⟨wp.heap.size,0,none⟩ 1 1 [.int .u8 b.toNat] rfl rfl (World.news_of_block (cs:=#[.int .u8 b.toNat]) (t:=5) (fr:=(0,0)) (heap_alloc_new _ _)) (by intro u hu; simp at hu; rcases hu with rfl; rfl) (by omega) (by unfold maxLen; omega) (by omega) (by have:=H.out.ok.bel.size; simp; omega) _ rfl ?_; intro g3 cap3 w3 hown3 hgrow3 hat3 hlt3)
    go_roundw
    case rel=>exact ⟨k+1,l++[b],by omega,by go_num,by simp; omega,keep (by rw [HQ2.out,HQ3.out]),by rw [cU,List.length_append]; exact (H.out.alloc_obj _).appended hown3 hgrow3 hat3⟩
    case measure=>simp [intOf]; omega
   obtain rfl:k=s.size:=by omega
   have HE:=keep (show eP s.data.toList=l++[34] by
    unfold eP
    rw [if_pos HC.out,HQ.out]
    unfold cY
    rw [← HSL.out,List.take_length]
    rfl)
   go_wp2_with (at_builtin; refine wpList_append_lies _ rfl _ _ _ rfl w.heap.size 5 i0 _ 1 1 underlying32 hi hz0 hz1 hz2 rfl (by omega) _ _ _ rfl (H.out.own.alloc _) ⟨wp.heap.size,0,none⟩ 1 1 [.int .u8 (34:UInt8).toNat] rfl rfl (World.news_of_block (cs:=#[.int .u8 (34:UInt8).toNat]) (t:=5) (fr:=(0,0)) (heap_alloc_new _ _)) (by intro u hu; simp at hu; rcases hu with rfl; rfl) (by omega) (by unfold maxLen; omega) (by omega) (by have:=H.out.ok.bel.size; simp; omega) _ rfl ?_; intro g3 cap3 w3 hown3 hgrow3 hat3 hlt3; have hcv:=dT (l:=l++[34]) (show w3.ownsRow w.heap.size 5 1 (.slice (some ⟨g3,0,none⟩) (l.length+1) cap3) (l++[34]).length (au (l++[34])) by rw [cU,List.length_append]; exact hown3))
   have H3:=Lib.hid (show ai w [] 5 1 (.slice (some ⟨g3,0,none⟩) (l.length+1) cap3) (l++[34]).length (au (l++[34])) w3 by rw [cU,List.length_append]; exact (H.out.alloc_obj _).appended hown3 hgrow3 hat3)
   exact bodyPost_ret (v:=.tuple #[.string ⟨(l++[34]).toArray⟩,.int .i64 0]) (by simp [results,results32,go_sem]) rfl ⟨by rw [HE.out,HC.out],H3.out.ok.bel⟩
 have h0b:(c != 0)=true:=by simpa using h0
 have HE:=keep (show eP s.data.toList=[] by unfold eP; rw [HC.out,if_neg h0])
 clear h0
 go_enter func32,ntmps32
 go_wp2_with fail
 refine (f9 s _ hs).mono ?_
 rintro e w1 ⟨rfl,hw⟩
 obtain rfl:w=w1:=hw.symm
 rw [HC.out]
 go_wp2_with fail
 exact bodyPost_ret (v:=.tuple #[.string ⟨#[]⟩,.int .i64 c]) (by simp [results,results32,go_sem]) rfl ⟨by rw [HE.out,HC.out],Below.refl _ _⟩
