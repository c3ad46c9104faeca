/- Contracts of the reference: numbers as text, quotes, ranges as text, names. The contracts of parse.Binds and of the tree's tables. -/
import Derived.Test.YtdplcdhpnmcdjaaGreatDoorEParA
import Derived.Test.YtdplcdhpnmcdjaaGreatDoorETg
import Derived.Test.YtdplcdhpnmcdjaaGreatDoorEDecF
import Derived.Test.YtdplcdhpnmcdjaaGreatDoorELexI
import Derived.Test.YtdplcdhpnmcdjaaGreatDoorEIterV
import Derived.Test.YtdplcdhpnmcdjaaGreatDoorELexO
import Derived.Laws.Strings3
namespace Go.Proofs.YtdplcdhpnmcdjaaGreatDoor
set_option maxRecDepth 100000
set_option maxHeartbeats 4000000
open Go.RowKit Go.Proofs.Tryz
open Go.Lib (decDigits)
theorem qu (a:Int) (w:World) (h1 : -9223372036854775808≤a) (h2:a≤9223372036854775807) :
  Calls prog 112 #[.int .i64 a] w fun e w'=>e=.returned (.int .u64 (a.natAbs:Nat))∧w'=w:=by
 by_cases ha:a<0
 ·have e1:IntKind.i64.wrap (a+1)=a+1:=Go.IntWalk.i64_in _ (by omega)
  have e2:IntKind.i64.wrap (-(a+1))=-(a+1):=Go.IntWalk.i64_in _ (by omega)
  have e3:IntKind.u64.wrap (-(a+1))=-(a+1):=Go.IntWalk.u64_in _ (by omega)
  have e4:IntKind.u64.wrap (-(a+1)+1)=(a.natAbs:Int):=by rw [Go.IntWalk.u64_in _ (by omega)]; omega
  go_enter func112,ntmps112
  go_wp2_with fail
  go_ret
  exact ⟨rfl,rfl⟩
 have e3:IntKind.u64.wrap a=(a.natAbs:Int):=by rw [Go.IntWalk.u64_in _ (by omega)]; omega
 go_enter func112,ntmps112
 go_wp2_with fail
 go_ret
 exact ⟨rfl,rfl⟩
theorem iS (n:Nat) (w:World) (hn:n<18446744073709551616) :
  Calls prog 113 #[.int .u64 (n:Int)] w fun e w'=>e=.returned (.string ⟨(decDigits n).toArray⟩)∧Below w.heap.size w w':=by
 have hcv:=fun (W:World) (x:Int)=>qz (P:=prog) 42 9 5 underlying42 underlying5 underlying9 W x 5
 have HL:=keep (dD n hn)
 go_enter func113,ntmps113
 go_wp2
 go_loopw [0,3] (fun k s wr=>∃ (m:Nat) (acc:List UInt8),m≤n∧acc.length≤20∧k=.int .u64 m∧s=.string ⟨acc.toArray⟩∧decDigits n=decDigits m++acc∧Below w.heap.size w wr) (fun k _ _=>(intOf k).toNat)
 case atStart=>exact ⟨n,[],Nat.le_refl _,by simp,rfl,rfl,by simp,Below.refl _ _⟩
 case round =>
  obtain ⟨m,acc,hm,hl,rfl,rfl,hacc,hb⟩:=hrel
  have HA:=Lib.hid hacc
  have HB:=Lib.hid hb
  clear hacc hb
  by_cases h0:m≤9
  ·go_wp2
   go_ret
   refine ⟨?_,HB.out.alloc HB.out.size _⟩
   have e:=HA.out
   rw [il (show m<10 from by omega),show UInt8.ofNat (48+m)=48+UInt8.ofNat m from by simp] at e
   rw [e]
   exact congrArg (fun x=>Ending.returned (Value.string x)) (bytes_append [_] acc)
  go_wp2
  go_roundw
  case measure=>simp [intOf]; omega
  case rel =>
   have e:decDigits n=decDigits (m / 10)++((48+UInt8.ofNat (m % 10))::acc):=by
    rw [HA.out,lj (show ¬ m<10 from by omega),show UInt8.ofNat (48+m % 10)=48+UInt8.ofNat (m % 10) from by simp]; simp
   have hl2:=congrArg List.length e
   rw [List.length_append] at hl2
   have:=HL.out
   exact ⟨m / 10,(48+UInt8.ofNat (m % 10))::acc,by omega,by omega,by congr 1,congrArg Value.string (bytes_append [_] acc),e,HB.out.alloc HB.out.size _⟩
theorem mM (a:Int) (w:World) (h1 : -9223372036854775808≤a) (h2:a≤9223372036854775807) :
  Calls prog 69 #[.int .i64 a] w fun e w'=>e=.returned (.string ⟨(cD a).toArray⟩)∧Below w.heap.size w w':=by
 have HS:=keep (qu a w h1 h2)
 obtain ⟨N,hN⟩:=ex (a.natAbs)
 rw [hN] at HS
 have hN2:N≤9223372036854775808:=by omega
 obtain ⟨A,hA⟩:=ex (N / 10000)
 obtain ⟨B,hB⟩:=ex (N % 10000)
 have hAi:(N:Int) / 10000=(A:Int):=by omega
 have hBi:(N:Int) % 10000=(B:Int):=by omega
 obtain ⟨P,hP⟩:∃ P:ByteArray,P=⟨((if a<0 then [45] else [])++decDigits A).toArray⟩:=⟨_,rfl⟩
 have HP:=keep (show P.data.toList=(if a<0 then [45] else [])++decDigits A by rw [hP])
 have HPE:=keep hP
 have HV:=keep (show cD a=P.data.toList++if B=0 then [] else 46::cd ((decDigits (10000+B)).drop 1) by unfold cD; rw [hN,hA,hB,HP.out])
 have hA2:A<18446744073709551616:=by omega
 have hB2:B<10000:=by omega
 have HDL:=keep (dD A hA2)
 have hPs:P.size≤21:=by
  have h9:P.size=P.data.toList.length:=by rw [Array.length_toList]; rfl
  have:=HDL.out
  rw [h9,HP.out,List.length_append]
  split <;> simp <;> omega
 clear hN hA hB hP
 go_enter func69,ntmps69
 go_wp2_with fail
 refine HS.out.mono ?_
 rintro e w1 ⟨rfl,hw⟩
 obtain rfl:w=w1:=hw.symm
 clear HS
 go_wp2_with fail
 refine (iS A _ hA2).mono ?_
 rintro e w3 ⟨rfl,hb⟩
 have HW:=Lib.hid hb
 clear hb
 obtain ⟨D,hD⟩:∃ D:ByteArray,D=⟨(decDigits A).toArray⟩:=⟨_,rfl⟩
 have hDs:D.size≤20:=by rw [hD]; exact HDL.out
 rw [← hD]
 have HD:=keep hD
 clear hD
 go_upto_if 13 with fail
 go_cut [4] (fun s4 wx=>s4=.string P∧wx=w3)
 case first =>
  by_cases ha:a<0
  ·have HPD:=keep (show (⟨#[45]⟩:ByteArray)++D=P by rw [HPE.out,if_pos ha,HD.out]; exact bytes_append [45] _)
   go_wp2_with fail
   go_meet
   exact ⟨by rw [HPD.out],rfl⟩
  have HPD:=keep (show D=P by rw [HPE.out,if_neg ha,HD.out]; rfl)
  go_wp2_with fail
  go_meet
  exact ⟨by rw [HPD.out],rfl⟩
 case rest =>
  obtain ⟨rfl,hwc⟩:=hcut
  obtain rfl:w3=wc:=hwc.symm
  by_cases hB0:B=0
  ·have hB0b:((B:Int) == 0)=true:=by rw [hB0]; rfl
   have HE:=keep (show cD a=P.data.toList by rw [HV.out,if_pos hB0,List.append_nil])
   clear hB0
   go_wp2_with fail
   go_ret
   exact ⟨by rw [HE.out]; rfl,HW.out⟩
  have hB0b:((B:Int) == 0)=false:=by rw [beq_eq_false_iff_ne]; omega
  obtain ⟨hfd,hfx⟩:=fo B hB2 hB0
  obtain ⟨E,hE⟩:=ex (10000+B)
  have HE:=keep (show cD a=P.data.toList++46::cd ((decDigits E).drop 1) by rw [HV.out,if_neg hB0,hE])
  have hEi:(10000:Int)+(B:Int)=(E:Int):=by omega
  have hE2:E<18446744073709551616:=by omega
  rw [hE] at hfd hfx
  obtain ⟨X0,hX0⟩:∃ X0:ByteArray,X0=⟨(decDigits E).toArray⟩:=⟨_,rfl⟩
  have HX0:=keep hX0
  have hx5:X0.size=5:=by rw [hX0]; exact hfd
  have HX5:=keep hx5
  have hx5a:(X0.size:Int)≤5:=by omega
  have hx5b:(1:Int)≤(X0.size:Int):=by omega
  have HX1:=keep (show (X0.extract 1 X0.size).data.toList=(decDigits E).drop 1 by
   rw [Lib.extract_data,hX0]
   show ((decDigits E).drop 1).take _=_
   rw [List.take_of_length_le]
   rw [List.length_drop]
   exact Nat.le_refl _)
  have HFX:=keep hfx
  clear hfd hfx hE hB0 hx5 hX0
  go_wp2_with fail
  refine (iS E _ hE2).mono ?_
  rintro e w4 ⟨rfl,hb4⟩
  have HW4:=Lib.hid (HW.out.trans (hb4.mono HW.out.size))
  clear hb4 HW
  rw [← HX0.out]
  go_wp2_with fail
  have hs4:(X0.extract 1 X0.size).size≤4:=by rw [ByteArray.size_extract]; omega
  generalize X0.extract 1 X0.size=X at HX1 hs4 ⊢
  go_loopg [6] X.size (fun gf pv wr=>∃ Y:ByteArray,gf=Y.size∧pv=.string Y∧Y.size≤4∧ao (cd Y.data.toList=cd ((decDigits E).drop 1))∧ao (∃ x∈Y.data.toList,x≠48)∧wr=w4)
  case atStart=>exact ⟨X,rfl,rfl,hs4,keep (by rw [HX1.out]),keep (by rw [HX1.out]; exact HFX.out),rfl⟩
  case round =>
   clear HX1 hs4 HFX
   obtain ⟨Y,hgY,rfl,hY4,HT,HNZ,hwr⟩:=hrel
   obtain rfl:w4=wr:=hwr.symm
   obtain ⟨k,hk⟩:∃ k,Y.size=k+1:=by
    obtain ⟨x,hx,-⟩:=HNZ.out
    have h9:Y.data.toList.length=Y.size:=by rw [Array.length_toList]; rfl
    have:=List.length_pos_of_mem hx
    exact ⟨Y.size - 1,by omega⟩
   have hkl:k<Y.size:=by omega
   have hki:(Y.size:Int) - 1=(k:Int):=by omega
   have hk0:(1:Int)≤(Y.size:Int):=by omega
   have hks:(k:Int)≤(Y.size:Int):=by omega
   have HK:=keep hk
   have HSN:=keep (show Y.data.toList = (Y.extract 0 k).data.toList ++ [Y[k]'hkl] by
    have h9:Y.data.toList.length=Y.size:=by rw [Array.length_toList]; rfl
    have h8:=j2 Y k hkl
    rw [List.take_of_length_le (by omega)] at h8
    rw [Lib.extract_data]
    exact h8)
   subst hgY
   clear hk
   by_cases h48 : ((Y[k]'hkl).toNat : Int) = 48
   ·have hb48 : (((Y[k]'hkl).toNat : Int) == 48) = true:=by rw [h48]; rfl
    have H48:=keep (show Y[k]'hkl = 48 by rw [← UInt8.toNat_inj]; show _ = 48; omega)
    have hsz:(Y.extract 0 k).size=k:=by rw [ByteArray.size_extract]; omega
    have HSZ:=keep hsz
    have HNX:=keep (show ∃ x∈(Y.extract 0 k).data.toList,x≠48 by
     obtain ⟨x,hx,hx2⟩:=HNZ.out
     rw [HSN.out,H48.out] at hx
     rcases List.mem_append.1 hx with hx | hx
     ·exact ⟨x,hx,hx2⟩
     simp at hx; exact absurd hx hx2)
    have HTX:=keep (show cd (Y.extract 0 k).data.toList=cd ((decDigits E).drop 1) by rw [← HT.out,HSN.out,H48.out,iE])
    clear h48 hsz
    go_wp2_with fail
    go_roundg k
    case rel=>exact ⟨Y.extract 0 k,by rw [HSZ.out],rfl,by rw [HSZ.out]; omega,HTX,HNX,rfl⟩
    case measure=>omega
   have hb48 : (((Y[k]'hkl).toNat : Int) == 48) = false:=by simpa using h48
   have HTL:=keep (show cd ((decDigits E).drop 1)=Y.data.toList by
    rw [← HT.out,HSN.out,iD]
    intro e
    rw [e] at h48
    exact h48 rfl)
   clear h48
   go_wp2_with fail
   go_ret
   refine ⟨?_,HW4.out⟩
   show Ending.returned (Value.string (P++⟨#[46]⟩++Y))=_
   rw [HE.out,HTL.out]
   congr 2
   apply ByteArray.ext
   rw [ByteArray.data_append,ByteArray.data_append]
   apply Array.toList_inj.1
   simp
theorem jQ (s:ByteArray) (w:World) (hs:s.size≤4611686018427387904) :
  Calls prog 130 #[.string s] w fun e w'=>e=.returned (.bool (s.data.toList.all aj))∧w'=w:=by
 have HSL:=keep (show s.data.toList.length=s.size by rw [Array.length_toList]; rfl)
 obtain ⟨p,hp⟩:=ex (s.data.toList.all aj)
 rw [hp]
 have HPP:=keep hp
 clear hp
 go_enter func130,ntmps130
 go_wp2_with fail
 go_loopw [3] (fun iv wr=>∃ k:Nat,k≤s.size∧iv=.int .i64 (k:Int)∧ao (∀ b∈s.data.toList.take k,aj b=true)∧wr=w) (fun iv _=>s.size - (intOf iv).toNat)
 case atStart=>exact ⟨0,Nat.zero_le _,rfl,keep (by simp),rfl⟩
 case round =>
  obtain ⟨k,hk,rfl,HP,hwr⟩:=hrel
  obtain rfl:w=wr:=hwr.symm
  by_cases hlt:(k:Int)<s.size
  ·have hks:k<s.size:=by omega
   have hno : aj (s[k]'hks) = false → p = false:=fun h => by
    rw [← HPP.out,List.all_eq_false]
    refine ⟨s[k]'hks,?_,by rw [h]; decide⟩
    show s.data.toList[k]'(by rw [HSL.out]; exact hks) ∈ _
    exact List.getElem_mem _
   rcases (show (((s[k]'hks).toNat : Int) < 32) ∨ (32 ≤ ((s[k]'hks).toNat : Int) ∧ 126 < ((s[k]'hks).toNat : Int)) ∨ (32 ≤ ((s[k]'hks).toNat : Int) ∧ ((s[k]'hks).toNat : Int) ≤ 126) by omega) with h1 | ⟨h1,h2⟩ | ⟨h1,h2⟩
   ·have HB:=keep (hno (by unfold aj; simp; omega))
    clear hno
    go_wp2_with fail
    go_ret
    exact ⟨by rw [HB.out]; rfl,rfl⟩
   ·have HB:=keep (hno (by unfold aj; simp; omega))
    clear hno
    go_wp2_with fail
    go_ret
    exact ⟨by rw [HB.out]; rfl,rfl⟩
   have HB:=keep (show ∀ b∈s.data.toList.take (k+1),aj b=true by
    intro b hb
    rw [List.take_succ_eq_append_getElem (by rw [HSL.out]; exact hks)] at hb
    rcases List.mem_append.1 hb with hb | hb
    ·exact HP.out b hb
    simp at hb
    subst hb
    show aj (s[k]'hks) = true
    unfold aj
    simp; omega)
   clear hno
   go_wp2_with fail
   go_roundw
   case rel=>exact ⟨k+1,by omega,by go_num,HB,by first | trivial | rfl⟩
   case measure=>simp [intOf]; omega
  obtain rfl:k=s.size:=by omega
  have HA:=keep (show p=true by
   rw [← HPP.out,List.all_eq_true]
   exact fun b hb=>HP.out b (by rw [← HSL.out,List.take_length]; exact hb))
  go_wp2_with fail
  go_ret
  exact ⟨by rw [HA.out]; rfl,rfl⟩
theorem jP (s:ByteArray) (w:World) (hs:s.size≤4611686018427387904) :
  Calls prog 75 #[.string s] w fun e w'=>e=.returned (.int .i64 (aC s.data.toList))∧w'=w:=by
 have hl:s.data.toList.length=s.size:=by rw [Array.length_toList]; rfl
 by_cases h:(s.size:Int)>256
 ·have HC:=keep (show aC s.data.toList=5 by unfold aC; rw [if_pos (by omega)])
  clear hl
  go_enter func75,ntmps75
  go_wp2_with fail
  go_ret
  exact ⟨by rw [HC.out]; rfl,rfl⟩
 have HC:=keep (show aC s.data.toList=if s.data.toList.all aj then 0 else 4 by unfold aC; rw [if_neg (by omega)])
 clear hl
 obtain ⟨p,hp⟩:=ex (s.data.toList.all aj)
 have HP:=keep hp
 clear hp
 cases p
 ·have HC2:=keep (show aC s.data.toList=4 by rw [HC.out,HP.out]; rfl)
  go_enter func75,ntmps75
  go_wp2_with fail
  refine (jQ s _ hs).mono ?_
  rintro e w1 ⟨rfl,hw⟩
  obtain rfl:w=w1:=hw.symm
  rw [HP.out]
  go_wp2_with fail
  go_ret
  exact ⟨by rw [HC2.out]; rfl,rfl⟩
 have HC2:=keep (show aC s.data.toList=0 by rw [HC.out,HP.out]; rfl)
 go_enter func75,ntmps75
 go_wp2_with fail
 refine (jQ s _ hs).mono ?_
 rintro e w1 ⟨rfl,hw⟩
 obtain rfl:w=w1:=hw.symm
 rw [HP.out]
 go_wp2_with fail
 go_ret
 exact ⟨by rw [HC2.out]; rfl,rfl⟩
set_option maxRecDepth 100000
set_option maxHeartbeats 4000000
theorem xC (fn:Nat) (h:fn=5∨fn=6∨fn=7∨fn=25∨fn=39∨fn=40∨fn=18∨fn=19∨fn=45∨fn=44):arS fn=(2,2):=by
 rcases h with rfl | rfl | rfl | rfl | rfl | rfl | rfl | rfl | rfl | rfl <;> decide
theorem xD (fn:Nat) (h:fn=20∨fn=41∨fn=43):arS fn=(2,3):=by rcases h with rfl | rfl | rfl <;> decide
theorem xA (fn:Nat) (h:fn=32∨fn=33):arS fn=(1,2):=by rcases h with rfl | rfl <;> decide
theorem xF (fn:Nat) (h:fn=34):arS fn=(3,3):=by subst h; decide
theorem xB (fn:Nat) (h:fn=21∨fn=22∨fn=23∨fn=38∨fn=9∨fn=10∨fn=11∨fn=12∨fn=14∨fn=15∨fn=16∨fn=17):arS fn=(1,16):=by
 rcases h with rfl | rfl | rfl | rfl | rfl | rfl | rfl | rfl | rfl | rfl | rfl | rfl <;> decide
theorem xE (fn:Nat) (h:fn=30):arS fn=(2,16):=by subst h; decide
theorem xz (fn:Nat) (h:¬ (fn=5∨fn=6∨fn=7∨fn=25∨fn=39∨fn=40∨fn=18∨fn=19∨fn=45∨fn=44∨fn=20∨fn=41∨fn=43∨fn=32∨fn=33∨fn=34∨fn=21∨fn=22∨fn=23∨fn=38∨fn=9∨fn=10∨fn=11∨fn=12∨fn=14∨fn=15∨fn=16∨fn=17∨fn=30)):arS fn=(1,1):=by
 unfold arS
 simp only [List.mem_cons,List.not_mem_nil,or_false]
 rw [if_neg (by omega),if_neg (by omega),if_neg (by omega),if_neg (by omega),if_neg (by omega),if_neg (by omega)]
theorem j4 (fn:Nat) (w:World) (h1:1≤fn) (h2:fn≤50) :
  Calls prog 143 #[.int .u8 (fn:Nat)] w fun e w'=>e=.returned (.bool true)∧w'=w:=by
 have g1:(1:Int)≤fn:=by omega
 have g2:(fn:Int)≤50:=by omega
 go_enter func143,ntmps143
 go_wp2_with fail
 go_ret
 exact ⟨rfl,rfl⟩
theorem cw (fn:Nat) (w:World) (h1:1≤fn) (h2:fn≤50) :
  Calls prog 185 #[.int .u8 (fn:Nat)] w fun e w'=>e=.returned (.tuple #[.int .i64 ((arS fn).1:Nat),.int .i64 ((arS fn).2:Nat),.int .i64 0])∧w'=w:=by
 go_enter func185,ntmps185
 go_wp2_with fail
 all_goals simp only [beq_iff_eq,beq_eq_false_iff_ne,ne_eq] at *
 all_goals
  first
  | exact bodyPost_ret (v:=.tuple #[.int .i64 2,.int .i64 2,.int .i64 0]) (by simp [results,results185,go_sem]) rfl ⟨by rw [xC fn (by omega)]; rfl,rfl⟩
  | exact bodyPost_ret (v:=.tuple #[.int .i64 2,.int .i64 3,.int .i64 0]) (by simp [results,results185,go_sem]) rfl ⟨by rw [xD fn (by omega)]; rfl,rfl⟩
  | exact bodyPost_ret (v:=.tuple #[.int .i64 1,.int .i64 2,.int .i64 0]) (by simp [results,results185,go_sem]) rfl ⟨by rw [xA fn (by omega)]; rfl,rfl⟩
  | exact bodyPost_ret (v:=.tuple #[.int .i64 3,.int .i64 3,.int .i64 0]) (by simp [results,results185,go_sem]) rfl ⟨by rw [xF fn (by omega)]; rfl,rfl⟩
  | exact bodyPost_ret (v:=.tuple #[.int .i64 1,.int .i64 16,.int .i64 0]) (by simp [results,results185,go_sem]) rfl ⟨by rw [xB fn (by omega)]; rfl,rfl⟩
  | exact bodyPost_ret (v:=.tuple #[.int .i64 2,.int .i64 16,.int .i64 0]) (by simp [results,results185,go_sem]) rfl ⟨by rw [xE fn (by omega)]; rfl,rfl⟩
  | skip
 have HA:=keep (xz fn (by omega))
 refine (j4 fn _ h1 h2).mono ?_
 rintro e w' ⟨rfl,hw⟩
 obtain rfl:w=w':=hw.symm
 go_wp2_with fail
 exact bodyPost_ret (v:=.tuple #[.int .i64 1,.int .i64 1,.int .i64 0]) (by simp [results,results185,go_sem]) rfl ⟨by rw [HA.out]; rfl,rfl⟩
def vF (op:Int):Int:=if aT op=0 then 2 else 0
def vH (op:Int):Bool:=decide (op=5)
theorem cO (op:Int) (w:World) :
  Calls prog 168 #[.int .i64 op] w fun e w'=>e=.returned (.tuple #[.int .i64 (aT op:Nat),.bool (vH op),.int .i64 (vF op)])∧w'=w:=by
 go_enter func168,ntmps168
 go_wp2_with fail
 all_goals simp only [beq_iff_eq,beq_eq_false_iff_ne,ne_eq] at *
 all_goals
  first
  | exact bodyPost_ret (v:=.tuple #[.int .i64 1,.bool false,.int .i64 0]) (by simp [results,results168,go_sem]) rfl ⟨by subst_vars; rfl,rfl⟩
  | exact bodyPost_ret (v:=.tuple #[.int .i64 2,.bool false,.int .i64 0]) (by simp [results,results168,go_sem]) rfl ⟨by subst_vars; rfl,rfl⟩
  | exact bodyPost_ret (v:=.tuple #[.int .i64 3,.bool false,.int .i64 0]) (by simp [results,results168,go_sem]) rfl ⟨by subst_vars; rfl,rfl⟩
  | exact bodyPost_ret (v:=.tuple #[.int .i64 4,.bool false,.int .i64 0]) (by simp [results,results168,go_sem]) rfl ⟨by subst_vars; rfl,rfl⟩
  | exact bodyPost_ret (v:=.tuple #[.int .i64 6,.bool true,.int .i64 0]) (by simp [results,results168,go_sem]) rfl ⟨by subst_vars; rfl,rfl⟩
  | exact bodyPost_ret (v:=.tuple #[.int .i64 7,.bool false,.int .i64 0]) (by simp [results,results168,go_sem]) rfl ⟨by subst_vars; rfl,rfl⟩
  | skip
 have hb:aT op=0:=by
  unfold aT
  rw [if_neg (by omega),if_neg (by omega),if_neg (by omega),if_neg (by omega),if_neg (by omega),if_neg (by omega)]
 exact bodyPost_ret (v:=.tuple #[.int .i64 0,.bool false,.int .i64 2]) (by simp [results,results168,go_sem]) rfl ⟨by unfold vH vF; rw [hb,decide_eq_false (by omega)]; rfl,rfl⟩
