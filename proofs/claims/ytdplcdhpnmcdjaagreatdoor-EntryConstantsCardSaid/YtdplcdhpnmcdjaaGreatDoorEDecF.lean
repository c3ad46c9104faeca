/- The contracts of dec.size, dec.decimal and dec.Format. -/
import Derived.Test.YtdplcdhpnmcdjaaGreatDoorELexI
import Derived.Test.YtdplcdhpnmcdjaaGreatDoorETg
import Derived.IntWalk
import Derived.Lib.AppendStr
namespace Go.Proofs.YtdplcdhpnmcdjaaGreatDoor
set_option maxRecDepth 100000
set_option maxHeartbeats 4000000
open Go.RowKit Go.Proofs.Tryz
open Go.Lib (decDigits)
theorem rj (a:Int) (w:World) (h1 : -9223372036854775808≤a) (h2:a≤9223372036854775807) :
  Calls prog 109 #[.int .i64 a] w fun e w'=>e=.returned (.int .u64 (a.natAbs:Nat))∧w'=w:=by
 by_cases ha:a<0
 ·have e1:IntKind.i64.wrap (a+1)=a+1:=Go.IntWalk.i64_in _ (by omega)
  have e2:IntKind.i64.wrap (-(a+1))=-(a+1):=Go.IntWalk.i64_in _ (by omega)
  have e3:IntKind.u64.wrap (-(a+1))=-(a+1):=Go.IntWalk.u64_in _ (by omega)
  have e4:IntKind.u64.wrap (-(a+1)+1)=(a.natAbs:Int):=by rw [Go.IntWalk.u64_in _ (by omega)]; omega
  go_enter func109,ntmps109
  go_wp2_with fail
  go_ret
  exact ⟨rfl,rfl⟩
 have e3:IntKind.u64.wrap a=(a.natAbs:Int):=by rw [Go.IntWalk.u64_in _ (by omega)]; omega
 go_enter func109,ntmps109
 go_wp2_with fail
 go_ret
 exact ⟨rfl,rfl⟩
theorem cL (n:Nat) (h:n / 10≠0):decDigits n=decDigits (n / 10)++[UInt8.ofNat (48+n % 10)]:=by
 rw [decDigits,dif_neg (by omega)]
theorem dV (n:Nat) (h:n / 10=0):decDigits n=[UInt8.ofNat (48+n % 10)]:=by
 rw [decDigits,dif_pos (by omega),Nat.mod_eq_of_lt (by omega)]
theorem dU (N:Nat) (w:World) (h:N<18446744073709551616) :
  Calls prog 110 #[.int .u64 (N:Int)] w fun e w'=>e=.returned (.string ⟨(decDigits N).toArray⟩)∧Below w.heap.size w w':=by
 have H1:=Lib.hid ((Ok.start w).var w.heap.size 194 (List.replicate 20 (.int .u8 0)) rfl)
 go_enter func110,ntmps110
 go_wp2_with fail
 go_loopw [0,4] (fun nv av wr=>∃ (n at_:Nat) (cs:List Value) (suf:List UInt8),nv=.int .u64 (n:Int)∧av=.int .i64 (at_:Int)∧at_≤20∧n<10 ^ at_∧n<18446744073709551616∧cs.length=20∧(n≠0∨at_=20)∧ao (suf.length=20 - at_∧(∀ j,j<suf.length→cs[at_+j]?=some (.int .u8 ((suf[j]?.getD 0).toNat:Int)))∧decDigits N=decDigits n++suf) ∧
  Hid (Ok w [af w.heap.size 194 cs] wr)) (fun nv _ _=>(intOf nv).toNat)
 case atStart=>exact ⟨N,20,List.replicate 20 (.int .u8 0),[],rfl,rfl,by omega,by omega,h,rfl,.inr rfl,keep ⟨rfl,by simp,by simp⟩,H1⟩
 case round =>
  obtain ⟨n,at_,cs,suf,rfl,rfl,hat,hp,hn,hcs,h0,HK,HR⟩:=hrel
  obtain ⟨wp,rfl⟩:∃ wp:World,wp=wr:=⟨_,rfl⟩
  have hat1:1≤at_:=by
   rcases Nat.eq_zero_or_pos at_ with h9 | h9
   ·subst h9; simp at hp; omega
   exact h9
  obtain ⟨q,rfl⟩:∃ q,at_=q+1:=⟨at_ - 1,by omega⟩
  have hblk:=HR.out.get (af w.heap.size 194 cs) (by simp)
  have hbw:w.heap.size<wp.heap.size:=Blk.lt hblk
  obtain ⟨old,hold⟩:∃ old,cs[q]?=some old:=⟨_,List.getElem?_eq_getElem (by omega)⟩
  have hcell:wp.cell? ⟨w.heap.size,q,none⟩=some old:=by rw [Blk.cell hblk]; simpa using hold
  have hfz:wp.frozen? ⟨w.heap.size,q,none⟩=false:=Blk.frozen hblk q
  have hwq:IntKind.i64.wrap (q:Int)=(q:Int):=Go.IntWalk.i64_in _ (by omega)
  have hq20:(q:Int)<20:=by omega
  obtain ⟨hk1,hk2,hk3⟩:=HK.out
  have hbyte:(UInt8.ofNat (48+n % 10)).toNat=48+n % 10:=by rw [UInt8.toNat_ofNat']; omega
  have HW2:=Lib.hid (HR.out.set_ (i:=q) (u:=.int .u8 (48+(n:Int) % 10)) (Nat.le_refl _) (by simp))
  have HK2:=keep (show (UInt8.ofNat (48+n % 10)::suf).length=20 - q∧(∀ j,j<(UInt8.ofNat (48+n % 10)::suf).length→(cs.set q (.int .u8 (48+(n:Int) % 10)))[q+j]?=some (.int .u8 ((((UInt8.ofNat (48+n % 10)::suf)[j]?.getD 0).toNat:Nat):Int))) from by
   refine ⟨by rw [List.length_cons,hk1]; omega,fun j hj => ?_⟩
   cases j with
   | zero =>
    rw [Nat.add_zero,List.getElem?_set_self (by omega)]
    simp only [List.getElem?_cons_zero,Option.getD_some,hbyte]
    congr 2
   | succ j =>
    rw [List.getElem?_set_ne (by omega),show q+(j+1)=q+1+j by omega,hk2 j (by simpa using hj)]
    simp)
  clear hblk hold hk2
  by_cases hz:n / 10=0
  ·have hzb:((n:Int) / 10 == 0)=true:=by rw [beq_iff_eq]; omega
   have HD:=keep (show decDigits N=UInt8.ofNat (48+n % 10)::suf by rw [hk3,dV n hz]; rfl)
   have hsl:∀ W:World,(Instr.sliceAt 194 (.pointer (some ⟨w.heap.size,0,none⟩)) (some (.int .i64 (q:Int))) none none).run prog W=.ok (.slice (some ⟨w.heap.size,q,none⟩) (20 - q) (20 - q)) W:=by
    intro W
    have harr:prog.arrayLen 194=20:=by kernel_rfl
    have hsz:(sizeOf (prog.elem 194)).run prog W=.ok 1 W:=by kernel_rfl
    rw [run_sliceAt_array_l W _ _ (by kernel_rfl) .i64 (q:Int) (by omega) (by rw [harr]; omega),hsz,harr]
    simp only [Result.andThen,slicedAt,Int.toNat_natCast,Nat.mul_one]
    rw [if_neg (by omega)]
    congr 3
    unfold Addr.add
    split <;> simp_all
   have hcv:(convert 42 9 (.slice (some ⟨w.heap.size,q,none⟩) (20 - q) (20 - q))).run prog (wp.setCell ⟨w.heap.size,q,none⟩ (.int .u8 (48+(n:Int) % 10)))=.ok (.string ⟨(decDigits N).toArray⟩) (wp.setCell ⟨w.heap.size,q,none⟩ (.int .u8 (48+(n:Int) % 10))):=by
    have hl:(decDigits N).length=20 - q:=by rw [HD.out]; exact HK2.out.1
    rw [show (20 - q)=(decDigits N).length from hl.symm]
    refine run_convert_bytes_back _ 42 9 5 ⟨w.heap.size,q,none⟩ _ (decDigits N) underlying42 underlying5 underlying9 fun j hj => ?_
    have hb2:=HW2.out.get (af w.heap.size 194 (cs.set q (.int .u8 (48+(n:Int) % 10)))) (by simp)
    have h9:=HK2.out.2 j (by rw [← HD.out]; exact hj)
    rw [show (Addr.add ⟨w.heap.size,q,none⟩ j)=⟨w.heap.size,q+j,none⟩ by unfold Addr.add; split <;> simp_all,Blk.cell hb2]
    simp only [List.getElem?_toArray]
    rw [h9]
    simp only [← HD.out,List.getElem?_eq_getElem hj,Option.getD_some]
   clear hk1 hk3 hbyte hz HK
   go_wp2_with fail
   go_ret
   exact ⟨rfl,HW2.out.bel⟩
  have hzb:((n:Int) / 10 == 0)=false:=by rw [beq_eq_false_iff_ne]; omega
  have HD:=keep (show decDigits N=decDigits (n / 10)++(UInt8.ofNat (48+n % 10)::suf) by rw [hk3,cL n hz,List.append_assoc]; rfl)
  have hpq:n / 10<10 ^ q:=by rw [Nat.pow_succ] at hp; omega
  clear hk1 hk3 hbyte HK
  go_wp2_with fail
  go_roundw
  case rel=>exact ⟨n / 10,q,cs.set q (.int .u8 (48+(n:Int) % 10)),UInt8.ofNat (48+n % 10)::suf,by simp,rfl,by omega,hpq,by omega,by simpa using hcs,.inl hz,keep ⟨HK2.out.1,HK2.out.2,HD.out⟩,HW2⟩
  case measure=>simp [intOf]; omega
theorem iE (l:List UInt8):cd (l++[48])=cd l:=by simp [cd]
theorem iD (l:List UInt8) (b:UInt8) (h:b≠48):cd (l++[b])=l++[b]:=by simp [cd,h]
theorem l9 (b:Nat) (h:b<10000):decDigits (10000+b)=[49,UInt8.ofNat (48+b / 1000),UInt8.ofNat (48+b / 100 % 10),UInt8.ofNat (48+b / 10 % 10),UInt8.ofNat (48+b % 10)]:=by
 rw [cL _ (by omega),cL _ (by omega),cL _ (by omega),cL _ (by omega),dV _ (by omega)]
 simp only [List.cons_append,List.nil_append]
 have e1:48+(10000+b) / 10 / 10 / 10 / 10 % 10=49:=by omega
 have e2:48+(10000+b) / 10 / 10 / 10 % 10=48+b / 1000:=by omega
 have e3:48+(10000+b) / 10 / 10 % 10=48+b / 100 % 10:=by omega
 have e4:48+(10000+b) / 10 % 10=48+b / 10 % 10:=by omega
 have e5:48+(10000+b) % 10=48+b % 10:=by omega
 rw [e1,e2,e3,e4,e5]
 rfl
theorem fo (b:Nat) (h:b<10000) (h0:b≠0):(decDigits (10000+b)).length=5∧∃ x∈(decDigits (10000+b)).drop 1,x≠48:=by
 rw [l9 b h]
 refine ⟨rfl,Classical.byContradiction fun hn => ?_⟩
 have key:∀ d:Nat,d<10→UInt8.ofNat (48+d)=48→d=0:=by
  intro d hd e
  have:=congrArg UInt8.toNat e
  rw [UInt8.toNat_ofNat'] at this
  have h48:(48:UInt8).toNat=48:=rfl
  omega
 have hall:∀ x∈[UInt8.ofNat (48+b / 1000),UInt8.ofNat (48+b / 100 % 10),UInt8.ofNat (48+b / 10 % 10),UInt8.ofNat (48+b % 10)],x=48:=fun x hx=>Classical.byContradiction fun hne=>hn ⟨x,hx,hne⟩
 have k1:=key _ (by omega) (hall (UInt8.ofNat (48+b / 1000)) (by simp))
 have k2:=key _ (by omega) (hall (UInt8.ofNat (48+b / 100 % 10)) (by simp))
 have k3:=key _ (by omega) (hall (UInt8.ofNat (48+b / 10 % 10)) (by simp))
 have k4:=key _ (by omega) (hall (UInt8.ofNat (48+b % 10)) (by simp))
 omega
theorem dD (n:Nat) (h:n<18446744073709551616):(decDigits n).length≤20:=by
 have key:∀ (k n:Nat),n<10 ^ (k+1)→(decDigits n).length≤k+1:=by
  intro k
  induction k with
  | zero=>intro n hn; rw [dV n (by omega)]; simp
  | succ k ih =>
   intro n hn
   by_cases hz:n / 10=0
   ·rw [dV n hz]; simp
   rw [cL n hz,List.length_append]
   have:=ih (n / 10) (by rw [Nat.pow_succ] at hn; omega)
   simp
   exact this
 exact key 19 n (by omega)
theorem an.grew {w0 w w':World} {l m:List UInt8} {v v':Value} (h:an w0 [] 5 1 v l.length (ax l) w) (hown:w'.ownsRow w0.heap.size 5 1 v' (l.length+m.length) (ax l++ax m)) (hg:w.grownBy w' v.ownBlock):an w0 [] 5 1 v' (l++m).length (ax (l++m)) w' :=
 ⟨⟨h.ok.bel.grown hg h.ok.bel.size (fun k hk=>(h.own.lt k hk).1),by simp⟩,by rw [List.length_append,show ax (l++m)=ax l++ax m by simp [ax]]; exact hown,by simp⟩
theorem jq (a:Int) (w:World) (h1 : -9223372036854775808≤a) (h2:a≤9223372036854775807) :
  Calls prog 66 #[.int .i64 a] w fun e w'=>e=.returned (.string ⟨(cD a).toArray⟩)∧Below w.heap.size w w':=by
 obtain ⟨i0,hi,hz0,hz1,hz2⟩:=info_parts oZ
 have HS:=keep (rj a w h1 h2)
 obtain ⟨N,hN⟩:=ex (a.natAbs)
 rw [hN] at HS
 have hN2:N≤9223372036854775808:=by omega
 obtain ⟨A,hA⟩:=ex (N / 10000)
 obtain ⟨B,hB⟩:=ex (N % 10000)
 have hAi:(N:Int) / 10000=(A:Int):=by omega
 have hBi:(N:Int) % 10000=(B:Int):=by omega
 have HV:=keep (show cD a=(if a<0 then [45] else [])++decDigits A++if B=0 then [] else 46::cd ((decDigits (10000+B)).drop 1) by unfold cD; rw [hN,hA,hB])
 have hA2:A<18446744073709551616:=by omega
 have hB2:B<10000:=by omega
 clear hN hA hB
 have H0:=Lib.hid (an.start (Ok.start w) 5 1)
 go_enter func66,ntmps66
 go_wp2_with fail
 refine HS.out.mono ?_
 rintro e w1 ⟨rfl,hw⟩
 obtain rfl:w=w1:=hw.symm
 clear HS
 by_cases ha:a<0
 ·go_wp2_with (at_builtin; refine wpList_append_lies _ rfl _ _ _ rfl w.heap.size 5 i0 _ 1 1 underlying42 hi hz0 hz1 hz2 rfl (by omega) _ _ _ rfl (H0.out.own.alloc _) ⟨w.heap.size,0,none⟩ 1 1 [.int .u8 45] rfl rfl (World.news_of_block (cs:=#[.int .u8 45]) (t:=5) (fr:=(0,0)) (heap_alloc_new _ _)) (by intro u hu; simp at hu; rcases hu with rfl; rfl) (by omega) (by unfold maxLen; omega) (by omega) (by simp) _ rfl ?_; intro g2 cap2 w2 hown2 hgrow2 hat2 hlt2)
  have H1:=Lib.hid (show an w [] 5 1 (.slice (some ⟨g2,0,none⟩) 1 cap2) ([45]:List UInt8).length (ax [45]) w2 from (H0.out.alloc_obj _).appended hown2 hgrow2 hat2)
  clear hown2 hgrow2 hat2 hlt2 H0
  go_wp2_with fail
  refine (dU A _ hA2).mono ?_
  rintro e w3 ⟨rfl,hb⟩
  have H2:=Lib.hid (H1.out.below hb)
  have hdl:=Go.Lib.decDigits_length A
  have hdn:(decDigits A).length≤20:=dD A hA2
  clear hb H1 hdl
  obtain ⟨DA,hDA⟩:=ex (decDigits A)
  rw [hDA] at hdn ⊢
  have HDA:=keep hDA
  clear hDA
  go_wp2_with (at_builtin; refine Lib.wpList_append_own_string _ rfl _ _ 42 9 rfl w.heap.size 5 i0 underlying42 underlying9 hi hz0 hz1 hz2 _ _ _ rfl H2.out.own _ rfl ?c3 ?c4 ?c5 ?_)
  case c3=>unfold maxLen; show _+DA.length≤_; simp; omega
  case c4=>show _+DA.length≤_; simp; omega
  case c5=>exact H2.out.ok.bel.size
  intro v4 w4 hown hgrow _
  have H4:=Lib.hid (H2.out.grew (m:=DA) (by have h9:=hown; simpa [ax,Lib.strCells] using h9) hgrow)
  obtain ⟨v4a,v4c,rfl⟩:=bp hown
  clear hown hgrow H2
  obtain ⟨P,hP⟩:=ex ([45]++DA)
  have hPl:P.length≤21:=by rw [← hP,List.length_append]; simp; omega
  have HP:=keep hP
  rw [hP] at H4
  clear hP
  have hv4:([45]++DA).length=P.length:=by rw [HP.out]
  by_cases hB0:B=0
  ·have hB0b:((B:Int) == 0)=true:=by rw [hB0]; rfl
   have hcv:=dN H4.out.own
   have HE:=keep (show cD a=P by rw [HV.out,if_pos hB0,List.append_nil,HDA.out,if_pos ha,HP.out])
   clear hB0
   go_wp2_with fail
   go_ret
   exact ⟨by rw [HE.out]; rfl,H4.out.ok.bel⟩
  have hB0b:((B:Int) == 0)=false:=by rw [beq_eq_false_iff_ne]; omega
  obtain ⟨hfd,hfx⟩:=fo B hB2 hB0
  obtain ⟨E,hE⟩:=ex (10000+B)
  have HE:=keep (show cD a=P++46::cd ((decDigits E).drop 1) by rw [HV.out,if_neg hB0,HDA.out,if_pos ha,HP.out,hE])
  have hEi:(10000:Int)+(B:Int)=(E:Int):=by omega
  have hE2:E<18446744073709551616:=by omega
  rw [hE] at hfd hfx
  have HFX:=keep hfx
  clear hE hB0 hfx
  go_wp2_with fail
  refine cMg (dU E _ hE2) (fun _=>H4.out.below) fun w5 H5=>?_
  clear H4
  obtain ⟨DE,hDE⟩:=ex (decDigits E)
  rw [hDE] at hfd HFX HE ⊢
  clear hDE
  go_wp2_with fail
  have HF0:=keep (show (({ data:=DE.toArray }:ByteArray).extract 1 5).data.toList=DE.drop 1 by rw [Lib.extract_data]; exact List.take_of_length_le (by simp; omega))
  have hF0s:(({ data:=DE.toArray }:ByteArray).extract 1 5).size≤4:=by simp only [ByteArray.size_extract]; omega
  obtain ⟨TR,hTR⟩:=ex (cd (DE.drop 1))
  rw [hTR] at HE
  have HTR:=keep hTR
  clear hTR
  go_loopw [6] (fun fv wr=>∃ F:ByteArray,fv=.string F∧F.size≤4∧ao (cd F.data.toList=TR∧∃ x∈F.data.toList,x≠48)∧wr=w5) (fun fv _=>match fv with | .string s=>s.size | _=>0)
  case atStart=>exact ⟨_,rfl,hF0s,keep ⟨by rw [HF0.out]; exact HTR.out,by rw [HF0.out]; exact HFX.out⟩,rfl⟩
  case round =>
   clear HF0 hF0s
   obtain ⟨F,rfl,hFs,HK,hwr⟩:=hrel
   obtain rfl:w5=wr:=hwr.symm
   have hne:0<F.size:=by
    obtain ⟨_,x,hx,_⟩:=HK.out
    have:=List.length_pos_of_mem hx
    rwa [Array.length_toList] at this
   obtain ⟨cb,hcb⟩:=ex (F[F.size - 1]'(by omega))
   obtain ⟨cc,hcc⟩:∃ cc:Nat,cb.toNat=cc:=⟨_,rfl⟩
   have hix : ∀ h,((F[F.size - 1]'h).toNat : Int) = (cc : Int):=fun _ => by rw [← hcc,← hcb]
   have HSP:=keep (show F.data.toList=(F.extract 0 (F.size - 1)).data.toList++[cb] by
    rw [Lib.extract_data,List.drop_zero,Nat.sub_zero]
    have hl:F.data.toList.length=F.size:=Array.length_toList
    have h9 : F.data.toList[F.size - 1]'(by rw [hl]; omega) = cb:=hcb
    rw [← h9,← List.take_succ_eq_append_getElem,show F.size - 1+1=F.data.toList.length by rw [hl]; omega,List.take_length])
   have hi1:IntKind.i64.wrap ((F.size:Int) - 1)=(F.size:Int) - 1:=Go.IntWalk.i64_in _ (by omega)
   have hi2:((F.size:Int) - 1).toNat=F.size - 1:=by omega
   have hi3:(F.size:Int) - 1<(F.size:Int):=by omega
   have hi4:(0:Int)≤(F.size:Int) - 1:=by omega
   by_cases hq:cc=48
   ·have hcb48:cb=48:=UInt8.toNat_inj.1 (by rw [hcc,hq]; rfl)
    have HK2:=keep (show cd (F.extract 0 (F.size - 1)).data.toList=TR∧∃ x∈(F.extract 0 (F.size - 1)).data.toList,x≠48 by
     obtain ⟨k1,x,hx,hx2⟩:=HK.out
     rw [HSP.out,hcb48,iE] at k1
     rw [HSP.out,hcb48] at hx
     refine ⟨k1,x,?_,hx2⟩
     rcases List.mem_append.1 hx with h | h
     ·exact h
     simp at h; exact absurd h hx2)
    have hqb:((cc:Int) == 48)=true:=by rw [hq]; rfl
    clear hcb hcc hq hcb48 HK
    go_wp2_with fail
    go_roundw
    case rel=>exact ⟨F.extract 0 (F.size - 1),by first | rfl | (congr 1; congr 1),by simp only [ByteArray.size_extract]; omega,HK2,by first | trivial | rfl⟩
    case measure=>simp only [ByteArray.size_extract]; omega
   have hqb:((cc:Int) == 48)=false:=by rw [beq_eq_false_iff_ne]; omega
   have HT2:=keep (show TR=F.data.toList by
    obtain ⟨k1,_⟩:=HK.out
    have hcb48:cb≠48:=by rintro rfl; exact hq (by rw [← hcc]; rfl)
    rw [← k1]
    conv=>lhs; rw [HSP.out]
    rw [iD _ _ hcb48,← HSP.out])
   clear hcb hcc hq HK HSP
   go_wp2_with (at_builtin; first | (refine wpList_append_lies _ rfl _ _ _ rfl w.heap.size 5 i0 _ 1 1 underlying42 hi hz0 hz1 hz2 rfl (by omega) _ _ _ rfl (H5.out.own.alloc _) ⟨w5.heap.size,0,none⟩ 1 1 [.int .u8 46] rfl rfl (World.news_of_block (cs:=#[.int .u8 46]) (t:=5) (fr:=(0,0)) (heap_alloc_new _ _)) (by intro u hu; simp at hu; rcases hu with rfl; rfl) (by omega) (by unfold maxLen; omega) (by omega) (by have:=H5.out.ok.bel.size; simp; omega) _ rfl ?_; intro g6 cap6 w6 hown6 hgrow6 hat6 hlt6) | (refine Lib.wpList_append_own_string _ rfl _ _ 42 9 rfl w.heap.size 5 i0 underlying42 underlying9 hi hz0 hz1 hz2 _ _ _ rfl hown6 _ rfl ?c3 ?c4 ?c5 ?_))
   case c3=>unfold maxLen; omega
   case c4=>omega
   case c5=>have:=H5.out.ok.bel.size; have:=hgrow6.size; simp at this; omega
   intro v7 w7 hown7 hgrow7 _
   have H6:=Lib.hid (show an w [] 5 1 (.slice (some ⟨g6,0,none⟩) (P.length+1) cap6) (P++[46]).length (ax (P++[46])) w6 by
    have h9:=(H5.out.alloc_obj _).appended hown6 hgrow6 hat6
    simpa [ax] using h9)
   have H7:=Lib.hid (H6.out.grew (m:=F.data.toList) (by have h9:=hown7; have hl:F.data.toList.length=F.size:=Array.length_toList; rw [hl]; simpa [ax,Lib.strCells] using h9) hgrow7)
   have hcv:=dN H7.out.own
   have HFE:=keep (show cD a=P++46::F.data.toList by rw [HE.out,HT2.out])
   clear hown6 hgrow6 hat6 hlt6 hown7 hgrow7 H5 H6
   go_wp2_with fail
   go_ret
   exact ⟨by rw [HFE.out]; rfl,H7.out.ok.bel⟩
 have H1:=Lib.hid (show an w [] 5 1 (.slice none 0 0) ([]:List UInt8).length (ax []) w from H0.out)
 clear H0
 go_wp2_with fail
 refine (dU A _ hA2).mono ?_
 rintro e w3 ⟨rfl,hb⟩
 have H2:=Lib.hid (H1.out.below hb)
 have hdl:=Go.Lib.decDigits_length A
 have hdn:(decDigits A).length≤20:=dD A hA2
 clear hb H1 hdl
 obtain ⟨DA,hDA⟩:=ex (decDigits A)
 rw [hDA] at hdn ⊢
 have HDA:=keep hDA
 clear hDA
 go_wp2_with (at_builtin; refine Lib.wpList_append_own_string _ rfl _ _ 42 9 rfl w.heap.size 5 i0 underlying42 underlying9 hi hz0 hz1 hz2 _ _ _ rfl H2.out.own _ rfl ?c3 ?c4 ?c5 ?_)
 case c3=>unfold maxLen; show _+DA.length≤_; simp; omega
 case c4=>show _+DA.length≤_; simp; omega
 case c5=>exact H2.out.ok.bel.size
 intro v4 w4 hown hgrow _
 have H4:=Lib.hid (H2.out.grew (m:=DA) (by have h9:=hown; simpa [ax,Lib.strCells] using h9) hgrow)
 obtain ⟨v4a,v4c,rfl⟩:=bp hown
 clear hown hgrow H2
 obtain ⟨P,hP⟩:=ex ([]++DA)
 have hPl:P.length≤21:=by rw [← hP,List.length_append]; simp; omega
 have HP:=keep hP
 rw [hP] at H4
 clear hP
 have hv4:([]++DA).length=P.length:=by rw [HP.out]
 by_cases hB0:B=0
 ·have hB0b:((B:Int) == 0)=true:=by rw [hB0]; rfl
  have hcv:=dN H4.out.own
  have HE:=keep (show cD a=P by rw [HV.out,if_pos hB0,List.append_nil,HDA.out,if_neg (by omega),HP.out])
  clear hB0
  go_wp2_with fail
  go_ret
  exact ⟨by rw [HE.out]; rfl,H4.out.ok.bel⟩
 have hB0b:((B:Int) == 0)=false:=by rw [beq_eq_false_iff_ne]; omega
 obtain ⟨hfd,hfx⟩:=fo B hB2 hB0
 obtain ⟨E,hE⟩:=ex (10000+B)
 have HE:=keep (show cD a=P++46::cd ((decDigits E).drop 1) by rw [HV.out,if_neg hB0,HDA.out,if_neg (by omega),HP.out,hE])
 have hEi:(10000:Int)+(B:Int)=(E:Int):=by omega
 have hE2:E<18446744073709551616:=by omega
 rw [hE] at hfd hfx
 have HFX:=keep hfx
 clear hE hB0 hfx
 go_wp2_with fail
 refine cMg (dU E _ hE2) (fun _=>H4.out.below) fun w5 H5=>?_
 clear H4
 obtain ⟨DE,hDE⟩:=ex (decDigits E)
 rw [hDE] at hfd HFX HE ⊢
 clear hDE
 go_wp2_with fail
 have HF0:=keep (show (({ data:=DE.toArray }:ByteArray).extract 1 5).data.toList=DE.drop 1 by rw [Lib.extract_data]; exact List.take_of_length_le (by simp; omega))
 have hF0s:(({ data:=DE.toArray }:ByteArray).extract 1 5).size≤4:=by simp only [ByteArray.size_extract]; omega
 obtain ⟨TR,hTR⟩:=ex (cd (DE.drop 1))
 rw [hTR] at HE
 have HTR:=keep hTR
 clear hTR
 go_loopw [6] (fun fv wr=>∃ F:ByteArray,fv=.string F∧F.size≤4∧ao (cd F.data.toList=TR∧∃ x∈F.data.toList,x≠48)∧wr=w5) (fun fv _=>match fv with | .string s=>s.size | _=>0)
 case atStart=>exact ⟨_,rfl,hF0s,keep ⟨by rw [HF0.out]; exact HTR.out,by rw [HF0.out]; exact HFX.out⟩,rfl⟩
 case round =>
  clear HF0 hF0s
  obtain ⟨F,rfl,hFs,HK,hwr⟩:=hrel
  obtain rfl:w5=wr:=hwr.symm
  have hne:0<F.size:=by
   obtain ⟨_,x,hx,_⟩:=HK.out
   have:=List.length_pos_of_mem hx
   rwa [Array.length_toList] at this
  obtain ⟨cb,hcb⟩:=ex (F[F.size - 1]'(by omega))
  obtain ⟨cc,hcc⟩:∃ cc:Nat,cb.toNat=cc:=⟨_,rfl⟩
  have hix : ∀ h,((F[F.size - 1]'h).toNat : Int) = (cc : Int):=fun _ => by rw [← hcc,← hcb]
  have HSP:=keep (show F.data.toList=(F.extract 0 (F.size - 1)).data.toList++[cb] by
   rw [Lib.extract_data,List.drop_zero,Nat.sub_zero]
   have hl:F.data.toList.length=F.size:=Array.length_toList
   have h9 : F.data.toList[F.size - 1]'(by rw [hl]; omega) = cb:=hcb
   rw [← h9,← List.take_succ_eq_append_getElem,show F.size - 1+1=F.data.toList.length by rw [hl]; omega,List.take_length])
  have hi1:IntKind.i64.wrap ((F.size:Int) - 1)=(F.size:Int) - 1:=Go.IntWalk.i64_in _ (by omega)
  have hi2:((F.size:Int) - 1).toNat=F.size - 1:=by omega
  have hi3:(F.size:Int) - 1<(F.size:Int):=by omega
  have hi4:(0:Int)≤(F.size:Int) - 1:=by omega
  by_cases hq:cc=48
  ·have hcb48:cb=48:=UInt8.toNat_inj.1 (by rw [hcc,hq]; rfl)
   have HK2:=keep (show cd (F.extract 0 (F.size - 1)).data.toList=TR∧∃ x∈(F.extract 0 (F.size - 1)).data.toList,x≠48 by
    obtain ⟨k1,x,hx,hx2⟩:=HK.out
    rw [HSP.out,hcb48,iE] at k1
    rw [HSP.out,hcb48] at hx
    refine ⟨k1,x,?_,hx2⟩
    rcases List.mem_append.1 hx with h | h
    ·exact h
    simp at h; exact absurd h hx2)
   have hqb:((cc:Int) == 48)=true:=by rw [hq]; rfl
   clear hcb hcc hq hcb48 HK
   go_wp2_with fail
   go_roundw
   case rel=>exact ⟨F.extract 0 (F.size - 1),by first | rfl | (congr 1; congr 1),by simp only [ByteArray.size_extract]; omega,HK2,by first | trivial | rfl⟩
   case measure=>simp only [ByteArray.size_extract]; omega
  have hqb:((cc:Int) == 48)=false:=by rw [beq_eq_false_iff_ne]; omega
  have HT2:=keep (show TR=F.data.toList by
   obtain ⟨k1,_⟩:=HK.out
   have hcb48:cb≠48:=by rintro rfl; exact hq (by rw [← hcc]; rfl)
   rw [← k1]
   conv=>lhs; rw [HSP.out]
   rw [iD _ _ hcb48,← HSP.out])
  clear hcb hcc hq HK HSP
  go_wp2_with (at_builtin; first | (refine wpList_append_lies _ rfl _ _ _ rfl w.heap.size 5 i0 _ 1 1 underlying42 hi hz0 hz1 hz2 rfl (by omega) _ _ _ rfl (H5.out.own.alloc _) ⟨w5.heap.size,0,none⟩ 1 1 [.int .u8 46] rfl rfl (World.news_of_block (cs:=#[.int .u8 46]) (t:=5) (fr:=(0,0)) (heap_alloc_new _ _)) (by intro u hu; simp at hu; rcases hu with rfl; rfl) (by omega) (by unfold maxLen; omega) (by omega) (by have:=H5.out.ok.bel.size; simp; omega) _ rfl ?_; intro g6 cap6 w6 hown6 hgrow6 hat6 hlt6) | (refine Lib.wpList_append_own_string _ rfl _ _ 42 9 rfl w.heap.size 5 i0 underlying42 underlying9 hi hz0 hz1 hz2 _ _ _ rfl hown6 _ rfl ?c3 ?c4 ?c5 ?_))
  case c3=>unfold maxLen; omega
  case c4=>omega
  case c5=>have:=H5.out.ok.bel.size; have:=hgrow6.size; simp at this; omega
  intro v7 w7 hown7 hgrow7 _
  have H6:=Lib.hid (show an w [] 5 1 (.slice (some ⟨g6,0,none⟩) (P.length+1) cap6) (P++[46]).length (ax (P++[46])) w6 by
   have h9:=(H5.out.alloc_obj _).appended hown6 hgrow6 hat6
   simpa [ax] using h9)
  have H7:=Lib.hid (H6.out.grew (m:=F.data.toList) (by have h9:=hown7; have hl:F.data.toList.length=F.size:=Array.length_toList; rw [hl]; simpa [ax,Lib.strCells] using h9) hgrow7)
  have hcv:=dN H7.out.own
  have HFE:=keep (show cD a=P++46::F.data.toList by rw [HE.out,HT2.out])
  clear hown6 hgrow6 hat6 hlt6 hown7 hgrow7 H5 H6
  go_wp2_with fail
  go_ret
  exact ⟨by rw [HFE.out]; rfl,H7.out.ok.bel⟩
