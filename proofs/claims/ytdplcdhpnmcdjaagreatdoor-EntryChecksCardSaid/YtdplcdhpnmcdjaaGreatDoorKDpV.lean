/- dec.Parse at any string. -/
import Derived.Test.YtdplcdhpnmcdjaaGreatDoorKLexG
import Derived.Test.YtdplcdhpnmcdjaaGreatDoorKTg
import Derived.Deep.DeepCutAuto
import Derived.Lib.IndexBytes
namespace Go.Proofs.YtdplcdhpnmcdjaaGreatDoor
set_option maxRecDepth 100000
set_option maxHeartbeats 8000000
open Go.RowKit Go.Proofs.Tryz
theorem jx (s:ByteArray):(s.extract 1 s.size).data.toList=s.data.toList.tail:=by
 rw [Lib.extract_data]
 have hl:s.data.toList.length=s.size:=by rw [Array.length_toList]; rfl
 rw [List.drop_one]
 exact List.take_of_length_le (by rw [List.length_tail,hl]; exact Nat.le_refl _)
theorem cX (s:ByteArray):s.data.toList.length=s.size:=by rw [Array.length_toList]; rfl
theorem kD {s : ByteArray} (h : 0 < s.size) : s.data.toList.head? = some (s[0]'h):=by
 have:=byte_at (s:=s) rfl 0 h
 rw [← this,List.head?_eq_getElem?]
theorem mu {s:ByteArray} (h:¬ 0<s.size):s.data.toList=[]:=List.length_eq_zero_iff.1 (by rw [cX]; omega)
theorem py {b:UInt8} {n:Nat} (hn:n<256):b=UInt8.ofNat n↔b.toNat=n:=by
 constructor
 ·rintro rfl; rw [UInt8.toNat_ofNat']; omega
 intro h; apply UInt8.toNat_inj.1; rw [UInt8.toNat_ofNat',h]; omega
theorem pm {l:List UInt8}:(l.takeWhile ah).length=l.length↔l.all ah=true:=by
 obtain ⟨hl,hw,-⟩:=br ah l
 constructor
 ·intro h
  have h2:=congrArg List.length hl
  rw [List.length_append] at h2
  have h3:l.dropWhile ah=[]:=List.length_eq_zero_iff.1 (by omega)
  rw [h3,List.append_nil] at hl
  rw [hl]
  exact List.all_eq_true.2 hw
 intro h
 have:=(cg ah l [] (List.all_eq_true.1 h) rfl).1
 rw [List.append_nil] at this
 rw [this]
theorem np (s:ByteArray) (w:World) (hs:s.size≤300) :
  Calls prog 123 #[.string s] w fun e w'=>e=.returned (.tuple #[.int .i64 (cx s.data.toList).1,.int .i64 (cx s.data.toList).2])∧Below w.heap.size w w':=by
 obtain ⟨V,hV⟩:=ex (cx s.data.toList)
 rw [hV]
 have HV:=keep hV
 obtain ⟨neg,hneg⟩:∃ b:Bool,decide (s.data.toList.head?=some 45)=b:=⟨_,rfl⟩
 obtain ⟨U,hU⟩:∃ U:ByteArray,(if neg then s.extract 1 s.size else s)=U:=⟨_,rfl⟩
 have hneg0:neg=true→0<s.size:=by
  intro h
  rw [h,decide_eq_true_eq] at hneg
  rcases Nat.eq_zero_or_pos s.size with h0 | h0
  ·rw [mu (by omega)] at hneg; cases hneg
  exact h0
 have hUl:U.data.toList=bT s.data.toList:=by
  unfold bT
  cases neg with
  | true=>rw [if_pos (of_decide_eq_true hneg),← hU,if_pos rfl,jx]
  | false=>rw [if_neg (of_decide_eq_false hneg),← hU]; rfl
 have hUs:U.size≤300:=by
  rw [← hU]
  split
  ·rw [ByteArray.size_extract]; omega
  exact hs
 have HN:=keep hneg
 have HU:=keep hU
 have HUL:=keep hUl
 have HN0:=keep hneg0
 clear hV hneg hU hUl hneg0
 go_enter func123,ntmps123
 go_upto_region 1 with fail
 go_cut [4] (fun s4 wx=>s4=.bool neg∧wx=w)
 case first =>
  by_cases h0:0<s.size
  ·have h0i:(0:Int)<(s.size:Int):=by omega
   have hh:=HN.out
   rw [kD h0] at hh
   by_cases h45 : (s[0]'h0).toNat = 45
   ·have e : (s[0]'h0) = 45:=(py (n:=45) (by omega)).2 h45
    rw [e,decide_eq_true rfl] at hh
    subst hh
    have h45i : (((s[0]'h0).toNat : Int) == 45) = true:=by simp [h45]
    clear e h45
    go_wp2_with fail
    go_meet
    exact ⟨rfl,rfl⟩
   have e : ¬ some (s[0]'h0) = some 45:=fun g => h45 ((py (n:=45) (by omega)).1 (Option.some.inj g))
   rw [decide_eq_false e] at hh
   subst hh
   have h45i : (((s[0]'h0).toNat : Int) == 45) = false:=by simp; omega
   clear e h45
   go_wp2_with fail
   go_meet
   exact ⟨rfl,rfl⟩
  have hh:=HN.out
  rw [mu h0] at hh
  have hh:false=neg:=hh
  subst hh
  have h0i:¬ (s.size:Int)>0:=by omega
  clear h0
  go_wp2_with fail
  go_meet
  exact ⟨rfl,rfl⟩
 case rest =>
  obtain ⟨rfl,hwc⟩:=hcut
  obtain rfl:w=wc:=hwc.symm
  go_upto_if 23 with fail
  go_cut [0] (fun s0 wx=>s0=.string U∧wx=w)
  case first =>
   have hu:=HU.out
   cases neg with
   | true =>
    have h0:=HN0.out rfl
    have h0i:(1:Int)≤(s.size:Int):=by omega
    have hu:s.extract 1 s.size=U:=hu
    have HU2:=keep hu
    clear hu h0
    go_wp2_with fail
    go_meet
    exact ⟨by rw [← HU2.out],rfl⟩
   | false =>
    have hu:s=U:=hu
    subst hu
    go_wp2_with fail
    go_meet
    exact ⟨rfl,rfl⟩
  case rest =>
   obtain ⟨rfl,hwc⟩:=hcut
   obtain rfl:w=wc:=hwc.symm
   obtain ⟨n,hn⟩:=ex ((U.data.toList.takeWhile ah).length)
   have hns:n≤U.size:=by
    rw [← hn,← cX U]
    exact (List.takeWhile_sublist _).length_le
   have hnsi:(n:Int)≤(U.size:Int):=by omega
   obtain ⟨D,hD⟩:∃ D:ByteArray,U.extract 0 n=D:=⟨_,rfl⟩
   obtain ⟨Z,hZ⟩:∃ Z:ByteArray,U.extract n U.size=Z:=⟨_,rfl⟩
   have hDl:D.data.toList=(bT s.data.toList).takeWhile ah:=by
    rw [← HUL.out,← hD,Lib.extract_data,List.drop_zero,Nat.sub_zero,← hn]
    conv=>lhs; arg 2; rw [← List.takeWhile_append_dropWhile (p:=ah) (l:=U.data.toList)]
    exact List.take_left' rfl
   have hZl:Z.data.toList=(bT s.data.toList).dropWhile ah:=by
    rw [← HUL.out,← hZ,Lib.extract_data,← cX U,← hn]
    conv=>lhs; arg 2; arg 2; rw [← List.takeWhile_append_dropWhile (p:=ah) (l:=U.data.toList)]
    rw [List.drop_left' rfl]
    apply List.take_of_length_le
    conv=>rhs; arg 1; rw [← List.takeWhile_append_dropWhile (p:=ah) (l:=U.data.toList)]
    rw [List.length_append]
    omega
   have hDs:D.size=n:=by rw [← cX D,hDl,← HUL.out]; exact hn
   have hZs:Z.size≤300:=by rw [← hZ,ByteArray.size_extract]; omega
   have HNN:=keep hn
   have HD:=keep hD
   have HZ:=keep hZ
   have HDL:=keep hDl
   have HZL:=keep hZl
   have HDS:=keep hDs
   have HD300:=keep (show D.size≤300 by omega)
   clear hn hD hZ hDl hZl hDs
   go_wp2_with fail
   refine (dJ U _ (by omega)).mono ?_
   rintro e w1 ⟨rfl,hw1⟩
   obtain rfl:w=w1:=hw1.symm
   rw [HNN.out]
   go_upto_region 5 with fail
   go_cut [6,7] (fun s6 s7 wx=>s6=.string D∧s7=.string Z∧Hid (Below w.heap.size w wx))
   case first =>
    refine wp_region_held_drew (S:=fun _=>True) (by kernel_rfl) trivial (fun hHeld => ?_)
    refine wtc 0 ?_
    refine wtc 1 ?_
    refine wtc 2 ?_
    refine wtc 3 ?_
    refine wtc 4 ?_
    refine wtc 5 ?_
    refine wtc 6 ?_
    refine wtc 7 ?_
    refine wpAnyH_done (by kernel_rfl) ?_ _
    go_wp2_with fail
    go_meet
    exact ⟨by rw [← HD.out],by rw [← HZ.out],Lib.hid (Below.refl _ _).drew⟩
   obtain ⟨rfl,rfl,HBL⟩:=hcut
   obtain ⟨w2,rfl⟩:∃ w2:World,w2=wc:=⟨_,rfl⟩
   obtain ⟨b,hb⟩:∃ b:Bool,decide (1<Z.size∧Z.data.toList.head?=some 46∧Z.data.toList.tail.all ah=true)=b:=⟨_,rfl⟩
   have HB:=keep hb
   clear hb
   go_upto_region 7 with fail
   go_cut [7,50] (fun s7 s50 wx=>s7=.string Z∧s50=.bool b∧wx=w2)
   case first =>
    have hB:=HB.out
    by_cases h1:1<Z.size
    ·have h1i:(1:Int)<(Z.size:Int):=by omega
     have h1j:(1:Int)≤(Z.size:Int):=by omega
     have h0:0<Z.size:=by omega
     rw [kD h0,← jx] at hB
     by_cases h46 : (Z[0]'h0).toNat = 46
     ·have e : (Z[0]'h0) = 46:=(py (n:=46) (by omega)).2 h46
      have h46i : (((Z[0]'h0).toNat : Int) == 46) = true:=by simp [h46]
      rw [e] at hB
      obtain ⟨Q,hQ⟩:∃ Q:ByteArray,Z.extract 1 Z.size=Q:=⟨_,rfl⟩
      have hQs:Q.size=Z.size - 1:=by rw [← hQ,ByteArray.size_extract]; omega
      rw [hQ] at hB
      obtain ⟨m,hm⟩:=ex ((Q.data.toList.takeWhile ah).length)
      have hBB:((m:Int) == (Z.size:Int) - 1)=b:=by
       rw [← hB]
       by_cases g:Q.data.toList.all ah=true
       ·have:=(pm (l:=Q.data.toList)).2 g
        rw [cX] at this
        rw [decide_eq_true ⟨h1,rfl,g⟩]
        simp; omega
       have:¬ (Q.data.toList.takeWhile ah).length=Q.data.toList.length:=fun x=>g ((pm).1 x)
       rw [cX] at this
       rw [decide_eq_false fun x=>g x.2.2]
       simp; omega
      have hw1:IntKind.i64.wrap ((Z.size:Int) - 1)=(Z.size:Int) - 1:=Go.IntWalk.i64_in _ (by omega)
      have HM:=keep hm
      have HQ:=keep hQ
      have HBB:=keep hBB
      have hQ3:Q.size≤300:=by omega
      clear e h46 hB hQ hm hBB hQs
      go_wp2_with fail
      rw [HQ.out]
      refine (dJ Q _ (by omega)).mono ?_
      rintro e w3 ⟨rfl,hw3⟩
      obtain rfl:w2=w3:=hw3.symm
      rw [HM.out]
      go_wp2_with fail
      all_goals go_meet
      all_goals exact ⟨rfl,by first | rw [HBB.out] | rfl,rfl⟩
     have e : ¬ some (Z[0]'h0) = some 46:=fun g => h46 ((py (n:=46) (by omega)).1 (Option.some.inj g))
     rw [decide_eq_false fun g=>e g.2.1] at hB
     subst hB
     have h46i : (((Z[0]'h0).toNat : Int) == 46) = false:=by simp; omega
     clear e h46
     go_wp2_with fail
     go_meet
     exact ⟨rfl,rfl,rfl⟩
    rw [decide_eq_false fun g=>h1 g.1] at hB
    subst hB
    have h1i:¬ (Z.size:Int)>1:=by omega
    clear h1
    go_wp2_with fail
    go_meet
    exact ⟨rfl,rfl,rfl⟩
   case rest =>
    obtain ⟨rfl,rfl,hwc⟩:=hcut
    obtain rfl:w2=wc:=hwc.symm
    obtain ⟨R,hR⟩:∃ R:ByteArray,(if b then ⟨#[]⟩ else Z)=R:=⟨_,rfl⟩
    obtain ⟨P,hP⟩:∃ P:ByteArray,(if b then Z.extract 1 Z.size else ⟨#[]⟩)=P:=⟨_,rfl⟩
    have hb1:b=true→1<Z.size:=by
     intro h
     have hB:=HB.out
     rw [h,decide_eq_true_eq] at hB
     exact hB.1
    have HR:=keep hR
    have HP:=keep hP
    have HB1:=keep hb1
    clear hR hP hb1
    go_upto_if 50 with fail
    go_cut [7,8] (fun s7 s8 wx=>s7=.string R∧s8=.string P∧wx=w2)
    case first =>
     have hr:=HR.out
     have hp:=HP.out
     cases b with
     | true =>
      have hr:(⟨#[]⟩:ByteArray)=R:=hr
      have hp:Z.extract 1 Z.size=P:=hp
      subst hr
      have h1:=HB1.out rfl
      have h1i:(1:Int)≤(Z.size:Int):=by omega
      have HPP:=keep hp
      clear hp h1
      go_wp2_with fail
      go_meet
      exact ⟨rfl,by rw [← HPP.out],rfl⟩
     | false =>
      have hr:Z=R:=hr
      have hp:(⟨#[]⟩:ByteArray)=P:=hp
      subst hr hp
      go_wp2_with fail
      go_meet
      exact ⟨rfl,rfl,rfl⟩
    case rest =>
     obtain ⟨rfl,rfl,hwc⟩:=hcut
     obtain rfl:w2=wc:=hwc.symm
     have hP3:P.size≤300:=by
      rw [← HP.out]
      split
      ·rw [ByteArray.size_extract]; omega
      exact Nat.zero_le _
     by_cases hn0:n=0
     ·have hv:=HV.out
      rw [kL (by rw [← HUL.out]; exact List.length_eq_zero_iff.1 (by rw [HNN.out]; exact hn0))] at hv
      have HVV:=keep hv.symm
      clear hv
      subst hn0
      go_wp2_with fail
      exact bodyPost_ret (v:=.tuple #[.int .i64 0,.int .i64 4]) (by simp [results,results123,go_sem]) rfl ⟨by rw [HVV.out],HBL.out⟩
     have hn0i:((n:Int) == 0)=false:=by simp; omega
     have hD0:(bT s.data.toList).takeWhile ah≠[]:=by
      intro e
      rw [← HUL.out] at e
      have:=HNN.out
      rw [e] at this
      simp at this
      omega
     by_cases hRz:R=⟨#[]⟩
     rotate_left
     ·have hRe:R.toList.isEmpty=false:=by
       cases h:R.toList with
       | nil =>
        refine absurd ?_ hRz
        have h2:R.data.toList=[]:=by rw [← ByteArray.toList_eq]; exact h
        obtain ⟨⟨l⟩⟩:=R
        have h2:l=[]:=h2
        rw [h2]
       | cons _ _=>rfl
      have hbf:jI Z.data.toList=none:=by
       have hB:=HB.out
       have hr:=HR.out
       cases b with
       | true=>exact absurd hr.symm hRz
       | false =>
        have hr:Z=R:=hr
        subst hr
        rw [decide_eq_false_iff_not] at hB
        cases hz:Z.data.toList with
        | nil =>
         rw [ByteArray.toList_eq,hz] at hRe
         cases hRe
        | cons x q =>
         refine if_neg fun g=>hB ⟨?_,?_,?_⟩
         ·rw [← cX,hz]
          have:=List.length_pos_iff.2 g.2.1
          rw [List.length_cons]
          omega
         ·rw [hz,g.1]; rfl
         rw [hz]; exact g.2.2
      have hv:=HV.out
      rw [mE (by rw [← HZL.out]; exact hbf)] at hv
      have HVV:=keep hv.symm
      clear hv hbf hRz hD0
      go_wp2_with fail
      exact bodyPost_ret (v:=.tuple #[.int .i64 0,.int .i64 4]) (by simp [results,results123,go_sem]) rfl ⟨by rw [HVV.out],HBL.out⟩
     subst hRz
     obtain ⟨p,hp⟩:=ex (P.data.toList)
     have hpc:jI Z.data.toList=some p:=by
      have hB:=HB.out
      have hr:=HR.out
      have hpp:=HP.out
      cases b with
      | true =>
       have hpp:Z.extract 1 Z.size=P:=hpp
       rw [decide_eq_true_eq] at hB
       rw [← hpp,jx] at hp
       cases hz:Z.data.toList with
       | nil=>rw [hz] at hB; cases hB.2.1
       | cons x q =>
        rw [hz] at hB hp
        have hp:q=p:=hp
        subst hp
        refine if_pos ⟨Option.some.inj hB.2.1,?_,hB.2.2⟩
        rintro rfl
        have:=hB.1
        rw [← cX,hz] at this
        simp at this
      | false =>
       have hr:Z=⟨#[]⟩:=hr
       have hpp:(⟨#[]⟩:ByteArray)=P:=hpp
       rw [← hpp] at hp
       rw [hr,← hp]
       rfl
     have hv:=HV.out
     rw [pa hD0 (by rw [← HZL.out]; exact hpc)] at hv
     rw [← HDL.out] at hv
     have hPd:=rT hpc
     have hDd:∀ b∈D.data.toList,ah b=true:=by
      rw [HDL.out]
      exact (br ah _).2.1
     clear hpc hD0
     obtain ⟨X,hX⟩:=ex ((P++⟨#[48,48,48,48,48]⟩:ByteArray))
     have hXd:X.data.toList=p++ik:=by rw [← hX,← hp]; simp [ik]
     have hXs:=cy hXd
     rw [List.length_append] at hXs
     have hXs:X.size=p.length+5:=hXs
     have hX40:4<X.size:=by omega
     have hpl:p.length≤300:=by rw [← hp,cX]; exact hP3
     have hXs6:X.size≤310:=by omega
     obtain ⟨cc,hX4⟩:=ex (X[4]'hX40)
     have hup:upD p=decide (53≤cc.toNat):=by
      have h9:=byte_at hXd 4 hX40
      unfold upD
      rw [List.getD_eq_getElem?_getD,h9,hX4]
      rfl
     obtain ⟨T,hT⟩:=ex (D++X.extract 0 4)
     have hTd:T.data.toList=D.data.toList++(p++ik).take 4:=by
      have h9:(X.extract 0 4).data.toList=(p++ik).take 4:=by
       rw [Lib.extract_data,hXd,List.drop_zero]
      rw [← hT]
      simp only [ByteArray.data_append,Array.toList_append,h9]
     have HT:=keep hTd
     have HTS:=keep (cy hTd)
     have HDG:=keep (show ∀ b∈D.data.toList++(p++ik).take 4,ah b=true from fun b hb=>by
      rcases List.mem_append.1 hb with hb | hb
      ·exact hDd b hb
      have hb:=List.mem_of_mem_take hb
      rcases List.mem_append.1 hb with hb | hb
      ·exact hPd b hb
      simp [ik] at hb; subst hb; rfl)
     have hTl:T.size≤320:=by
      rw [cy hTd,List.length_append,List.length_take,cX]
      have:=HD300.out
      omega
     obtain ⟨M,hM⟩:=ex (cz (D.data.toList++(p++ik).take 4))
     unfold it at hv
     rw [hup,hM] at hv
     have HVV:=keep hv
     have HMM:=keep hM
     clear hv hup hM hTd hPd hDd hXd hXs hp hpl
     generalize (D.data.toList++(p++ik).take 4)=l at HT HTS HDG HMM
     have hcv:=run_bytes_of_string (P:=prog) w2 9 42 5 T underlying9 underlying42 underlying5
     have hm:=bd.made w2.drew T 5 (grownCap w2 T.size 0 5)
     have hbl:Below w2.heap.size w2 (w2.drew.alloc (.cells (bytesRow T (grownCap w2 T.size 0 5)) 5 ((bytesRow T (grownCap w2 T.size 0 5)).size,(bytesRow T (grownCap w2 T.size 0 5)).size+1))):=(Below.refl _ _).drew.alloc (Nat.le_refl _) _
     have hd3:=HD300.out
     have z5:(⟨#[48,48,48,48,48]⟩:ByteArray).size=5:=rfl
     generalize hcp:grownCap w2 T.size 0 5=cap at hcv hm hbl
     clear hcp
     generalize (w2.drew.alloc (.cells (bytesRow T cap) 5 ((bytesRow T cap).size,(bytesRow T cap).size+1)))=W0 at hcv hm hbl
     rw [HT.out] at hm
     have HMB:=Lib.hid hm
     have HBW:=Lib.hid hbl
     clear hm hbl
     go_wp2_with fail
     clear hcv
     go_loopw [9,10,67] (fun vv gv iv wr=>∃ (k:Nat) (v:Int),k≤T.size∧iv=.int .i64 k∧vv=.int .u64 v∧gv=.bool (decide (aD<cz (l.take k)))∧ao (cz (l.take k)≤aD→v=cz (l.take k))∧Hid (bd wr w2.heap.size l)∧Hid (Below w2.heap.size w2 wr)) (fun _ _ iv _=>T.size - (intOf iv).toNat)
     case atStart=>exact ⟨0,0,Nat.zero_le _,rfl,rfl,by rw [List.take_zero]; rfl,keep (fun _=>by rw [List.take_zero]; rfl),HMB,HBW⟩
     case round =>
      clear HMB HBW
      obtain ⟨k,v,hk,rfl,rfl,rfl,HVK,H1,H2⟩:=hrel
      by_cases hlt:(k:Int)<T.size
      ·have hkl:k<(l).length:=by have:=HTS.out; omega
       have hcell:=(H1.out k hkl).1
       have hfroz:=(H1.out k hkl).2
       have hdg:=HDG.out _ (List.getElem_mem hkl)
       have hstep:=f7 l k hkl
       have hvv:=HVK.out
       generalize (l)[k]=c at hcell hdg hstep
       generalize cz (l.take k)=V at hvv hstep ⊢
       have hc8:48≤c.toNat∧c.toNat≤57:=by rw [dw] at hdg; simp at hdg; omega
       obtain ⟨hc1,hc2⟩:=hc8
       obtain ⟨d,hd⟩:∃ d:Nat,c.toNat=48+d:=⟨c.toNat - 48,by omega⟩
       have hd9:d≤9:=by omega
       have hst2:cz (l.take (k+1))=10 * V+d:=by rw [hstep,hd]; omega
       have HST:=keep hst2
       rw [hd] at hcell
       clear hstep hdg hst2 hc1 hc2 hd
       by_cases hG:aD<V
       ·rw [decide_eq_true hG]
        have hG2:aD<10 * V+d:=by omega
        have HG2:=keep hG2
        clear hG hG2 hvv
        by_cases hv10:v>922337203685477580
        all_goals
         go_wp2_with fail
         go_roundw
         case rel=>exact ⟨k+1,_,by omega,by go_num,rfl,by rw [HST.out,decide_eq_true HG2.out],keep (fun h9=>absurd h9 (by rw [HST.out]; have:=HG2.out; omega)),H1,H2⟩
         case measure=>simp [intOf]; omega
       rw [decide_eq_false hG]
       obtain rfl:=hvv (by omega)
       by_cases hv10:(V:Int)>922337203685477580
       ·have hG2:aD<10 * V+d:=by unfold aD; omega
        have HG2:=keep hG2
        clear hG hG2 hvv
        go_wp2_with fail
        go_roundw
        case rel=>exact ⟨k+1,_,by omega,by go_num,rfl,by rw [HST.out,decide_eq_true HG2.out],keep (fun h9=>absurd h9 (by rw [HST.out]; have:=HG2.out; omega)),H1,H2⟩
        case measure=>simp [intOf]; omega
       clear hG hvv
       have hv11:(V:Int)≤922337203685477580:=by omega
       have hdi:(d:Int)≤9:=by omega
       go_wp2_with fail
       go_roundw
       case rel=>exact ⟨k+1,10 * V+d,by omega,by go_num,by congr 1; omega,by rw [HST.out]; congr 1; unfold aD; rw [decide_eq_decide]; omega,keep (fun _=>by rw [HST.out]; simp),H1,H2⟩
       case measure=>simp [intOf]; omega
      obtain rfl:k=T.size:=by omega
      rw [show (l).take T.size=l from by rw [HTS.out,List.take_length]]
      have hvv:=HVK.out
      rw [show (l).take T.size=l from by rw [HTS.out,List.take_length],HMM.out] at hvv
      rw [HMM.out]
      have HL3:=keep (show ∀ x:Nat,cz l≤x→M≤x from fun x h=>by rw [← HMM.out]; exact h)
      obtain ⟨up,hup⟩:∃ up:Bool,decide (53≤cc.toNat)=up:=⟨_,rfl⟩
      have hvf:=HVV.out
      rw [hup] at hvf
      by_cases hG:aD<M
      ·rw [decide_eq_true hG]
       have hVV2:V=(0,3):=by
        rw [← hvf,if_neg (by split <;> omega)]
       subst hVV2
       clear hvv hG hvf
       cases up with
       | true =>
        have h53:(53:Int)≤(cc.toNat:Int):=by have:=of_decide_eq_true hup; omega
        clear hup
        go_wp2_with fail
        exact bodyPost_ret (v:=.tuple #[.int .i64 0,.int .i64 3]) (by simp [results,results123,go_sem]) rfl ⟨rfl,al HBL.out H2.out⟩
       | false =>
        have h53:¬ (53:Int)≤(cc.toNat:Int):=by have:=of_decide_eq_false hup; omega
        clear hup
        go_wp2_with fail
        exact bodyPost_ret (v:=.tuple #[.int .i64 0,.int .i64 3]) (by simp [results,results123,go_sem]) rfl ⟨rfl,al HBL.out H2.out⟩
      obtain rfl:=hvv (by omega)
      rw [decide_eq_false hG]
      have hsg:(if s.data.toList.head?=some 45 then (1:Nat) else 0)=if neg then 1 else 0:=by
       have:=HN.out
       cases neg with
       | true=>rw [if_pos (of_decide_eq_true this)]; rfl
       | false=>rw [if_neg (of_decide_eq_false this)]; rfl
      cases up with
      | true =>
       have h53:(53:Int)≤(cc.toNat:Int):=by have:=of_decide_eq_true hup; omega
       have hM9:M≤9223372036854775807:=by unfold aD at hG; omega
       have hM9i:(M:Int)≤9223372036854775807:=by omega
       by_cases hMx:M=9223372036854775807
       ·have hVV2:V=(0,3):=by
         rw [← hvf,if_neg (by rw [if_pos rfl]; unfold aD; omega)]
        subst hVV2 hMx
        clear hvv hG hvf hup hsg
        go_wp2_with fail
        exact bodyPost_ret (v:=.tuple #[.int .i64 0,.int .i64 3]) (by simp [results,results123,go_sem]) rfl ⟨rfl,al HBL.out H2.out⟩
       obtain ⟨M1,hM1⟩:=ex (M+1)
       have hM1i:(M:Int)+1=(M1:Int):=by omega
       have hM2:M1≤9223372036854775807:=by omega
       have hM2i:(M1:Int)≤9223372036854775807:=by omega
       have HVV2:=keep (show V=((if neg then -(M1:Int) else M1),0) by
        rw [← hvf,if_pos (by rw [if_pos rfl]; unfold aD; omega),if_pos rfl,hM1]
        have:=HN.out
        cases neg with
        | true=>rw [if_pos (of_decide_eq_true this)]; rfl
        | false=>rw [if_neg (of_decide_eq_false this)]; rfl)
       have h9s:=fun w9=>eI M1 neg w9 hM2
       obtain ⟨Y,hY⟩:∃ Y:Int,(if neg then -(M1:Int) else M1)=Y:=⟨_,rfl⟩
       rw [hY] at HVV2
       simp only [hY] at h9s
       have HSG:=keep h9s
       clear h9s
       clear hvv hG hvf hup hsg hY hM1
       go_wp2_with fail
       refine (HSG.out _).mono ?_
       rintro e w5 ⟨rfl,hw5⟩
       obtain rfl:=hw5
       go_wp2_with fail
       exact bodyPost_ret (v:=.tuple #[.int .i64 Y,.int .i64 0]) (by simp [results,results123,go_sem]) rfl ⟨by rw [HVV2.out],al HBL.out H2.out⟩
      | false =>
       have h53:¬ (53:Int)≤(cc.toNat:Int):=by have:=of_decide_eq_false hup; omega
       have hM9:M≤9223372036854775807:=by unfold aD at hG; omega
       have hM9i:(M:Int)≤9223372036854775807:=by omega
       have HVV2:=keep (show V=((if neg then -(M:Int) else M),0) by
        have e0:M+(if false=true then 1 else 0)=M:=by simp
        rw [e0] at hvf
        rw [← hvf,if_pos (by unfold aD; omega)]
        have:=HN.out
        cases neg with
        | true=>rw [if_pos (of_decide_eq_true this)]; rfl
        | false=>rw [if_neg (of_decide_eq_false this)]; rfl)
       have h9s:=fun w9=>eI M neg w9 hM9
       obtain ⟨Y,hY⟩:∃ Y:Int,(if neg then -(M:Int) else M)=Y:=⟨_,rfl⟩
       rw [hY] at HVV2
       simp only [hY] at h9s
       have HSG:=keep h9s
       clear h9s
       clear hvv hG hvf hup hsg hY
       go_wp2_with fail
       refine (HSG.out _).mono ?_
       rintro e w5 ⟨rfl,hw5⟩
       obtain rfl:=hw5
       go_wp2_with fail
       exact bodyPost_ret (v:=.tuple #[.int .i64 Y,.int .i64 0]) (by simp [results,results123,go_sem]) rfl ⟨by rw [HVV2.out],al HBL.out H2.out⟩
