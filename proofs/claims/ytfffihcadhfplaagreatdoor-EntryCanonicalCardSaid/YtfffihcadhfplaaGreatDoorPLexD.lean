/- The contract of dec.Parse on a run of digits, with at most four places. Plain: the canonical tokens of a tree, and that they are parsed back. No program stands here. -/
import Derived.Test.YtfffihcadhfplaaGreatDoorPLexC
import Derived.Test.YtfffihcadhfplaaGreatDoorPIterV
import Derived.Test.YtfffihcadhfplaaGreatDoorPLexP
import Derived.Lib.IndexBytes
import Derived.Test.YtfffihcadhfplaaGreatDoorPParK
namespace Go.Proofs.YtfffihcadhfplaaGreatDoor
set_option maxRecDepth 100000
set_option maxHeartbeats 4000000
open Go.RowKit
theorem byte_at {s : ByteArray} {l : List UInt8} (h : s.data.toList = l) (i : Nat) (hi : i < s.size) : l[i]? = some (s[i]'hi):=by
 rw [← h,Array.getElem?_toList]
 exact Array.getElem?_eq_getElem hi
theorem size_of {s:ByteArray} {l:List UInt8} (h:s.data.toList=l):s.size=l.length:=by rw [← h,Array.length_toList]; rfl
theorem valD_take (l:List UInt8) (k:Nat) (h:k<l.length):valD (l.take (k+1))=10 * valD (l.take k)+(l[k].toNat - 48):=by
 unfold valD
 rw [List.take_succ_eq_append_getElem h,List.foldl_append]
 rfl
def mostN:Nat:=9223372036854775807
def decPV (n:Nat):Int:=if n≤mostN then n else 0
def decPE (n:Nat):Int:=if n≤mostN then 0 else 3
theorem decP_yes {n:Nat} (h:n≤mostN):decPV n=n∧decPE n=0:=⟨if_pos h,if_pos h⟩
theorem decP_no {n:Nat} (h:¬ n≤mostN):decPV n=0∧decPE n=3:=⟨if_neg h,if_neg h⟩
theorem dec_Parse_a (s:ByteArray) (w:World) (hs:s.size≤300) (h0:0<s.size) (hd:∀ b∈s.data.toList,isDig b=true) :
  Calls Tryz.prog 50 #[.string s] w fun e w'=>e=.returned (.tuple #[.int .i64 (decPV (numV s.data.toList [])),.int .i64 (decPE (numV s.data.toList []))])∧Below w.heap.size w w':=by
 have hl:=size_of (s:=s) rfl
 have hrun:s.data.toList.takeWhile isDig=s.data.toList:=by
  have:=(run_at isDig s.data.toList [] hd rfl).1
  rwa [List.append_nil] at this
 have hb0 : isDig (s[0]'h0) = true:=hd _ (by
  have:=byte_at (s:=s) rfl 0 h0
  exact List.mem_of_getElem? this)
 have hb1 : ¬ (s[0]'h0).toNat = 45:=by
  rw [dig_int] at hb0
  simp at hb0
  omega
 have h0':(0:Int)<s.size:=by omega
 have HD:=keep hd
 have HR:=keep hrun
 have HL:=keep hl
 clear hd hrun hl hb0
 go_enter Tryz.func50,Tryz.ntmps50
 go_wp2_with fail
 refine (dec_digits s _ (by omega)).mono ?_
 rintro e w1 ⟨rfl,rfl⟩
 rw [HR.out,← HL.out]
 go_wp2_with fail
 refine wp_region_held_drew (S:=fun _=>True) (by kernel_rfl) trivial (fun hHeld => ?_)
 refine wtg (i:=0) (v:=?a1) rfl ?b1 (by assumption) ?c1
 case b1=>(intro w hSw; go_simp; try with_reducible rfl)
 try simp only [Act.put,wp1,wp2,wp3,wp4,wp6]
 refine wtg (i:=1) (v:=?a3) rfl ?b3 (by assumption) ?c3
 case b3=>(intro w hSw; go_simp; try with_reducible rfl)
 try simp only [Act.put,wp1,wp2,wp3,wp4,wp5,wp6]
 refine wtg (i:=2) (v:=?a5) rfl ?b5 (by assumption) ?c5
 case b5=>(intro w hSw; go_simp; try with_reducible rfl)
 try simp only [Act.put,wp1,wp2,wp3,wp4,wp5,wp6]
 refine wtg (i:=3) (v:=?a7) rfl ?b7 (by assumption) ?c7
 case b7=>(intro w hSw; go_simp; try with_reducible rfl)
 try simp only [Act.put,wp1,wp2,wp3,wp4,wp5,wp6]
 refine wtg (i:=4) (v:=?a9) rfl ?b9 (by assumption) ?c9
 case b9=>(intro w hSw; go_simp; try with_reducible rfl)
 try simp only [Act.put,wp1,wp2,wp3,wp4,wp5,wp6]
 refine wtg (i:=5) (v:=?a11) rfl ?b11 (by assumption) ?c11
 case b11=>(intro w hSw; go_simp; try with_reducible rfl)
 try simp only [Act.put,wp1,wp2,wp3,wp4,wp5,wp6]
 refine wtg (i:=6) (v:=?a13) rfl ?b13 (by assumption) ?c13
 case b13=>(intro w hSw; go_simp; try with_reducible rfl)
 try simp only [Act.put,wp1,wp2,wp3,wp4,wp5,wp6]
 refine wtg (i:=7) (v:=?a15) rfl ?b15 (by assumption) ?c15
 case b15=>(intro w hSw; go_simp; try with_reducible rfl)
 try simp only [Act.put,wp1,wp2,wp3,wp4,wp5,wp6]
 refine wpAnyH_done (by kernel_rfl) ?_ _
 clear hHeld hb1 h0'
 have hne:¬ s=ByteArray.empty:=by
  rintro rfl
  simp at h0
 have hbl1:Below w1.heap.size w1 w1.drew:=(Below.refl _ _).drew
 have HBL0:=Lib.hid hbl1
 clear hbl1
 generalize w1.drew=w2 at HBL0 ⊢
 have HBL:Hid (Below w1.heap.size w1 w2):=HBL0
 obtain ⟨X,hX⟩:∃ X,(⟨#[]⟩++⟨#[48,48,48,48,48]⟩:ByteArray)=X:=⟨_,rfl⟩
 obtain ⟨T,hT⟩:∃ T,s++X.extract 0 4=T:=⟨_,rfl⟩
 have hXs:X.size=5:=by rw [← hX]; rfl
 have hTd:T.data.toList=s.data.toList++[48,48,48,48]:=by rw [← hT,← hX]; simp
 have HT:=keep hTd
 have HTS:=keep (size_of hTd)
 have HDG:=keep (show ∀ b∈s.data.toList++[48,48,48,48],isDig b=true from fun b hb=>by
  rcases List.mem_append.1 hb with hb | hb
  ·exact HD.out b hb
  ·simp at hb; subst hb; rfl)
 have hTl:T.size≤304:=by rw [size_of hTd,List.length_append,← HL.out]; simp; omega
 have hX4 : X[4]'(by omega) = 48:=by subst hX; rfl
 have hcv:=run_bytes_of_string (P:=Tryz.prog) w2 9 67 5 T Tryz.underlying9 Tryz.underlying67 Tryz.underlying5
 have hm:=Bytes8.made w2.drew T 5 (grownCap w2 T.size 0 5)
 have hbl:Below w2.heap.size w2 (w2.drew.alloc (.cells (bytesRow T (grownCap w2 T.size 0 5)) 5 ((bytesRow T (grownCap w2 T.size 0 5)).size,(bytesRow T (grownCap w2 T.size 0 5)).size+1))):=(Below.refl _ _).drew.alloc (Nat.le_refl _) _
 clear hTd
 have HNL:=keep (show valD (s.data.toList++[48,48,48,48])=numV s.data.toList [] from by unfold numV; rw [List.append_nil]; rfl)
 generalize (s.data.toList++[48,48,48,48])=l at HT HTS HDG HNL
 generalize hcp:grownCap w2 T.size 0 5=cap at hcv hm hbl
 clear hcp
 generalize (w2.drew.alloc (.cells (bytesRow T cap) 5 ((bytesRow T cap).size,(bytesRow T cap).size+1)))=W0 at hcv hm hbl
 rw [HT.out] at hm
 have HMB:=Lib.hid hm
 have HBW:=Lib.hid hbl
 clear hm hbl
 go_wp2_with fail
 clear hcv
 go_loopw [9,10,67] (fun vv gv iv wr=>∃ (k:Nat) (v:Int),k≤T.size∧iv=.int .i64 k∧vv=.int .u64 v∧gv=.bool (decide (mostN<valD (l.take k)))∧Keep (valD (l.take k)≤mostN→v=valD (l.take k))∧Hid (Bytes8 wr w2.heap.size l)∧Hid (Below w2.heap.size w2 wr)) (fun _ _ iv _=>T.size - (intOf iv).toNat)
 case atStart=>exact ⟨0,0,Nat.zero_le _,rfl,rfl,by rw [List.take_zero]; rfl,keep (fun _=>by rw [List.take_zero]; rfl),HMB,HBW⟩
 case round =>
  clear HMB HBW
  obtain ⟨k,v,hk,rfl,rfl,rfl,HV,H1,H2⟩:=hrel
  by_cases hlt:(k:Int)<T.size
  ·have hkl:k<(l).length:=by have:=HTS.out; omega
   have hcell:=(H1.out k hkl).1
   have hfroz:=(H1.out k hkl).2
   have hdg:=HDG.out _ (List.getElem_mem hkl)
   have hstep:=valD_take l k hkl
   have hvv:=HV.out
   generalize (l)[k]=c at hcell hdg hstep
   generalize valD (l.take k)=V at hvv hstep ⊢
   have hc8:48≤c.toNat∧c.toNat≤57:=by rw [dig_int] at hdg; simp at hdg; omega
   obtain ⟨hc1,hc2⟩:=hc8
   obtain ⟨d,hd⟩:∃ d:Nat,c.toNat=48+d:=⟨c.toNat - 48,by omega⟩
   have hd9:d≤9:=by omega
   have hst2:valD (l.take (k+1))=10 * V+d:=by rw [hstep,hd]; omega
   have HST:=keep hst2
   have HFZ:=keep hdg
   rw [hd] at hcell
   clear hstep hdg hst2 hc1 hc2 hd
   by_cases hG:mostN<V
   ·rw [decide_eq_true hG]
    have hG2:mostN<10 * V+d:=by omega
    have HG2:=keep hG2
    clear hG hG2 hvv
    by_cases hv10:v>922337203685477580
    ·go_wp2_with fail
     go_roundw
     case rel=>exact ⟨k+1,_,by omega,by go_num,rfl,by rw [HST.out,decide_eq_true HG2.out],keep (fun h9=>absurd h9 (by rw [HST.out]; have:=HG2.out; omega)),H1,H2⟩
     case measure=>simp [intOf]; omega
    ·go_wp2_with fail
     go_roundw
     case rel=>exact ⟨k+1,_,by omega,by go_num,rfl,by rw [HST.out,decide_eq_true HG2.out],keep (fun h9=>absurd h9 (by rw [HST.out]; have:=HG2.out; omega)),H1,H2⟩
     case measure=>simp [intOf]; omega
   ·rw [decide_eq_false hG]
    obtain rfl:=hvv (by omega)
    by_cases hv10:(V:Int)>922337203685477580
    ·have hG2:mostN<10 * V+d:=by unfold mostN; omega
     have HG2:=keep hG2
     clear hG hG2 hvv
     go_wp2_with fail
     go_roundw
     case rel=>exact ⟨k+1,_,by omega,by go_num,rfl,by rw [HST.out,decide_eq_true HG2.out],keep (fun h9=>absurd h9 (by rw [HST.out]; have:=HG2.out; omega)),H1,H2⟩
     case measure=>simp [intOf]; omega
    ·clear hG hvv
     have hv11:(V:Int)≤922337203685477580:=by omega
     have hdi:(d:Int)≤9:=by omega
     go_wp2_with fail
     go_roundw
     case rel=>exact ⟨k+1,10 * V+d,by omega,by go_num,by congr 1; omega,by rw [HST.out]; congr 1; unfold mostN; rw [decide_eq_decide]; omega,keep (fun _=>by rw [HST.out]; simp),H1,H2⟩
     case measure=>simp [intOf]; omega
  ·obtain rfl:k=T.size:=by omega
   rw [show (l).take T.size=l from by rw [HTS.out,List.take_length]]
   have hvv:=HV.out
   rw [show (l).take T.size=l from by rw [HTS.out,List.take_length]] at hvv
   generalize hNV:valD l=V at hvv ⊢
   have HNV:=keep (HNL.out.symm.trans hNV)
   clear hNV
   by_cases hG:mostN<V
   ·rw [decide_eq_true hG]
    have HGG:=keep (show ¬ V≤mostN by omega)
    clear hvv hG
    go_wp2_with fail
    exact bodyPost_ret (v:=.tuple #[.int .i64 0,.int .i64 3]) (by simp [results,Tryz.results50,go_sem]) rfl ⟨by rw [HNV.out,(decP_no HGG.out).1,(decP_no HGG.out).2],below_step HBL.out H2.out⟩
   ·obtain rfl:=hvv (by omega)
    rw [decide_eq_false hG]
    have HGG:=keep (show V≤mostN by omega)
    have hV1:(V:Int)≤9223372036854775807:=by unfold mostN at hG; omega
    have hV2:V≤9223372036854775807:=by omega
    clear hvv hG
    go_wp2_with fail
    refine (dec_signed V false _ hV2).mono ?_
    rintro e w5 ⟨rfl,rfl⟩
    go_wp2_with fail
    exact bodyPost_ret (v:=.tuple #[.int .i64 V,.int .i64 0]) (by simp [results,Tryz.results50,go_sem]) rfl ⟨by rw [HNV.out,(decP_yes HGG.out).1,(decP_yes HGG.out).2],below_step HBL.out H2.out⟩
theorem dec_Parse_b (s:ByteArray) (u p:List UInt8) (w:World) (hs:s.size≤300) (hd:s.data.toList=u++46::p) (hu:∀ b∈u,isDig b=true) (hp:∀ b∈p,isDig b=true) (hu0:u≠[]) (hp0:p≠[]) (hp4:p.length≤4) :
  Calls Tryz.prog 50 #[.string s] w fun e w'=>e=.returned (.tuple #[.int .i64 (decPV (numV u p)),.int .i64 (decPE (numV u p))])∧Below w.heap.size w w':=by
 have hl:=size_of hd
 rw [List.length_append,List.length_cons] at hl
 have hrun:s.data.toList.takeWhile isDig=u:=by rw [hd]; exact (run_at isDig u (46::p) hu (stop46 p)).1
 have hul:1≤u.length:=by
  cases u with
  | nil=>exact absurd rfl hu0
  | cons=>simp
 have hpl:1≤p.length:=by
  cases p with
  | nil=>exact absurd rfl hp0
  | cons=>simp
 have h0:0<s.size:=by omega
 have hb0 : isDig (s[0]'h0) = true:=by
  have h9:=byte_at hd 0 h0
  rw [List.getElem?_append_left (by omega)] at h9
  exact hu _ (List.mem_of_getElem? h9)
 have hb1 : ¬ (s[0]'h0).toNat = 45:=by
  rw [dig_int] at hb0
  simp at hb0
  omega
 have h0':(0:Int)<s.size:=by omega
 obtain ⟨n,hn⟩:∃ n,u.length=n:=⟨_,rfl⟩
 have hA:(s.extract 0 n).data.toList=u:=by rw [Lib.extract_data,hd,← hn]; simp
 have hB:(s.extract n s.size).data.toList=46::p:=by rw [Lib.extract_to_end,hd,← hn,List.drop_left]
 have hn1:n≤s.size:=by omega
 have hn2:¬ (n:Int)=0:=by omega
 have hn3:¬ n=0:=by omega
 have HR:=keep hrun
 have HN:=keep hn
 have HU:=keep hu
 have HPD:=keep hp
 clear hrun hb0 hd hu hp hu0 hp0 hn hl
 go_enter Tryz.func50,Tryz.ntmps50
 go_wp2_with fail
 refine (dec_digits s _ (by omega)).mono ?_
 rintro e w1 ⟨rfl,rfl⟩
 rw [HR.out,HN.out]
 go_wp2_with fail
 refine wp_region_held_drew (S:=fun _=>True) (by kernel_rfl) trivial (fun hHeld => ?_)
 refine wtg (i:=0) (v:=?a17) rfl ?b17 (by assumption) ?c17
 case b17=>(intro w hSw; go_simp; try with_reducible rfl)
 try simp only [Act.put,wp1,wp2,wp3,wp4,wp6]
 refine wtg (i:=1) (v:=?a19) rfl ?b19 (by assumption) ?c19
 case b19=>(intro w hSw; go_simp; try with_reducible rfl)
 try simp only [Act.put,wp1,wp2,wp3,wp4,wp5,wp6]
 refine wtg (i:=2) (v:=?a21) rfl ?b21 (by assumption) ?c21
 case b21=>(intro w hSw; go_simp; try with_reducible rfl)
 try simp only [Act.put,wp1,wp2,wp3,wp4,wp5,wp6]
 refine wtg (i:=3) (v:=?a23) rfl ?b23 (by assumption) ?c23
 case b23=>(intro w hSw; go_simp; try with_reducible rfl)
 try simp only [Act.put,wp1,wp2,wp3,wp4,wp5,wp6]
 refine wtg (i:=4) (v:=?a25) rfl ?b25 (by assumption) ?c25
 case b25=>(intro w hSw; go_simp; try with_reducible rfl)
 try simp only [Act.put,wp1,wp2,wp3,wp4,wp5,wp6]
 refine wtg (i:=5) (v:=?a27) rfl ?b27 (by assumption) ?c27
 case b27=>(intro w hSw; go_simp; try with_reducible rfl)
 try simp only [Act.put,wp1,wp2,wp3,wp4,wp5,wp6]
 refine wtg (i:=6) (v:=?a29) rfl ?b29 (by assumption) ?c29
 case b29=>(intro w hSw; go_simp; try with_reducible rfl)
 try simp only [Act.put,wp1,wp2,wp3,wp4,wp5,wp6]
 refine wtg (i:=7) (v:=?a31) rfl ?b31 (by assumption) ?c31
 case b31=>(intro w hSw; go_simp; try with_reducible rfl)
 try simp only [Act.put,wp1,wp2,wp3,wp4,wp5,wp6]
 refine wpAnyH_done (by kernel_rfl) ?_ _
 clear hHeld hb1 h0'
 have hbl1:Below w1.heap.size w1 w1.drew:=(Below.refl _ _).drew
 have HBL0:=Lib.hid hbl1
 clear hbl1
 generalize w1.drew=w2 at HBL0 ⊢
 have HBL:Hid (Below w1.heap.size w1 w2):=HBL0
 generalize s.extract 0 n=A at hA ⊢
 generalize s.extract n s.size=B at hB ⊢
 have hBs:=size_of hB
 rw [List.length_cons] at hBs
 have hB1:1<B.size:=by omega
 have hB00:0<B.size:=by omega
 have hB0 : B[0]'hB00 = 46:=by
  have h9:=byte_at hB 0 hB00
  simpa using h9.symm
 obtain ⟨C,hC⟩:∃ C,B.extract 1 B.size=C:=⟨_,rfl⟩
 have hCd:C.data.toList=p:=by rw [← hC,Lib.extract_to_end,hB]; rfl
 have hCs:=size_of hCd
 obtain ⟨X,hX⟩:∃ X,(C++⟨#[48,48,48,48,48]⟩:ByteArray)=X:=⟨_,rfl⟩
 have hXd:X.data.toList=p++[48,48,48,48,48]:=by rw [← hX,← hCd]; simp
 have hXs:=size_of hXd
 rw [List.length_append] at hXs
 have hXs5:5≤X.size:=by simp at hXs; omega
 have hX40:4<X.size:=by omega
 have hX4 : X[4]'hX40 = 48:=by
  have h9:=byte_at hXd 4 hX40
  rw [List.getElem?_append_right (by omega)] at h9
  have h8:∀ j<5,([48,48,48,48,48]:List UInt8)[j]?=some 48:=by decide
  rw [h8 _ (by omega)] at h9
  exact (Option.some.inj h9).symm
 obtain ⟨T,hT⟩:∃ T,A++X.extract 0 4=T:=⟨_,rfl⟩
 have hTd:T.data.toList=u++p++List.replicate (4 - p.length) 48:=by
  have h9:(X.extract 0 4).data.toList=p++List.replicate (4 - p.length) 48:=by
   rw [Lib.extract_data,hXd,List.drop_zero,List.take_append,List.take_of_length_le (by omega)]
   congr 1
   have h7:∀ j≤4,([48,48,48,48,48]:List UInt8).take j=List.replicate j 48:=by decide
   exact h7 _ (by omega)
  rw [← hT]
  simp only [ByteArray.data_append,Array.toList_append,hA,h9,List.append_assoc]
 have HT:=keep hTd
 have HTS:=keep (size_of hTd)
 have HDG:=keep (show ∀ b∈u++p++List.replicate (4 - p.length) 48,isDig b=true from fun b hb=>by
  rcases List.mem_append.1 hb with hb | hb
  ·rcases List.mem_append.1 hb with hb | hb
   ·exact HU.out b hb
   ·exact HPD.out b hb
  ·rw [(List.mem_replicate.1 hb).2]; rfl)
 have hTl:T.size≤308:=by rw [size_of hTd,List.length_append,List.length_append,List.length_replicate]; have:=HN.out; omega
 have hcv:=run_bytes_of_string (P:=Tryz.prog) w2 9 67 5 T Tryz.underlying9 Tryz.underlying67 Tryz.underlying5
 have hm:=Bytes8.made w2.drew T 5 (grownCap w2 T.size 0 5)
 have hbl:Below w2.heap.size w2 (w2.drew.alloc (.cells (bytesRow T (grownCap w2 T.size 0 5)) 5 ((bytesRow T (grownCap w2 T.size 0 5)).size,(bytesRow T (grownCap w2 T.size 0 5)).size+1))):=(Below.refl _ _).drew.alloc (Nat.le_refl _) _
 have HNL:=keep (show valD (u++p++List.replicate (4 - p.length) 48)=numV u p from rfl)
 generalize (u++p++List.replicate (4 - p.length) 48)=l at HT HTS HDG HNL
 have HCR:=keep (show (C.data.toList.takeWhile isDig).length=p.length by
  rw [hCd]
  have h9:=(run_at isDig p [] HPD.out rfl).1
  rw [List.append_nil] at h9
  rw [h9])
 have hBq3:(p.length:Int)=(B.size:Int) - 1:=by omega
 have hBq2:((p.length:Int) == (B.size:Int) - 1)=true:=by rw [hBq3]; simp
 have hAs:A.size≤300:=by rw [size_of hA]; have:=HN.out; omega
 have hBs3:B.size≤300:=by omega
 have hXs6:X.size≤10:=by simp at hXs; omega
 have hCz:C.size≤300:=by omega
 clear hBq3
 clear hTd hXd hA hB hCd hBs hXs hCs hul hpl hn1
 go_wp2_with fail
 refine (dec_digits C _ (by omega)).mono ?_
 rintro e w3 ⟨rfl,hw3⟩
 obtain rfl:w2=w3:=hw3.symm
 rw [HCR.out]
 generalize hcp:grownCap w2 T.size 0 5=cap at hcv hm hbl
 clear hcp
 generalize (w2.drew.alloc (.cells (bytesRow T cap) 5 ((bytesRow T cap).size,(bytesRow T cap).size+1)))=W0 at hcv hm hbl
 rw [HT.out] at hm
 have HMB:=Lib.hid hm
 have HBW:=Lib.hid hbl
 clear hm hbl
 go_wp2_with fail
 clear hcv
 go_loopw [9,10,67] (fun vv gv iv wr=>∃ (k:Nat) (v:Int),k≤T.size∧iv=.int .i64 k∧vv=.int .u64 v∧gv=.bool (decide (mostN<valD (l.take k)))∧Keep (valD (l.take k)≤mostN→v=valD (l.take k))∧Hid (Bytes8 wr w2.heap.size l)∧Hid (Below w2.heap.size w2 wr)) (fun _ _ iv _=>T.size - (intOf iv).toNat)
 case atStart=>exact ⟨0,0,Nat.zero_le _,rfl,rfl,by rw [List.take_zero]; rfl,keep (fun _=>by rw [List.take_zero]; rfl),HMB,HBW⟩
 case round =>
  clear HMB HBW
  obtain ⟨k,v,hk,rfl,rfl,rfl,HV,H1,H2⟩:=hrel
  by_cases hlt:(k:Int)<T.size
  ·have hkl:k<(l).length:=by have:=HTS.out; omega
   have hcell:=(H1.out k hkl).1
   have hfroz:=(H1.out k hkl).2
   have hdg:=HDG.out _ (List.getElem_mem hkl)
   have hstep:=valD_take l k hkl
   have hvv:=HV.out
   generalize (l)[k]=c at hcell hdg hstep
   generalize valD (l.take k)=V at hvv hstep ⊢
   have hc8:48≤c.toNat∧c.toNat≤57:=by rw [dig_int] at hdg; simp at hdg; omega
   obtain ⟨hc1,hc2⟩:=hc8
   obtain ⟨d,hd⟩:∃ d:Nat,c.toNat=48+d:=⟨c.toNat - 48,by omega⟩
   have hd9:d≤9:=by omega
   have hst2:valD (l.take (k+1))=10 * V+d:=by rw [hstep,hd]; omega
   have HST:=keep hst2
   have HFZ:=keep hdg
   rw [hd] at hcell
   clear hstep hdg hst2 hc1 hc2 hd
   by_cases hG:mostN<V
   ·rw [decide_eq_true hG]
    have hG2:mostN<10 * V+d:=by omega
    have HG2:=keep hG2
    clear hG hG2 hvv
    by_cases hv10:v>922337203685477580
    ·go_wp2_with fail
     go_roundw
     case rel=>exact ⟨k+1,_,by omega,by go_num,rfl,by rw [HST.out,decide_eq_true HG2.out],keep (fun h9=>absurd h9 (by rw [HST.out]; have:=HG2.out; omega)),H1,H2⟩
     case measure=>simp [intOf]; omega
    ·go_wp2_with fail
     go_roundw
     case rel=>exact ⟨k+1,_,by omega,by go_num,rfl,by rw [HST.out,decide_eq_true HG2.out],keep (fun h9=>absurd h9 (by rw [HST.out]; have:=HG2.out; omega)),H1,H2⟩
     case measure=>simp [intOf]; omega
   ·rw [decide_eq_false hG]
    obtain rfl:=hvv (by omega)
    by_cases hv10:(V:Int)>922337203685477580
    ·have hG2:mostN<10 * V+d:=by unfold mostN; omega
     have HG2:=keep hG2
     clear hG hG2 hvv
     go_wp2_with fail
     go_roundw
     case rel=>exact ⟨k+1,_,by omega,by go_num,rfl,by rw [HST.out,decide_eq_true HG2.out],keep (fun h9=>absurd h9 (by rw [HST.out]; have:=HG2.out; omega)),H1,H2⟩
     case measure=>simp [intOf]; omega
    ·clear hG hvv
     have hv11:(V:Int)≤922337203685477580:=by omega
     have hdi:(d:Int)≤9:=by omega
     go_wp2_with fail
     go_roundw
     case rel=>exact ⟨k+1,10 * V+d,by omega,by go_num,by congr 1; omega,by rw [HST.out]; congr 1; unfold mostN; rw [decide_eq_decide]; omega,keep (fun _=>by rw [HST.out]; simp),H1,H2⟩
     case measure=>simp [intOf]; omega
  ·obtain rfl:k=T.size:=by omega
   rw [show (l).take T.size=l from by rw [HTS.out,List.take_length]]
   have hvv:=HV.out
   rw [show (l).take T.size=l from by rw [HTS.out,List.take_length]] at hvv
   generalize hNV:valD l=V at hvv ⊢
   have HNV:=keep (HNL.out.symm.trans hNV)
   clear hNV
   by_cases hG:mostN<V
   ·rw [decide_eq_true hG]
    have HGG:=keep (show ¬ V≤mostN by omega)
    clear hvv hG
    go_wp2_with fail
    exact bodyPost_ret (v:=.tuple #[.int .i64 0,.int .i64 3]) (by simp [results,Tryz.results50,go_sem]) rfl ⟨by rw [HNV.out,(decP_no HGG.out).1,(decP_no HGG.out).2],below_step HBL.out H2.out⟩
   ·obtain rfl:=hvv (by omega)
    rw [decide_eq_false hG]
    have HGG:=keep (show V≤mostN by omega)
    have hV1:(V:Int)≤9223372036854775807:=by unfold mostN at hG; omega
    have hV2:V≤9223372036854775807:=by omega
    clear hvv hG
    go_wp2_with fail
    refine (dec_signed V false _ hV2).mono ?_
    rintro e w5 ⟨rfl,rfl⟩
    go_wp2_with fail
    exact bodyPost_ret (v:=.tuple #[.int .i64 V,.int .i64 0]) (by simp [results,Tryz.results50,go_sem]) rfl ⟨by rw [HNV.out,(decP_yes HGG.out).1,(decP_yes HGG.out).2],below_step HBL.out H2.out⟩
inductive Cm
 | tr (s:Nat)
 | od (l:Nat)
 | ar (fn i:Nat)
inductive Cn:Cm→List Tk→List Nd→Nat→Prop
 | val {t:Tk} (h1:1≤t.kind) (h4:t.kind≤4):Cn (.tr 8) [t] [ndVal t] 0
 | ref {t:Tk} (h5:t.kind=5):Cn (.tr 8) [t] [ndRef t.r] 0
 | neg {t:Tk} {ts:List Tk} {ns:List Nd} (h8:t.kind=8) (h2:t.num=2) (h:Cn (.od 5) ts ns 0):Cn (.tr 5) (t::ts) (ns++[ndNeg]) 0
 | pct {t:Tk} {ts:List Tk} {ns:List Nd} (h8:t.kind=8) (h13:t.num=13) (h:Cn (.od 7) ts ns 0):Cn (.tr 7) (ts++[t]) (ns++[ndPct]) 0
 | bin {t : Tk} {k : Nat} {ts us : List Tk} {ns ms : List Nd} (h8 : t.kind = 8) (hk : bindS t.num = k) (h1 : 1 ≤ k) (h4 : k ≤ 4) (h : Cn (.od k) ts ns 0) (g : Cn (.od (k + 1)) us ms 0) :
   Cn (.tr k) (ts++t::us) (ns++(ms++[ndBin t.num])) 0
 | pow {t:Tk} {ts us:List Tk} {ns ms:List Nd} (h8:t.kind=8) (h5:t.num=5) (h:Cn (.od 7) ts ns 0) (g:Cn (.od 5) us ms 0):Cn (.tr 6) (ts++t::us) (ns++(ms++[ndBin 5])) 0
 | call {t o c : Tk} {ts : List Tk} {ns : List Nd} {n : Nat} (h7 : t.kind = 7) (hf : fnS t.text ≠ 0) (ho : o.kind = 9) (h : Cn (.ar (fnS t.text) 0) ts ns n) (hc : c.kind = 10)
   (h1:(arS (fnS t.text)).1≤n) (h2:n≤(arS (fnS t.text)).2) (hd:46≤fnS t.text→(ns.getLast?.map (·.kind))=some 2∨(ns.getLast?.map (·.kind))=some 3) :
   Cn (.tr 8) (t::o::(ts++[c])) (ns++[ndCall (fnS t.text) n]) 0
 | bare {l s:Nat} {ts:List Tk} {ns:List Nd} (hs:l≤s) (h:Cn (.tr s) ts ns 0):Cn (.od l) ts ns 0
 | par {l s:Nat} {o c:Tk} {ts:List Tk} {ns:List Nd} (ho:o.kind=9) (hc:c.kind=10) (h:Cn (.tr s) ts ns 0):Cn (.od l) (o::(ts++[c])) ns 0
 | argE {fn i s:Nat} {ts:List Tk} {ns:List Nd} (h:Cn (.tr s) ts ns 0):Cn (.ar fn i) ts ns (i+1)
 | argC {fn i s:Nat} {c:Tk} {ts us:List Tk} {ns ms:List Nd} {m:Nat} (h:Cn (.tr s) ts ns 0) (hc:c.kind=11) (g:Cn (.ar fn (i+1)) us ms m):Cn (.ar fn i) (ts++c::us) (ns++ms) m
 | rngE {fn i:Nat} {t:Tk} (h6:t.kind=6) (hw:wideS fn i=true):Cn (.ar fn i) [t] [ndRange t.r] (i+1)
 | rngC {fn i:Nat} {t c:Tk} {us:List Tk} {ms:List Nd} {m:Nat} (h6:t.kind=6) (hw:wideS fn i=true) (hc:c.kind=11) (g:Cn (.ar fn (i+1)) us ms m):Cn (.ar fn i) (t::c::us) (ndRange t.r::ms) m
def Fol (u:List Tk) (k:Nat):Prop:=∀ t r,u=t::r→¬ (t.kind=8∧k<bindS t.num)
theorem Fol.mono {u:List Tk} {k l:Nat} (h:Fol u k) (hl:k≤l):Fol u l:=fun t r e g=>h t r e ⟨g.1,by omega⟩
theorem Fol.nil (k:Nat):Fol [] k:=fun t r e=>by cases e
theorem Fol.cons {t:Tk} {r:List Tk} {k:Nat} (h:¬ (t.kind=8∧k<bindS t.num)):Fol (t::r) k:=fun t2 r2 e=>by obtain ⟨rfl,rfl⟩:=List.cons.inj e; exact h
def PrP (ts:List Tk) (ns:List Nd):Prop:=∃ n,∀ u,Pk .pr (ts++u) u ns n
def PcP (ts:List Tk) (ns:List Nd):Prop:=∃ ts0 qs ns0,ts=ts0++qs∧ns=ns0++List.replicate qs.length ndPct∧(∀ q∈qs,q.kind=8∧q.num=13)∧PrP ts0 ns0
def SgP (ts:List Tk) (ns:List Nd):Prop:=∀ u,Fol u 5→∃ n,Pk .sg (ts++u) u ns n
def CtP (k:Nat) (ts:List Tk) (ns:List Nd):Prop:=∀ u v ms m,Fol u k→Pk (.ops k) u v ms m→Pk (.lv k) (ts++u) v (ns++ms) m
def Str (l:Nat) (ts:List Tk) (ns:List Nd):Prop:=(7≤l→PcP ts ns)∧(5≤l→SgP ts ns)∧∀ k,1≤k→k≤4→k≤l→CtP k ts ns
theorem pr_hd {ts u:List Tk} {ns:List Nd} {n:Nat} (h:Pk .pr ts u ns n):isOp ts 2=false:=by
 cases h <;> simp [isOp] <;> omega
theorem pct_all (qs u:List Tk) (hq:∀ q∈qs,q.kind=8∧q.num=13) (hu:Fol u 6):pctS (qs++u)=(u,qs.length):=by
 induction qs with
 | nil =>
  cases u with
  | nil=>rfl
  | cons t r =>
   have:=hu t r rfl
   show pctS (t::r)=_
   rw [pctS,if_neg]
   ·rfl
   ·rintro ⟨h8,h13⟩
    exact this ⟨h8,by rw [h13]; decide⟩
 | cons q qs ih =>
  show pctS (q::(qs++u))=_
  rw [pctS,if_pos (hq q (by simp)),ih fun x hx=>hq x (by simp [hx])]
  rfl
theorem PcP.pc {ts:List Tk} {ns:List Nd} (h:PcP ts ns) (u:List Tk) (hu:Fol u 6):∃ n,Pk .pc (ts++u) u ns n∧isOp (ts++u) 2=false:=by
 obtain ⟨ts0,qs,ns0,rfl,rfl,hq,n,hp⟩:=h
 have h1:=hp (qs++u)
 have h2:=Pk.pc h1
 rw [pct_all qs u hq hu] at h2
 exact ⟨0,by rw [List.append_assoc]; exact h2,by rw [List.append_assoc]; exact pr_hd h1⟩
theorem fol_op {u:List Tk} {k:Nat} {op:Int} (h:Fol u k) (hk:k<bindS op):isOp u op=false:=by
 cases u with
 | nil=>rfl
 | cons t r =>
  cases hq:isOp (t::r) op with
  | false=>rfl
  | true =>
   simp only [isOp,decide_eq_true_eq] at hq
   exact absurd ⟨hq.1,by rw [hq.2]; exact hk⟩ (h t r rfl)
theorem PcP.sg {ts:List Tk} {ns:List Nd} (h:PcP ts ns):SgP ts ns:=fun u hu=>by
 obtain ⟨n,h1,h2⟩:=h.pc u (hu.mono (by decide))
 exact ⟨0,.bare h2 h1 (fol_op hu (by decide))⟩
theorem PrP.pc {ts:List Tk} {ns:List Nd} (h:PrP ts ns):PcP ts ns:=⟨ts,[],ns,by simp,by simp,by simp,h⟩
theorem ops_stop (u:List Tk) (k j:Nat) (h:Fol u k) (hj:k<j):Pk (.ops j) u u [] 0:=by
 cases u with
 | nil=>exact .nil
 | cons t r=>exact .stop fun g=>h t r rfl ⟨g.1,by omega⟩
theorem SgP.up {ts:List Tk} {ns:List Nd} (h:SgP ts ns) (u:List Tk) (hu:Fol u 4):∃ n,Pk (.lv 5) (ts++u) u ns n:=by
 obtain ⟨n,g⟩:=h u (hu.mono (by decide))
 exact ⟨n,.lv5 (Nat.le_refl _) g⟩
theorem CtP.up {ts:List Tk} {ns:List Nd} {k:Nat} (h:CtP (k+1) ts ns) (u:List Tk) (hu:Fol u k):∃ n,Pk (.lv (k+1)) (ts++u) u ns n:=by
 have g:=h u u [] 0 (hu.mono (by omega)) (ops_stop u k (k+1) hu (by omega))
 rw [List.append_nil] at g
 exact ⟨0,g⟩
theorem ct_of {ts:List Tk} {ns:List Nd} {k:Nat} (hk:k≤4) (h:∀ u,Fol u k→∃ n,Pk (.lv (k+1)) (ts++u) u ns n):CtP k ts ns:=fun u v ms m hu g=>by
 obtain ⟨n,h1⟩:=h u hu
 exact .lv (by omega) h1 g
theorem CtP.down {ts:List Tk} {ns:List Nd} {k:Nat} (h:CtP k ts ns) (hk:k≤4):∀ d j,j+d=k→CtP j ts ns
 | 0,j,e => by obtain rfl : j = k:=by omega
               exact h
 | d+1,j,e=>ct_of (by omega) (fun u hu=>(CtP.down h hk d (j+1) (by omega)).up u hu)
theorem SgP.ct {ts:List Tk} {ns:List Nd} (h:SgP ts ns) (k:Nat) (hk:k≤4):CtP k ts ns :=
 (ct_of (k:=4) (Nat.le_refl _) (fun u hu=>h.up u hu)).down (Nat.le_refl _) (4 - k) k (by omega)
theorem Str.of_sg {ts:List Tk} {ns:List Nd} {l:Nat} (h:SgP ts ns) (h7:7≤l→PcP ts ns):Str l ts ns:=⟨h7,fun _=>h,fun k _ hk _=>h.ct k hk⟩
theorem Str.of_pc {ts:List Tk} {ns:List Nd} {l:Nat} (h:PcP ts ns):Str l ts ns:=.of_sg h.sg fun _=>h
theorem Str.mono {ts:List Tk} {ns:List Nd} {l s:Nat} (h:Str s ts ns) (hl:l≤s):Str l ts ns:=⟨fun g=>h.1 (by omega),fun g=>h.2.1 (by omega),fun k h1 h4 hk=>h.2.2 k h1 h4 (by omega)⟩
theorem Str.up {ts:List Tk} {ns:List Nd} {k:Nat} (h:Str (k+1) ts ns) (h4:k≤4) (u:List Tk) (hu:Fol u k):∃ n,Pk (.lv (k+1)) (ts++u) u ns n:=by
 by_cases e:k=4
 ·subst e; exact (h.2.1 (Nat.le_refl _)).up u hu
 ·exact (h.2.2 (k+1) (by omega) (by omega) (Nat.le_refl _)).up u hu
theorem Str.lv1 {ts:List Tk} {ns:List Nd} {s:Nat} (h:Str s ts ns) (hs:1≤s) (u:List Tk) (hu:Fol u 0):Pk (.lv 1) (ts++u) u ns 0:=by
 have g:=h.2.2 1 (Nat.le_refl _) (by decide) hs u u [] 0 (hu.mono (by omega)) (ops_stop u 0 1 hu (by omega))
 rwa [List.append_nil] at g
def CnM (m:Cm) (ts:List Tk) (ns:List Nd) (n:Nat):Prop:=ts≠[]∧match m with
 | .tr s=>1≤s∧hkS ts≠6∧Str s ts ns
 | .od l=>hkS ts≠6∧Str l ts ns
 | .ar fn i=>∀ c r,c.kind=10→Pk (.args fn i) (ts++c::r) (c::r) ns n
theorem hk_app {ts:List Tk} (h:ts≠[]) (u:List Tk):hkS (ts++u)=hkS ts:=by
 cases ts with
 | nil=>exact absurd rfl h
 | cons t r=>rfl
theorem no8 {c:Tk} {r:List Tk} {j:Nat} (hc:c.kind=j) (h:j≠8) (k:Nat):Fol (c::r) k:=.cons fun g=>h (hc.symm.trans g.1)
theorem cn_all {m:Cm} {ts:List Tk} {ns:List Nd} {n:Nat} (h:Cn m ts ns n):CnM m ts ns n:=by
 induction h with
 | val h1 h4=>exact ⟨by simp,by decide,by simp only [hkS]; omega,.of_pc (PrP.pc ⟨0,fun u=>.val h1 h4⟩)⟩
 | ref h5=>exact ⟨by simp,by decide,by simp only [hkS]; omega,.of_pc (PrP.pc ⟨0,fun u=>.ref h5⟩)⟩
 | neg h8 h2 h ih =>
  refine ⟨by simp,by decide,by simp only [hkS]; omega,.of_sg (fun u hu => ?_) (by omega)⟩
  obtain ⟨n,g⟩:=ih.2.2.2.1 (by decide) u hu
  exact ⟨0,.neg h8 h2 g⟩
 | pct h8 h13 h ih =>
  obtain ⟨ts0,qs,ns0,e1,e2,hq,hp⟩:=ih.2.2.1 (by decide)
  refine ⟨by simp,by decide,by rw [hk_app ih.1]; exact ih.2.1,.of_pc ⟨ts0,qs++[_],ns0,by rw [e1,List.append_assoc],?_,fun q hm => ?_,hp⟩⟩
  ·rw [e2,List.append_assoc,List.length_append]
   congr 1
   show List.replicate qs.length ndPct++List.replicate 1 ndPct=_
   rw [List.replicate_append_replicate]; rfl
  ·rcases List.mem_append.1 hm with hm | hm
   ·exact hq q hm
   ·rw [List.mem_singleton] at hm; subst hm; exact ⟨h8,h13⟩
 | @bin t k ts us ns ms h8 hk h1 h4 h g ih ig =>
  refine ⟨by simp,h1,by rw [hk_app ih.1]; exact ih.2.1,by omega,by omega,fun j hj1 hj4 hjk => ?_⟩
  refine CtP.down (k:=k) (fun u v ms2 m hu go => ?_) h4 (k - j) j (by omega)
  obtain ⟨n,hr⟩:=ig.2.2.up h4 u hu
  have:=ih.2.2.2.2 k h1 h4 (Nat.le_refl _) (t::(us++u)) v _ m (.cons (by rw [hk]; omega)) (.op h8 hk hr go)
  simpa [List.append_assoc] using this
 | @pow t ts us ns ms h8 h5 h g ih ig =>
  refine ⟨by simp,by decide,by rw [hk_app ih.1]; exact ih.2.1,.of_sg (fun u hu => ?_) (by omega)⟩
  obtain ⟨n,h1,h2⟩:=(ih.2.2.1 (by decide)).pc (t::(us++u)) (.cons (fun q=>absurd q.2 (by rw [h5]; decide)))
  obtain ⟨n2,g1⟩:=ig.2.2.2.1 (by decide) u hu
  have:=Pk.pow h2 h1 h8 h5 g1
  exact ⟨0,by simpa [List.append_assoc] using this⟩
 | @call t o c ts ns n h7 hf ho h hc h1 h2 hd ih =>
  refine ⟨by simp,by decide,by simp only [hkS]; omega,.of_pc (PrP.pc ⟨n,fun u => ?_⟩)⟩
  have:=Pk.call h7 hf ho (ih.2 c u hc) hc h1 h2 hd
  simpa [List.append_assoc] using this
 | bare hs h ih=>exact ⟨ih.1,ih.2.2.1,ih.2.2.2.mono hs⟩
 | @par l s o c ts ns ho hc h ih =>
  refine ⟨by simp,by simp only [hkS]; omega,.of_pc (PrP.pc ⟨0,fun u => ?_⟩)⟩
  have:=Pk.par ho (ih.2.2.2.lv1 ih.2.1 (c::u) (no8 hc (by decide) 0)) hc
  simpa [List.append_assoc] using this
 | argE h ih =>
  refine ⟨ih.1,fun c r hc => ?_⟩
  exact .argE (by rw [hk_app ih.1]; exact ih.2.2.1) (ih.2.2.2.lv1 ih.2.1 (c::r) (no8 hc (by decide) 0)) (by simp only [hkS]; omega)
 | @argC fn i s c ts us ns ms m h hc g ih ig =>
  refine ⟨by simp,fun c2 r hc2 => ?_⟩
  have:=Pk.argC (fn:=fn) (i:=i) (ts:=ts++c::(us++c2::r)) (by rw [hk_app ih.1]; exact ih.2.2.1) (ih.2.2.2.lv1 ih.2.1 (c::(us++c2::r)) (no8 hc (by decide) 0)) hc (ig.2 c2 r hc2)
  simpa [List.append_assoc] using this
 | rngE h6 hw=>exact ⟨by simp,fun c r hc=>.rngE h6 hw (show c.kind≠11 by omega)⟩
 | rngC h6 hw hc g ig=>exact ⟨by simp,fun c2 r hc2=>.rngC h6 hw hc (ig.2 c2 r hc2)⟩
theorem cn_parse {s:Nat} {ts:List Tk} {ns:List Nd} (h:Cn (.tr s) ts ns 0):Pk (.lv 1) ts [] ns 0:=by
 have g:=cn_all h
 have:=g.2.2.2.lv1 g.2.1 [] (Fol.nil 0)
 rwa [List.append_nil] at this
