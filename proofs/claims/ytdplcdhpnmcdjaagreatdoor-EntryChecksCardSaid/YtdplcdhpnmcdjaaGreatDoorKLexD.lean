/- The contract of dec.Parse on a run of digits, with at most four places. The contract of the laws' fixed address. The walks of the laws AddrLess, AddrOrder and AddrReads. Contracts of Format, package rect's and the reference's. Plain: the canonical tokens of a tree, and that they are parsed back. No program stands here. -/
import Derived.Test.YtdplcdhpnmcdjaaGreatDoorKLexC
import Derived.Test.YtdplcdhpnmcdjaaGreatDoorKTg
import Derived.Test.YtdplcdhpnmcdjaaGreatDoorKLexP
import Derived.Lib.IndexBytes
import Derived.Test.YtdplcdhpnmcdjaaGreatDoorKLexI
import Derived.Test.YtdplcdhpnmcdjaaGreatDoorKVal
import Derived.OpenShut
import Derived.Deep.RegionHeld3
import Derived.Test.YtdplcdhpnmcdjaaGreatDoorKParK
namespace Go.Proofs.YtdplcdhpnmcdjaaGreatDoor
set_option maxRecDepth 100000
set_option maxHeartbeats 4000000
open Go.RowKit Go.Proofs.Tryz
theorem byte_at {s : ByteArray} {l : List UInt8} (h : s.data.toList = l) (i : Nat) (hi : i < s.size) : l[i]? = some (s[i]'hi):=by
 rw [← h,Array.getElem?_toList]
 exact Array.getElem?_eq_getElem hi
theorem cy {s:ByteArray} {l:List UInt8} (h:s.data.toList=l):s.size=l.length:=by rw [← h,Array.length_toList]; rfl
theorem f7 (l:List UInt8) (k:Nat) (h:k<l.length):cz (l.take (k+1))=10 * cz (l.take k)+(l[k].toNat - 48):=by
 unfold cz
 rw [List.take_succ_eq_append_getElem h,List.foldl_append]
 rfl
def aD:Nat:=9223372036854775807
def oS (n:Nat):Int:=if n≤aD then n else 0
def oR (n:Nat):Int:=if n≤aD then 0 else 3
theorem b8 {n:Nat} (h:n≤aD):oS n=n∧oR n=0:=⟨if_pos h,if_pos h⟩
theorem cF {n:Nat} (h:¬ n≤aD):oS n=0∧oR n=3:=⟨if_neg h,if_neg h⟩
theorem fl (s:ByteArray) (w:World) (hs:s.size≤300) (h0:0<s.size) (hd:∀ b∈s.data.toList,ah b=true) :
  Calls prog 123 #[.string s] w fun e w'=>e=.returned (.tuple #[.int .i64 (oS (cA s.data.toList [])),.int .i64 (oR (cA s.data.toList []))])∧Below w.heap.size w w':=by
 have hl:=cy (s:=s) rfl
 have hrun:s.data.toList.takeWhile ah=s.data.toList:=by
  have:=(cg ah s.data.toList [] hd rfl).1
  rwa [List.append_nil] at this
 have hb0 : ah (s[0]'h0) = true:=hd _ (by
  have:=byte_at (s:=s) rfl 0 h0
  exact List.mem_of_getElem? this)
 have hb1 : ¬ (s[0]'h0).toNat = 45:=by
  rw [dw] at hb0
  simp at hb0
  omega
 have h0':(0:Int)<s.size:=by omega
 have HD:=keep hd
 have HR:=keep hrun
 have HL:=keep hl
 clear hd hrun hl hb0
 go_enter func123,ntmps123
 go_wp2_with fail
 refine (dJ s _ (by omega)).mono ?_
 rintro e w1 ⟨rfl,rfl⟩
 rw [HR.out,← HL.out]
 go_wp2_with fail
 refine wp_region_held_drew (S:=fun _=>True) (by kernel_rfl) trivial (fun hHeld => ?_)
 refine wtc 0 ?_
 refine wtc 1 ?_
 refine wtc 2 ?_
 refine wtc 3 ?_
 refine wtc 4 ?_
 refine wtc 5 ?_
 refine wtc 6 ?_
 refine wtc 7 ?_
 refine wpAnyH_done (by kernel_rfl) ?_ _
 clear hHeld hb1 h0'
 have hne:¬ s=ByteArray.empty:=by
  rintro rfl
  simp at h0
 have hbl1:Below w1.heap.size w1 w1.drew:=(Below.refl _ _).drew
 have HBL0:=Lib.hid hbl1
 clear hbl1
 generalize w1.drew=w2 at HBL0 ⊢
 have HBL:Hid (Below w1.heap.size w1 w2):=HBL0
 obtain ⟨X,hX⟩:=ex ((⟨#[]⟩++⟨#[48,48,48,48,48]⟩:ByteArray))
 obtain ⟨T,hT⟩:=ex (s++X.extract 0 4)
 have hXs:X.size=5:=by rw [← hX]; rfl
 have hTd:T.data.toList=s.data.toList++[48,48,48,48]:=by rw [← hT,← hX]; simp
 have HT:=keep hTd
 have HTS:=keep (cy hTd)
 have HDG:=keep (show ∀ b∈s.data.toList++[48,48,48,48],ah b=true from fun b hb=>by
  rcases List.mem_append.1 hb with hb | hb
  ·exact HD.out b hb
  simp at hb; subst hb; rfl)
 have hTl:T.size≤304:=by rw [cy hTd,List.length_append,← HL.out]; simp; omega
 have hX4 : X[4]'(by omega) = 48:=by subst hX; rfl
 have hcv:=run_bytes_of_string (P:=prog) w2 9 42 5 T underlying9 underlying42 underlying5
 have hm:=bd.made w2.drew T 5 (grownCap w2 T.size 0 5)
 have hbl:Below w2.heap.size w2 (w2.drew.alloc (.cells (bytesRow T (grownCap w2 T.size 0 5)) 5 ((bytesRow T (grownCap w2 T.size 0 5)).size,(bytesRow T (grownCap w2 T.size 0 5)).size+1))):=(Below.refl _ _).drew.alloc (Nat.le_refl _) _
 clear hTd
 have HNL:=keep (show cz (s.data.toList++[48,48,48,48])=cA s.data.toList [] from by unfold cA; rw [List.append_nil]; rfl)
 generalize (s.data.toList++[48,48,48,48])=l at HT HTS HDG HNL
 generalize hcp:grownCap w2 T.size 0 5=cap at hcv hm hbl
 clear hcp
 generalize (w2.drew.alloc (.cells (bytesRow T cap) 5 ((bytesRow T cap).size,(bytesRow T cap).size+1)))=W0 at hcv hm hbl
 rw [HT.out] at hm
 have HMB:=Lib.hid hm
 have HBW:=Lib.hid hbl
 clear hm hbl
 go_wp2_with fail
 clear hcv
 go_loopw [9,10,67] (fun vv gv iv wr=>∃ (k:Nat) (v:Int),k≤T.size∧iv=.int .i64 k∧vv=.int .u64 v∧gv=.bool (decide (aD<cz (l.take k)))∧ao (cz (l.take k)≤aD→v=cz (l.take k))∧Hid (bd wr w2.heap.size l)∧Hid (Below w2.heap.size w2 wr)) (fun _ _ iv _=>T.size - (intOf iv).toNat)
 case atStart=>exact ⟨0,0,Nat.zero_le _,rfl,rfl,by rw [List.take_zero]; rfl,keep (fun _=>by rw [List.take_zero]; rfl),HMB,HBW⟩
 case round =>
  clear HMB HBW
  obtain ⟨k,v,hk,rfl,rfl,rfl,HV,H1,H2⟩:=hrel
  by_cases hlt:(k:Int)<T.size
  ·have hkl:k<(l).length:=by have:=HTS.out; omega
   have hcell:=(H1.out k hkl).1
   have hfroz:=(H1.out k hkl).2
   have hdg:=HDG.out _ (List.getElem_mem hkl)
   have hstep:=f7 l k hkl
   have hvv:=HV.out
   generalize (l)[k]=c at hcell hdg hstep
   generalize cz (l.take k)=V at hvv hstep ⊢
   have hc8:48≤c.toNat∧c.toNat≤57:=by rw [dw] at hdg; simp at hdg; omega
   obtain ⟨hc1,hc2⟩:=hc8
   obtain ⟨d,hd⟩:∃ d:Nat,c.toNat=48+d:=⟨c.toNat - 48,by omega⟩
   have hd9:d≤9:=by omega
   have hst2:cz (l.take (k+1))=10 * V+d:=by rw [hstep,hd]; omega
   have HST:=keep hst2
   have HFZ:=keep hdg
   rw [hd] at hcell
   clear hstep hdg hst2 hc1 hc2 hd
   by_cases hG:aD<V
   ·rw [decide_eq_true hG]
    have hG2:aD<10 * V+d:=by omega
    have HG2:=keep hG2
    clear hG hG2 hvv
    by_cases hv10:v>922337203685477580
    ·go_wp2_with fail
     go_roundw
     case rel=>exact ⟨k+1,_,by omega,by go_num,rfl,by rw [HST.out,decide_eq_true HG2.out],keep (fun h9=>absurd h9 (by rw [HST.out]; have:=HG2.out; omega)),H1,H2⟩
     case measure=>simp [intOf]; omega
    go_wp2_with fail
    go_roundw
    case rel=>exact ⟨k+1,_,by omega,by go_num,rfl,by rw [HST.out,decide_eq_true HG2.out],keep (fun h9=>absurd h9 (by rw [HST.out]; have:=HG2.out; omega)),H1,H2⟩
    case measure=>simp [intOf]; omega
   rw [decide_eq_false hG]
   obtain rfl:=hvv (by omega)
   by_cases hv10:(V:Int)>922337203685477580
   ·have hG2:aD<10 * V+d:=by unfold aD; omega
    have HG2:=keep hG2
    clear hG hG2 hvv
    go_wp2_with fail
    go_roundw
    case rel=>exact ⟨k+1,_,by omega,by go_num,rfl,by rw [HST.out,decide_eq_true HG2.out],keep (fun h9=>absurd h9 (by rw [HST.out]; have:=HG2.out; omega)),H1,H2⟩
    case measure=>simp [intOf]; omega
   clear hG hvv
   have hv11:(V:Int)≤922337203685477580:=by omega
   have hdi:(d:Int)≤9:=by omega
   go_wp2_with fail
   go_roundw
   case rel=>exact ⟨k+1,10 * V+d,by omega,by go_num,by congr 1; omega,by rw [HST.out]; congr 1; unfold aD; rw [decide_eq_decide]; omega,keep (fun _=>by rw [HST.out]; simp),H1,H2⟩
   case measure=>simp [intOf]; omega
  obtain rfl:k=T.size:=by omega
  rw [show (l).take T.size=l from by rw [HTS.out,List.take_length]]
  have hvv:=HV.out
  rw [show (l).take T.size=l from by rw [HTS.out,List.take_length]] at hvv
  generalize hNV:cz l=V at hvv ⊢
  have HNV:=keep (HNL.out.symm.trans hNV)
  clear hNV
  by_cases hG:aD<V
  ·rw [decide_eq_true hG]
   have HGG:=keep (show ¬ V≤aD by omega)
   clear hvv hG
   go_wp2_with fail
   exact bodyPost_ret (v:=.tuple #[.int .i64 0,.int .i64 3]) (by simp [results,results123,go_sem]) rfl ⟨by rw [HNV.out,(cF HGG.out).1,(cF HGG.out).2],al HBL.out H2.out⟩
  obtain rfl:=hvv (by omega)
  rw [decide_eq_false hG]
  have HGG:=keep (show V≤aD by omega)
  have hV1:(V:Int)≤9223372036854775807:=by unfold aD at hG; omega
  have hV2:V≤9223372036854775807:=by omega
  clear hvv hG
  go_wp2_with fail
  refine (eI V false _ hV2).mono ?_
  rintro e w5 ⟨rfl,rfl⟩
  go_wp2_with fail
  exact bodyPost_ret (v:=.tuple #[.int .i64 V,.int .i64 0]) (by simp [results,results123,go_sem]) rfl ⟨by rw [HNV.out,(b8 HGG.out).1,(b8 HGG.out).2],al HBL.out H2.out⟩
theorem l7 (s:ByteArray) (u p:List UInt8) (w:World) (hs:s.size≤300) (hd:s.data.toList=u++46::p) (hu:∀ b∈u,ah b=true) (hp:∀ b∈p,ah b=true) (hu0:u≠[]) (hp0:p≠[]) (hp4:p.length≤4) :
  Calls prog 123 #[.string s] w fun e w'=>e=.returned (.tuple #[.int .i64 (oS (cA u p)),.int .i64 (oR (cA u p))])∧Below w.heap.size w w':=by
 have hl:=cy hd
 rw [List.length_append,List.length_cons] at hl
 have hrun:s.data.toList.takeWhile ah=u:=by rw [hd]; exact (cg ah u (46::p) hu (sb p)).1
 have hul:1≤u.length:=by
  cases u with
  | nil=>exact absurd rfl hu0
  | cons=>simp
 have hpl:1≤p.length:=by
  cases p with
  | nil=>exact absurd rfl hp0
  | cons=>simp
 have h0:0<s.size:=by omega
 have hb0 : ah (s[0]'h0) = true:=by
  have h9:=byte_at hd 0 h0
  rw [List.getElem?_append_left (by omega)] at h9
  exact hu _ (List.mem_of_getElem? h9)
 have hb1 : ¬ (s[0]'h0).toNat = 45:=by
  rw [dw] at hb0
  simp at hb0
  omega
 have h0':(0:Int)<s.size:=by omega
 obtain ⟨n,hn⟩:=ex (u.length)
 have hA:(s.extract 0 n).data.toList=u:=by rw [Lib.extract_data,hd,← hn]; simp
 have hB:(s.extract n s.size).data.toList=46::p:=by rw [Lib.extract_to_end,hd,← hn,List.drop_left]
 have hn1:n≤s.size:=by omega
 have hn2:¬ (n:Int)=0:=by omega
 have hn3:¬ n=0:=by omega
 have HR:=keep hrun
 have HN:=keep hn
 have HU:=keep hu
 have HPD:=keep hp
 clear hrun hb0 hd hu hp hu0 hp0 hn hl
 go_enter func123,ntmps123
 go_wp2_with fail
 refine (dJ s _ (by omega)).mono ?_
 rintro e w1 ⟨rfl,rfl⟩
 rw [HR.out,HN.out]
 go_wp2_with fail
 refine wp_region_held_drew (S:=fun _=>True) (by kernel_rfl) trivial (fun hHeld => ?_)
 refine wtc 0 ?_
 refine wtc 1 ?_
 refine wtc 2 ?_
 refine wtc 3 ?_
 refine wtc 4 ?_
 refine wtc 5 ?_
 refine wtc 6 ?_
 refine wtc 7 ?_
 refine wpAnyH_done (by kernel_rfl) ?_ _
 clear hHeld hb1 h0'
 have hbl1:Below w1.heap.size w1 w1.drew:=(Below.refl _ _).drew
 have HBL0:=Lib.hid hbl1
 clear hbl1
 generalize w1.drew=w2 at HBL0 ⊢
 have HBL:Hid (Below w1.heap.size w1 w2):=HBL0
 generalize s.extract 0 n=A at hA ⊢
 generalize s.extract n s.size=B at hB ⊢
 have hBs:=cy hB
 rw [List.length_cons] at hBs
 have hB1:1<B.size:=by omega
 have hB00:0<B.size:=by omega
 have hB0 : B[0]'hB00 = 46:=by
  have h9:=byte_at hB 0 hB00
  simpa using h9.symm
 obtain ⟨C,hC⟩:=ex (B.extract 1 B.size)
 have hCd:C.data.toList=p:=by rw [← hC,Lib.extract_to_end,hB]; rfl
 have hCs:=cy hCd
 obtain ⟨X,hX⟩:=ex ((C++⟨#[48,48,48,48,48]⟩:ByteArray))
 have hXd:X.data.toList=p++[48,48,48,48,48]:=by rw [← hX,← hCd]; simp
 have hXs:=cy hXd
 rw [List.length_append] at hXs
 have hXs5:5≤X.size:=by simp at hXs; omega
 have hX40:4<X.size:=by omega
 have hX4 : X[4]'hX40 = 48:=by
  have h9:=byte_at hXd 4 hX40
  rw [List.getElem?_append_right (by omega)] at h9
  have h8:∀ j<5,([48,48,48,48,48]:List UInt8)[j]?=some 48:=by decide
  rw [h8 _ (by omega)] at h9
  exact (Option.some.inj h9).symm
 obtain ⟨T,hT⟩:=ex (A++X.extract 0 4)
 have hTd:T.data.toList=u++p++List.replicate (4 - p.length) 48:=by
  have h9:(X.extract 0 4).data.toList=p++List.replicate (4 - p.length) 48:=by
   rw [Lib.extract_data,hXd,List.drop_zero,List.take_append,List.take_of_length_le (by omega)]
   congr 1
   have h7:∀ j≤4,([48,48,48,48,48]:List UInt8).take j=List.replicate j 48:=by decide
   exact h7 _ (by omega)
  rw [← hT]
  simp only [ByteArray.data_append,Array.toList_append,hA,h9,List.append_assoc]
 have HT:=keep hTd
 have HTS:=keep (cy hTd)
 have HDG:=keep (show ∀ b∈u++p++List.replicate (4 - p.length) 48,ah b=true from fun b hb=>by
  rcases List.mem_append.1 hb with hb | hb
  ·rcases List.mem_append.1 hb with hb | hb
   ·exact HU.out b hb
   exact HPD.out b hb
  rw [(List.mem_replicate.1 hb).2]; rfl)
 have hTl:T.size≤308:=by rw [cy hTd,List.length_append,List.length_append,List.length_replicate]; have:=HN.out; omega
 have hcv:=run_bytes_of_string (P:=prog) w2 9 42 5 T underlying9 underlying42 underlying5
 have hm:=bd.made w2.drew T 5 (grownCap w2 T.size 0 5)
 have hbl:Below w2.heap.size w2 (w2.drew.alloc (.cells (bytesRow T (grownCap w2 T.size 0 5)) 5 ((bytesRow T (grownCap w2 T.size 0 5)).size,(bytesRow T (grownCap w2 T.size 0 5)).size+1))):=(Below.refl _ _).drew.alloc (Nat.le_refl _) _
 have HNL:=keep (show cz (u++p++List.replicate (4 - p.length) 48)=cA u p from rfl)
 generalize (u++p++List.replicate (4 - p.length) 48)=l at HT HTS HDG HNL
 have HCR:=keep (show (C.data.toList.takeWhile ah).length=p.length by
  rw [hCd]
  have h9:=(cg ah p [] HPD.out rfl).1
  rw [List.append_nil] at h9
  rw [h9])
 have hBq3:(p.length:Int)=(B.size:Int) - 1:=by omega
 have hBq2:((p.length:Int) == (B.size:Int) - 1)=true:=by rw [hBq3]; simp
 have hAs:A.size≤300:=by rw [cy hA]; have:=HN.out; omega
 have hBs3:B.size≤300:=by omega
 have hXs6:X.size≤10:=by simp at hXs; omega
 have hCz:C.size≤300:=by omega
 clear hBq3
 clear hTd hXd hA hB hCd hBs hXs hCs hul hpl hn1
 go_wp2_with fail
 refine (dJ C _ (by omega)).mono ?_
 rintro e w3 ⟨rfl,hw3⟩
 obtain rfl:w2=w3:=hw3.symm
 rw [HCR.out]
 generalize hcp:grownCap w2 T.size 0 5=cap at hcv hm hbl
 clear hcp
 generalize (w2.drew.alloc (.cells (bytesRow T cap) 5 ((bytesRow T cap).size,(bytesRow T cap).size+1)))=W0 at hcv hm hbl
 rw [HT.out] at hm
 have HMB:=Lib.hid hm
 have HBW:=Lib.hid hbl
 clear hm hbl
 go_wp2_with fail
 clear hcv
 go_loopw [9,10,67] (fun vv gv iv wr=>∃ (k:Nat) (v:Int),k≤T.size∧iv=.int .i64 k∧vv=.int .u64 v∧gv=.bool (decide (aD<cz (l.take k)))∧ao (cz (l.take k)≤aD→v=cz (l.take k))∧Hid (bd wr w2.heap.size l)∧Hid (Below w2.heap.size w2 wr)) (fun _ _ iv _=>T.size - (intOf iv).toNat)
 case atStart=>exact ⟨0,0,Nat.zero_le _,rfl,rfl,by rw [List.take_zero]; rfl,keep (fun _=>by rw [List.take_zero]; rfl),HMB,HBW⟩
 case round =>
  clear HMB HBW
  obtain ⟨k,v,hk,rfl,rfl,rfl,HV,H1,H2⟩:=hrel
  by_cases hlt:(k:Int)<T.size
  ·have hkl:k<(l).length:=by have:=HTS.out; omega
   have hcell:=(H1.out k hkl).1
   have hfroz:=(H1.out k hkl).2
   have hdg:=HDG.out _ (List.getElem_mem hkl)
   have hstep:=f7 l k hkl
   have hvv:=HV.out
   generalize (l)[k]=c at hcell hdg hstep
   generalize cz (l.take k)=V at hvv hstep ⊢
   have hc8:48≤c.toNat∧c.toNat≤57:=by rw [dw] at hdg; simp at hdg; omega
   obtain ⟨hc1,hc2⟩:=hc8
   obtain ⟨d,hd⟩:∃ d:Nat,c.toNat=48+d:=⟨c.toNat - 48,by omega⟩
   have hd9:d≤9:=by omega
   have hst2:cz (l.take (k+1))=10 * V+d:=by rw [hstep,hd]; omega
   have HST:=keep hst2
   have HFZ:=keep hdg
   rw [hd] at hcell
   clear hstep hdg hst2 hc1 hc2 hd
   by_cases hG:aD<V
   ·rw [decide_eq_true hG]
    have hG2:aD<10 * V+d:=by omega
    have HG2:=keep hG2
    clear hG hG2 hvv
    by_cases hv10:v>922337203685477580
    ·go_wp2_with fail
     go_roundw
     case rel=>exact ⟨k+1,_,by omega,by go_num,rfl,by rw [HST.out,decide_eq_true HG2.out],keep (fun h9=>absurd h9 (by rw [HST.out]; have:=HG2.out; omega)),H1,H2⟩
     case measure=>simp [intOf]; omega
    go_wp2_with fail
    go_roundw
    case rel=>exact ⟨k+1,_,by omega,by go_num,rfl,by rw [HST.out,decide_eq_true HG2.out],keep (fun h9=>absurd h9 (by rw [HST.out]; have:=HG2.out; omega)),H1,H2⟩
    case measure=>simp [intOf]; omega
   rw [decide_eq_false hG]
   obtain rfl:=hvv (by omega)
   by_cases hv10:(V:Int)>922337203685477580
   ·have hG2:aD<10 * V+d:=by unfold aD; omega
    have HG2:=keep hG2
    clear hG hG2 hvv
    go_wp2_with fail
    go_roundw
    case rel=>exact ⟨k+1,_,by omega,by go_num,rfl,by rw [HST.out,decide_eq_true HG2.out],keep (fun h9=>absurd h9 (by rw [HST.out]; have:=HG2.out; omega)),H1,H2⟩
    case measure=>simp [intOf]; omega
   clear hG hvv
   have hv11:(V:Int)≤922337203685477580:=by omega
   have hdi:(d:Int)≤9:=by omega
   go_wp2_with fail
   go_roundw
   case rel=>exact ⟨k+1,10 * V+d,by omega,by go_num,by congr 1; omega,by rw [HST.out]; congr 1; unfold aD; rw [decide_eq_decide]; omega,keep (fun _=>by rw [HST.out]; simp),H1,H2⟩
   case measure=>simp [intOf]; omega
  obtain rfl:k=T.size:=by omega
  rw [show (l).take T.size=l from by rw [HTS.out,List.take_length]]
  have hvv:=HV.out
  rw [show (l).take T.size=l from by rw [HTS.out,List.take_length]] at hvv
  generalize hNV:cz l=V at hvv ⊢
  have HNV:=keep (HNL.out.symm.trans hNV)
  clear hNV
  by_cases hG:aD<V
  ·rw [decide_eq_true hG]
   have HGG:=keep (show ¬ V≤aD by omega)
   clear hvv hG
   go_wp2_with fail
   exact bodyPost_ret (v:=.tuple #[.int .i64 0,.int .i64 3]) (by simp [results,results123,go_sem]) rfl ⟨by rw [HNV.out,(cF HGG.out).1,(cF HGG.out).2],al HBL.out H2.out⟩
  obtain rfl:=hvv (by omega)
  rw [decide_eq_false hG]
  have HGG:=keep (show V≤aD by omega)
  have hV1:(V:Int)≤9223372036854775807:=by unfold aD at hG; omega
  have hV2:V≤9223372036854775807:=by omega
  clear hvv hG
  go_wp2_with fail
  refine (eI V false _ hV2).mono ?_
  rintro e w5 ⟨rfl,rfl⟩
  go_wp2_with fail
  exact bodyPost_ret (v:=.tuple #[.int .i64 V,.int .i64 0]) (by simp [results,results123,go_sem]) rfl ⟨by rw [HNV.out,(b8 HGG.out).1,(b8 HGG.out).2],al HBL.out H2.out⟩
section
open Go.RowKit
end
section
open Go.RowKit
end
set_option maxRecDepth 100000
set_option maxHeartbeats 4000000
open Go.RowKit Go.Proofs.Tryz
def mb (r:R4):List UInt8:=(bG r.c1 r.r1).1++(if r.c1=r.c2∧r.r1=r.r2 then [] else 58::(bG r.c2 r.r2).1)
def im (r:R4):List UInt8×Int:=if aG r=true then (mb r,0) else ([],3)
theorem tS {r:R4} (h:aG r=false):im r=([],3):=by unfold im; rw [if_neg (by simp [h])]
theorem mc {r:R4} (h:aG r=true):im r=(mb r,0):=by unfold im; rw [if_pos h]
theorem l5 {a1 a2 a3 a4:Int} (h:aG ⟨a1,a2,a3,a4⟩=true):ba a1 a2=true∧ba a3 a4=true:=by
 unfold aG at h; simp only [Bool.and_eq_true] at h; exact ⟨h.1.1.1,h.1.1.2⟩
theorem dL (c r:Int):(bG c r).1.length≤3000:=by
 cases hv:ba c r
 ·rw [iM c r hv]; simp
 have:=ij hv
 rw [gO c r hv]
 have h1:=gS c.toNat (by omega)
 have h2:=oT r.toNat (by omega)
 simp; omega
theorem iR (a1 a2 a3 a4:Int) (w:World) (hp:Pow w) :
  Calls prog 89 #[.agg #[.int .i64 a1,.int .i64 a2,.int .i64 a3,.int .i64 a4]] w fun e w'=>e=.returned (.tuple #[.string ⟨(im ⟨a1,a2,a3,a4⟩).1.toArray⟩,.int .i64 (im ⟨a1,a2,a3,a4⟩).2])∧Below w.heap.size w w':=by
 have hb0:Below w.heap.size w (w.alloc (.cells #[.int .i64 a1,.int .i64 a2,.int .i64 a3,.int .i64 a4] 37)):=(Below.refl _ _).alloc (Nat.le_refl _) _
 have k0:=Blk.new w 37 #[.int .i64 a1,.int .i64 a2,.int .i64 a3,.int .i64 a4]
 have hz0:w.heap.size<(w.alloc (.cells #[.int .i64 a1,.int .i64 a2,.int .i64 a3,.int .i64 a4] 37)).heap.size:=by simp
 have HP:=Lib.hid hp
 have HB0:=Lib.hid hb0
 have HK:=Lib.hid k0
 clear hb0 k0 hp
 go_enter func89,ntmps89
 go_wp2_with fail
 generalize (w.alloc (.cells #[.int .i64 a1,.int .i64 a2,.int .i64 a3,.int .i64 a4] 37))=W0 at HB0 HK hz0 ⊢
 refine (bL _ _ _ _ _).mono ?_
 rintro e w1 ⟨rfl,hb1⟩
 have k1:=HK.out.below hb1 hz0
 have c0:=k1.cell 0
 have c1:=k1.cell 1
 have c2:=k1.cell 2
 have c3:=k1.cell 3
 simp only [List.getElem?_toArray,List.getElem?_cons_zero,List.getElem?_cons_succ] at c0 c1 c2 c3
 have HB1:=Lib.hid (al HB0.out hb1)
 clear hb1 k1 HB0 HK hz0
 have hv1:bD ⟨a1,a2,a3,a4⟩=if aG ⟨a1,a2,a3,a4⟩=true then 0 else 3:=rfl
 cases ha:aG ⟨a1,a2,a3,a4⟩
 ·rw [ha] at hv1
  rw [hv1]
  have HA:=Lib.hid (tS ha)
  clear ha hv1
  go_wp2_with fail
  go_ret2
  exact ⟨by rw [HA.out]; rfl,HB1.out⟩
 rw [ha] at hv1
 rw [hv1]
 obtain ⟨hva,hvb⟩:=l5 ha
 have HVA:=Lib.hid hva
 have HVB:=Lib.hid hvb
 have HA:=Lib.hid (mc ha)
 clear ha hv1 hva hvb
 go_wp2_with fail
 refine (ia _ _ _ _ _).mono ?_
 rintro e w2 ⟨rfl,hb2⟩
 have HB2:=Lib.hid (al HB1.out hb2)
 clear hb2 c0 c1 c2 c3 HB1
 have hb3:Below w.heap.size w ((w2.alloc (.cells #[.int .i64 a1,.int .i64 a2] 46)).alloc (.cells #[.int .i64 a3,.int .i64 a4] 46)):=(HB2.out.alloc HB2.out.size _).alloc (by have:=HB2.out.size; simp; omega) _
 have K1:Blk ((w2.alloc (.cells #[.int .i64 a1,.int .i64 a2] 46)).alloc (.cells #[.int .i64 a3,.int .i64 a4] 46)) w2.heap.size 46 #[.int .i64 a1,.int .i64 a2]:=(Blk.new w2 46 #[.int .i64 a1,.int .i64 a2]).alloc _
 have K2:Blk ((w2.alloc (.cells #[.int .i64 a1,.int .i64 a2] 46)).alloc (.cells #[.int .i64 a3,.int .i64 a4] 46)) (w2.heap.size+1) 46 #[.int .i64 a3,.int .i64 a4]:=by
  have:=Blk.new (w2.alloc (.cells #[.int .i64 a1,.int .i64 a2] 46)) 46 #[.int .i64 a3,.int .i64 a4]
  simpa using this
 have hz:w2.heap.size+1<((w2.alloc (.cells #[.int .i64 a1,.int .i64 a2] 46)).alloc (.cells #[.int .i64 a3,.int .i64 a4] 46)).heap.size:=by simp
 have HB3:=Lib.hid hb3
 have HK1:=Lib.hid K1
 have HK2:=Lib.hid K2
 clear hb3 K1 K2
 go_wp2_with fail
 generalize ((w2.alloc (.cells #[.int .i64 a1,.int .i64 a2] 46)).alloc (.cells #[.int .i64 a3,.int .i64 a4] 46))=W4 at HB3 HK1 HK2 hz ⊢
 refine (fj _ _ _ (HP.out.below HB3.out)).mono ?_
 rintro e w5 ⟨rfl,hb⟩
 have k1:=HK1.out.below hb (by omega)
 have k2:=HK2.out.below hb (by omega)
 have c0:=k1.cell 0
 have c1:=k1.cell 1
 simp only [List.getElem?_toArray,List.getElem?_cons_zero,List.getElem?_cons_succ] at c0 c1
 have d0:=k2.cell 0
 have d1:=k2.cell 1
 simp only [List.getElem?_toArray,List.getElem?_cons_zero,List.getElem?_cons_succ] at d0 d1
 have hz5:w2.heap.size+1<w5.heap.size:=by have:=hb.size; omega
 have HB5:=Lib.hid (al HB3.out hb)
 clear hb k1 k2 HB3 HK1 HK2 hz
 have hl1:=dL a1 a2
 generalize hS:(bG a1 a2).1=S at hl1 ⊢
 have HS:=Lib.hid hS
 clear hS
 rcases (show (¬ a1=a3)∨(a1=a3∧¬ a2=a4)∨(a1=a3∧a2=a4) from by omega) with hne | ⟨he,hne⟩ | ⟨he,he2⟩
 ·have HF:Hid (mb ⟨a1,a2,a3,a4⟩=S++58::(bG a3 a4).1):=by show _=_; unfold mb; simp only []; rw [if_neg (fun h=>hne h.1),HS.out]
  go_wp2_with fail
  refine (fj _ _ _ (HP.out.below HB5.out)).mono ?_
  rintro e w6 ⟨rfl,hb⟩
  have HB6:=Lib.hid (al HB5.out hb)
  clear hb
  have hl2:=dL a3 a4
  generalize hT:(bG a3 a4).1=U at hl2 HF ⊢
  have HT:=Lib.hid hT
  clear hT
  go_wp2_with fail
  go_ret2
  exact ⟨by rw [HA.out,HF.out]; simp [bytes_append],HB6.out⟩
 ·subst he
  have HF:Hid (mb ⟨a1,a2,a1,a4⟩=S++58::(bG a1 a4).1):=by show _=_; unfold mb; simp only []; rw [if_neg (fun h=>hne h.2),HS.out]
  go_wp2_with fail
  refine (fj _ _ _ (HP.out.below HB5.out)).mono ?_
  rintro e w6 ⟨rfl,hb⟩
  have HB6:=Lib.hid (al HB5.out hb)
  clear hb
  have hl2:=dL a1 a4
  generalize hT:(bG a1 a4).1=U at hl2 HF ⊢
  have HT:=Lib.hid hT
  clear hT
  go_wp2_with fail
  go_ret2
  exact ⟨by rw [HA.out,HF.out]; simp [bytes_append],HB6.out⟩
 subst he
 subst he2
 have HF:Hid (mb ⟨a1,a2,a1,a2⟩=S):=by show _=_; unfold mb; simp only []; rw [if_pos (by simp),HS.out,List.append_nil]
 go_wp2_with fail
 go_ret2
 exact ⟨by rw [HA.out,HF.out]; rfl,HB5.out⟩
def Fol (u:List Tk) (k:Nat):Prop:=∀ t r,u=t::r→¬ (t.kind=8∧k<aT t.num)
theorem Fol.mono {u:List Tk} {k l:Nat} (h:Fol u k) (hl:k≤l):Fol u l:=fun t r e g=>h t r e ⟨g.1,by omega⟩
theorem Fol.nil (k:Nat):Fol [] k:=fun t r e=>by cases e
theorem Fol.cons {t:Tk} {r:List Tk} {k:Nat} (h:¬ (t.kind=8∧k<aT t.num)):Fol (t::r) k:=fun t2 r2 e=>by obtain ⟨rfl,rfl⟩:=List.cons.inj e; exact h
def PrP (ts:List Tk) (ns:List Nd):Prop:=∃ n,∀ u,Pk .pr (ts++u) u ns n
def PcP (ts:List Tk) (ns:List Nd):Prop:=∃ ts0 qs ns0,ts=ts0++qs∧ns=ns0++List.replicate qs.length dt∧(∀ q∈qs,q.kind=8∧q.num=13)∧PrP ts0 ns0
def SgP (ts:List Tk) (ns:List Nd):Prop:=∀ u,Fol u 5→∃ n,Pk .sg (ts++u) u ns n
def CtP (k:Nat) (ts:List Tk) (ns:List Nd):Prop:=∀ u v ms m,Fol u k→Pk (.ops k) u v ms m→Pk (.lv k) (ts++u) v (ns++ms) m
def Str (l:Nat) (ts:List Tk) (ns:List Nd):Prop:=(7≤l→PcP ts ns)∧(5≤l→SgP ts ns)∧∀ k,1≤k→k≤4→k≤l→CtP k ts ns
theorem yh {ts u:List Tk} {ns:List Nd} {n:Nat} (h:Pk .pr ts u ns n):bO ts 2=false:=by
 cases h <;> simp [bO] <;> omega
theorem vb (qs u:List Tk) (hq:∀ q∈qs,q.kind=8∧q.num=13) (hu:Fol u 6):cr (qs++u)=(u,qs.length):=by
 induction qs with
 | nil =>
  cases u with
  | nil=>rfl
  | cons t r =>
   have:=hu t r rfl
   show cr (t::r)=_
   rw [cr,if_neg]
   ·rfl
   rintro ⟨h8,h13⟩
   exact this ⟨h8,by rw [h13]; decide⟩
 | cons q qs ih =>
  show cr (q::(qs++u))=_
  rw [cr,if_pos (hq q (by simp)),ih fun x hx=>hq x (by simp [hx])]
  rfl
theorem PcP.pc {ts:List Tk} {ns:List Nd} (h:PcP ts ns) (u:List Tk) (hu:Fol u 6):∃ n,Pk .pc (ts++u) u ns n∧bO (ts++u) 2=false:=by
 obtain ⟨ts0,qs,ns0,rfl,rfl,hq,n,hp⟩:=h
 have h1:=hp (qs++u)
 have h2:=Pk.pc h1
 rw [vb qs u hq hu] at h2
 exact ⟨0,by rw [List.append_assoc]; exact h2,by rw [List.append_assoc]; exact yh h1⟩
theorem wB {u:List Tk} {k:Nat} {op:Int} (h:Fol u k) (hk:k<aT op):bO u op=false:=by
 cases u with
 | nil=>rfl
 | cons t r =>
  cases hq:bO (t::r) op with
  | false=>rfl
  | true =>
   simp only [bO,decide_eq_true_eq] at hq
   exact absurd ⟨hq.1,by rw [hq.2]; exact hk⟩ (h t r rfl)
theorem PcP.sg {ts:List Tk} {ns:List Nd} (h:PcP ts ns):SgP ts ns:=fun u hu=>by
 obtain ⟨n,h1,h2⟩:=h.pc u (hu.mono (by decide))
 exact ⟨0,.bare h2 h1 (wB hu (by decide))⟩
theorem PrP.pc {ts:List Tk} {ns:List Nd} (h:PrP ts ns):PcP ts ns:=⟨ts,[],ns,by simp,by simp,by simp,h⟩
theorem ops_stop (u:List Tk) (k j:Nat) (h:Fol u k) (hj:k<j):Pk (.ops j) u u [] 0:=by
 cases u with
 | nil=>exact .nil
 | cons t r=>exact .stop fun g=>h t r rfl ⟨g.1,by omega⟩
theorem SgP.up {ts:List Tk} {ns:List Nd} (h:SgP ts ns) (u:List Tk) (hu:Fol u 4):∃ n,Pk (.lv 5) (ts++u) u ns n:=by
 obtain ⟨n,g⟩:=h u (hu.mono (by decide))
 exact ⟨n,.lv5 (Nat.le_refl _) g⟩
theorem CtP.up {ts:List Tk} {ns:List Nd} {k:Nat} (h:CtP (k+1) ts ns) (u:List Tk) (hu:Fol u k):∃ n,Pk (.lv (k+1)) (ts++u) u ns n:=by
 have g:=h u u [] 0 (hu.mono (by omega)) (ops_stop u k (k+1) hu (by omega))
 rw [List.append_nil] at g
 exact ⟨0,g⟩
theorem vG {ts:List Tk} {ns:List Nd} {k:Nat} (hk:k≤4) (h:∀ u,Fol u k→∃ n,Pk (.lv (k+1)) (ts++u) u ns n):CtP k ts ns:=fun u v ms m hu g=>by
 obtain ⟨n,h1⟩:=h u hu
 exact .lv (by omega) h1 g
theorem CtP.down {ts:List Tk} {ns:List Nd} {k:Nat} (h:CtP k ts ns) (hk:k≤4):∀ d j,j+d=k→CtP j ts ns
 | 0,j,e=>by
  obtain rfl:j=k:=by omega
  exact h
 | d+1,j,e=>vG (by omega) (fun u hu=>(CtP.down h hk d (j+1) (by omega)).up u hu)
theorem SgP.ct {ts:List Tk} {ns:List Nd} (h:SgP ts ns) (k:Nat) (hk:k≤4):CtP k ts ns :=
 (vG (k:=4) (Nat.le_refl _) (fun u hu=>h.up u hu)).down (Nat.le_refl _) (4 - k) k (by omega)
theorem Str.mono {ts:List Tk} {ns:List Nd} {l s:Nat} (h:Str s ts ns) (hl:l≤s):Str l ts ns:=⟨fun g=>h.1 (by omega),fun g=>h.2.1 (by omega),fun k h1 h4 hk=>h.2.2 k h1 h4 (by omega)⟩
theorem Str.up {ts:List Tk} {ns:List Nd} {k:Nat} (h:Str (k+1) ts ns) (h4:k≤4) (u:List Tk) (hu:Fol u k):∃ n,Pk (.lv (k+1)) (ts++u) u ns n:=by
 by_cases e:k=4
 ·subst e; exact (h.2.1 (Nat.le_refl _)).up u hu
 exact (h.2.2 (k+1) (by omega) (by omega) (Nat.le_refl _)).up u hu
