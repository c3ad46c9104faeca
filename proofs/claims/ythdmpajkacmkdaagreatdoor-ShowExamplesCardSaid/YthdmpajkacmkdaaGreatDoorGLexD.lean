/- The contract of dec.Parse on a run of digits, with at most four places. -/
import Derived.Test.YthdmpajkacmkdaaGreatDoorGLexC
import Derived.Test.YthdmpajkacmkdaaGreatDoorGTg
import Derived.Test.YthdmpajkacmkdaaGreatDoorGLexP
import Derived.Lib.IndexBytes
namespace Go.Proofs.YthdmpajkacmkdaaGreatDoor
set_option maxRecDepth 100000
set_option maxHeartbeats 4000000
open Go.RowKit Go.Proofs.Tryz
theorem byte_at {s : ByteArray} {l : List UInt8} (h : s.data.toList = l) (i : Nat) (hi : i < s.size) : l[i]? = some (s[i]'hi):=by
 rw [← h,Array.getElem?_toList]
 exact Array.getElem?_eq_getElem hi
theorem d9 {s:ByteArray} {l:List UInt8} (h:s.data.toList=l):s.size=l.length:=by rw [← h,Array.length_toList]; rfl
theorem nl (l:List UInt8) (k:Nat) (h:k<l.length):gB (l.take (k+1))=10 * gB (l.take k)+(l[k].toNat - 48):=by
 unfold gB
 rw [List.take_succ_eq_append_getElem h,List.foldl_append]
 rfl
def bF:Nat:=9223372036854775807
def rM (n:Nat):Int:=if n≤bF then n else 0
def rL (n:Nat):Int:=if n≤bF then 0 else 3
theorem cB {n:Nat} (h:n≤bF):rM n=n∧rL n=0:=⟨if_pos h,if_pos h⟩
theorem dl {n:Nat} (h:¬ n≤bF):rM n=0∧rL n=3:=⟨if_neg h,if_neg h⟩
theorem gH (s:ByteArray) (w:World) (hs:s.size≤300) (h0:0<s.size) (hd:∀ b∈s.data.toList,al b=true) :
  Calls prog 101 #[.string s] w fun e w'=>e=.returned (.tuple #[.int .i64 (rM (df s.data.toList [])),.int .i64 (rL (df s.data.toList []))])∧Below w.heap.size w w':=by
 have hl:=d9 (s:=s) rfl
 have hrun:s.data.toList.takeWhile al=s.data.toList:=by
  have:=(dV al s.data.toList [] hd rfl).1
  rwa [List.append_nil] at this
 have hb0 : al (s[0]'h0) = true:=hd _ (by
  have:=byte_at (s:=s) rfl 0 h0
  exact List.mem_of_getElem? this)
 have hb1 : ¬ (s[0]'h0).toNat = 45:=by
  rw [im] at hb0
  simp at hb0
  omega
 have h0':(0:Int)<s.size:=by omega
 have HD:=keep hd
 have HR:=keep hrun
 have HL:=keep hl
 clear hd hrun hl hb0
 go_enter func101,ntmps101
 go_wp2_with fail
 refine (i8 s _ (by omega)).mono ?_
 rintro e w1 ⟨rfl,rfl⟩
 rw [HR.out,← HL.out]
 go_wp2_with fail
 refine wp_region_held_drew (S:=fun _=>True) (by kernel_rfl) trivial (fun hHeld => ?_)
 refine wtc 0 ?_
 refine wtc 1 ?_
 refine wtc 2 ?_
 refine wtc 3 ?_
 refine wtc 4 ?_
 refine wtc 5 ?_
 refine wtc 6 ?_
 refine wtc 7 ?_
 refine wpAnyH_done (by kernel_rfl) ?_ _
 clear hHeld hb1 h0'
 have hne:¬ s=ByteArray.empty:=by
  rintro rfl
  simp at h0
 have hbl1:Below w1.heap.size w1 w1.drew:=(Below.refl _ _).drew
 have HBL0:=Lib.hid hbl1
 clear hbl1
 generalize w1.drew=w2 at HBL0 ⊢
 have HBL:Hid (Below w1.heap.size w1 w2):=HBL0
 obtain ⟨X,hX⟩:=ex ((⟨#[]⟩++⟨#[48,48,48,48,48]⟩:ByteArray))
 obtain ⟨T,hT⟩:=ex (s++X.extract 0 4)
 have hXs:X.size=5:=by rw [← hX]; rfl
 have hTd:T.data.toList=s.data.toList++[48,48,48,48]:=by rw [← hT,← hX]; simp
 have HT:=keep hTd
 have HTS:=keep (d9 hTd)
 have HDG:=keep (show ∀ b∈s.data.toList++[48,48,48,48],al b=true from fun b hb=>by
  rcases List.mem_append.1 hb with hb | hb
  ·exact HD.out b hb
  simp at hb; subst hb; rfl)
 have hTl:T.size≤304:=by rw [d9 hTd,List.length_append,← HL.out]; simp; omega
 have hX4 : X[4]'(by omega) = 48:=by subst hX; rfl
 have hcv:=run_bytes_of_string (P:=prog) w2 9 32 5 T underlying9 underlying32 underlying5
 have hm:=cd.made w2.drew T 5 (grownCap w2 T.size 0 5)
 have hbl:Below w2.heap.size w2 (w2.drew.alloc (.cells (bytesRow T (grownCap w2 T.size 0 5)) 5 ((bytesRow T (grownCap w2 T.size 0 5)).size,(bytesRow T (grownCap w2 T.size 0 5)).size+1))):=(Below.refl _ _).drew.alloc (Nat.le_refl _) _
 clear hTd
 have HNL:=keep (show gB (s.data.toList++[48,48,48,48])=df s.data.toList [] from by unfold df; rw [List.append_nil]; rfl)
 generalize (s.data.toList++[48,48,48,48])=l at HT HTS HDG HNL
 generalize hcp:grownCap w2 T.size 0 5=cap at hcv hm hbl
 clear hcp
 generalize (w2.drew.alloc (.cells (bytesRow T cap) 5 ((bytesRow T cap).size,(bytesRow T cap).size+1)))=W0 at hcv hm hbl
 rw [HT.out] at hm
 have HMB:=Lib.hid hm
 have HBW:=Lib.hid hbl
 clear hm hbl
 go_wp2_with fail
 clear hcv
 go_loopw [9,10,67] (fun vv gv iv wr=>∃ (k:Nat) (v:Int),k≤T.size∧iv=.int .i64 k∧vv=.int .u64 v∧gv=.bool (decide (bF<gB (l.take k)))∧bh (gB (l.take k)≤bF→v=gB (l.take k))∧Hid (cd wr w2.heap.size l)∧Hid (Below w2.heap.size w2 wr)) (fun _ _ iv _=>T.size - (intOf iv).toNat)
 case atStart=>exact ⟨0,0,Nat.zero_le _,rfl,rfl,by rw [List.take_zero]; rfl,keep (fun _=>by rw [List.take_zero]; rfl),HMB,HBW⟩
 case round =>
  clear HMB HBW
  obtain ⟨k,v,hk,rfl,rfl,rfl,HV,H1,H2⟩:=hrel
  by_cases hlt:(k:Int)<T.size
  ·have hkl:k<(l).length:=by have:=HTS.out; omega
   have hcell:=(H1.out k hkl).1
   have hfroz:=(H1.out k hkl).2
   have hdg:=HDG.out _ (List.getElem_mem hkl)
   have hstep:=nl l k hkl
   have hvv:=HV.out
   generalize (l)[k]=c at hcell hdg hstep
   generalize gB (l.take k)=V at hvv hstep ⊢
   have hc8:48≤c.toNat∧c.toNat≤57:=by rw [im] at hdg; simp at hdg; omega
   obtain ⟨hc1,hc2⟩:=hc8
   obtain ⟨d,hd⟩:∃ d:Nat,c.toNat=48+d:=⟨c.toNat - 48,by omega⟩
   have hd9:d≤9:=by omega
   have hst2:gB (l.take (k+1))=10 * V+d:=by rw [hstep,hd]; omega
   have HST:=keep hst2
   have HFZ:=keep hdg
   rw [hd] at hcell
   clear hstep hdg hst2 hc1 hc2 hd
   by_cases hG:bF<V
   ·rw [decide_eq_true hG]
    have hG2:bF<10 * V+d:=by omega
    have HG2:=keep hG2
    clear hG hG2 hvv
    by_cases hv10:v>922337203685477580
    ·go_wp2_with fail
     go_roundw
     case rel=>exact ⟨k+1,_,by omega,by go_num,rfl,by rw [HST.out,decide_eq_true HG2.out],keep (fun h9=>absurd h9 (by rw [HST.out]; have:=HG2.out; omega)),H1,H2⟩
     case measure=>simp [intOf]; omega
    go_wp2_with fail
    go_roundw
    case rel=>exact ⟨k+1,_,by omega,by go_num,rfl,by rw [HST.out,decide_eq_true HG2.out],keep (fun h9=>absurd h9 (by rw [HST.out]; have:=HG2.out; omega)),H1,H2⟩
    case measure=>simp [intOf]; omega
   rw [decide_eq_false hG]
   obtain rfl:=hvv (by omega)
   by_cases hv10:(V:Int)>922337203685477580
   ·have hG2:bF<10 * V+d:=by unfold bF; omega
    have HG2:=keep hG2
    clear hG hG2 hvv
    go_wp2_with fail
    go_roundw
    case rel=>exact ⟨k+1,_,by omega,by go_num,rfl,by rw [HST.out,decide_eq_true HG2.out],keep (fun h9=>absurd h9 (by rw [HST.out]; have:=HG2.out; omega)),H1,H2⟩
    case measure=>simp [intOf]; omega
   clear hG hvv
   have hv11:(V:Int)≤922337203685477580:=by omega
   have hdi:(d:Int)≤9:=by omega
   go_wp2_with fail
   go_roundw
   case rel=>exact ⟨k+1,10 * V+d,by omega,by go_num,by congr 1; omega,by rw [HST.out]; congr 1; unfold bF; rw [decide_eq_decide]; omega,keep (fun _=>by rw [HST.out]; simp),H1,H2⟩
   case measure=>simp [intOf]; omega
  obtain rfl:k=T.size:=by omega
  rw [show (l).take T.size=l from by rw [HTS.out,List.take_length]]
  have hvv:=HV.out
  rw [show (l).take T.size=l from by rw [HTS.out,List.take_length]] at hvv
  generalize hNV:gB l=V at hvv ⊢
  have HNV:=keep (HNL.out.symm.trans hNV)
  clear hNV
  by_cases hG:bF<V
  ·rw [decide_eq_true hG]
   have HGG:=keep (show ¬ V≤bF by omega)
   clear hvv hG
   go_wp2_with fail
   exact bodyPost_ret (v:=.tuple #[.int .i64 0,.int .i64 3]) (by simp [results,results101,go_sem]) rfl ⟨by rw [HNV.out,(dl HGG.out).1,(dl HGG.out).2],an HBL.out H2.out⟩
  obtain rfl:=hvv (by omega)
  rw [decide_eq_false hG]
  have HGG:=keep (show V≤bF by omega)
  have hV1:(V:Int)≤9223372036854775807:=by unfold bF at hG; omega
  have hV2:V≤9223372036854775807:=by omega
  clear hvv hG
  go_wp2_with fail
  refine (lL V false _ hV2).mono ?_
  rintro e w5 ⟨rfl,rfl⟩
  go_wp2_with fail
  exact bodyPost_ret (v:=.tuple #[.int .i64 V,.int .i64 0]) (by simp [results,results101,go_sem]) rfl ⟨by rw [HNV.out,(cB HGG.out).1,(cB HGG.out).2],an HBL.out H2.out⟩
theorem ou (s:ByteArray) (u p:List UInt8) (w:World) (hs:s.size≤300) (hd:s.data.toList=u++46::p) (hu:∀ b∈u,al b=true) (hp:∀ b∈p,al b=true) (hu0:u≠[]) (hp0:p≠[]) (hp4:p.length≤4) :
  Calls prog 101 #[.string s] w fun e w'=>e=.returned (.tuple #[.int .i64 (rM (df u p)),.int .i64 (rL (df u p))])∧Below w.heap.size w w':=by
 have hl:=d9 hd
 rw [List.length_append,List.length_cons] at hl
 have hrun:s.data.toList.takeWhile al=u:=by rw [hd]; exact (dV al u (46::p) hu (ws p)).1
 have hul:1≤u.length:=by
  cases u with
  | nil=>exact absurd rfl hu0
  | cons=>simp
 have hpl:1≤p.length:=by
  cases p with
  | nil=>exact absurd rfl hp0
  | cons=>simp
 have h0:0<s.size:=by omega
 have hb0 : al (s[0]'h0) = true:=by
  have h9:=byte_at hd 0 h0
  rw [List.getElem?_append_left (by omega)] at h9
  exact hu _ (List.mem_of_getElem? h9)
 have hb1 : ¬ (s[0]'h0).toNat = 45:=by
  rw [im] at hb0
  simp at hb0
  omega
 have h0':(0:Int)<s.size:=by omega
 obtain ⟨n,hn⟩:=ex (u.length)
 have hA:(s.extract 0 n).data.toList=u:=by rw [Lib.extract_data,hd,← hn]; simp
 have hB:(s.extract n s.size).data.toList=46::p:=by rw [Lib.extract_to_end,hd,← hn,List.drop_left]
 have hn1:n≤s.size:=by omega
 have hn2:¬ (n:Int)=0:=by omega
 have hn3:¬ n=0:=by omega
 have HR:=keep hrun
 have HN:=keep hn
 have HU:=keep hu
 have HPD:=keep hp
 clear hrun hb0 hd hu hp hu0 hp0 hn hl
 go_enter func101,ntmps101
 go_wp2_with fail
 refine (i8 s _ (by omega)).mono ?_
 rintro e w1 ⟨rfl,rfl⟩
 rw [HR.out,HN.out]
 go_wp2_with fail
 refine wp_region_held_drew (S:=fun _=>True) (by kernel_rfl) trivial (fun hHeld => ?_)
 refine wtc 0 ?_
 refine wtc 1 ?_
 refine wtc 2 ?_
 refine wtc 3 ?_
 refine wtc 4 ?_
 refine wtc 5 ?_
 refine wtc 6 ?_
 refine wtc 7 ?_
 refine wpAnyH_done (by kernel_rfl) ?_ _
 clear hHeld hb1 h0'
 have hbl1:Below w1.heap.size w1 w1.drew:=(Below.refl _ _).drew
 have HBL0:=Lib.hid hbl1
 clear hbl1
 generalize w1.drew=w2 at HBL0 ⊢
 have HBL:Hid (Below w1.heap.size w1 w2):=HBL0
 generalize s.extract 0 n=A at hA ⊢
 generalize s.extract n s.size=B at hB ⊢
 have hBs:=d9 hB
 rw [List.length_cons] at hBs
 have hB1:1<B.size:=by omega
 have hB00:0<B.size:=by omega
 have hB0 : B[0]'hB00 = 46:=by
  have h9:=byte_at hB 0 hB00
  simpa using h9.symm
 obtain ⟨C,hC⟩:=ex (B.extract 1 B.size)
 have hCd:C.data.toList=p:=by rw [← hC,Lib.extract_to_end,hB]; rfl
 have hCs:=d9 hCd
 obtain ⟨X,hX⟩:=ex ((C++⟨#[48,48,48,48,48]⟩:ByteArray))
 have hXd:X.data.toList=p++[48,48,48,48,48]:=by rw [← hX,← hCd]; simp
 have hXs:=d9 hXd
 rw [List.length_append] at hXs
 have hXs5:5≤X.size:=by simp at hXs; omega
 have hX40:4<X.size:=by omega
 have hX4 : X[4]'hX40 = 48:=by
  have h9:=byte_at hXd 4 hX40
  rw [List.getElem?_append_right (by omega)] at h9
  have h8:∀ j<5,([48,48,48,48,48]:List UInt8)[j]?=some 48:=by decide
  rw [h8 _ (by omega)] at h9
  exact (Option.some.inj h9).symm
 obtain ⟨T,hT⟩:=ex (A++X.extract 0 4)
 have hTd:T.data.toList=u++p++List.replicate (4 - p.length) 48:=by
  have h9:(X.extract 0 4).data.toList=p++List.replicate (4 - p.length) 48:=by
   rw [Lib.extract_data,hXd,List.drop_zero,List.take_append,List.take_of_length_le (by omega)]
   congr 1
   have h7:∀ j≤4,([48,48,48,48,48]:List UInt8).take j=List.replicate j 48:=by decide
   exact h7 _ (by omega)
  rw [← hT]
  simp only [ByteArray.data_append,Array.toList_append,hA,h9,List.append_assoc]
 have HT:=keep hTd
 have HTS:=keep (d9 hTd)
 have HDG:=keep (show ∀ b∈u++p++List.replicate (4 - p.length) 48,al b=true from fun b hb=>by
  rcases List.mem_append.1 hb with hb | hb
  ·rcases List.mem_append.1 hb with hb | hb
   ·exact HU.out b hb
   exact HPD.out b hb
  rw [(List.mem_replicate.1 hb).2]; rfl)
 have hTl:T.size≤308:=by rw [d9 hTd,List.length_append,List.length_append,List.length_replicate]; have:=HN.out; omega
 have hcv:=run_bytes_of_string (P:=prog) w2 9 32 5 T underlying9 underlying32 underlying5
 have hm:=cd.made w2.drew T 5 (grownCap w2 T.size 0 5)
 have hbl:Below w2.heap.size w2 (w2.drew.alloc (.cells (bytesRow T (grownCap w2 T.size 0 5)) 5 ((bytesRow T (grownCap w2 T.size 0 5)).size,(bytesRow T (grownCap w2 T.size 0 5)).size+1))):=(Below.refl _ _).drew.alloc (Nat.le_refl _) _
 have HNL:=keep (show gB (u++p++List.replicate (4 - p.length) 48)=df u p from rfl)
 generalize (u++p++List.replicate (4 - p.length) 48)=l at HT HTS HDG HNL
 have HCR:=keep (show (C.data.toList.takeWhile al).length=p.length by
  rw [hCd]
  have h9:=(dV al p [] HPD.out rfl).1
  rw [List.append_nil] at h9
  rw [h9])
 have hBq3:(p.length:Int)=(B.size:Int) - 1:=by omega
 have hBq2:((p.length:Int) == (B.size:Int) - 1)=true:=by rw [hBq3]; simp
 have hAs:A.size≤300:=by rw [d9 hA]; have:=HN.out; omega
 have hBs3:B.size≤300:=by omega
 have hXs6:X.size≤10:=by simp at hXs; omega
 have hCz:C.size≤300:=by omega
 clear hBq3
 clear hTd hXd hA hB hCd hBs hXs hCs hul hpl hn1
 go_wp2_with fail
 refine (i8 C _ (by omega)).mono ?_
 rintro e w3 ⟨rfl,hw3⟩
 obtain rfl:w2=w3:=hw3.symm
 rw [HCR.out]
 generalize hcp:grownCap w2 T.size 0 5=cap at hcv hm hbl
 clear hcp
 generalize (w2.drew.alloc (.cells (bytesRow T cap) 5 ((bytesRow T cap).size,(bytesRow T cap).size+1)))=W0 at hcv hm hbl
 rw [HT.out] at hm
 have HMB:=Lib.hid hm
 have HBW:=Lib.hid hbl
 clear hm hbl
 go_wp2_with fail
 clear hcv
 go_loopw [9,10,67] (fun vv gv iv wr=>∃ (k:Nat) (v:Int),k≤T.size∧iv=.int .i64 k∧vv=.int .u64 v∧gv=.bool (decide (bF<gB (l.take k)))∧bh (gB (l.take k)≤bF→v=gB (l.take k))∧Hid (cd wr w2.heap.size l)∧Hid (Below w2.heap.size w2 wr)) (fun _ _ iv _=>T.size - (intOf iv).toNat)
 case atStart=>exact ⟨0,0,Nat.zero_le _,rfl,rfl,by rw [List.take_zero]; rfl,keep (fun _=>by rw [List.take_zero]; rfl),HMB,HBW⟩
 case round =>
  clear HMB HBW
  obtain ⟨k,v,hk,rfl,rfl,rfl,HV,H1,H2⟩:=hrel
  by_cases hlt:(k:Int)<T.size
  ·have hkl:k<(l).length:=by have:=HTS.out; omega
   have hcell:=(H1.out k hkl).1
   have hfroz:=(H1.out k hkl).2
   have hdg:=HDG.out _ (List.getElem_mem hkl)
   have hstep:=nl l k hkl
   have hvv:=HV.out
   generalize (l)[k]=c at hcell hdg hstep
   generalize gB (l.take k)=V at hvv hstep ⊢
   have hc8:48≤c.toNat∧c.toNat≤57:=by rw [im] at hdg; simp at hdg; omega
   obtain ⟨hc1,hc2⟩:=hc8
   obtain ⟨d,hd⟩:∃ d:Nat,c.toNat=48+d:=⟨c.toNat - 48,by omega⟩
   have hd9:d≤9:=by omega
   have hst2:gB (l.take (k+1))=10 * V+d:=by rw [hstep,hd]; omega
   have HST:=keep hst2
   have HFZ:=keep hdg
   rw [hd] at hcell
   clear hstep hdg hst2 hc1 hc2 hd
   by_cases hG:bF<V
   ·rw [decide_eq_true hG]
    have hG2:bF<10 * V+d:=by omega
    have HG2:=keep hG2
    clear hG hG2 hvv
    by_cases hv10:v>922337203685477580
    ·go_wp2_with fail
     go_roundw
     case rel=>exact ⟨k+1,_,by omega,by go_num,rfl,by rw [HST.out,decide_eq_true HG2.out],keep (fun h9=>absurd h9 (by rw [HST.out]; have:=HG2.out; omega)),H1,H2⟩
     case measure=>simp [intOf]; omega
    go_wp2_with fail
    go_roundw
    case rel=>exact ⟨k+1,_,by omega,by go_num,rfl,by rw [HST.out,decide_eq_true HG2.out],keep (fun h9=>absurd h9 (by rw [HST.out]; have:=HG2.out; omega)),H1,H2⟩
    case measure=>simp [intOf]; omega
   rw [decide_eq_false hG]
   obtain rfl:=hvv (by omega)
   by_cases hv10:(V:Int)>922337203685477580
   ·have hG2:bF<10 * V+d:=by unfold bF; omega
    have HG2:=keep hG2
    clear hG hG2 hvv
    go_wp2_with fail
    go_roundw
    case rel=>exact ⟨k+1,_,by omega,by go_num,rfl,by rw [HST.out,decide_eq_true HG2.out],keep (fun h9=>absurd h9 (by rw [HST.out]; have:=HG2.out; omega)),H1,H2⟩
    case measure=>simp [intOf]; omega
   clear hG hvv
   have hv11:(V:Int)≤922337203685477580:=by omega
   have hdi:(d:Int)≤9:=by omega
   go_wp2_with fail
   go_roundw
   case rel=>exact ⟨k+1,10 * V+d,by omega,by go_num,by congr 1; omega,by rw [HST.out]; congr 1; unfold bF; rw [decide_eq_decide]; omega,keep (fun _=>by rw [HST.out]; simp),H1,H2⟩
   case measure=>simp [intOf]; omega
  obtain rfl:k=T.size:=by omega
  rw [show (l).take T.size=l from by rw [HTS.out,List.take_length]]
  have hvv:=HV.out
  rw [show (l).take T.size=l from by rw [HTS.out,List.take_length]] at hvv
  generalize hNV:gB l=V at hvv ⊢
  have HNV:=keep (HNL.out.symm.trans hNV)
  clear hNV
  by_cases hG:bF<V
  ·rw [decide_eq_true hG]
   have HGG:=keep (show ¬ V≤bF by omega)
   clear hvv hG
   go_wp2_with fail
   exact bodyPost_ret (v:=.tuple #[.int .i64 0,.int .i64 3]) (by simp [results,results101,go_sem]) rfl ⟨by rw [HNV.out,(dl HGG.out).1,(dl HGG.out).2],an HBL.out H2.out⟩
  obtain rfl:=hvv (by omega)
  rw [decide_eq_false hG]
  have HGG:=keep (show V≤bF by omega)
  have hV1:(V:Int)≤9223372036854775807:=by unfold bF at hG; omega
  have hV2:V≤9223372036854775807:=by omega
  clear hvv hG
  go_wp2_with fail
  refine (lL V false _ hV2).mono ?_
  rintro e w5 ⟨rfl,rfl⟩
  go_wp2_with fail
  exact bodyPost_ret (v:=.tuple #[.int .i64 V,.int .i64 0]) (by simp [results,results101,go_sem]) rfl ⟨by rw [HNV.out,(cB HGG.out).1,(cB HGG.out).2],an HBL.out H2.out⟩
