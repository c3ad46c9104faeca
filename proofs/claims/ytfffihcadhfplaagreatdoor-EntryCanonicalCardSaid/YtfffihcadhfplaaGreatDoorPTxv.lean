/- show.text at calls, and at every node. show.Formula, of any nodes. show.outline and show.Outline. show.Outline, of any nodes. Plain: what the parser hands back is a tree that is shown. -/
import Derived.Test.YtfffihcadhfplaaGreatDoorPTxu
import Derived.Test.YtfffihcadhfplaaGreatDoorPParK
import Derived.Lib.Repeat
import Derived.Test.YtfffihcadhfplaaGreatDoorPParP
import Derived.Test.YtfffihcadhfplaaGreatDoorPParM
import Derived.Test.YtfffihcadhfplaaGreatDoorPShc
namespace Go.Proofs.YtfffihcadhfplaaGreatDoor
set_option maxRecDepth 100000
set_option maxHeartbeats 8000000
open Go.RowKit
def kidTx (t:List Nd) (i m:Nat):List (List UInt8):=((kidsS t i).take m).map fun j=>(txAt t j).1
theorem kidTx_succ {t:List Nd} {i m:Nat} (h:m<(kidsS t i).length):kidTx t i (m+1)=kidTx t i m++[(txAt t (kidsS t i)[m]).1]:=by
 unfold kidTx
 rw [List.take_succ_eq_append_getElem h,List.map_append]; rfl
theorem kidTx_len {t:List Nd} {i m:Nat} (h:m≤(kidsS t i).length):(kidTx t i m).length=m:=by unfold kidTx; rw [List.length_map,List.length_take]; omega
theorem join_jn:∀ xs:List Tx,Lib.join (xs.map (·.1)) [44]=jnT xs
 | []=>rfl
 | [_]=>by simp [Lib.join,jnT]
 | x::y::r=>by
  have ih:=join_jn (y::r)
  have e:Lib.join ((x::y::r).map (·.1)) [44]=x.1++([44]++Lib.join ((y::r).map (·.1)) [44]):=by
   simp [Lib.join]
  rw [e,ih]
  rfl
theorem kids_join (t:List Nd) (i:Nat):Lib.join (kidTx t i (kidsS t i).length) [44]=jnT ((kidsS t i).map (txAt t)):=by
 rw [← join_jn,List.map_map]
 unfold kidTx
 rw [List.take_length]
 rfl
theorem jn_size {t:List Nd} (hc:TChk t) {i:Nat} (hi:i<t.length):(jnT ((kidsS t i).map (txAt t))).length≤100000000:=by
 have h1:=jnT_len ((kidsS t i).map (txAt t))
 have h2:=(tx_roots t i (Nat.le_of_lt hi)).1
 have h3:=tx_sum t hc.good i (Nat.le_of_lt hi)
 rw [h2] at h3
 obtain ⟨n,hn⟩:∃ n,t[i]?=some n:=⟨_,List.getElem?_eq_getElem hi⟩
 have h4:sumX ((kidsS t i).map (txAt t))≤sumX ((rootsAt t i).map (txAt t)):=by
  rw [kids_eq hn]
  conv=>rhs; rw [← List.take_append_drop ((rootsAt t i).length - belowS n) (rootsAt t i),List.map_append,sumX_app]
  omega
 have:=hc.len
 omega
theorem info_str7:(Tryz.prog.info? 9).map (fun i=>(i.zero,i.size,i.bytes))=some (some (.string ⟨#[]⟩),1,16):=by kernel_rfl
theorem txt_7 (t:List Nd) (tb tz tc i:Nat) (vk:Nat) (vn:Int) (vt:List UInt8) (r1 r2 r3 r4 op:Int) (fn nn:Nat)  (hc:TChk t) (hi:i<t.length) (hn:t[i]?=some ⟨7,vk,vn,vt,⟨r1,r2,r3,r4⟩,op,fn,nn⟩) (IH:∀ j,j<i→TextAt t tb tz tc j) (w:World) (hin:TIn t tb tz w) :
  Calls Tryz.prog 58 #[.slice (some ⟨tb,tz,none⟩) t.length tc,.int .i64 (i:Nat)] w fun e w'=>e=.returned (.string ⟨(txAt t i).1.toArray⟩)∧Below w.heap.size w w':=by
 have hkl:(kidsS t i).length=nn:=hc.kids i _ hn
 have hfn:1≤nn∧nn≤16:=by
  rcases (hc.good _ (List.mem_of_getElem? hn)).1 with ⟨_,_,_,h,_⟩ | ⟨_,h,_⟩ | ⟨_,h,_⟩ | h | h | ⟨_,h,_⟩ | ⟨fn2,k2,h,_,_,h3,h4⟩
  iterate 6 (have:=congrArg Nd.kind h; simp [ndRef,ndRange,ndNeg,ndPct,ndBin] at this)
  have e1:nn=k2:=congrArg Nd.n h
  have:=ar_pos fn2
  have:(arS fn2).2≤16:=by unfold arS; (repeat' split) <;> decide
  omega
 have HCL:=keep (show ∀ m (h:m<(kidsS t i).length),CloAt t tb tz tc i m (0:Nat) ⟨(txAt t ((kidsS t i)[m])).1.toArray⟩ from fun m h=>by
  have:=clo_named (tc:=tc) hc hi IH h 0
  rw [opT_zero] at this
  exact this)
 have HKL:=keep hkl
 obtain ⟨R,hR⟩:∃ R:ByteArray,⟨(txAt t i).1.toArray⟩=R:=⟨_,rfl⟩
 obtain ⟨O,hO⟩:∃ O:ByteArray,⟨(ownO ⟨7,vk,vn,vt,⟨r1,r2,r3,r4⟩,op,fn,nn⟩).toArray⟩=O:=⟨_,rfl⟩
 obtain ⟨J,hJ⟩:∃ J:ByteArray,⟨(jnT ((kidsS t i).map (txAt t))).toArray⟩=J:=⟨_,rfl⟩
 have zO:O.size≤1000000000:=by rw [← hO]; exact own_size hc hn
 have hjs:=jn_size hc hi
 have zJ:J.size≤1000000000:=by
  rw [← hJ]
  show (jnT ((kidsS t i).map (txAt t))).toArray.size≤_
  rw [List.size_toArray]
  omega
 have HJ:=keep (show (⟨(Lib.join (kidTx t i nn) [44]).toArray⟩:ByteArray)=J by rw [← hJ,← kids_join,hkl])
 have HJL:=keep (show (Lib.join (kidTx t i nn) [44]).length≤140737488355328 by rw [← hkl,kids_join]; omega)
 have HR:=keep (show R=O++⟨#[40]⟩++J++⟨#[41]⟩ by
  rw [← hR,← hJ,← hO,tx_7 hn rfl]
  show _=(⟨_⟩:ByteArray)++⟨[40].toArray⟩++⟨_⟩++⟨[41].toArray⟩
  rw [bytes_append,bytes_append,bytes_append]
  simp)
 have HC5:=keep hi
 rw [hR]
 clear hR hJ hjs
 obtain ⟨h1,h2⟩:=hin.node hn
 have HKID:=keep (fun (W:World) (h:TIn t tb tz W)=>kids_at hc (tc:=tc) hi h)
 have HOWN:=keep (fun (W:World) (h:WEnv W)=>show_own ⟨7,vk,vn,vt,⟨r1,r2,r3,r4⟩,op,fn,nn⟩ (hc.good _ (List.mem_of_getElem? hn)).1 (hc.good _ (List.mem_of_getElem? hn)).2 W h)
 obtain ⟨tl,htl⟩:∃ tl,t.length=tl:=⟨_,rfl⟩
 have hki:(i:Int)<(tl:Int):=by omega
 rw [htl] at HKID ⊢
 have HTL:=keep htl
 have HIN:=keep hin
 have H1:=Lib.hid (((Ok.start w).add (kCells tb (tz+i * 11) [.int .u8 7,.int .u8 vk,.int .i64 vn,.string ⟨vt.toArray⟩,.int .i64 r1,.int .i64 r2,.int .i64 r3,.int .i64 r4,.int .i64 op,.int .u8 fn,.int .i64 nn]) ⟨h1,h2⟩).alloc w.heap.size 29 [.slice (some ⟨tb,tz,none⟩) tl tc] rfl)
 clear h1 h2 htl hin hc hi hn IH
 go_enter Tryz.func58,Tryz.ntmps58
 go_upto_region 1 with fail
 generalize (w.alloc (.cells #[.slice (some ⟨tb,tz,none⟩) tl tc] 29))=W1 at H1 ⊢
 have F2:=H1.out.sees
 simp only [sees,kBlk,kCells,cellsFrom,Nat.add_zero,cellsAt,Nat.reduceAdd] at F2
 obtain ⟨⟨z0,c00,-⟩,⟨z1,c10,c11,c12,c13,c14,c15,c16,c17,c18,c19,c1a,-⟩,-⟩:=F2
 go_upto_region 2 with fail
 clear z0 c00 z1 c10 c11 c12 c13 c14 c15 c16 c17 c18 c19 c1a
 have H3:=Lib.hid (H1.out.alloc W1.heap.size 96 [.int .u8 7,.int .u8 vk,.int .i64 vn,.string ⟨vt.toArray⟩,.int .i64 r1,.int .i64 r2,.int .i64 r3,.int .i64 r4,.int .i64 op,.int .u8 fn,.int .i64 nn] rfl)
 clear H1
 generalize (W1.alloc (.cells #[.int .u8 7,.int .u8 vk,.int .i64 vn,.string ⟨vt.toArray⟩,.int .i64 r1,.int .i64 r2,.int .i64 r3,.int .i64 r4,.int .i64 op,.int .u8 fn,.int .i64 nn] 96))=W4 at H3 ⊢
 have F5:=H3.out.sees
 simp only [sees,kBlk,kCells,cellsFrom,Nat.add_zero,cellsAt,Nat.reduceAdd] at F5
 obtain ⟨⟨z0,c00,c01,c02,c03,c04,c05,c06,c07,c08,c09,c0a,-⟩,⟨z1,c10,-⟩,⟨z2,c20,c21,c22,c23,c24,c25,c26,c27,c28,c29,c2a,-⟩,-⟩:=F5
 go_wp2_with fail
 refine (HKID.out _ (HIN.out.below H3.out.bel)).mono ?_
 rintro e w6 ⟨kv,rfl,hrow,hb7⟩
 obtain ⟨ka,kc,hkv⟩:=own_len hrow
 rw [hkl] at hkv
 subst hkv
 clear z0 c00 c01 c02 c03 c04 c05 c06 c07 c08 c09 c0a z1 c10 z2 c20 c21 c22 c23 c24 c25 c26 c27 c28 c29 c2a
 have H8:=Lib.hid ((H3.out.below hb7).add (kRow W4.heap.size 3 1 (.slice ka (nn) kc) (kidsS t i).length ((kidsS t i).map fun x=>.int .i64 (x:Nat))) hrow)
 clear hb7 H3 hrow
 have F9:=H8.out.sees
 simp only [sees,kBlk,kCells,cellsFrom,Nat.add_zero,cellsAt,Nat.reduceAdd] at F9
 obtain ⟨-,⟨z1,c10,c11,c12,c13,c14,c15,c16,c17,c18,c19,c1a,-⟩,⟨z2,c20,-⟩,⟨z3,c30,c31,c32,c33,c34,c35,c36,c37,c38,c39,c3a,-⟩,-⟩:=F9
 go_upto_region 3 with fail
 have y10:=z1
 have y11:=z2
 have y12:=z3
 clear z1 c10 c11 c12 c13 c14 c15 c16 c17 c18 c19 c1a z2 c20 z3 c30 c31 c32 c33 c34 c35 c36 c37 c38 c39 c3a
 have H13:=Lib.hid (H8.out.var w6.heap.size 125 [.slice ka (nn) kc] rfl)
 clear H8
 generalize (w6.alloc (.cells #[.slice ka (nn) kc] 125))=W14 at H13 ⊢
 have F15:=H13.out.sees
 simp only [sees,kBlk,kVar,kCells,cellsFrom,Nat.add_zero,cellsAt,Nat.reduceAdd] at F15
 obtain ⟨⟨⟨z0,fz0⟩,c00,-⟩,-,⟨z2,c20,c21,c22,c23,c24,c25,c26,c27,c28,c29,c2a,-⟩,⟨z3,c30,-⟩,⟨z4,c40,c41,c42,c43,c44,c45,c46,c47,c48,c49,c4a,-⟩,-⟩:=F15
 rw [hO] at HOWN
 clear hO
 obtain ⟨i0,hi,hz0,hz1,hz2⟩:=info_parts info_str7
 have z40:(⟨#[40]⟩:ByteArray).size=1:=rfl
 have z41:(⟨#[41]⟩:ByteArray).size=1:=rfl
 have HST:=Lib.hid (OkRow.start H13.out 9 1)
 go_wp2_with fail
 clear z0 fz0 c00 z2 c20 c21 c22 c23 c24 c25 c26 c27 c28 c29 c2a z3 c30 z4 c40 c41 c42 c43 c44 c45 c46 c47 c48 c49 c4a
 go_loopw [11,60] (fun av iv wr=>∃ m:Nat,m≤nn∧iv=.int .i64 (m:Int)∧Hid (OkRow w [kVar (w6.heap.size) 125 [.slice ka (nn) kc],kRow W4.heap.size 3 1 (.slice ka (nn) kc) (kidsS t i).length ((kidsS t i).map fun x=>.int .i64 (x:Nat)),kBlk (W1.heap.size) 96 [.int .u8 7,.int .u8 vk,.int .i64 vn,.string ⟨vt.toArray⟩,.int .i64 r1,.int .i64 r2,.int .i64 r3,.int .i64 r4,.int .i64 op,.int .u8 fn,.int .i64 nn],kBlk (w.heap.size) 29 [.slice (some ⟨tb,tz,none⟩) tl tc],kCells tb (tz+i * 11) [.int .u8 7,.int .u8 vk,.int .i64 vn,.string ⟨vt.toArray⟩,.int .i64 r1,.int .i64 r2,.int .i64 r3,.int .i64 r4,.int .i64 op,.int .u8 fn,.int .i64 nn]] 9 1 av m (strsV (kidTx t i m)) wr)) (fun _ iv _=>nn - (intOf iv).toNat)
 case atStart=>exact ⟨0,Nat.zero_le _,rfl,HST⟩
 case round =>
  clear HST H13
  obtain ⟨m,hmk,rfl,HRW⟩:=hrel
  obtain ⟨wq,rfl⟩:∃ wq:World,wq=wr:=⟨_,rfl⟩
  by_cases hlm:(m:Int)<(nn:Int)
  ·have hml:m<(kidsS t i).length:=by rw [HKL.out]; omega
   have hcm:=HCL.out m hml
   have HKX:=keep (kidTx_succ hml)
   obtain ⟨L,hL⟩ : ∃ L,(txAt t ((kidsS t i)[m]'hml)).1 = L:=⟨_,rfl⟩
   rw [hL] at hcm HKX
   obtain ⟨X,hX⟩:∃ X:ByteArray,byt L=X:=⟨_,rfl⟩
   have HCM:=keep (show CloAt t tb tz tc i m (0:Nat) X by rw [← hX]; exact hcm)
   have HX:=keep hX
   clear hcm hX hL hml
   go_wp2_with fail
   refine (HCM.out _ w.heap.size (w6.heap.size) W4.heap.size (.slice ka (nn) kc) (HIN.out.below HRW.out.ok.bel) (show Blk _ _ _ _ by rw [HTL.out]; exact HRW.out.ok.get (kBlk (w.heap.size) 29 [.slice (some ⟨tb,tz,none⟩) tl tc]) (by simp)) (HRW.out.ok.get (kVar (w6.heap.size) 125 [.slice ka (nn) kc]) (by simp)) (HRW.out.ok.get (kRow W4.heap.size 3 1 (.slice ka (nn) kc) (kidsS t i).length ((kidsS t i).map fun x=>.int .i64 (x:Nat))) (by simp))).mono ?_
   rintro e w8 ⟨rfl,hb8⟩
   have HR2:=Lib.hid (HRW.out.below hb8)
   clear hb8 HRW
   go_wp2_with (at_builtin; refine wpList_append_lies _ rfl _ _ _ rfl w.heap.size 9 i0 _ 1 16 Tryz.underlying131 hi hz0 hz1 hz2 rfl (by omega) _ _ _ rfl (HR2.out.own.alloc _) ⟨w8.heap.size,0,none⟩ 1 1 [.string X] rfl rfl (World.news_of_block (cs:=#[.string X]) (t:=9) (fr:=(0,0)) (heap_alloc_new _ _)) (by intro u hu; simp at hu; rcases hu with rfl; rfl) (by omega) (by unfold maxLen; omega) (by omega) (by have:=HR2.out.ok.bel.size; simp; omega) _ rfl ?_; intro g5 cap5 w5b hown5 hgrow5 hat5 hlt5)
   go_roundw
   case rel =>
    have h9:=(HR2.out.alloc_obj _).appended hown5 hgrow5 hat5
    refine ⟨m+1,by omega,by go_num,Lib.hid ?_⟩
    rw [HKX.out,strsV_snoc,HX.out]
    exact h9
   case measure=>simp [intOf]; omega
  ·obtain rfl:nn=m:=by omega
   obtain ⟨ava,avc,hav⟩:=own_len HRW.out.own
   subst hav
   have HOK:=Lib.hid HRW.out.ok
   have F16:=HOK.out.sees
   simp only [sees,kBlk,kVar,kCells,cellsFrom,Nat.add_zero,cellsAt,Nat.reduceAdd] at F16
   obtain ⟨⟨⟨z0,fz0⟩,c00,-⟩,-,⟨z2,c20,c21,c22,c23,c24,c25,c26,c27,c28,c29,c2a,-⟩,⟨z3,c30,-⟩,⟨z4,c40,c41,c42,c43,c44,c45,c46,c47,c48,c49,c4a,-⟩,-⟩:=F16
   clear HOK
   go_wp2_with fail
   refine (HOWN.out _ (HIN.out.below HRW.out.ok.bel).env).mono ?_
   rintro e w9 ⟨rfl,hb9⟩
   have HR3:=Lib.hid (HRW.out.below hb9)
   clear z0 fz0 c00 z2 c20 c21 c22 c23 c24 c25 c26 c27 c28 c29 c2a z3 c30 z4 c40 c41 c42 c43 c44 c45 c46 c47 c48 c49 c4a
   clear hb9 HRW
   go_wp2_with fail
   refine (join_own (kidTx t i nn) 44 (show World.ownsRow _ _ _ _ _ _ _ by rw [kidTx_len (by rw [HKL.out]; exact Nat.le_refl _)]; exact HR3.out.own) (by intro h9; have h8:=kidTx_len (t:=t) (i:=i) (m:=nn) (by rw [HKL.out]; exact Nat.le_refl _); rw [h9] at h8; simp at h8; omega) (by rw [kidTx_len (by rw [HKL.out]; exact Nat.le_refl _)]; omega) HJL.out).mono ?_
   rintro e w10 ⟨rfl,hb10⟩
   rw [HJ.out]
   have HR4:=Lib.hid (HR3.out.ok.below hb10)
   clear hb10 HR3
   go_wp2_with fail
   go_ret
   exact ⟨by rw [HR.out]; rfl,HR4.out.bel⟩
theorem show_text (t:List Nd) (tb tz tc:Nat) (hc:TChk t):∀ i,i<t.length→TextAt t tb tz tc i:=by
 intro i
 induction i using Nat.strongRecOn with
 | _ i ih =>
  intro hi w hin
  have IH:∀ j,j<i→TextAt t tb tz tc j:=fun j hj=>ih j hj (by omega)
  obtain ⟨n,hn⟩:∃ n,t[i]?=some n:=⟨_,List.getElem?_eq_getElem hi⟩
  rcases (hc.good n (List.mem_of_getElem? hn)).1 with ⟨vk,vn,vt,rfl,hv⟩ | ⟨⟨a,b,c,d⟩,rfl,hck,h1,h2⟩ | ⟨⟨a,b,c,d⟩,rfl,hck,hne⟩ | rfl | rfl | ⟨op,rfl,h1,h2⟩ | ⟨fn,k,rfl,h1,h2,h3,h4⟩
  ·exact txt_1 t tb tz tc i vk vn vt 0 0 0 0 0 0 0 hc hi hn w hin
  ·exact txt_2 t tb tz tc i 0 0 [] a b c d 0 0 0 hc hi hn w hin
  ·exact txt_3 t tb tz tc i 0 0 [] a b c d 0 0 0 hc hi hn w hin
  ·exact txt_4 t tb tz tc i 0 0 [] 0 0 0 0 0 0 0 hc hi hn IH w hin
  ·exact txt_5 t tb tz tc i 0 0 [] 0 0 0 0 0 0 0 hc hi hn IH w hin
  ·by_cases h5:op=5
   ·subst h5
    exact txt_65 t tb tz tc i 0 0 [] 0 0 0 0 0 0 hc hi hn IH w hin
   ·exact txt_6 t tb tz tc i 0 0 [] 0 0 0 0 op 0 0 h5 hc hi hn IH w hin
  ·exact txt_7 t tb tz tc i 0 0 [] 0 0 0 0 0 fn k hc hi hn IH w hin
set_option maxRecDepth 100000
set_option maxHeartbeats 4000000
theorem tchk_of {t:List NdA} (h:checkA t=0) (hn:∀ a∈t,a.vn≤9223372036854775807):t=(t.map NdA.nd).map Nd.any∧TChk (t.map NdA.nd)∧t≠[]∧∃ p,walkW (t.map NdA.nd) 0 (t.map NdA.nd) []=.ok [p]∧walkX (t.map NdA.nd) 0 t []=.ok [p]:=by
 obtain ⟨hg,hc,h0,hl,p,hw⟩:=checkA_zero h
 have he:t=(t.map NdA.nd).map Nd.any:=by
  rw [List.map_map]
  conv=>lhs; rw [← List.map_id t]
  exact List.map_congr_left fun a ha=>(fields_zero (hg a ha)).2.2
 have hww:walkW (t.map NdA.nd) 0 (t.map NdA.nd) []=.ok [p]:=by
  have:=walkX_good (t.map NdA.nd) t 0 [] hg
  rw [← this]; exact hw
 have hne:t.map NdA.nd≠[]:=by simpa using h0
 refine ⟨he,⟨?_,by rw [← he]; exact h,by rw [List.length_map]; exact hl,(tree_roots hww hne).2.1⟩,h0,p,hww,hw⟩
 intro n hm
 obtain ⟨a,ha,rfl⟩:=List.mem_map.1 hm
 exact ⟨(fields_zero (hg a ha)).1,hn a ha⟩
noncomputable def showF (t:List NdA):List UInt8×Int:=if checkA t≠0 then ([],checkA t) else if 256<(showT (t.map NdA.nd)).length then ([],5) else (showT (t.map NdA.nd),0)
theorem showF_bad {t:List NdA} (h:checkA t≠0):showF t=([],checkA t):=if_pos h
theorem showF_long {t:List NdA} (h:checkA t=0) (hl:256<(showT (t.map NdA.nd)).length):showF t=([],5):=by unfold showF; rw [if_neg (by rw [h]; decide),if_pos hl]
theorem showF_ok {t:List NdA} (h:checkA t=0) (hl:¬ 256<(showT (t.map NdA.nd)).length):showF t=(showT (t.map NdA.nd),0):=by unfold showF; rw [if_neg (by rw [h]; decide),if_neg hl]
structure AIn (t:List NdA) (ta:Option Addr) (w:World):Prop where
 rows:RowsAt w ta 11 (t.map aRow)
 env:WEnv w
theorem AIn.below {t:List NdA} {ta:Option Addr} {w w':World} (h:AIn t ta w) (hb:Below w.heap.size w w'):AIn t ta w':=⟨h.rows.below hb,h.env.below hb⟩
structure ASz (t:List NdA):Prop where
 len:t.length≤1000
 txt:∀ a∈t,a.vt.length≤4611686018427387904
 num:∀ a∈t,a.vn≤9223372036854775807
theorem AIn.tin {t:List NdA} {ta:Option Addr} {w:World} (h:AIn t ta w) (hc:checkA t=0) (hs:ASz t):∃ tb tz,ta=some ⟨tb,tz,none⟩∧TIn (t.map NdA.nd) tb tz w:=by
 obtain ⟨he,-,h0,-⟩:=tchk_of hc hs.num
 obtain ⟨tb,tz,e,-,-⟩:=h.rows (by simpa using h0)
 refine ⟨tb,tz,e,?_,h.env⟩
 have:=h.rows
 rw [e,he,any_rows] at this
 exact this
theorem show_Formula (t:List NdA) (ta:Option Addr) (tc:Nat) (w:World) (hs:ASz t) (hin:AIn t ta w) :
  Calls Tryz.prog 28 #[.slice ta t.length tc] w fun e w'=>e=.returned (.tuple #[.string ⟨(showF t).1.toArray⟩,.int .i64 (showF t).2])∧Below w.heap.size w w':=by
 have HCK:=keep (tree_CheckA t ta tc w hin.rows hs.len hs.txt)
 obtain ⟨tl,htl⟩:∃ tl,t.length=tl:=⟨_,rfl⟩
 by_cases hc:checkA t=0
 ·obtain ⟨he,hk,h0,p,hw,-⟩:=tchk_of hc hs.num
  obtain ⟨tb,tz,rfl,htin⟩:=hin.tin hc hs
  have hpos:0<t.length:=List.length_pos_iff.2 h0
  have hne:t.map NdA.nd≠[]:=by simpa using h0
  have htx:(txAt (t.map NdA.nd) (tl - 1)).1=showT (t.map NdA.nd):=by
   have:=(tree_roots hw hne).2.2.1
   rw [List.length_map,htl] at this
   exact this.symm
  have hlen:=tx_len _ hk.good (tl - 1) (by rw [List.length_map]; omega)
  rw [htx] at hlen
  have hkl:=hk.len
  obtain ⟨S,hS⟩:∃ S,showT (t.map NdA.nd)=S:=⟨_,rfl⟩
  have HTX:=keep (fun w2 (h:TIn (t.map NdA.nd) tb tz w2)=>by
   have:=show_text (t.map NdA.nd) tb tz tc hk (tl - 1) (by rw [List.length_map]; omega) w2 h
   rw [htx,hS,List.length_map,htl] at this
   exact this)
  have HIN:=keep htin
  have hsz:S.length≤100000000:=by rw [← hS]; omega
  rw [hc,htl] at HCK
  have hp1:0<tl:=by omega
  obtain ⟨l1,hl1⟩:∃ l1,tl - 1=l1:=⟨_,rfl⟩
  rw [hl1] at HTX
  have hi1:IntKind.i64.wrap ((tl:Int) - 1)=(l1:Int):=by rw [Go.IntWalk.i64_in _ (by have:=hs.len; omega)]; omega
  rw [htl]
  have hss:(⟨S.toArray⟩:ByteArray).size=S.length:=by show S.toArray.size=_; simp
  by_cases h256:256<S.length
  ·have hf:=showF_long hc (by rw [hS]; exact h256)
   rw [hf]
   have hgt:(((⟨S.toArray⟩:ByteArray).size:Nat):Int)>256:=by rw [hss]; omega
   obtain ⟨X,hX⟩:∃ X:ByteArray,⟨S.toArray⟩=X:=⟨_,rfl⟩
   rw [hX] at HTX hgt
   clear hf h256 hss hX hsz hlen htx hw hne hpos h0 he hk hin htin hS hc hs
   go_enter Tryz.func28,Tryz.ntmps28
   go_wp2_with fail
   refine HCK.out.mono ?_
   rintro e w1 ⟨rfl,hb⟩
   have HB:=Lib.hid hb
   have HI2:=keep (HIN.out.below hb)
   clear hb
   go_wp2_with fail
   refine (HTX.out _ HI2.out).mono ?_
   rintro e w2 ⟨rfl,hb⟩
   have HB2:=Lib.hid (below_step HB.out hb)
   clear hb
   go_wp2_with fail
   exact bodyPost_ret (v:=.tuple #[.string ⟨#[]⟩,.int .i64 5]) (by simp [results,Tryz.results28,go_sem]) rfl ⟨rfl,HB2.out⟩
  ·have hf:=showF_ok hc (by rw [hS]; exact h256)
   rw [hf,hS]
   have hgt:¬ (((⟨S.toArray⟩:ByteArray).size:Nat):Int)>256:=by rw [hss]; omega
   obtain ⟨X,hX⟩:∃ X:ByteArray,⟨S.toArray⟩=X:=⟨_,rfl⟩
   show Calls _ _ _ _ fun e w'=>e=.returned (.tuple #[.string ⟨S.toArray⟩,.int .i64 0])∧Below w.heap.size w w'
   rw [hX] at HTX hgt ⊢
   clear hf h256 hss hX hsz hlen htx hw hne hpos h0 he hk hin htin hS hc hs
   go_enter Tryz.func28,Tryz.ntmps28
   go_wp2_with fail
   refine HCK.out.mono ?_
   rintro e w1 ⟨rfl,hb⟩
   have HB:=Lib.hid hb
   have HI2:=keep (HIN.out.below hb)
   clear hb
   go_wp2_with fail
   refine (HTX.out _ HI2.out).mono ?_
   rintro e w2 ⟨rfl,hb⟩
   have HB2:=Lib.hid (below_step HB.out hb)
   clear hb
   go_wp2_with fail
   exact bodyPost_ret (v:=.tuple #[.string X,.int .i64 0]) (by simp [results,Tryz.results28,go_sem]) rfl ⟨rfl,HB2.out⟩
 ·rw [showF_bad hc]
  obtain ⟨c,hcc⟩:∃ c,checkA t=c:=⟨_,rfl⟩
  rw [hcc] at HCK hc ⊢
  have hcb:(c != 0)=true:=by simpa using hc
  rw [htl] at HCK ⊢
  clear hcc hc hin hs htl
  go_enter Tryz.func28,Tryz.ntmps28
  go_wp2_with fail
  refine HCK.out.mono ?_
  rintro e w1 ⟨rfl,hb⟩
  have HB:=Lib.hid hb
  clear hb
  go_wp2_with fail
  exact bodyPost_ret (v:=.tuple #[.string ⟨#[]⟩,.int .i64 c]) (by simp [results,Tryz.results28,go_sem]) rfl ⟨rfl,HB.out⟩
theorem nd_of_good {n:Nd} (h:goodNd n) (hn:n.vn≤9223372036854775807):NdC n:=by
 rcases h with ⟨vk,vn,vt,rfl,hv⟩ | ⟨⟨a,b,c,d⟩,rfl,hck,h1,h2⟩ | ⟨r,rfl,hck,hne⟩ | rfl | rfl | ⟨op,rfl,h1,h2⟩ | ⟨fn,k,rfl,h1,h2,h3,h4⟩
 ·have hn:vn≤9223372036854775807:=hn
  rcases hv with ⟨rfl,h0,rfl⟩ | ⟨rfl,h0,rfl⟩ | ⟨rfl,rfl,hl,hp⟩ | ⟨rfl,⟨h1,h5⟩,rfl⟩
  ·exact .num vn h0 hn
  ·rcases h0 with rfl | rfl
   ·exact .no
   ·exact .yes
  ·exact .text vt hp
  ·obtain ⟨c,rfl⟩:∃ c:Nat,vn=(c:Int):=⟨vn.toNat,by omega⟩
   exact .err c (by omega) (by omega)
 ·have e:(⟨a,b,c,d⟩:R4)=⟨a,b,a,b⟩:=by
   have h1:a=c:=h1
   have h2:b=d:=h2
   rw [← h1,← h2]
  rw [e]
  unfold checkB at hck
  simp only [Bool.and_eq_true] at hck
  exact .ref a b hck.1.1.1
 ·exact .rng r hck hne
 ·exact .neg
 ·exact .pct
 ·exact .bin op h1 h2
 ·exact .call fn k h1 h2 h3 h4
def MAX:Int:=9223372036854775807
theorem nums_app {ns ms:List Nd} (h:∀ y∈ns,y.vn≤MAX) (g:∀ y∈ms,y.vn≤MAX):∀ y∈ns++ms,y.vn≤MAX:=by
 intro y hy
 rcases List.mem_append.1 hy with hy | hy
 ·exact h y hy
 ·exact g y hy
theorem nums_cons {ms:List Nd} {x:Nd} (hx:x.vn≤MAX) (g:∀ y∈ms,y.vn≤MAX):∀ y∈x::ms,y.vn≤MAX:=by
 intro y hy
 rcases List.mem_cons.1 hy with rfl | hy
 ·exact hx
 ·exact g y hy
theorem nums_snoc {ns:List Nd} {x:Nd} (h:∀ y∈ns,y.vn≤MAX) (hx:x.vn≤MAX):∀ y∈ns++[x],y.vn≤MAX:=nums_app h (nums_cons hx (by simp))
theorem zero_max {x:Nd} (h:x.vn=0):x.vn≤MAX:=by rw [h]; decide
theorem Pk.nums {m:Md} {ts u:List Tk} {ns:List Nd} {n:Nat} (h:Pk m ts u ns n):(∀ t∈ts,t.num≤MAX)→∀ x∈ns,x.vn≤MAX:=by
 induction h with
 | lv5 _ _ ih=>intro hg; exact ih hg
 | lv hk h _ ih1 ih2=>intro hg; exact nums_app (ih1 hg) (ih2 fun t ht=>hg t (h.sub t ht))
 | nil=>intro _; simp
 | stop=>intro _; simp
 | op h8 hk h _ ih1 ih2=>intro hg; exact nums_app (ih1 fun t ht=>hg t (by simp [ht])) (nums_cons (zero_max rfl) (ih2 fun t ht=>hg t (by simp [h.sub t ht])))
 | neg _ _ _ ih=>intro hg; exact nums_snoc (ih fun t ht=>hg t (by simp [ht])) (zero_max rfl)
 | bare _ _ _ ih=>intro hg; exact ih hg
 | pow _ h _ _ _ ih1 ih2=>intro hg; exact nums_app (ih1 hg) (nums_snoc (ih2 fun t ht=>hg t (h.sub t (by simp [ht]))) (zero_max rfl))
 | pc _ ih =>
  intro hg
  refine nums_app (ih hg) fun y hy => ?_
  rw [(List.mem_replicate.1 hy).2]
  exact zero_max rfl
 | @val t l h1 h4=>intro hg; exact nums_cons (by have:=hg t (by simp); show (if t.kind=2 then 0 else t.num)≤MAX; split <;> first | decide | exact this) (by simp)
 | ref h5=>intro hg; exact nums_cons (zero_max rfl) (by simp)
 | par _ _ _ ih=>intro hg; exact ih fun t ht=>hg t (by simp [ht])
 | call h7 hf ho h hc h1 h2 hd ih=>intro hg; exact nums_snoc (ih fun t ht=>hg t (by simp [ht])) (zero_max rfl)
 | argE _ _ _ ih=>intro hg; exact ih hg
 | argC _ h _ _ ih1 ih2=>intro hg; exact nums_app (ih1 hg) (ih2 fun t ht=>hg t (h.sub t (by simp [ht])))
 | rngE h6=>intro hg; exact nums_cons (zero_max rfl) (by simp)
 | rngC h6 _ _ _ ih=>intro hg; exact nums_cons (zero_max rfl) (ih fun t ht=>hg t (by simp [ht]))
theorem form_good {L:List UInt8} {t:List Nd} {a:Int} (h:formS L=(t,a,0)):a=0∧checkA (t.map Nd.any)=0∧ASz (t.map Nd.any)∧(∀ n∈t,NdC n)∧checkS t=0∧∃ ts n,tokensS L=(ts,0,0)∧Pk (.lv 1) ts [] t n:=by
 rcases form_cases L with ⟨a',e',h',he,-,-⟩ | ⟨ts,ns,n,h',ht,hp,hc⟩
 ·rw [h] at h'
  exact absurd (Prod.mk.inj (Prod.mk.inj h').2).2.symm he
 ·rw [h] at h'
  obtain ⟨rfl,h2⟩:=Prod.mk.inj h'
  obtain ⟨rfl,-⟩:=Prod.mk.inj h2
  obtain ⟨-,-,-,hlex⟩:=tokens_ok ht
  have hnum:=hp.nums fun t ht=>(hlex.nums t ht).2
  have hgood:=hp.good (by simp only [okM]) (tokens_good ht)
  have hck:checkA (t.map Nd.any)=0:=by rw [checkA_any hgood]; exact hc
  obtain ⟨-,-,-,hlen,-⟩:=checkA_zero hck
  have hndc:∀ n∈t,NdC n:=fun n hn=>nd_of_good (hgood n hn) (hnum n hn)
  refine ⟨rfl,hck,⟨by omega,?_,?_⟩,hndc,hc,ts,n,ht,hp⟩
  ·intro x hx
   obtain ⟨y,hy,rfl⟩:=List.mem_map.1 hx
   have:=good_text (hgood y hy)
   show y.vt.length≤_
   omega
  ·intro x hx
   obtain ⟨y,hy,rfl⟩:=List.mem_map.1 hx
   exact hnum y hy
