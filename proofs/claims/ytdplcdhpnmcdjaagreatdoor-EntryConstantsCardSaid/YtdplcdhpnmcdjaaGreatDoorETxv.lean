/- show.text at calls, and at every node. show.Formula, of any nodes. show.outline and show.Outline. show.Outline, of any nodes. Plain: what the parser hands back is a tree that is shown. entry.Constant at any value; bounds of what an input means. -/
import Derived.Test.YtdplcdhpnmcdjaaGreatDoorETxu
import Derived.Test.YtdplcdhpnmcdjaaGreatDoorETg
import Derived.Test.YtdplcdhpnmcdjaaGreatDoorEParK
import Derived.Lib.Repeat
import Derived.Test.YtdplcdhpnmcdjaaGreatDoorEParP
import Derived.Test.YtdplcdhpnmcdjaaGreatDoorERvk
import Derived.Test.YtdplcdhpnmcdjaaGreatDoorEShc
import Derived.Test.YtdplcdhpnmcdjaaGreatDoorEEnd
namespace Go.Proofs.YtdplcdhpnmcdjaaGreatDoor
set_option maxRecDepth 100000
set_option maxHeartbeats 8000000
open Go.RowKit Go.Proofs.Tryz
def fw (t:List Nd) (i m:Nat):List (List UInt8):=((ai t i).take m).map fun j=>(aR t j).1
theorem nO {t:List Nd} {i m:Nat} (h:m<(ai t i).length):fw t i (m+1)=fw t i m++[(aR t (ai t i)[m]).1]:=by
 unfold fw
 rw [List.take_succ_eq_append_getElem h,List.map_append]; rfl
theorem iq {t:List Nd} {i m:Nat} (h:m≤(ai t i).length):(fw t i m).length=m:=by unfold fw; rw [List.length_map,List.length_take]; omega
theorem o0:∀ xs:List Tx,Lib.join (xs.map (·.1)) [44]=jnT xs
 | []=>rfl
 | [_]=>by simp [Lib.join,jnT]
 | x::y::r=>by
  have ih:=o0 (y::r)
  have e:Lib.join ((x::y::r).map (·.1)) [44]=x.1++([44]++Lib.join ((y::r).map (·.1)) [44]):=by
   simp [Lib.join]
  rw [e,ih]
  rfl
theorem kF (t:List Nd) (i:Nat):Lib.join (fw t i (ai t i).length) [44]=jnT ((ai t i).map (aR t)):=by
 rw [← o0,List.map_map]
 unfold fw
 rw [List.take_length]
 rfl
theorem tX {t:List Nd} (hc:f9 t) {i:Nat} (hi:i<t.length):(jnT ((ai t i).map (aR t))).length≤100000000:=by
 have h1:=ly ((ai t i).map (aR t))
 have h2:=(j9 t i (Nat.le_of_lt hi)).1
 have h3:=sh t hc.good i (Nat.le_of_lt hi)
 rw [h2] at h3
 obtain ⟨n,hn⟩:∃ n,t[i]?=some n:=⟨_,List.getElem?_eq_getElem hi⟩
 have h4:fH ((ai t i).map (aR t))≤fH ((aH t i).map (aR t)):=by
  rw [dy hn]
  conv=>rhs; rw [← List.take_append_drop ((aH t i).length - aw n) (aH t i),List.map_append,ie]
  omega
 have:=hc.len
 omega
theorem qa:(prog.info? 9).map (fun i=>(i.zero,i.size,i.bytes))=some (some (.string ⟨#[]⟩),1,16):=by kernel_rfl
theorem yC (t:List Nd) (tb tz tc i:Nat) (vk:Nat) (vn:Int) (vt:List UInt8) (r1 r2 r3 r4 op:Int) (fn nn:Nat)  (hc:f9 t) (hi:i<t.length) (hn:t[i]?=some ⟨7,vk,vn,vt,⟨r1,r2,r3,r4⟩,op,fn,nn⟩) (IH:∀ j,j<i→eH t tb tz tc j) (w:World) (hin:TIn t tb tz w) :
  Calls prog 25 #[.slice (some ⟨tb,tz,none⟩) t.length tc,.int .i64 (i:Nat)] w fun e w'=>e=.returned (.string ⟨(aR t i).1.toArray⟩)∧Below w.heap.size w w':=by
 have hkl:(ai t i).length=nn:=hc.kids i _ hn
 have hfn:1≤nn∧nn≤16:=by
  rcases (hc.good _ (List.mem_of_getElem? hn)).1 with ⟨_,_,_,h,_⟩ | ⟨_,h,_⟩ | ⟨_,h,_⟩ | h | h | ⟨_,h,_⟩ | ⟨fn2,k2,h,_,_,h3,h4⟩
  iterate 6 (have:=congrArg Nd.kind h; simp [eu,cj,fz,dt,cN] at this)
  have e1:nn=k2:=congrArg Nd.n h
  have:=qV fn2
  have:(arS fn2).2≤16:=by unfold arS; (repeat' split) <;> decide
  omega
 have HCL:=keep (show ∀ m (h:m<(ai t i).length),gH t tb tz tc i m (0:Nat) ⟨(aR t ((ai t i)[m])).1.toArray⟩ from fun m h=>by
  have:=c9 (tc:=tc) hc hi IH h 0
  rw [rO] at this
  exact this)
 have HKL:=keep hkl
 obtain ⟨R,hR⟩:∃ R:ByteArray,⟨(aR t i).1.toArray⟩=R:=⟨_,rfl⟩
 obtain ⟨O,hO⟩:∃ O:ByteArray,⟨(cU ⟨7,vk,vn,vt,⟨r1,r2,r3,r4⟩,op,fn,nn⟩).toArray⟩=O:=⟨_,rfl⟩
 obtain ⟨J,hJ⟩:∃ J:ByteArray,⟨(jnT ((ai t i).map (aR t))).toArray⟩=J:=⟨_,rfl⟩
 have zO:O.size≤1000000000:=by rw [← hO]; exact jE hc hn
 have hjs:=tX hc hi
 have zJ:J.size≤1000000000:=by
  rw [← hJ]
  show (jnT ((ai t i).map (aR t))).toArray.size≤_
  rw [List.size_toArray]
  omega
 have HJ:=keep (show (⟨(Lib.join (fw t i nn) [44]).toArray⟩:ByteArray)=J by rw [← hJ,← kF,hkl])
 have HJL:=keep (show (Lib.join (fw t i nn) [44]).length≤140737488355328 by rw [← hkl,kF]; omega)
 have HR:=keep (show R=O++⟨#[40]⟩++J++⟨#[41]⟩ by
  rw [← hR,← hJ,← hO,zq hn rfl]
  show _=(⟨_⟩:ByteArray)++⟨[40].toArray⟩++⟨_⟩++⟨[41].toArray⟩
  rw [bytes_append,bytes_append,bytes_append]
  simp)
 have HC5:=keep hi
 rw [hR]
 clear hR hJ hjs
 obtain ⟨h1,h2⟩:=hin.node hn
 have HKID:=keep (fun (W:World) (h:TIn t tb tz W)=>dZ hc (tc:=tc) hi h)
 have HOWN:=keep (fun (W:World) (h:dm W)=>dk ⟨7,vk,vn,vt,⟨r1,r2,r3,r4⟩,op,fn,nn⟩ (hc.good _ (List.mem_of_getElem? hn)).1 (hc.good _ (List.mem_of_getElem? hn)).2 W h)
 obtain ⟨tl,htl⟩:=ex (t.length)
 have hki:(i:Int)<(tl:Int):=by omega
 rw [htl] at HKID ⊢
 have HTL:=keep htl
 have HIN:=keep hin
 have H1:=Lib.hid (((Ok.start w).add (ae tb (tz+i * 11) [.int .u8 7,.int .u8 vk,.int .i64 vn,.string ⟨vt.toArray⟩,.int .i64 r1,.int .i64 r2,.int .i64 r3,.int .i64 r4,.int .i64 op,.int .u8 fn,.int .i64 nn]) ⟨h1,h2⟩).alloc w.heap.size 22 [.slice (some ⟨tb,tz,none⟩) tl tc] rfl)
 clear h1 h2 htl hin hc hi hn IH
 go_enter func25,ntmps25
 go_upto_region 1 with fail
 generalize (w.alloc (.cells #[.slice (some ⟨tb,tz,none⟩) tl tc] 22))=W1 at H1 ⊢
 have F2:=sE H1
 go_upto_region 2 with fail
 clear F2
 have H3:=Lib.hid (H1.out.alloc W1.heap.size 39 [.int .u8 7,.int .u8 vk,.int .i64 vn,.string ⟨vt.toArray⟩,.int .i64 r1,.int .i64 r2,.int .i64 r3,.int .i64 r4,.int .i64 op,.int .u8 fn,.int .i64 nn] rfl)
 clear H1
 generalize (W1.alloc (.cells #[.int .u8 7,.int .u8 vk,.int .i64 vn,.string ⟨vt.toArray⟩,.int .i64 r1,.int .i64 r2,.int .i64 r3,.int .i64 r4,.int .i64 op,.int .u8 fn,.int .i64 nn] 39))=W4 at H3 ⊢
 have F5:=sE H3
 go_wp2_with fail
 refine (HKID.out _ (HIN.out.below H3.out.bel)).mono ?_
 rintro e w6 ⟨kv,rfl,hrow,hb7⟩
 obtain ⟨ka,kc,hkv⟩:=bp hrow
 rw [hkl] at hkv
 subst hkv
 clear F5
 have H8:=Lib.hid ((H3.out.below hb7).add (aZ W4.heap.size 3 1 (.slice ka (nn) kc) (ai t i).length ((ai t i).map fun x=>.int .i64 (x:Nat))) hrow)
 clear hb7 H3 hrow
 have F9:=H8.out.sees
 simp only [sees,ac,ae,ag,Nat.add_zero,aa,Nat.reduceAdd] at F9
 obtain ⟨-,⟨z1,c10,c11,c12,c13,c14,c15,c16,c17,c18,c19,c1a,-⟩,⟨z2,c20,-⟩,⟨z3,c30,c31,c32,c33,c34,c35,c36,c37,c38,c39,c3a,-⟩,-⟩:=F9
 go_upto_region 3 with fail
 have y10:=z1
 have y11:=z2
 have y12:=z3
 clear z1 c10 c11 c12 c13 c14 c15 c16 c17 c18 c19 c1a z2 c20 z3 c30 c31 c32 c33 c34 c35 c36 c37 c38 c39 c3a
 have H13:=Lib.hid (H8.out.var w6.heap.size 57 [.slice ka (nn) kc] rfl)
 clear H8
 generalize (w6.alloc (.cells #[.slice ka (nn) kc] 57))=W14 at H13 ⊢
 have F15:=sE H13
 rw [hO] at HOWN
 clear hO
 obtain ⟨i0,hi,hz0,hz1,hz2⟩:=info_parts qa
 have z40:(⟨#[40]⟩:ByteArray).size=1:=rfl
 have z41:(⟨#[41]⟩:ByteArray).size=1:=rfl
 have HST:=Lib.hid (an.start H13.out 9 1)
 go_wp2_with fail
 clear F15
 go_loopw [11,60] (fun av iv wr=>∃ m:Nat,m≤nn∧iv=.int .i64 (m:Int)∧Hid (an w [af (w6.heap.size) 57 [.slice ka (nn) kc],aZ W4.heap.size 3 1 (.slice ka (nn) kc) (ai t i).length ((ai t i).map fun x=>.int .i64 (x:Nat)),ac (W1.heap.size) 39 [.int .u8 7,.int .u8 vk,.int .i64 vn,.string ⟨vt.toArray⟩,.int .i64 r1,.int .i64 r2,.int .i64 r3,.int .i64 r4,.int .i64 op,.int .u8 fn,.int .i64 nn],ac (w.heap.size) 22 [.slice (some ⟨tb,tz,none⟩) tl tc],ae tb (tz+i * 11) [.int .u8 7,.int .u8 vk,.int .i64 vn,.string ⟨vt.toArray⟩,.int .i64 r1,.int .i64 r2,.int .i64 r3,.int .i64 r4,.int .i64 op,.int .u8 fn,.int .i64 nn]] 9 1 av m (j1 (fw t i m)) wr)) (fun _ iv _=>nn - (intOf iv).toNat)
 case atStart=>exact ⟨0,Nat.zero_le _,rfl,HST⟩
 case round =>
  clear HST H13
  obtain ⟨m,hmk,rfl,HRW⟩:=hrel
  obtain ⟨wq,rfl⟩:∃ wq:World,wq=wr:=⟨_,rfl⟩
  by_cases hlm:(m:Int)<(nn:Int)
  ·have hml:m<(ai t i).length:=by rw [HKL.out]; omega
   have hcm:=HCL.out m hml
   have HKX:=keep (nO hml)
   obtain ⟨L,hL⟩:=ex ((aR t ((ai t i)[m]'hml)).1)
   rw [hL] at hcm HKX
   obtain ⟨X,hX⟩:∃ X:ByteArray,byt L=X:=⟨_,rfl⟩
   have HCM:=keep (show gH t tb tz tc i m (0:Nat) X by rw [← hX]; exact hcm)
   have HX:=keep hX
   clear hcm hX hL hml
   go_wp2_with fail
   refine cR (HCM.out _ w.heap.size (w6.heap.size) W4.heap.size (.slice ka (nn) kc) (HIN.out.below HRW.out.ok.bel) (show Blk _ _ _ _ by rw [HTL.out]; exact HRW.out.ok.get (ac (w.heap.size) 22 [.slice (some ⟨tb,tz,none⟩) tl tc]) (by simp)) (HRW.out.ok.get (af (w6.heap.size) 57 [.slice ka (nn) kc]) (by simp)) (HRW.out.ok.get (aZ W4.heap.size 3 1 (.slice ka (nn) kc) (ai t i).length ((ai t i).map fun x=>.int .i64 (x:Nat))) (by simp))) HRW fun w8 HR2=>?_
   clear HRW
   go_wp2_with (at_builtin; refine wpList_append_lies _ rfl _ _ _ rfl w.heap.size 9 i0 _ 1 16 underlying27 hi hz0 hz1 hz2 rfl (by omega) _ _ _ rfl (HR2.out.own.alloc _) ⟨w8.heap.size,0,none⟩ 1 1 [.string X] rfl rfl (World.news_of_block (cs:=#[.string X]) (t:=9) (fr:=(0,0)) (heap_alloc_new _ _)) (by intro u hu; simp at hu; rcases hu with rfl; rfl) (by omega) (by unfold maxLen; omega) (by omega) (by have:=HR2.out.ok.bel.size; simp; omega) _ rfl ?_; intro g5 cap5 w5b hown5 hgrow5 hat5 hlt5)
   go_roundw
   case rel =>
    have h9:=(HR2.out.alloc_obj _).appended hown5 hgrow5 hat5
    refine ⟨m+1,by omega,by go_num,Lib.hid ?_⟩
    rw [HKX.out,ow,HX.out]
    exact h9
   case measure=>simp [intOf]; omega
  obtain rfl:nn=m:=by omega
  obtain ⟨ava,avc,hav⟩:=bp HRW.out.own
  subst hav
  have HOK:=Lib.hid HRW.out.ok
  have F16:=sE HOK
  clear HOK
  go_wp2_with fail
  refine (HOWN.out _ (HIN.out.below HRW.out.ok.bel).env).mono ?_
  rintro e w9 ⟨rfl,hb9⟩
  have HR3:=Lib.hid (HRW.out.below hb9)
  clear F16
  clear hb9 HRW
  go_wp2_with fail
  refine (rC (fw t i nn) 44 (show World.ownsRow _ _ _ _ _ _ _ by rw [iq (by rw [HKL.out]; exact Nat.le_refl _)]; exact HR3.out.own) (by intro h9; have h8:=iq (t:=t) (i:=i) (m:=nn) (by rw [HKL.out]; exact Nat.le_refl _); rw [h9] at h8; simp at h8; omega) (by rw [iq (by rw [HKL.out]; exact Nat.le_refl _)]; omega) HJL.out).mono ?_
  rintro e w10 ⟨rfl,hb10⟩
  rw [HJ.out]
  have HR4:=Lib.hid (HR3.out.ok.below hb10)
  clear hb10 HR3
  go_wp2_with fail
  go_ret
  exact ⟨by rw [HR.out]; rfl,HR4.out.bel⟩
theorem qB (t:List Nd) (tb tz tc:Nat) (hc:f9 t):∀ i,i<t.length→eH t tb tz tc i:=by
 intro i
 induction i using Nat.strongRecOn with
 | _ i ih =>
  intro hi w hin
  have IH:∀ j,j<i→eH t tb tz tc j:=fun j hj=>ih j hj (by omega)
  obtain ⟨n,hn⟩:∃ n,t[i]?=some n:=⟨_,List.getElem?_eq_getElem hi⟩
  rcases (hc.good n (List.mem_of_getElem? hn)).1 with ⟨vk,vn,vt,rfl,hv⟩ | ⟨⟨a,b,c,d⟩,rfl,hck,h1,h2⟩ | ⟨⟨a,b,c,d⟩,rfl,hck,hne⟩ | rfl | rfl | ⟨op,rfl,h1,h2⟩ | ⟨fn,k,rfl,h1,h2,h3,h4⟩
  ·exact yw t tb tz tc i vk vn vt 0 0 0 0 0 0 0 hc hi hn w hin
  ·exact yx t tb tz tc i 0 0 [] a b c d 0 0 0 hc hi hn w hin
  ·exact yy t tb tz tc i 0 0 [] a b c d 0 0 0 hc hi hn w hin
  ·exact yz t tb tz tc i 0 0 [] 0 0 0 0 0 0 0 hc hi hn IH w hin
  ·exact yA t tb tz tc i 0 0 [] 0 0 0 0 0 0 0 hc hi hn IH w hin
  ·by_cases h5:op=5
   ·subst h5
    exact xn t tb tz tc i 0 0 [] 0 0 0 0 0 0 hc hi hn IH w hin
   exact yB t tb tz tc i 0 0 [] 0 0 0 0 op 0 0 h5 hc hi hn IH w hin
  exact yC t tb tz tc i 0 0 [] 0 0 0 0 0 fn k hc hi hn IH w hin
set_option maxRecDepth 100000
set_option maxHeartbeats 4000000
theorem pq {t:List NdA} (h:aI t=0) (hn:∀ a∈t,a.vn≤9223372036854775807):t=(t.map NdA.nd).map Nd.any∧f9 (t.map NdA.nd)∧t≠[]∧∃ p,dT (t.map NdA.nd) 0 (t.map NdA.nd) []=.ok [p]∧c8 (t.map NdA.nd) 0 t []=.ok [p]:=by
 obtain ⟨hg,hc,h0,hl,p,hw⟩:=fk h
 have he:t=(t.map NdA.nd).map Nd.any:=by
  rw [List.map_map]
  conv=>lhs; rw [← List.map_id t]
  exact List.map_congr_left fun a ha=>(dX (hg a ha)).2.2
 have hww:dT (t.map NdA.nd) 0 (t.map NdA.nd) []=.ok [p]:=by
  have:=gG (t.map NdA.nd) t 0 [] hg
  rw [← this]; exact hw
 have hne:t.map NdA.nd≠[]:=by simpa using h0
 refine ⟨he,⟨?_,by rw [← he]; exact h,by rw [List.length_map]; exact hl,(j6 hww hne).2.1⟩,h0,p,hww,hw⟩
 intro n hm
 obtain ⟨a,ha,rfl⟩:=List.mem_map.1 hm
 exact ⟨(dX (hg a ha)).1,hn a ha⟩
noncomputable def cQ (t:List NdA):List UInt8×Int:=if aI t≠0 then ([],aI t) else if 256<(eZ (t.map NdA.nd)).length then ([],5) else (eZ (t.map NdA.nd),0)
theorem kP {t:List NdA} (h:aI t≠0):cQ t=([],aI t):=if_pos h
theorem jW {t:List NdA} (h:aI t=0) (hl:256<(eZ (t.map NdA.nd)).length):cQ t=([],5):=by unfold cQ; rw [if_neg (by rw [h]; decide),if_pos hl]
theorem jX {t:List NdA} (h:aI t=0) (hl:¬ 256<(eZ (t.map NdA.nd)).length):cQ t=(eZ (t.map NdA.nd),0):=by unfold cQ; rw [if_neg (by rw [h]; decide),if_neg hl]
structure AIn (t:List NdA) (ta:Option Addr) (w:World):Prop where
 rows:bi w ta 11 (t.map dv)
 env:dm w
theorem AIn.below {t:List NdA} {ta:Option Addr} {w w':World} (h:AIn t ta w) (hb:Below w.heap.size w w'):AIn t ta w':=⟨h.rows.below hb,h.env.below hb⟩
structure ASz (t:List NdA):Prop where
 len:t.length≤1000
 txt:∀ a∈t,a.vt.length≤4611686018427387904
 num:∀ a∈t,a.vn≤9223372036854775807
theorem AIn.tin {t:List NdA} {ta:Option Addr} {w:World} (h:AIn t ta w) (hc:aI t=0) (hs:ASz t):∃ tb tz,ta=some ⟨tb,tz,none⟩∧TIn (t.map NdA.nd) tb tz w:=by
 obtain ⟨he,-,h0,-⟩:=pq hc hs.num
 obtain ⟨tb,tz,e,-,-⟩:=h.rows (by simpa using h0)
 refine ⟨tb,tz,e,?_,h.env⟩
 have:=h.rows
 rw [e,he,gJ] at this
 exact this
theorem lJ (t:List NdA) (ta:Option Addr) (tc:Nat) (w:World) (hs:ASz t) (hin:AIn t ta w) :
  Calls prog 8 #[.slice ta t.length tc] w fun e w'=>e=.returned (.tuple #[.string ⟨(cQ t).1.toArray⟩,.int .i64 (cQ t).2])∧Below w.heap.size w w':=by
 have HCK:=keep (bW t ta tc w hin.rows hs.len hs.txt)
 obtain ⟨tl,htl⟩:=ex (t.length)
 by_cases hc:aI t=0
 ·obtain ⟨he,hk,h0,p,hw,-⟩:=pq hc hs.num
  obtain ⟨tb,tz,rfl,htin⟩:=hin.tin hc hs
  have hpos:0<t.length:=List.length_pos_iff.2 h0
  have hne:t.map NdA.nd≠[]:=by simpa using h0
  have htx:(aR (t.map NdA.nd) (tl - 1)).1=eZ (t.map NdA.nd):=by
   have:=(j6 hw hne).2.2.1
   rw [List.length_map,htl] at this
   exact this.symm
  have hlen:=oD _ hk.good (tl - 1) (by rw [List.length_map]; omega)
  rw [htx] at hlen
  have hkl:=hk.len
  obtain ⟨S,hS⟩:=ex (eZ (t.map NdA.nd))
  have HTX:=keep (fun w2 (h:TIn (t.map NdA.nd) tb tz w2)=>by
   have:=qB (t.map NdA.nd) tb tz tc hk (tl - 1) (by rw [List.length_map]; omega) w2 h
   rw [htx,hS,List.length_map,htl] at this
   exact this)
  have HIN:=keep htin
  have hsz:S.length≤100000000:=by rw [← hS]; omega
  rw [hc,htl] at HCK
  have hp1:0<tl:=by omega
  obtain ⟨l1,hl1⟩:=ex (tl - 1)
  rw [hl1] at HTX
  have hi1:IntKind.i64.wrap ((tl:Int) - 1)=(l1:Int):=by rw [Go.IntWalk.i64_in _ (by have:=hs.len; omega)]; omega
  rw [htl]
  have hss:(⟨S.toArray⟩:ByteArray).size=S.length:=by show S.toArray.size=_; simp
  by_cases h256:256<S.length
  ·have hf:=jW hc (by rw [hS]; exact h256)
   rw [hf]
   have hgt:(((⟨S.toArray⟩:ByteArray).size:Nat):Int)>256:=by rw [hss]; omega
   obtain ⟨X,hX⟩:∃ X:ByteArray,⟨S.toArray⟩=X:=⟨_,rfl⟩
   rw [hX] at HTX hgt
   clear hf h256 hss hX hsz hlen htx hw hne hpos h0 he hk hin htin hS hc hs
   go_enter func8,ntmps8
   go_wp2_with fail
   refine HCK.out.mono ?_
   rintro e w1 ⟨rfl,hb⟩
   have HB:=Lib.hid hb
   have HI2:=keep (HIN.out.below hb)
   clear hb
   go_wp2_with fail
   refine (HTX.out _ HI2.out).mono ?_
   rintro e w2 ⟨rfl,hb⟩
   have HB2:=Lib.hid (al HB.out hb)
   clear hb
   go_wp2_with fail
   exact bodyPost_ret (v:=.tuple #[.string ⟨#[]⟩,.int .i64 5]) (by simp [results,results8,go_sem]) rfl ⟨rfl,HB2.out⟩
  have hf:=jX hc (by rw [hS]; exact h256)
  rw [hf,hS]
  have hgt:¬ (((⟨S.toArray⟩:ByteArray).size:Nat):Int)>256:=by rw [hss]; omega
  obtain ⟨X,hX⟩:∃ X:ByteArray,⟨S.toArray⟩=X:=⟨_,rfl⟩
  show Calls _ _ _ _ fun e w'=>e=.returned (.tuple #[.string ⟨S.toArray⟩,.int .i64 0])∧Below w.heap.size w w'
  rw [hX] at HTX hgt ⊢
  clear hf h256 hss hX hsz hlen htx hw hne hpos h0 he hk hin htin hS hc hs
  go_enter func8,ntmps8
  go_wp2_with fail
  refine HCK.out.mono ?_
  rintro e w1 ⟨rfl,hb⟩
  have HB:=Lib.hid hb
  have HI2:=keep (HIN.out.below hb)
  clear hb
  go_wp2_with fail
  refine (HTX.out _ HI2.out).mono ?_
  rintro e w2 ⟨rfl,hb⟩
  have HB2:=Lib.hid (al HB.out hb)
  clear hb
  go_wp2_with fail
  exact bodyPost_ret (v:=.tuple #[.string X,.int .i64 0]) (by simp [results,results8,go_sem]) rfl ⟨rfl,HB2.out⟩
 rw [kP hc]
 obtain ⟨c,hcc⟩:=ex (aI t)
 rw [hcc] at HCK hc ⊢
 have hcb:(c != 0)=true:=by simpa using hc
 rw [htl] at HCK ⊢
 clear hcc hc hin hs htl
 go_enter func8,ntmps8
 go_wp2_with fail
 refine HCK.out.mono ?_
 rintro e w1 ⟨rfl,hb⟩
 have HB:=Lib.hid hb
 clear hb
 go_wp2_with fail
 exact bodyPost_ret (v:=.tuple #[.string ⟨#[]⟩,.int .i64 c]) (by simp [results,results8,go_sem]) rfl ⟨rfl,HB.out⟩
open Go.RowKit
theorem nT {n:Nd} (h:aL n) (hn:n.vn≤9223372036854775807):NdC n:=by
 rcases h with ⟨vk,vn,vt,rfl,hv⟩ | ⟨⟨a,b,c,d⟩,rfl,hck,h1,h2⟩ | ⟨r,rfl,hck,hne⟩ | rfl | rfl | ⟨op,rfl,h1,h2⟩ | ⟨fn,k,rfl,h1,h2,h3,h4⟩
 ·have hn:vn≤9223372036854775807:=hn
  rcases hv with ⟨rfl,h0,rfl⟩ | ⟨rfl,h0,rfl⟩ | ⟨rfl,rfl,hl,hp⟩ | ⟨rfl,⟨h1,h5⟩,rfl⟩
  ·exact .num vn h0 hn
  ·rcases h0 with rfl | rfl
   ·exact .no
   exact .yes
  ·exact .text vt hp
  obtain ⟨c,rfl⟩:∃ c:Nat,vn=(c:Int):=⟨vn.toNat,by omega⟩
  exact .err c (by omega) (by omega)
 ·have e:(⟨a,b,c,d⟩:R4)=⟨a,b,a,b⟩:=by
   have h1:a=c:=h1
   have h2:b=d:=h2
   rw [← h1,← h2]
  rw [e]
  unfold aG at hck
  simp only [Bool.and_eq_true] at hck
  exact .ref a b hck.1.1.1
 ·exact .rng r hck hne
 ·exact .neg
 ·exact .pct
 ·exact .bin op h1 h2
 exact .call fn k h1 h2 h3 h4
def MAX:Int:=9223372036854775807
theorem ew {ns ms:List Nd} (h:∀ y∈ns,y.vn≤MAX) (g:∀ y∈ms,y.vn≤MAX):∀ y∈ns++ms,y.vn≤MAX:=by
 intro y hy
 rcases List.mem_append.1 hy with hy | hy
 ·exact h y hy
 exact g y hy
theorem dE {ms:List Nd} {x:Nd} (hx:x.vn≤MAX) (g:∀ y∈ms,y.vn≤MAX):∀ y∈x::ms,y.vn≤MAX:=by
 intro y hy
 rcases List.mem_cons.1 hy with rfl | hy
 ·exact hx
 exact g y hy
theorem iu {ns:List Nd} {x:Nd} (h:∀ y∈ns,y.vn≤MAX) (hx:x.vn≤MAX):∀ y∈ns++[x],y.vn≤MAX:=ew h (dE hx (by simp))
theorem dl {x:Nd} (h:x.vn=0):x.vn≤MAX:=by rw [h]; decide
theorem Pk.nums {m:Md} {ts u:List Tk} {ns:List Nd} {n:Nat} (h:Pk m ts u ns n):(∀ t∈ts,t.num≤MAX)→∀ x∈ns,x.vn≤MAX:=by
 induction h with
 | lv5 _ _ ih=>intro hg; exact ih hg
 | lv hk h _ ih1 ih2=>intro hg; exact ew (ih1 hg) (ih2 fun t ht=>hg t (h.sub t ht))
 | nil=>intro _; simp
 | stop=>intro _; simp
 | op h8 hk h _ ih1 ih2=>intro hg; exact ew (ih1 fun t ht=>hg t (by simp [ht])) (dE (dl rfl) (ih2 fun t ht=>hg t (by simp [h.sub t ht])))
 | neg _ _ _ ih=>intro hg; exact iu (ih fun t ht=>hg t (by simp [ht])) (dl rfl)
 | bare _ _ _ ih=>intro hg; exact ih hg
 | pow _ h _ _ _ ih1 ih2=>intro hg; exact ew (ih1 hg) (iu (ih2 fun t ht=>hg t (h.sub t (by simp [ht]))) (dl rfl))
 | pc _ ih =>
  intro hg
  refine ew (ih hg) fun y hy => ?_
  rw [(List.mem_replicate.1 hy).2]
  exact dl rfl
 | @val t l h1 h4=>intro hg; exact dE (by have:=hg t (by simp); show (if t.kind=2 then 0 else t.num)≤MAX; split <;> first | decide | exact this) (by simp)
 | ref h5=>intro hg; exact dE (dl rfl) (by simp)
 | par _ _ _ ih=>intro hg; exact ih fun t ht=>hg t (by simp [ht])
 | call h7 hf ho h hc h1 h2 hd ih=>intro hg; exact iu (ih fun t ht=>hg t (by simp [ht])) (dl rfl)
 | argE _ _ _ ih=>intro hg; exact ih hg
 | argC _ h _ _ ih1 ih2=>intro hg; exact ew (ih1 hg) (ih2 fun t ht=>hg t (h.sub t (by simp [ht])))
 | rngE h6=>intro hg; exact dE (dl rfl) (by simp)
 | rngC h6 _ _ _ ih=>intro hg; exact dE (dl rfl) (ih fun t ht=>hg t (by simp [ht]))
theorem kC {L:List UInt8} {t:List Nd} {a:Int} (h:bo L=(t,a,0)):a=0∧aI (t.map Nd.any)=0∧ASz (t.map Nd.any)∧(∀ n∈t,NdC n)∧dp t=0∧∃ ts n,aM L=(ts,0,0)∧Pk (.lv 1) ts [] t n:=by
 rcases gu L with ⟨a',e',h',he,-,-⟩ | ⟨ts,ns,n,h',ht,hp,hc⟩
 ·rw [h] at h'
  exact absurd (Prod.mk.inj (Prod.mk.inj h').2).2.symm he
 rw [h] at h'
 obtain ⟨rfl,h2⟩:=Prod.mk.inj h'
 obtain ⟨rfl,-⟩:=Prod.mk.inj h2
 obtain ⟨-,-,-,hlex⟩:=fZ ht
 have hnum:=hp.nums fun t ht=>(hlex.nums t ht).2
 have hgood:=hp.good (by simp only [okM]) (fJ ht)
 have hck:aI (t.map Nd.any)=0:=by rw [gm hgood]; exact hc
 obtain ⟨-,-,-,hlen,-⟩:=fk hck
 have hndc:∀ n∈t,NdC n:=fun n hn=>nT (hgood n hn) (hnum n hn)
 refine ⟨rfl,hck,⟨by omega,?_,?_⟩,hndc,hc,ts,n,ht,hp⟩
 ·intro x hx
  obtain ⟨y,hy,rfl⟩:=List.mem_map.1 hx
  have:=ip (hgood y hy)
  show y.vt.length≤_
  omega
 intro x hx
 obtain ⟨y,hy,rfl⟩:=List.mem_map.1 hx
 exact hnum y hy
theorem lg {l:List UInt8} (h:aC l=0):l.length≤256:=by
 unfold aC at h
 split at h
 ·exact absurd h (by decide)
 omega
def qS (m:Nat) (v:Vl):Prop:=-9223372036854775808≤v.2.1∧v.2.1≤9223372036854775807∧v.2.2.length≤m
theorem sf (l:List UInt8) (c:UInt8):(Lib.trimPrefix l [c]).length≤l.length:=by
 obtain ⟨h1,h2⟩:=li (l:=l) (c:=c)
 by_cases h:l.head?=some c
 ·rw [h2 h,List.length_tail]; omega
 have:Lib.trimPrefix l [c]=l:=by
  unfold Lib.trimPrefix
  rw [h1,decide_eq_false h]; rfl
 rw [this]; exact Nat.le_refl _
theorem xm (k:Nat) (l:List UInt8):qS l.length (bh k l).1:=by
 have z:∀ (a:Nat) (n:Int) (b:Bool),-9223372036854775808≤n→n≤9223372036854775807→qS l.length ((a,n,([]:List UInt8)),b).1:=fun a n b h1 h2=>⟨h1,h2,Nat.zero_le _⟩
 have hd:=gB l
 have hc:=oP l
 unfold bh
 split
 ·exact z _ _ _ (by decide) (by decide)
 split
 ·exact ⟨(by decide:(-9223372036854775808:Int)≤0),(by decide:(0:Int)≤9223372036854775807),sf l 39⟩
 split
 ·split
  ·exact z _ _ _ (by decide) (by decide)
  split
  ·exact z _ _ _ (by decide) (by decide)
  exact z _ _ _ (by decide) (by decide)
 split
 ·split
  ·exact z _ _ _ (by decide) (by decide)
  exact z _ _ _ (by omega) (by omega)
 split
 ·exact z _ _ _ (by decide) (by decide)
 exact z _ _ _ (by omega) (by omega)
theorem kz (l:List UInt8):∀ n k,qS l.length (gp l n k)
 | 0,_=>⟨(by decide:(-9223372036854775808:Int)≤0),(by decide:(0:Int)≤9223372036854775807),Nat.le_refl _⟩
 | n+1,k=>by
  rw [gp]
  split
  ·exact xm k l
  exact kz l n (k+1)
theorem jB (l:List UInt8):(∃ a e,aV l=(Mn.none,a,e)∧e≠0)∨(aV l=(⟨false,be l,[]⟩,0,0)∧l.length≤256∧l.all aj=true∧l.head?≠some 61) ∨
  (∃ t,aV l=(⟨true,(0,0,[]),t⟩,0,0)∧l.length≤256∧l.all aj=true∧l.head?=some 61∧bo l.tail=(t,0,0)):=by
 by_cases h:256<l.length
 ·exact .inl ⟨_,_,kH h,by decide⟩
 by_cases h1:l.all aj=true
 ·by_cases h2:l.head?=some 61
  ·by_cases h3:(bo l.tail).2.2=0
   ·refine .inr (.inr ⟨_,fT h h1 h2 h3,by omega,h1,h2,?_⟩)
    rcases gu l.tail with ⟨a,e,g,he,-⟩ | ⟨_,ns,_,g,-⟩
    ·rw [g] at h3; exact absurd h3 he
    rw [g]
   exact .inl ⟨_,_,gy h h1 h2 h3,h3⟩
  exact .inr (.inl ⟨eN h h1 h2,by omega,h1,h2⟩)
 left
 unfold aV
 rw [if_neg h]
 cases hf:l.findIdx? (fun b=>!aj b) with
 | none=>exact absurd (eQ.1 hf) h1
 | some i=>exact ⟨_,_,rfl,by decide⟩
theorem nS {l:List UInt8} {m:Mn} {a e:Int} (h:aV l=(m,a,e)):qS 256 m.v:=by
 have z:qS 256 ((0,0,[]):Vl):=⟨(by decide:(-9223372036854775808:Int)≤0),(by decide:(0:Int)≤9223372036854775807),Nat.zero_le _⟩
 rcases jB l with ⟨a',e',g,-⟩ | ⟨g,h2,-⟩ | ⟨t,g,-⟩
 ·rw [h] at g; cases g; exact z
 ·rw [h] at g
  cases g
  have:=kz l 5 0
  exact ⟨this.1,this.2.1,Nat.le_trans this.2.2 h2⟩
 rw [h] at g; cases g; exact z
theorem qe {l:List UInt8} {m:Mn} {a e:Int} (h:aV l=(m,a,e)) (hf:m.f=true):ASz (m.t.map Nd.any)∧bo l.tail=(m.t,0,0):=by
 rcases jB l with ⟨a',e',g,-⟩ | ⟨g,-⟩ | ⟨t,g,-,-,-,h3⟩
 ·rw [h] at g; cases g; cases hf
 ·rw [h] at g; cases g; cases hf
 rw [h] at g
 cases g
 exact ⟨(kC h3).2.2.1,h3⟩
theorem qA (t:List NdA):(cQ t).1.length≤256:=by
 by_cases hc:aI t=0
 ·by_cases h:256<(eZ (t.map NdA.nd)).length
  ·rw [jW hc h]; exact Nat.zero_le _
  rw [jX hc h]; show (eZ _).length≤_; omega
 rw [kP hc]; exact Nat.zero_le _
theorem nt {s t:ByteArray} (h:s.data.toList=t.data.toList):s=t:=by
 obtain ⟨⟨a⟩⟩:=s
 obtain ⟨⟨b⟩⟩:=t
 have h:a=b:=h
 rw [h]
theorem fm (k:Nat) (n:Int) (s:ByteArray) (hs:s.size≤4611686018427387904) (h1 : -9223372036854775808≤n) (h2:n≤9223372036854775807) (w:World) (hw:Words w) :
  Calls prog 18 #[.agg #[.int .u8 (k:Nat),.int .i64 n,.string s]] w fun e w'=>e=.returned (.tuple #[.string ⟨(cp k n s.data.toList).1.toArray⟩,.int .i64 (cp k n s.data.toList).2])∧Below w.heap.size w w':=by
 by_cases hv:bm k n s.data.toList=0
 rotate_left
 ·rw [i7 (.inl hv)]
  exact xU k n s _ (keep rfl) (Lib.hid hs) (by simpa using hv) w
 have hc:cellV k n s.data.toList:=Classical.byContradiction fun g=>by rw [aQ g] at hv; exact absurd hv (by decide)
 by_cases h46:k=4∧n=6
 ·rw [i7 (.inr h46)]
  obtain ⟨rfl,rfl⟩:=h46
  have e:s=⟨#[]⟩:=by
   rcases hc with ⟨h,-⟩ | ⟨h,-⟩ | ⟨h,-⟩ | ⟨h,-⟩ | ⟨-,h,-⟩
   ·cases h
   ·cases h
   ·cases h
   ·cases h
   exact nt h
  subst e
  exact xV (keep hv) w
 have hno:¬ (bm k n s.data.toList≠0∨(k=4∧n=6)):=by
  rintro (h | h)
  ·exact h hv
  exact h46 h
 have hq:eq3 (k:Nat) n 4 6 s.toList []=false:=by
  cases h:eq3 (k:Nat) n 4 6 s.toList [] with
  | false=>rfl
  | true =>
   obtain ⟨g1,g2,-⟩:=(dW ..).1 h
   exact absurd ⟨by omega,g2⟩ h46
 have hsh:=fun W hW=>sn k n s hs h1 h2 W hW hc
 by_cases hk:k=3
 ·subst hk
  have hn0:n=0:=by
   rcases hc with ⟨h,-⟩ | ⟨h,-⟩ | ⟨h,-⟩ | ⟨-,h,-⟩ | ⟨h,-⟩
   ·cases h
   ·cases h
   ·cases h
   ·exact h
   cases h
  subst hn0
  have hct:aC s.data.toList=0:=by
   rcases hc with ⟨h,-⟩ | ⟨h,-⟩ | ⟨h,-⟩ | ⟨-,-,h⟩ | ⟨h,-⟩
   ·cases h
   ·cases h
   ·cases h
   ·exact h
   cases h
  have hl:=lg hct
  have hz:s.size≤256:=by rw [← cX]; exact hl
  have hS:cu 3 0 s.data.toList=s.data.toList:=rfl
  rw [hS] at hsh
  have hSH:=keep hsh
  have hof:=fun W hW=>js s W hW
  unfold ku at hof
  obtain ⟨R,hR⟩:=ex (aV s.data.toList)
  rw [hR] at hof
  obtain ⟨m,at_,er⟩:=R
  have hmk:=i8 hR
  obtain ⟨f,⟨a,n1,t1⟩,t⟩:=m
  dsimp only at hof hmk
  have HOF:=keep (fun W (hW:Words W)=>(hof W hW).mono (R':=fun e w'=>∃ ta tn tc,e=.returned (.tuple #[.agg #[.bool f,.int .u8 (a:Nat),.int .i64 n1,.string ⟨t1.toArray⟩,.slice ta tn tc],.int .i64 at_,.int .i64 er])∧Below W.heap.size W w') (by
   rintro e w' ⟨tv,rfl,g1,g2⟩
   obtain ⟨ta,tc,rfl⟩:=bp g1
   exact ⟨ta,_,tc,rfl,g2⟩))
  have hsm:∀ {b:Bool},gj s.data.toList=b→eX 3 (cu 3 0 s.data.toList)=if b=true then 39::s.data.toList else s.data.toList:=by
   intro b hb
   unfold eX
   rw [hS,hb]
   cases b <;> simp
  have hRb:(⟨(39::s.data.toList).toArray⟩:ByteArray)=⟨#[39]⟩++s:=by
   apply nt
   simp [ByteArray.data_append]
  have hRs:(⟨#[39]⟩++s:ByteArray).size=s.data.toList.length+1:=by
   rw [ByteArray.size_append,cX]
   show 1+_=_
   omega
  have yes:gj s.data.toList=true→(∀ R:ByteArray,ao (R=⟨#[39]⟩++s)→((R.size:Int)>256→Calls prog 18 #[.agg #[.int .u8 3,.int .i64 0,.string s]] w fun e w'=>e=.returned (.tuple #[.string ⟨#[]⟩,.int .i64 5])∧Below w.heap.size w w')∧(¬ (R.size:Int)>256→Calls prog 18 #[.agg #[.int .u8 3,.int .i64 0,.string s]] w fun e w'=>e=.returned (.tuple #[.string R,.int .i64 0])∧Below w.heap.size w w')) →
    Calls prog 18 #[.agg #[.int .u8 3,.int .i64 0,.string s]] w fun e w'=>e=.returned (.tuple #[.string ⟨(cp 3 0 s.data.toList).1.toArray⟩,.int .i64 (cp 3 0 s.data.toList).2])∧Below w.heap.size w w':=by
   intro hb h
   have hm:=hsm hb
   rw [if_pos rfl] at hm
   obtain ⟨g1,g2⟩:=h _ (keep rfl)
   rw [hRs] at g1 g2
   by_cases h256:256<(39::s.data.toList).length
   ·rw [jo hno (by rw [hm]; exact h256)]
    exact g1 (by rw [List.length_cons] at h256; omega)
   rw [jp hno (by rw [hm]; exact h256),hm,hRb]
   exact g2 (by rw [List.length_cons] at h256; omega)
  by_cases her:er=0
  rotate_left
  ·have hb:gj s.data.toList=true:=by rw [hmk,decide_eq_true her]; rfl
   exact yes hb fun R hR2=>⟨fun hl=>sV w s (keep hv) (Lib.hid hs) hq hSH (keep hw) f a n1 t1 at_ er HOF (by simpa using her) R hR2 hz hl,fun hl=>vS w s (keep hv) (Lib.hid hs) hq hSH (keep hw) f a n1 t1 at_ er HOF (by simpa using her) R hR2 hz hl⟩
  cases f with
  | true =>
   have hb:gj s.data.toList=true:=by rw [hmk,decide_eq_false (by simp [her])]; rfl
   exact yes hb fun R hR2=>⟨fun hl=>sW w s (keep hv) (Lib.hid hs) hq hSH (keep hw) true a n1 t1 at_ er HOF her rfl R hR2 hz hl,fun hl=>vT w s (keep hv) (Lib.hid hs) hq hSH (keep hw) true a n1 t1 at_ er HOF her rfl R hR2 hz hl⟩
  | false =>
   have hq2:eq3 (a:Nat) n1 3 0 t1 s.toList=decide (((a,n1,t1):Vl)=(3,0,s.data.toList)):=by
    rw [Bool.eq_iff_iff,dW,decide_eq_true_eq,toL]
    constructor
    ·rintro ⟨g1,g2,g3⟩
     have:a=3:=by omega
     rw [this,g2,g3]
    intro g
    cases g
    exact ⟨rfl,rfl,rfl⟩
   by_cases hvv:((a,n1,t1):Vl)=(3,0,s.data.toList)
   ·have hb:gj s.data.toList=false:=by rw [hmk,decide_eq_false (by simp [her]),decide_eq_true hvv]; rfl
    have hm:=hsm hb
    rw [if_neg (by decide)] at hm
    rw [jp hno (by rw [hm]; omega),hm]
    exact vU w s (keep hv) (Lib.hid hs) hq hSH (keep hw) false a n1 t1 at_ er HOF her rfl (by rw [hq2,decide_eq_true hvv]) (by omega)
   have hb:gj s.data.toList=true:=by rw [hmk,decide_eq_false (by simp [her]),decide_eq_false hvv]; rfl
   have hq3:eq3 (a:Nat) n1 3 0 t1 s.toList=false:=by rw [hq2,decide_eq_false hvv]
   exact yes hb fun R hR2=>⟨fun hl=>sX w s (keep hv) (Lib.hid hs) hq hSH (keep hw) false a n1 t1 at_ er HOF her rfl hq3 R hR2 hz hl,fun hl=>vV w s (keep hv) (Lib.hid hs) hq hSH (keep hw) false a n1 t1 at_ er HOF her rfl hq3 R hR2 hz hl⟩
 have hm:eX k (cu k n s.data.toList)=cu k n s.data.toList:=by unfold eX; rw [if_neg fun g=>hk g.1]
 have hkb:((k:Int) == 3)=false:=by simp; omega
 obtain ⟨S,hS⟩:∃ S:ByteArray,⟨(cu k n s.data.toList).toArray⟩=S:=⟨_,rfl⟩
 have hSs:S.size=(cu k n s.data.toList).length:=by rw [← hS]; show (cu k n s.data.toList).toArray.size=_; rw [List.size_toArray]
 rw [hS] at hsh
 by_cases h256:256<(cu k n s.data.toList).length
 ·rw [jo hno (by rw [hm]; exact h256)]
  exact vQ w k n s (keep hv) (Lib.hid hs) hq hkb S (keep hsh) (keep hw) (by omega)
 rw [jp hno (by rw [hm]; exact h256),hm,hS]
 exact vR w k n s (keep hv) (Lib.hid hs) hq hkb S (keep hsh) (keep hw) (by omega)
