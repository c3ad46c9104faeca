/- The reference's text of calls, and of every node; its Formula. -/
import Derived.Test.YtdplcdhpnmcdjaaGreatDoorFRtx
import Derived.Test.YtdplcdhpnmcdjaaGreatDoorFTg
import Derived.Test.YtdplcdhpnmcdjaaGreatDoorFRnx
import Derived.Test.YtdplcdhpnmcdjaaGreatDoorFTxv
namespace Go.Proofs.YtdplcdhpnmcdjaaGreatDoor
set_option maxRecDepth 100000
set_option maxHeartbeats 8000000
open Go.RowKit Go.Proofs.Tryz
def jnK (t:List Nd) (i m:Nat):List UInt8:=jnT (((ae t i).take m).map (aD t))
theorem rz:∀ (xs:List Tx) (y:Tx),jnT (xs++[y])=if xs=[] then y.1 else jnT xs++44::y.1
 | [],y=>rfl
 | [x],y=>rfl
 | x::z::r,y=>by
  have ih:=rz (z::r) y
  rw [if_neg (by simp)] at ih
  rw [if_neg (by simp)]
  show x.1++44::jnT (z::r++[y])=(x.1++44::jnT (z::r))++44::y.1
  rw [ih]
  simp
theorem lw (t:List Nd) (i:Nat):jnK t i 0=[]:=rfl
theorem oc {t:List Nd} {i m:Nat} (h:m<(ae t i).length):jnK t i (m+1)=if m=0 then (aD t (ae t i)[m]).1 else jnK t i m++44::(aD t (ae t i)[m]).1:=by
 unfold jnK
 rw [List.take_succ_eq_append_getElem h,List.map_append]
 show jnT (_++[_])=_
 rw [rz]
 by_cases h0:m=0
 ·subst h0; rfl
 rw [if_neg h0,if_neg]
 intro e
 have:=congrArg List.length e
 rw [List.length_map,List.length_take] at this
 have this:min m (ae t i).length=0:=this
 omega
theorem rx (t:List Nd) (i:Nat):jnK t i (ae t i).length=jnT ((ae t i).map (aD t)):=by unfold jnK; rw [List.take_length]
theorem uK {t:List Nd} {i m:Nat} (h:m<(ae t i).length):(jnK t i m).length≤(jnK t i (m+1)).length:=by
 rw [oc h]
 split
 ·rename_i h0; subst h0; rw [lw]; exact Nat.zero_le _
 rw [List.length_append]; omega
theorem uJ {t:List Nd} {i:Nat}:∀ d m,m+d=(ae t i).length→(jnK t i m).length≤(jnT ((ae t i).map (aD t))).length
 | 0,m,h=>by rw [← rx,← h]; exact Nat.le_refl _
 | d+1,m,h=>Nat.le_trans (uK (by omega)) (uJ d (m+1) (by omega))
theorem BF (t:List Nd) (tb tz tc pc i:Nat) (pa:Option Addr) (vk:Nat) (vn:Int) (vt:List UInt8) (r1 r2 r3 r4 op:Int) (fn nn:Nat)  (hc:cQ t) (hi:i<t.length) (hn:t[i]?=some ⟨7,vk,vn,vt,⟨r1,r2,r3,r4⟩,op,fn,nn⟩) (IH:∀ j,j<i→dX t tb tz tc pa pc j) (w:World) (hin:RIn t tb tz pa w) :
  Calls prog 27 #[.slice (some ⟨tb,tz,none⟩) t.length tc,.slice pa t.length pc,.int .i64 (i:Nat)] w fun e w'=>e=.returned (.string ⟨(aD t i).1.toArray⟩)∧Below w.heap.size w w':=by
 have hkl:(ae t i).length=nn:=hc.kids i _ hn
 have hfn:1≤nn∧nn≤16:=by
  rcases (hc.good _ (List.mem_of_getElem? hn)).1 with ⟨_,_,_,h,_⟩ | ⟨_,h,_⟩ | ⟨_,h,_⟩ | h | h | ⟨_,h,_⟩ | ⟨fn2,k2,h,_,_,h3,h4⟩
  iterate 6 (have:=congrArg Nd.kind h; simp [cJ,aK,ci,bR,aH] at this)
  have e1:nn=k2:=congrArg Nd.n h
  have:=mT fn2
  have:(arS fn2).2≤16:=by unfold arS; (repeat' split) <;> decide
  omega
 have HKT:=keep (show ∀ m (h:m<(ae t i).length),dX t tb tz tc pa pc ((ae t i)[m]) from fun m h=>IH _ (bw t i _ (List.getElem_mem _)))
 have HKS:=keep (show ∀ m (h:m<(ae t i).length),(⟨(aD t ((ae t i)[m])).1.toArray⟩:ByteArray).size≤1000000000 from fun m h=>by
  have h1:=j8 t hc.good _ (Nat.lt_trans (bw t i _ (List.getElem_mem h)) hi)
  have h3:=hc.len
  show (aD t _).1.toArray.size≤_
  rw [List.size_toArray]
  omega)
 have HKL:=keep hkl
 obtain ⟨R,hR⟩:∃ R:ByteArray,⟨(aD t i).1.toArray⟩=R:=⟨_,rfl⟩
 obtain ⟨O,hO⟩:∃ O:ByteArray,⟨(bn ⟨7,vk,vn,vt,⟨r1,r2,r3,r4⟩,op,fn,nn⟩).toArray⟩=O:=⟨_,rfl⟩
 have zO:O.size≤1000000000:=by rw [← hO]; exact fA hc hn
 have hjs:=ry hc hi
 have HJS:=keep (show ∀ m,m≤nn→(O++⟨#[40]⟩++⟨(jnK t i m).toArray⟩:ByteArray).size≤1200000000 from fun m h=>by
  have h1:=uJ (t:=t) (i:=i) (nn - m) m (by rw [hkl]; omega)
  have h2:(⟨(jnK t i m).toArray⟩:ByteArray).size=(jnK t i m).length:=by show (jnK t i m).toArray.size=_; rw [List.size_toArray]
  have h3:(⟨#[40]⟩:ByteArray).size=1:=rfl
  rw [ByteArray.size_append,ByteArray.size_append,h2,h3]
  omega)
 have HR:=keep (show R=O++⟨#[40]⟩++⟨(jnK t i nn).toArray⟩++⟨#[41]⟩ by
  rw [← hR,← hO,BV hn rfl,← hkl,rx]
  show _=(⟨_⟩:ByteArray)++⟨[40].toArray⟩++⟨_⟩++⟨[41].toArray⟩
  rw [bytes_append,bytes_append,bytes_append]
  simp)
 rw [hR]
 clear hR hjs
 obtain ⟨h1,h2⟩:=hin.node hn
 have HKID:=keep (fun (W:World) (h:RIn t tb tz pa W)=>dN (pc:=pc) hc hi h)
 have HWD:=keep (fun (W:World)=>cw ⟨7,vk,vn,vt,⟨r1,r2,r3,r4⟩,op,fn,nn⟩ (hc.good _ (List.mem_of_getElem? hn)).1 (hc.good _ (List.mem_of_getElem? hn)).2 W)
 obtain ⟨tl,htl⟩:=ex (t.length)
 have hki:(i:Int)<(tl:Int):=by omega
 rw [htl] at HKID ⊢
 have HTL:=keep htl
 have HIN:=keep hin
 have H1:=Lib.hid ((Ok.start w).add (aa tb (tz+i * 11) [.int .u8 7,.int .u8 vk,.int .i64 vn,.string ⟨vt.toArray⟩,.int .i64 r1,.int .i64 r2,.int .i64 r3,.int .i64 r4,.int .i64 op,.int .u8 fn,.int .i64 nn]) ⟨h1,h2⟩)
 clear h1 h2 htl hin hc hi hn IH
 go_enter func27,ntmps27
 go_wp2_with fail
 refine (HKID.out _ HIN.out).mono ?_
 rintro e w1 ⟨kv,rfl,hrow,hb2⟩
 obtain ⟨ka,kc,hkv⟩:=aO hrow
 rw [hkl] at hkv
 subst hkv
 have H3:=Lib.hid (H1.out.below hb2)
 clear hb2 H1
 have HRW:=keep hrow
 clear hrow
 have H4:=Lib.hid (H3.out.add (aT w.heap.size 3 1 (.slice ka nn kc) (ae t i).length ((ae t i).map fun x=>.int .i64 (x:Nat))) HRW.out)
 clear H3 HRW
 rw [hO] at HWD
 clear hO
 have F5:=sE H4
 go_upto_region 3 with fail
 clear F5
 have H6:=Lib.hid (H4.out.alloc w1.heap.size 39 [.int .u8 7,.int .u8 vk,.int .i64 vn,.string ⟨vt.toArray⟩,.int .i64 r1,.int .i64 r2,.int .i64 r3,.int .i64 r4,.int .i64 op,.int .u8 fn,.int .i64 nn] rfl)
 clear H4
 generalize (w1.alloc (.cells #[.int .u8 7,.int .u8 vk,.int .i64 vn,.string ⟨vt.toArray⟩,.int .i64 r1,.int .i64 r2,.int .i64 r3,.int .i64 r4,.int .i64 op,.int .u8 fn,.int .i64 nn] 39))=W7 at H6 ⊢
 have F8:=sE H6
 have z40:(⟨#[40]⟩:ByteArray).size=1:=rfl
 have z41:(⟨#[41]⟩:ByteArray).size=1:=rfl
 have z44:(⟨#[44]⟩:ByteArray).size=1:=rfl
 go_wp2_with fail
 refine cM (HWD.out _) H6 fun w9 H11=>?_
 clear F8 H6
 have F12:=sE H11
 have HST:=Lib.hid H11.out
 clear F12
 have HP0:=keep (show O++⟨#[40]⟩=O++⟨#[40]⟩++⟨(jnK t i 0).toArray⟩ by rw [lw]; apply ByteArray.ext; simp [ByteArray.data_append])
 go_wp2_with fail
 go_loopw [11,12] (fun sv kv wr=>∃ m:Nat,m≤nn∧kv=.int .i64 (m:Int)∧sv=.string (O++⟨#[40]⟩++⟨(jnK t i m).toArray⟩)∧Hid (Ok w [af (w1.heap.size) 39 [.int .u8 7,.int .u8 vk,.int .i64 vn,.string ⟨vt.toArray⟩,.int .i64 r1,.int .i64 r2,.int .i64 r3,.int .i64 r4,.int .i64 op,.int .u8 fn,.int .i64 nn],aT w.heap.size 3 1 (.slice ka nn kc) (ae t i).length ((ae t i).map fun x=>.int .i64 (x:Nat)),aa tb (tz+i * 11) [.int .u8 7,.int .u8 vk,.int .i64 vn,.string ⟨vt.toArray⟩,.int .i64 r1,.int .i64 r2,.int .i64 r3,.int .i64 r4,.int .i64 op,.int .u8 fn,.int .i64 nn]] wr)) (fun _ kv _=>nn - (intOf kv).toNat)
 case atStart=>exact ⟨0,Nat.zero_le _,rfl,by rw [← HP0.out],HST⟩
 case round =>
  clear HST HP0 H11
  obtain ⟨m,hmk,rfl,rfl,HQ⟩:=hrel
  obtain ⟨wq,rfl⟩:∃ wq:World,wq=wr:=⟨_,rfl⟩
  have hps:=HJS.out m hmk
  have HPM:=keep (oc (t:=t) (i:=i) (m:=m))
  obtain ⟨P,hP⟩:∃ P:ByteArray,O++⟨#[40]⟩++⟨(jnK t i m).toArray⟩=P:=⟨_,rfl⟩
  rw [hP] at hps ⊢
  have HP:=keep hP
  clear hP
  by_cases hlm:(m:Int)<(nn:Int)
  ·have hml:m<(ae t i).length:=by rw [HKL.out]; omega
   have hkt:=HKT.out m hml
   have zX:=HKS.out m hml
   have HPX:=keep (HPM.out hml)
   obtain ⟨j,hj⟩:=ex ((ae t i)[m]'hml)
   rw [hj] at hkt zX HPX
   have hro:=HQ.out.get (aT w.heap.size 3 1 (.slice ka nn kc) (ae t i).length ((ae t i).map fun x=>.int .i64 (x:Nat))) (by simp)
   obtain ⟨g,cap,e4,hgl,-⟩:=(show World.ownsRow _ _ _ _ _ _ _ from hro).form (by omega)
   injection e4 with e5 e6 e7
   subst e5 e7
   clear e6
   have kc0:=(show World.ownsRow _ _ _ _ _ _ _ from hro).cells (g:=g) rfl m _ (by rw [List.getElem?_map,List.getElem?_eq_getElem hml]; rfl)
   rw [fM,hj] at kc0
   unfold dX at hkt
   rw [HTL.out] at hkt
   obtain ⟨X,hX⟩:∃ X:ByteArray,⟨(aD t j).1.toArray⟩=X:=⟨_,rfl⟩
   rw [hX] at hkt zX
   have HKT2:=keep hkt
   have HX:=keep hX
   clear hkt hX hj hro hgl hml
   have F13:=sE HQ
   by_cases hm0:m=0
   ·have hm0i:¬ (0:Int)<(m:Int):=by omega
    have HPN:=keep (show O++⟨#[40]⟩++⟨(jnK t i (m+1)).toArray⟩=P++X by
     have hz:O++⟨#[40]⟩++⟨([]:List UInt8).toArray⟩=O++⟨#[40]⟩:=by apply ByteArray.ext; simp [ByteArray.data_append]
     rw [HPX.out,if_pos hm0,← HP.out,hm0,lw,← HX.out,hz])
    clear hm0
    go_wp2_with fail
    refine cM (HKT2.out _ (HIN.out.below HQ.out.bel)) HQ fun w14 H16=>?_
    clear F13 HQ
    have F17:=sE H16
    go_wp2_with fail
    go_roundw
    case rel=>exact ⟨m+1,by omega,by go_num,by rw [HPN.out],H16⟩
    case measure=>simp [intOf]; omega
   have hm0i:(0:Int)<(m:Int):=by omega
   have HPN:=keep (show O++⟨#[40]⟩++⟨(jnK t i (m+1)).toArray⟩=P++⟨#[44]⟩++X by
    rw [HPX.out,if_neg hm0,← HP.out,← HX.out]
    show _=_++_++_++(⟨[44].toArray⟩:ByteArray)++_
    rw [ByteArray.append_assoc (b:=⟨[44].toArray⟩),bytes_append,ByteArray.append_assoc (b:=⟨(jnK t i m).toArray⟩),bytes_append]
    rfl)
   clear hm0
   go_wp2_with fail
   refine cM (HKT2.out _ (HIN.out.below HQ.out.bel)) HQ fun w14 H16=>?_
   clear F13 HQ
   have F17:=sE H16
   go_wp2_with fail
   go_roundw
   case rel=>exact ⟨m+1,by omega,by go_num,by rw [HPN.out],H16⟩
   case measure=>simp [intOf]; omega
  obtain rfl:nn=m:=by omega
  have F13:=sE HQ
  go_wp2_with fail
  go_ret
  exact ⟨by rw [HR.out,HP.out]; rfl,HQ.out.bel⟩
theorem vE (t:List Nd) (tb tz tc pc:Nat) (pa:Option Addr) (hc:cQ t):∀ i,i<t.length→dX t tb tz tc pa pc i:=by
 intro i
 induction i using Nat.strongRecOn with
 | _ i ih =>
  intro hi w hin
  have IH:∀ j,j<i→dX t tb tz tc pa pc j:=fun j hj=>ih j hj (by omega)
  obtain ⟨n,hn⟩:∃ n,t[i]?=some n:=⟨_,List.getElem?_eq_getElem hi⟩
  rcases (hc.good n (List.mem_of_getElem? hn)).1 with ⟨vk,vn,vt,rfl,hv⟩ | ⟨⟨a,b,c,d⟩,rfl,hck,h1,h2⟩ | ⟨⟨a,b,c,d⟩,rfl,hck,hne⟩ | rfl | rfl | ⟨op,rfl,h1,h2⟩ | ⟨fn,k,rfl,h1,h2,h3,h4⟩
  ·exact Bz t tb tz tc pc i pa vk vn vt 0 0 0 0 0 0 0 hc hi hn w hin
  ·exact BA t tb tz tc pc i pa 0 0 [] a b c d 0 0 0 hc hi hn w hin
  ·exact BB t tb tz tc pc i pa 0 0 [] a b c d 0 0 0 hc hi hn w hin
  ·exact BC t tb tz tc pc i pa 0 0 [] 0 0 0 0 0 0 0 hc hi hn IH w hin
  ·exact BD t tb tz tc pc i pa 0 0 [] 0 0 0 0 0 0 0 hc hi hn IH w hin
  ·by_cases h5:op=5
   ·subst h5
    exact AR t tb tz tc pc i pa 0 0 [] 0 0 0 0 0 0 hc hi hn IH w hin
   exact BE t tb tz tc pc i pa 0 0 [] 0 0 0 0 op 0 0 h5 hc hi hn IH w hin
  exact BF t tb tz tc pc i pa 0 0 [] 0 0 0 0 0 fn k hc hi hn IH w hin
