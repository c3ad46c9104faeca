/- The reference's text of calls, and of every node; its Formula. The reference's outline, Formula and Outline. -/
import Derived.Test.YthdmpajkacmkdaaGreatDoorGRtx
import Derived.Test.YthdmpajkacmkdaaGreatDoorGTg
import Derived.Test.YthdmpajkacmkdaaGreatDoorGRnx
import Derived.Test.YthdmpajkacmkdaaGreatDoorGTxv
import Derived.Test.YthdmpajkacmkdaaGreatDoorGOut
import Derived.Test.YthdmpajkacmkdaaGreatDoorGRpw
namespace Go.Proofs.YthdmpajkacmkdaaGreatDoor
set_option maxRecDepth 100000
set_option maxHeartbeats 8000000
open Go.RowKit Go.Proofs.Tryz
def jnK (t:List Nd) (i m:Nat):List UInt8:=jnT (((ae t i).take m).map (aF t))
theorem rV:∀ (xs:List Tx) (y:Tx),jnT (xs++[y])=if xs=[] then y.1 else jnT xs++44::y.1
 | [],y=>rfl
 | [x],y=>rfl
 | x::z::r,y=>by
  have ih:=rV (z::r) y
  rw [if_neg (by simp)] at ih
  rw [if_neg (by simp)]
  show x.1++44::jnT (z::r++[y])=(x.1++44::jnT (z::r))++44::y.1
  rw [ih]
  simp
theorem lS (t:List Nd) (i:Nat):jnK t i 0=[]:=rfl
theorem oG {t:List Nd} {i m:Nat} (h:m<(ae t i).length):jnK t i (m+1)=if m=0 then (aF t (ae t i)[m]).1 else jnK t i m++44::(aF t (ae t i)[m]).1:=by
 unfold jnK
 rw [List.take_succ_eq_append_getElem h,List.map_append]
 show jnT (_++[_])=_
 rw [rV]
 by_cases h0:m=0
 ·subst h0; rfl
 rw [if_neg h0,if_neg]
 intro e
 have:=congrArg List.length e
 rw [List.length_map,List.length_take] at this
 have this:min m (ae t i).length=0:=this
 omega
theorem rT (t:List Nd) (i:Nat):jnK t i (ae t i).length=jnT ((ae t i).map (aF t)):=by unfold jnK; rw [List.take_length]
theorem ve {t:List Nd} {i m:Nat} (h:m<(ae t i).length):(jnK t i m).length≤(jnK t i (m+1)).length:=by
 rw [oG h]
 split
 ·rename_i h0; subst h0; rw [lS]; exact Nat.zero_le _
 rw [List.length_append]; omega
theorem vd {t:List Nd} {i:Nat}:∀ d m,m+d=(ae t i).length→(jnK t i m).length≤(jnT ((ae t i).map (aF t))).length
 | 0,m,h=>by rw [← rT,← h]; exact Nat.le_refl _
 | d+1,m,h=>Nat.le_trans (ve (by omega)) (vd d (m+1) (by omega))
theorem B9 (t:List Nd) (tb tz tc pc i:Nat) (pa:Option Addr) (vk:Nat) (vn:Int) (vt:List UInt8) (r1 r2 r3 r4 op:Int) (fn nn:Nat)  (hc:cT t) (hi:i<t.length) (hn:t[i]?=some ⟨7,vk,vn,vt,⟨r1,r2,r3,r4⟩,op,fn,nn⟩) (IH:∀ j,j<i→dZ t tb tz tc pa pc j) (w:World) (hin:RIn t tb tz pa w) :
  Calls prog 23 #[.slice (some ⟨tb,tz,none⟩) t.length tc,.slice pa t.length pc,.int .i64 (i:Nat)] w fun e w'=>e=.returned (.string ⟨(aF t i).1.toArray⟩)∧Below w.heap.size w w':=by
 have hkl:(ae t i).length=nn:=hc.kids i _ hn
 have hfn:1≤nn∧nn≤16:=by
  rcases (hc.good _ (List.mem_of_getElem? hn)).1 with ⟨_,_,_,h,_⟩ | ⟨_,h,_⟩ | ⟨_,h,_⟩ | h | h | ⟨_,h,_⟩ | ⟨fn2,k2,h,_,_,h3,h4⟩
  iterate 6 (have:=congrArg Nd.kind h; simp [cL,aM,ck,bS,aI] at this)
  have e1:nn=k2:=congrArg Nd.n h
  have:=nu fn2
  have:(arS fn2).2≤16:=by unfold arS; (repeat' split) <;> decide
  omega
 have HKT:=keep (show ∀ m (h:m<(ae t i).length),dZ t tb tz tc pa pc ((ae t i)[m]) from fun m h=>IH _ (bw t i _ (List.getElem_mem _)))
 have HKS:=keep (show ∀ m (h:m<(ae t i).length),(⟨(aF t ((ae t i)[m])).1.toArray⟩:ByteArray).size≤1000000000 from fun m h=>by
  have h1:=kC t hc.good _ (Nat.lt_trans (bw t i _ (List.getElem_mem h)) hi)
  have h3:=hc.len
  show (aF t _).1.toArray.size≤_
  rw [List.size_toArray]
  omega)
 have HKL:=keep hkl
 obtain ⟨R,hR⟩:∃ R:ByteArray,⟨(aF t i).1.toArray⟩=R:=⟨_,rfl⟩
 obtain ⟨O,hO⟩:∃ O:ByteArray,⟨(bn ⟨7,vk,vn,vt,⟨r1,r2,r3,r4⟩,op,fn,nn⟩).toArray⟩=O:=⟨_,rfl⟩
 have zO:O.size≤1000000000:=by rw [← hO]; exact fI hc hn
 have hjs:=rU hc hi
 have HJS:=keep (show ∀ m,m≤nn→(O++⟨#[40]⟩++⟨(jnK t i m).toArray⟩:ByteArray).size≤1200000000 from fun m h=>by
  have h1:=vd (t:=t) (i:=i) (nn - m) m (by rw [hkl]; omega)
  have h2:(⟨(jnK t i m).toArray⟩:ByteArray).size=(jnK t i m).length:=by show (jnK t i m).toArray.size=_; rw [List.size_toArray]
  have h3:(⟨#[40]⟩:ByteArray).size=1:=rfl
  rw [ByteArray.size_append,ByteArray.size_append,h2,h3]
  omega)
 have HR:=keep (show R=O++⟨#[40]⟩++⟨(jnK t i nn).toArray⟩++⟨#[41]⟩ by
  rw [← hR,← hO,Cq hn rfl,← hkl,rT]
  show _=(⟨_⟩:ByteArray)++⟨[40].toArray⟩++⟨_⟩++⟨[41].toArray⟩
  rw [bytes_append,bytes_append,bytes_append]
  simp)
 rw [hR]
 clear hR hjs
 obtain ⟨h1,h2⟩:=hin.node hn
 have HKID:=keep (fun (W:World) (h:RIn t tb tz pa W)=>dP (pc:=pc) hc hi h)
 have HWD:=keep (fun (W:World)=>cz ⟨7,vk,vn,vt,⟨r1,r2,r3,r4⟩,op,fn,nn⟩ (hc.good _ (List.mem_of_getElem? hn)).1 (hc.good _ (List.mem_of_getElem? hn)).2 W)
 obtain ⟨tl,htl⟩:=ex (t.length)
 have hki:(i:Int)<(tl:Int):=by omega
 rw [htl] at HKID ⊢
 have HTL:=keep htl
 have HIN:=keep hin
 have H1:=Lib.hid ((Ok.start w).add (aa tb (tz+i * 11) [.int .u8 7,.int .u8 vk,.int .i64 vn,.string ⟨vt.toArray⟩,.int .i64 r1,.int .i64 r2,.int .i64 r3,.int .i64 r4,.int .i64 op,.int .u8 fn,.int .i64 nn]) ⟨h1,h2⟩)
 clear h1 h2 htl hin hc hi hn IH
 go_enter func23,ntmps23
 go_wp2_with fail
 refine (HKID.out _ HIN.out).mono ?_
 rintro e w1 ⟨kv,rfl,hrow,hb2⟩
 obtain ⟨ka,kc,hkv⟩:=aQ hrow
 rw [hkl] at hkv
 subst hkv
 have H3:=Lib.hid (H1.out.below hb2)
 clear hb2 H1
 have HRW:=keep hrow
 clear hrow
 have H4:=Lib.hid (H3.out.add (aK w.heap.size 3 1 (.slice ka nn kc) (ae t i).length ((ae t i).map fun x=>.int .i64 (x:Nat))) HRW.out)
 clear H3 HRW
 rw [hO] at HWD
 clear hO
 have F5:=sE H4
 go_upto_region 3 with fail
 clear F5
 have H6:=Lib.hid (H4.out.alloc w1.heap.size 27 [.int .u8 7,.int .u8 vk,.int .i64 vn,.string ⟨vt.toArray⟩,.int .i64 r1,.int .i64 r2,.int .i64 r3,.int .i64 r4,.int .i64 op,.int .u8 fn,.int .i64 nn] rfl)
 clear H4
 generalize (w1.alloc (.cells #[.int .u8 7,.int .u8 vk,.int .i64 vn,.string ⟨vt.toArray⟩,.int .i64 r1,.int .i64 r2,.int .i64 r3,.int .i64 r4,.int .i64 op,.int .u8 fn,.int .i64 nn] 27))=W7 at H6 ⊢
 have F8:=sE H6
 have z40:(⟨#[40]⟩:ByteArray).size=1:=rfl
 have z41:(⟨#[41]⟩:ByteArray).size=1:=rfl
 have z44:(⟨#[44]⟩:ByteArray).size=1:=rfl
 go_wp2_with fail
 refine cM (HWD.out _) H6 fun w9 H11=>?_
 clear F8 H6
 have F12:=sE H11
 have HST:=Lib.hid H11.out
 clear F12
 have HP0:=keep (show O++⟨#[40]⟩=O++⟨#[40]⟩++⟨(jnK t i 0).toArray⟩ by rw [lS]; apply ByteArray.ext; simp [ByteArray.data_append])
 go_wp2_with fail
 go_loopw [11,12] (fun sv kv wr=>∃ m:Nat,m≤nn∧kv=.int .i64 (m:Int)∧sv=.string (O++⟨#[40]⟩++⟨(jnK t i m).toArray⟩)∧Hid (Ok w [af (w1.heap.size) 27 [.int .u8 7,.int .u8 vk,.int .i64 vn,.string ⟨vt.toArray⟩,.int .i64 r1,.int .i64 r2,.int .i64 r3,.int .i64 r4,.int .i64 op,.int .u8 fn,.int .i64 nn],aK w.heap.size 3 1 (.slice ka nn kc) (ae t i).length ((ae t i).map fun x=>.int .i64 (x:Nat)),aa tb (tz+i * 11) [.int .u8 7,.int .u8 vk,.int .i64 vn,.string ⟨vt.toArray⟩,.int .i64 r1,.int .i64 r2,.int .i64 r3,.int .i64 r4,.int .i64 op,.int .u8 fn,.int .i64 nn]] wr)) (fun _ kv _=>nn - (intOf kv).toNat)
 case atStart=>exact ⟨0,Nat.zero_le _,rfl,by rw [← HP0.out],HST⟩
 case round =>
  clear HST HP0 H11
  obtain ⟨m,hmk,rfl,rfl,HQ⟩:=hrel
  obtain ⟨wq,rfl⟩:∃ wq:World,wq=wr:=⟨_,rfl⟩
  have hps:=HJS.out m hmk
  have HPM:=keep (oG (t:=t) (i:=i) (m:=m))
  obtain ⟨P,hP⟩:∃ P:ByteArray,O++⟨#[40]⟩++⟨(jnK t i m).toArray⟩=P:=⟨_,rfl⟩
  rw [hP] at hps ⊢
  have HP:=keep hP
  clear hP
  by_cases hlm:(m:Int)<(nn:Int)
  ·have hml:m<(ae t i).length:=by rw [HKL.out]; omega
   have hkt:=HKT.out m hml
   have zX:=HKS.out m hml
   have HPX:=keep (HPM.out hml)
   obtain ⟨j,hj⟩:=ex ((ae t i)[m]'hml)
   rw [hj] at hkt zX HPX
   have hro:=HQ.out.get (aK w.heap.size 3 1 (.slice ka nn kc) (ae t i).length ((ae t i).map fun x=>.int .i64 (x:Nat))) (by simp)
   obtain ⟨g,cap,e4,hgl,-⟩:=(show World.ownsRow _ _ _ _ _ _ _ from hro).form (by omega)
   injection e4 with e5 e6 e7
   subst e5 e7
   clear e6
   have kc0:=(show World.ownsRow _ _ _ _ _ _ _ from hro).cells (g:=g) rfl m _ (by rw [List.getElem?_map,List.getElem?_eq_getElem hml]; rfl)
   rw [fV,hj] at kc0
   unfold dZ at hkt
   rw [HTL.out] at hkt
   obtain ⟨X,hX⟩:∃ X:ByteArray,⟨(aF t j).1.toArray⟩=X:=⟨_,rfl⟩
   rw [hX] at hkt zX
   have HKT2:=keep hkt
   have HX:=keep hX
   clear hkt hX hj hro hgl hml
   have F13:=sE HQ
   by_cases hm0:m=0
   ·have hm0i:¬ (0:Int)<(m:Int):=by omega
    have HPN:=keep (show O++⟨#[40]⟩++⟨(jnK t i (m+1)).toArray⟩=P++X by
     have hz:O++⟨#[40]⟩++⟨([]:List UInt8).toArray⟩=O++⟨#[40]⟩:=by apply ByteArray.ext; simp [ByteArray.data_append]
     rw [HPX.out,if_pos hm0,← HP.out,hm0,lS,← HX.out,hz])
    clear hm0
    go_wp2_with fail
    refine cM (HKT2.out _ (HIN.out.below HQ.out.bel)) HQ fun w14 H16=>?_
    clear F13 HQ
    have F17:=sE H16
    go_wp2_with fail
    go_roundw
    case rel=>exact ⟨m+1,by omega,by go_num,by rw [HPN.out],H16⟩
    case measure=>simp [intOf]; omega
   have hm0i:(0:Int)<(m:Int):=by omega
   have HPN:=keep (show O++⟨#[40]⟩++⟨(jnK t i (m+1)).toArray⟩=P++⟨#[44]⟩++X by
    rw [HPX.out,if_neg hm0,← HP.out,← HX.out]
    show _=_++_++_++(⟨[44].toArray⟩:ByteArray)++_
    rw [ByteArray.append_assoc (b:=⟨[44].toArray⟩),bytes_append,ByteArray.append_assoc (b:=⟨(jnK t i m).toArray⟩),bytes_append]
    rfl)
   clear hm0
   go_wp2_with fail
   refine cM (HKT2.out _ (HIN.out.below HQ.out.bel)) HQ fun w14 H16=>?_
   clear F13 HQ
   have F17:=sE H16
   go_wp2_with fail
   go_roundw
   case rel=>exact ⟨m+1,by omega,by go_num,by rw [HPN.out],H16⟩
   case measure=>simp [intOf]; omega
  obtain rfl:nn=m:=by omega
  have F13:=sE HQ
  go_wp2_with fail
  go_ret
  exact ⟨by rw [HR.out,HP.out]; rfl,HQ.out.bel⟩
theorem wb (t:List Nd) (tb tz tc pc:Nat) (pa:Option Addr) (hc:cT t):∀ i,i<t.length→dZ t tb tz tc pa pc i:=by
 intro i
 induction i using Nat.strongRecOn with
 | _ i ih =>
  intro hi w hin
  have IH:∀ j,j<i→dZ t tb tz tc pa pc j:=fun j hj=>ih j hj (by omega)
  obtain ⟨n,hn⟩:∃ n,t[i]?=some n:=⟨_,List.getElem?_eq_getElem hi⟩
  rcases (hc.good n (List.mem_of_getElem? hn)).1 with ⟨vk,vn,vt,rfl,hv⟩ | ⟨⟨a,b,c,d⟩,rfl,hck,h1,h2⟩ | ⟨⟨a,b,c,d⟩,rfl,hck,hne⟩ | rfl | rfl | ⟨op,rfl,h1,h2⟩ | ⟨fn,k,rfl,h1,h2,h3,h4⟩
  ·exact B0 t tb tz tc pc i pa vk vn vt 0 0 0 0 0 0 0 hc hi hn w hin
  ·exact B4 t tb tz tc pc i pa 0 0 [] a b c d 0 0 0 hc hi hn w hin
  ·exact B5 t tb tz tc pc i pa 0 0 [] a b c d 0 0 0 hc hi hn w hin
  ·exact B6 t tb tz tc pc i pa 0 0 [] 0 0 0 0 0 0 0 hc hi hn IH w hin
  ·exact B7 t tb tz tc pc i pa 0 0 [] 0 0 0 0 0 0 0 hc hi hn IH w hin
  ·by_cases h5:op=5
   ·subst h5
    exact Bj t tb tz tc pc i pa 0 0 [] 0 0 0 0 0 0 hc hi hn IH w hin
   exact B8 t tb tz tc pc i pa 0 0 [] 0 0 0 0 op 0 0 h5 hc hi hn IH w hin
  exact B9 t tb tz tc pc i pa 0 0 [] 0 0 0 0 0 fn k hc hi hn IH w hin
set_option maxRecDepth 100000
set_option maxHeartbeats 8000000
theorem om {W:World} {B B' n m:Nat} {v s:Value} {xs news:List Value} (hv:W.ownsRow B 9 1 v n xs) (hs:W.ownsRow B' 9 1 s m news) (h1:∀ u∈news,u.oneCell'=true) (hB:B≤W.heap.size) (hn:n+m≤4194304) :
  ∃ v' w',(Builtin.append_ #[38,38] 38 #[v,s]).run prog W=.ok v' w'∧w'.ownsRow B 9 1 v' (n+m) (xs++news)∧W.grownBy w' v.ownBlock∧(v'.ownBlock=none∨v'.ownBlock=v.ownBlock∨v'.ownBlock=some W.heap.size):=by
 obtain ⟨i0,hi0,hz0,hz1,hzb⟩:=info_parts j7
 have hc:=@World.ownsRow.cells _ _ _ _ _ _ _ hs
 have hlen:=hs.1
 rcases hs.2 with ⟨rfl,rfl⟩ | ⟨g,cap,cur,rfl,_⟩
 ·obtain rfl:news=[]:=List.eq_nil_of_length_eq_zero (by simpa using hlen)
  refine ⟨v,W,run_append_owned_none (P:=prog) (w:=W) B 38 38 9 i0 1 underlying38 hi0 v n xs hv,by rw [List.append_nil]; exact hv,⟨rfl,rfl,rfl,Nat.le_refl _,fun _ _ _=>rfl⟩,.inr (.inl rfl)⟩
 obtain ⟨v',w',hr,ho,hg,_,hat⟩:=run_append_own_at (P:=prog) W B 38 38 9 i0 _ 1 16 underlying38 hi0 hz0 hz1 hzb rfl (by omega) v n xs hv ⟨g,0,none⟩ m cap news hlen (hc rfl) h1 (by unfold maxLen; omega) (by omega) hB
 exact ⟨v',w',hr,ho,hg,.inr hat⟩
theorem tZ (a b:List (List UInt8)):bH (a++b)=bH a++bH b:=by unfold bH; rw [List.map_append]
theorem t6 (l:List (List UInt8)):∀ u∈bH l,u.oneCell'=true:=by
 intro u hu
 unfold bH at hu
 obtain ⟨x,-,rfl⟩:=List.mem_map.1 hu
 rfl
def my (lvl:Nat):ByteArray:=byt (List.replicate (2 * lvl) 32)
theorem tm (lvl:Nat):my (lvl+1)=my lvl++⟨#[32,32]⟩:=by
 unfold my
 rw [show 2 * (lvl+1)=2 * lvl+2 by omega,← List.replicate_append_replicate]
 show byt (_++[32,32])=_
 show (⟨_⟩:ByteArray)=(⟨_⟩:ByteArray)++⟨[32,32].toArray⟩
 rw [bytes_append]
theorem tj (lvl:Nat):(my lvl).size=2 * lvl:=by
 unfold my
 show (List.replicate (2 * lvl) (32:UInt8)).toArray.size=_
 simp
theorem vi (lvl:Nat) (o:List UInt8):byt (eN (lvl,o))=my lvl++⟨o.toArray⟩:=by
 unfold my
 show byt (List.replicate (2 * lvl) 32++o)=_
 show (⟨_⟩:ByteArray)=(⟨_⟩:ByteArray)++⟨_⟩
 rw [bytes_append]
def LnR (l:List (List UInt8)) (w:World) (e:Ending) (w':World):Prop:=∃ v,e=.returned v∧w'.ownsRow w.heap.size 9 1 v l.length (bH l)∧Below w.heap.size w w'
def p8 (t:List Nd) (tb tz tc:Nat) (pa:Option Addr) (pc i:Nat):Prop:=∀ (w:World) (lvl:Nat),RIn t tb tz pa w→lvl+i≤1000→(bK t i lvl).length≤100000 →
 Calls prog 26 #[.slice (some ⟨tb,tz,none⟩) t.length tc,.slice pa t.length pc,.int .i64 (i:Nat),.string (my lvl)] w (LnR (bK t i lvl) w)
theorem za (t:List Nd) (tb tz tc:Nat) (pa:Option Addr) (pc i:Nat) (hc:cT t) (hi:i<t.length) (IH:∀ j,j<i→p8 t tb tz tc pa pc j):p8 t tb tz tc pa pc i:=by
 intro w lvl hin hlv hll
 obtain ⟨n,hn⟩:∃ n,t[i]?=some n:=⟨_,List.getElem?_eq_getElem hi⟩
 have hg:=hc.good n (List.mem_of_getElem? hn)
 have hcl:=hin.node hn
 have HSTEP:=keep (fun m (h:m<(ae t i).length)=>oO (lvl:=lvl) (L:=[]) (n:=n) h)
 have HLE:=keep (fun m=>vm (L:=[]) (lvl:=lvl) hn m)
 have HALL:=keep (show lnK t i lvl [] n (ae t i).length=bK t i lvl from r9 (L:=[]) (lvl:=lvl) hn)
 have hos:=jE hg.1 hg.2
 have HWD:=keep (fun W:World=>cz n hg.1 hg.2 W)
 have HKID:=keep (fun (W:World) (h:RIn t tb tz pa W)=>dP (pc:=pc) hc hi h)
 obtain ⟨LK,hLK⟩:∃ LK:Nat→List (List UInt8),lnK t i lvl [] n=LK:=⟨_,rfl⟩
 have hone:LK 0=[eN (lvl,bn n)]:=by rw [← hLK]; unfold lnK; rw [List.take_zero,List.flatMap_nil]; rfl
 rw [hLK] at HSTEP HLE HALL
 have HLL2:=keep (fun m (h:m<(ae t i).length)=>show (LK m).length+(bK t ((ae t i)[m]) (lvl+1)).length≤100000 by
  have h8:=HLE.out (m+1)
  rw [HSTEP.out m h,List.length_append] at h8
  simp only [List.length_nil,Nat.zero_add] at h8
  omega)
 rw [← HALL.out]
 obtain ⟨I,hI⟩:=ex (my lvl)
 obtain ⟨O,hO⟩:∃ O:ByteArray,⟨(bn n).toArray⟩=O:=⟨_,rfl⟩
 have HONE:=keep (show LK 0=[eN (lvl,bn n)]∧byt (eN (lvl,bn n))=I++O from ⟨hone,by rw [← hI,← hO]; exact vi lvl _⟩)
 have zO:O.size≤1000000:=by rw [← hO]; show (bn n).toArray.size≤_; rw [List.size_toArray]; omega
 have zI:I.size≤1000000:=by rw [← hI,tj]; omega
 have z32:(⟨#[32,32]⟩:ByteArray).size=2:=rfl
 have HIH:=keep (fun m (h:m<(ae t i).length) (W:World) (hW:RIn t tb tz pa W)=>by
  have h9:=IH ((ae t i)[m]) (bw t i _ (List.getElem_mem h)) W (lvl+1) hW (by have:=bw t i _ (List.getElem_mem h); omega) (by have:=HLL2.out m h; omega)
  rw [tm,hI] at h9
  exact h9)
 have HIN:=keep hin
 obtain ⟨P,hP⟩:∃ P:Ending→World→Prop,LnR (LK (ae t i).length) w=P:=⟨_,rfl⟩
 rw [hP,hI]
 have HPP:=keep hP
 have HKS:=keep (show (ae t i).length≤16 from lT hc hn)
 obtain ⟨K,hK⟩:=ex ((ae t i).length)
 rw [hO] at HWD
 obtain ⟨tl,htl⟩:=ex (t.length)
 have hki:(i:Int)<(tl:Int):=by omega
 rw [htl] at HKID HIH ⊢
 have hk16:=HKS.out
 rw [hK] at hk16
 have HKE:=keep hK
 clear hP hI hO hLK hone hc hi IH hin hlv hll hn hg hos htl hK
 obtain ⟨nk,vk,vn,vt,⟨r1,r2,r3,r4⟩,op,fn,nn⟩:=n
 have H1:=Lib.hid ((Ok.start w).add (aa tb (tz+i * 11) [.int .u8 nk,.int .u8 vk,.int .i64 vn,.string ⟨vt.toArray⟩,.int .i64 r1,.int .i64 r2,.int .i64 r3,.int .i64 r4,.int .i64 op,.int .u8 fn,.int .i64 nn]) hcl)
 clear hcl
 go_enter func26,ntmps26
 have F1:=sE H1
 go_wp2_with fail
 refine cM (HWD.out _) H1 fun w2 H4=>?_
 clear F1 H1
 have HB2:=Lib.hid H4.out.bel
 clear H4
 go_wp2_with fail
 have hW1:(w2.alloc (.cells #[.string (I++O)] 9)).ownsRow w.heap.size 9 1 (.slice (some ⟨w2.heap.size,0,none⟩) 1 1) 1 [.string (I++O)]:=World.ownsRow_lit _ #[.string (I++O)] 1 HB2.out.size (by decide) rfl
 have HS1:=Lib.hid (show ai w [] 9 1 (.slice (some ⟨w2.heap.size,0,none⟩) 1 1) 1 [.string (I++O)] (w2.alloc (.cells #[.string (I++O)] 9)) from ⟨(((Ok.start w).below HB2.out).alloc_obj _).drop _ (by simp),hW1,by simp⟩)
 clear hW1
 refine (HKID.out _ (HIN.out.below HS1.out.ok.bel)).mono ?_
 rintro e w4 ⟨kv,rfl,hrow,hb4⟩
 obtain ⟨ka,kc,hkv⟩:=aQ hrow
 rw [HKE.out] at hkv
 subst hkv
 have HR:=Lib.hid (ai.of_new HS1.out.pers hb4 hrow).swapR
 clear hb4 hrow HS1 HB2
 have HR0:=Lib.hid (show ai w [aK w.heap.size 3 1 (.slice ka K kc) (ae t i).length ((ae t i).map fun x=>.int .i64 (x:Nat))] 9 1 (.slice (some ⟨w2.heap.size,0,none⟩) 1 1) (LK 0).length (bH (LK 0)) w4 from by
  rw [HONE.out.1]
  show ai _ _ _ _ _ 1 [.string (byt (eN (lvl,bn _)))] _
  rw [HONE.out.2]
  exact HR.out)
 clear HR
 go_wp2_with fail
 go_loopw [9,11] (fun sv kv wr=>∃ m:Nat,m≤K∧kv=.int .i64 (m:Int)∧Hid (ai w [aK w.heap.size 3 1 (.slice ka K kc) (ae t i).length ((ae t i).map fun x=>.int .i64 (x:Nat))] 9 1 sv (LK m).length (bH (LK m)) wr)) (fun _ kv _=>K - (intOf kv).toNat)
 case atStart=>exact ⟨0,Nat.zero_le _,rfl,HR0⟩
 case round =>
  clear HR0
  obtain ⟨m,hmk,rfl,HQ⟩:=hrel
  obtain ⟨wq,rfl⟩:∃ wq:World,wq=wr:=⟨_,rfl⟩
  by_cases hlm:(m:Int)<(K:Int)
  ·have hml:m<(ae t i).length:=by rw [HKE.out]; omega
   have HST:=keep (HSTEP.out m hml)
   have HLM:=keep (HLL2.out m hml)
   have HIM:=keep (HIH.out m hml)
   obtain ⟨j,hj⟩:=ex ((ae t i)[m]'hml)
   rw [hj] at HST HLM HIM
   have hro:=HQ.out.ok.get (aK w.heap.size 3 1 (.slice ka K kc) (ae t i).length ((ae t i).map fun x=>.int .i64 (x:Nat))) (by simp)
   obtain ⟨g,cap,e4,hgl,-⟩:=(show World.ownsRow _ _ _ _ _ _ _ from hro).form (by omega)
   injection e4 with e5 e6 e7
   subst e5 e7
   clear e6
   have kc0:=(show World.ownsRow _ _ _ _ _ _ _ from hro).cells (g:=g) rfl m _ (by rw [List.getElem?_map,List.getElem?_eq_getElem hml]; rfl)
   rw [fV,hj] at kc0
   have hglt:=((show World.ownsRow _ _ _ _ _ _ _ from hro).lt g rfl).2
   obtain ⟨sa,sc,hsv⟩:=aQ HQ.out.own
   obtain ⟨ln,hln⟩:=ex ((LK m).length)
   rw [hln] at HQ HLM hsv
   subst hsv
   have HLN:=keep hln
   clear hj hro hgl hml hln
   go_wp2_with fail
   refine (HIM.out _ (HIN.out.below HQ.out.ok.bel)).mono ?_
   rintro e w5 ⟨v2,rfl,ho2,hb5⟩
   have HQ5:=Lib.hid (HQ.out.below hb5)
   obtain ⟨a2,c2,hv2⟩:=aQ ho2
   have h100:=HLM.out
   obtain ⟨v7,w7,hr7,ho7,hg7,hat7⟩:=om HQ5.out.own ho2 (t6 _) HQ5.out.ok.bel.size (by omega)
   have HO7:=Lib.hid (HQ5.out.grown ho7 hg7 hat7)
   subst hv2
   clear ho7 hg7 hat7 ho2 hb5 HQ HQ5 h100 kc0 hglt
   go_wp2_with (at_builtin; refine ij rfl _ _ _ rfl _ _ rfl rfl hr7 ?_; clear hr7)
   go_roundw
   case rel=>exact ⟨m+1,by omega,by go_num,Lib.hid (by rw [HST.out,List.length_append,HLN.out,tZ]; exact HO7.out)⟩
   case measure=>simp [intOf]; omega
  obtain rfl:K=m:=by omega
  go_wp2_with fail
  first
   | go_ret
   | skip
  rw [← HPP.out]
  exact ⟨_,rfl,by rw [HKE.out]; exact HQ.out.own,HQ.out.ok.bel⟩
theorem pB (t:List Nd) (tb tz tc pc:Nat) (pa:Option Addr) (hc:cT t):∀ i,i<t.length→p8 t tb tz tc pa pc i:=by
 intro i
 induction i using Nat.strongRecOn with
 | _ i ih =>
  intro hi
  exact za t tb tz tc pa pc i hc hi fun j hj=>ih j hj (by omega)
theorem zsz {t:List NdA} (hs:ASz t) (hl:∀ a∈t,-9223372036854775808≤a.vn∧a.fn≤255):∀ a∈t,a.vt.length≤4611686018427387904∧-9223372036854775808≤a.vn∧a.fn≤255:=fun a ha=>⟨hs.txt a ha,hl a ha⟩
theorem m7 {t:List NdA} {ta:Option Addr} {tc:Nat} {w:World} (hs:ASz t) (hin:ax w ta 11 (t.map bf)) (hc:aC t=0) :
  ∃ tb tz,ta=some ⟨tb,tz,none⟩∧ax w (some ⟨tb,tz,none⟩) 11 ((t.map NdA.nd).map bj)∧cT (t.map NdA.nd)∧t≠[]∧(∃ p,cQ (t.map NdA.nd) 0 (t.map NdA.nd) []=.ok [p]) ∧
   Calls prog 24 #[.slice ta t.length tc] w fun e w'=>∃ pa pc,e=.returned (.slice pa t.length pc)∧RIn (t.map NdA.nd) tb tz pa w'∧Below w.heap.size w w':=by
 obtain ⟨he,hk,h0,p,hw,-⟩:=jQ hc hs.num
 obtain ⟨tb,tz,e,-,-⟩:=hin (by simpa using h0)
 have hrows:ax w (some ⟨tb,tz,none⟩) 11 ((t.map NdA.nd).map bj):=by
  have h9:=hin
  rw [e,he,fu] at h9
  exact h9
 refine ⟨tb,tz,e,hrows,hk,h0,⟨p,hw⟩,?_⟩
 have h:=nU (t.map NdA.nd) (some ⟨tb,tz,none⟩) tc w hrows (by have:=hk.len; omega) (fun k n hn=>by
  have h9:=hk.kids k n hn
  rw [db hn,List.length_drop] at h9
  omega)
 rw [List.length_map] at h
 rw [e]
 refine h.mono ?_
 rintro e2 w' ⟨v,rfl,h1,h2⟩
 have hl:=eh (t.map NdA.nd) t.length
 rw [show t.length=(gz (t.map NdA.nd) t.length).length from hl.symm] at h1
 obtain ⟨a,c,rfl,-,h4⟩:=vb (by
  have h9:=h1
  rw [hl] at h9
  rw [hl]
  exact h9)
 refine ⟨a,c,by rw [hl],⟨hrows.below h2,?_⟩,h2⟩
 rw [List.length_map]
 exact h4
theorem mD (t:List NdA) (ta:Option Addr) (tc:Nat) (w:World) (hs:ASz t) (hl:∀ a∈t,-9223372036854775808≤a.vn∧a.fn≤255) (hin:ax w ta 11 (t.map bf)) :
  Calls prog 10 #[.slice ta t.length tc] w fun e w'=>e=.returned (.tuple #[.string ⟨(fP t).1.toArray⟩,.int .i64 (fP t).2])∧Below w.heap.size w w':=by
 have HCK:=keep (kY t ta tc w hin hs.len (zsz hs hl))
 obtain ⟨tl,htl⟩:=ex (t.length)
 by_cases hc:aC t=0
 ·have HST:=keep (fun (w2:World) (h:ax w2 ta 11 (t.map bf))=>m7 (tc:=tc) hs h hc)
  obtain ⟨tb,tz,rfl,-,hk,h0,⟨p,hw⟩,-⟩:=HST.out w hin
  have HPAR:=keep (fun (w2:World) (h:ax w2 (some ⟨tb,tz,none⟩) 11 (t.map bf))=>show Calls prog 24 #[.slice (some ⟨tb,tz,none⟩) t.length tc] w2 fun e w'=>∃ pa pc,e=.returned (.slice pa t.length pc)∧RIn (t.map NdA.nd) tb tz pa w'∧Below w2.heap.size w2 w' from by
   obtain ⟨tb',tz',e,-,-,-,-,h9⟩:=HST.out w2 h
   injection e with e
   injection e with e1 e2
   subst e1 e2
   exact h9)
  have hpos:0<t.length:=List.length_pos_iff.2 h0
  have hne:t.map NdA.nd≠[]:=by simpa using h0
  have htx:(aF (t.map NdA.nd) (tl - 1)).1=co (t.map NdA.nd):=by
   have:=(eW hw hne).2.2.1
   rw [List.length_map,htl] at this
   exact this.symm
  have hlen:=kC _ hk.good (tl - 1) (by rw [List.length_map]; omega)
  rw [htx] at hlen
  have hkl:=hk.len
  obtain ⟨S,hS⟩:=ex (co (t.map NdA.nd))
  have HTX:=keep (fun pa pc w2 (h:RIn (t.map NdA.nd) tb tz pa w2)=>by
   have:=wb (t.map NdA.nd) tb tz tc pc pa hk (tl - 1) (by rw [List.length_map]; omega) w2 h
   rw [htx,hS,List.length_map,htl] at this
   exact this)
  have HIN:=keep hin
  have hsz:S.length≤100000000:=by rw [← hS]; omega
  rw [htl] at HPAR
  rw [hc,htl] at HCK
  have hp1:0<tl:=by omega
  obtain ⟨l1,hl1⟩:=ex (tl - 1)
  rw [hl1] at HTX
  have hi1:IntKind.i64.wrap ((tl:Int) - 1)=(l1:Int):=by rw [Go.IntWalk.i64_in _ (by have:=hs.len; omega)]; omega
  rw [htl]
  have hss:(⟨S.toArray⟩:ByteArray).size=S.length:=by show S.toArray.size=_; simp
  by_cases h256:256<S.length
  ·have hf:=ma hc (by rw [hS]; exact h256)
   rw [hf]
   have hgt:(((⟨S.toArray⟩:ByteArray).size:Nat):Int)>256:=by rw [hss]; omega
   obtain ⟨X,hX⟩:∃ X:ByteArray,⟨S.toArray⟩=X:=⟨_,rfl⟩
   rw [hX] at HTX hgt
   clear hf h256 hss hX hsz hlen htx hw hne hpos h0 hk hin hS hc hs hl HST
   go_enter func10,ntmps10
   go_wp2_with fail
   refine HCK.out.mono ?_
   rintro e w1 ⟨rfl,hb⟩
   have HB:=Lib.hid hb
   have HI2:=keep (HIN.out.below hb)
   clear hb
   go_wp2_with fail
   refine (HPAR.out _ HI2.out).mono ?_
   rintro e w2 ⟨pa,pc,rfl,hri,hb⟩
   have HRI:=keep hri
   have HB2:=Lib.hid (an HB.out hb)
   clear hb hri
   go_wp2_with fail
   refine (HTX.out pa pc _ HRI.out).mono ?_
   rintro e w3 ⟨rfl,hb⟩
   have HB3:=Lib.hid (an HB2.out hb)
   clear hb
   go_wp2_with fail
   exact bodyPost_ret (v:=.tuple #[.string ⟨#[]⟩,.int .i64 5]) (by simp [results,results10,go_sem]) rfl ⟨rfl,HB3.out⟩
  have hf:=mb hc (by rw [hS]; exact h256)
  rw [hf,hS]
  have hgt:¬ (((⟨S.toArray⟩:ByteArray).size:Nat):Int)>256:=by rw [hss]; omega
  obtain ⟨X,hX⟩:∃ X:ByteArray,⟨S.toArray⟩=X:=⟨_,rfl⟩
  show Calls _ _ _ _ fun e w'=>e=.returned (.tuple #[.string ⟨S.toArray⟩,.int .i64 0])∧Below w.heap.size w w'
  rw [hX] at HTX hgt ⊢
  clear hf h256 hss hX hsz hlen htx hw hne hpos h0 hk hin hS hc hs hl HST
  go_enter func10,ntmps10
  go_wp2_with fail
  refine HCK.out.mono ?_
  rintro e w1 ⟨rfl,hb⟩
  have HB:=Lib.hid hb
  have HI2:=keep (HIN.out.below hb)
  clear hb
  go_wp2_with fail
  refine (HPAR.out _ HI2.out).mono ?_
  rintro e w2 ⟨pa,pc,rfl,hri,hb⟩
  have HRI:=keep hri
  have HB2:=Lib.hid (an HB.out hb)
  clear hb hri
  go_wp2_with fail
  refine (HTX.out pa pc _ HRI.out).mono ?_
  rintro e w3 ⟨rfl,hb⟩
  have HB3:=Lib.hid (an HB2.out hb)
  clear hb
  go_wp2_with fail
  exact bodyPost_ret (v:=.tuple #[.string X,.int .i64 0]) (by simp [results,results10,go_sem]) rfl ⟨rfl,HB3.out⟩
 rw [ng hc]
 obtain ⟨c,hcc⟩:=ex (aC t)
 rw [hcc] at HCK hc ⊢
 have hcb:(c != 0)=true:=by simpa using hc
 rw [htl] at HCK ⊢
 clear hcc hc hin hs htl hl
 go_enter func10,ntmps10
 go_wp2_with fail
 refine HCK.out.mono ?_
 rintro e w1 ⟨rfl,hb⟩
 have HB:=Lib.hid hb
 clear hb
 go_wp2_with fail
 exact bodyPost_ret (v:=.tuple #[.string ⟨#[]⟩,.int .i64 c]) (by simp [results,results10,go_sem]) rfl ⟨rfl,HB.out⟩
theorem mE (t:List NdA) (ta:Option Addr) (tc:Nat) (w:World) (hs:ASz t) (hl:∀ a∈t,-9223372036854775808≤a.vn∧a.fn≤255) (hin:ax w ta 11 (t.map bf)) :
  Calls prog 12 #[.slice ta t.length tc] w (oj t w):=by
 have HCK:=keep (kY t ta tc w hin hs.len (zsz hs hl))
 obtain ⟨P,hP⟩:∃ P:Ending→World→Prop,oj t w=P:=⟨_,rfl⟩
 rw [hP]
 have HPP:=keep hP
 clear hP
 obtain ⟨tl,htl⟩:=ex (t.length)
 by_cases hc:aC t=0
 ·have HST:=keep (fun (w2:World) (h:ax w2 ta 11 (t.map bf))=>m7 (tc:=tc) hs h hc)
  obtain ⟨tb,tz,rfl,-,hk,h0,⟨p,hw⟩,-⟩:=HST.out w hin
  have HPAR:=keep (fun (w2:World) (h:ax w2 (some ⟨tb,tz,none⟩) 11 (t.map bf))=>show Calls prog 24 #[.slice (some ⟨tb,tz,none⟩) t.length tc] w2 fun e w'=>∃ pa pc,e=.returned (.slice pa t.length pc)∧RIn (t.map NdA.nd) tb tz pa w'∧Below w2.heap.size w2 w' from by
   obtain ⟨tb',tz',e,-,-,-,-,h9⟩:=HST.out w2 h
   injection e with e
   injection e with e1 e2
   subst e1 e2
   exact h9)
  have hpos:0<t.length:=List.length_pos_iff.2 h0
  have hne:t.map NdA.nd≠[]:=by simpa using h0
  have hol:bK (t.map NdA.nd) (tl - 1) 0=olS t:=by
   have:=(eW hw hne).2.2.2
   rw [List.length_map,htl] at this
   rw [ki hc,this]
   rfl
  have hlen:(olS t).length≤256:=by
   rw [ki hc,List.length_map,(kj _ hk.ndc (jX hc)).1]
   exact hk.len
  have hkl:=hk.len
  rw [List.length_map] at hkl
  have HOL:=keep (fun pa pc w2 (h:RIn (t.map NdA.nd) tb tz pa w2)=>by
   have:=pB (t.map NdA.nd) tb tz tc pc pa hk (tl - 1) (by rw [List.length_map]; omega) w2 0 h (by omega) (by rw [hol]; omega)
   rw [hol,List.length_map,htl,show my 0=⟨#[]⟩ from rfl] at this
   exact this)
  have HIN:=keep hin
  have HCZ:=keep hc
  rw [htl] at HPAR
  rw [hc,htl] at HCK
  have hp1:0<tl:=by omega
  obtain ⟨l1,hl1⟩:=ex (tl - 1)
  rw [hl1] at HOL
  have hi1:IntKind.i64.wrap ((tl:Int) - 1)=(l1:Int):=by rw [Go.IntWalk.i64_in _ (by omega)]; omega
  rw [htl]
  clear hlen hol hw hne hpos h0 hk hin hc hs hl HST
  go_enter func12,ntmps12
  go_wp2_with fail
  refine HCK.out.mono ?_
  rintro e w1 ⟨rfl,hb⟩
  have HB:=Lib.hid hb
  have HI2:=keep (HIN.out.below hb)
  clear hb
  go_wp2_with fail
  refine (HPAR.out _ HI2.out).mono ?_
  rintro e w2 ⟨pa,pc,rfl,hri,hb⟩
  have HRI:=keep hri
  have HB2:=Lib.hid (an HB.out hb)
  clear hb hri
  go_wp2_with fail
  refine (HOL.out pa pc _ HRI.out).mono ?_
  rintro e w3 ⟨v,rfl,hrow,hb⟩
  have HB3:=Lib.hid (an HB2.out hb)
  have HRW:=keep (hrow.mono HB2.out.size)
  clear hrow hb
  go_wp2_with fail
  rw [← HPP.out]
  exact ⟨v,by rw [HCZ.out]; rfl,HRW.out,HB3.out⟩
 obtain ⟨c,hcc⟩:=ex (aC t)
 have HCZ:=keep hcc
 have HBAD:=keep (nQ hc)
 rw [hcc] at HCK hc
 have hcb:(c != 0)=true:=by simpa using hc
 rw [htl] at HCK ⊢
 clear hcc hc hin hs htl hl
 go_enter func12,ntmps12
 go_wp2_with fail
 refine HCK.out.mono ?_
 rintro e w1 ⟨rfl,hb⟩
 have HB:=Lib.hid hb
 clear hb
 go_wp2_with fail
 rw [← HPP.out]
 exact ⟨.slice none 0 0,by rw [HCZ.out]; rfl,by rw [HBAD.out]; exact World.ownsRow_nil _ _ _ _,HB.out⟩
