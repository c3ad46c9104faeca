/- The reference's text of a node, in parentheses where they are wanted. -/
import Derived.Test.YthdmpajkacmkdaaGreatDoorGTxu
import Derived.Test.YthdmpajkacmkdaaGreatDoorGTg
import Derived.Test.YthdmpajkacmkdaaGreatDoorGRpw
import Derived.Test.YthdmpajkacmkdaaGreatDoorGFew
import Derived.Test.YthdmpajkacmkdaaGreatDoorGTxv
namespace Go.Proofs.YthdmpajkacmkdaaGreatDoor
set_option maxRecDepth 100000
set_option maxHeartbeats 8000000
open Go.RowKit Go.Proofs.Tryz
theorem fV (g x:Nat):(⟨g,0,none⟩:Addr).add x=⟨g,x,none⟩:=by unfold Addr.add; split <;> simp_all
structure RIn (t:List Nd) (tb tz:Nat) (pa:Option Addr) (w:World):Prop where
 rows:ax w (some ⟨tb,tz,none⟩) 11 (t.map bj)
 par:ax w pa 1 (xM (gz t t.length))
theorem RIn.below {t:List Nd} {tb tz:Nat} {pa:Option Addr} {w w':World} (h:RIn t tb tz pa w) (hb:Below w.heap.size w w'):RIn t tb tz pa w':=⟨h.rows.below hb,h.par.below hb⟩
theorem RIn.node {t:List Nd} {tb tz:Nat} {pa:Option Addr} {w:World} (h:RIn t tb tz pa w) {i:Nat} {n:Nd} (hn:t[i]?=some n):tb<w.heap.size∧ag w tb (tz+i * 11) 0 (bj n):=by
 obtain ⟨b,o,hbo,hlt,hc⟩:=h.rows (by intro e; have h9:=congrArg List.length e; rw [List.length_map] at h9; have:=(List.getElem?_eq_some_iff.1 hn).1; simp only [List.length_nil] at h9; omega)
 simp only [Option.some.injEq,Addr.mk.injEq,and_true] at hbo
 obtain ⟨rfl,rfl⟩:=hbo
 refine ⟨hlt,fy _ fun j v hj => ?_⟩
 have:=hc i (bj n) (by rw [List.getElem?_map,hn]; rfl) j v hj
 rwa [← Nat.add_assoc] at this
def dZ (t:List Nd) (tb tz tc:Nat) (pa:Option Addr) (pc i:Nat):Prop:=∀ w,RIn t tb tz pa w →
 Calls prog 23 #[.slice (some ⟨tb,tz,none⟩) t.length tc,.slice pa t.length pc,.int .i64 (i:Nat)] w fun e w'=>e=.returned (.string ⟨(aF t i).1.toArray⟩)∧Below w.heap.size w w'
def eI (t:List Nd) (tb tz tc:Nat) (pa:Option Addr) (pc i l:Nat):Prop:=∀ w,RIn t tb tz pa w →
 Calls prog 48 #[.slice (some ⟨tb,tz,none⟩) t.length tc,.slice pa t.length pc,.int .i64 (i:Nat),.int .i64 (l:Nat)] w fun e w'=>e=.returned (.string ⟨(opT l (aF t i)).toArray⟩)∧Below w.heap.size w w'
theorem Bi (tb tz tl tc pc j nk vk:Nat) (pa:Option Addr) (vn:Int) (vt:List UInt8) (r1 r2 r3 r4 op:Int) (fn nn:Nat) (l:Int) (S:Nat) (X R:ByteArray) (w:World)
  (hcl:tb<w.heap.size∧ag w tb (tz+j * 11) 0 [.int .u8 nk,.int .u8 vk,.int .i64 vn,.string ⟨vt.toArray⟩,.int .i64 r1,.int .i64 r2,.int .i64 r3,.int .i64 r4,.int .i64 op,.int .u8 fn,.int .i64 nn]) (hj:j<tl) (hX:X.size≤1000000000) (hR:R=⟨#[40]⟩++X++⟨#[41]⟩)
  (HIH:bh (∀ w2,Below w.heap.size w w2→Calls prog 23 #[.slice (some ⟨tb,tz,none⟩) tl tc,.slice pa tl pc,.int .i64 (j:Nat)] w2 fun e w'=>e=.returned (.string X)∧Below w2.heap.size w2 w'))
  (HST:bh (∀ w2,Calls prog 49 #[.agg #[.int .u8 nk,.int .u8 vk,.int .i64 vn,.string ⟨vt.toArray⟩,.int .i64 r1,.int .i64 r2,.int .i64 r3,.int .i64 r4,.int .i64 op,.int .u8 fn,.int .i64 nn]] w2 fun e w'=>e=.returned (.int .i64 (S:Nat))∧Below w2.heap.size w2 w')) (hl:(S:Int)<l) :
  Calls prog 48 #[.slice (some ⟨tb,tz,none⟩) tl tc,.slice pa tl pc,.int .i64 (j:Nat),.int .i64 l] w fun e w'=>e=.returned (.string R)∧Below w.heap.size w w':=by
 have HR:=keep hR
 clear hR
 have hji:(j:Int)<(tl:Int):=by omega
 have H1:=Lib.hid ((Ok.start w).add (aa tb (tz+j * 11) [.int .u8 nk,.int .u8 vk,.int .i64 vn,.string ⟨vt.toArray⟩,.int .i64 r1,.int .i64 r2,.int .i64 r3,.int .i64 r4,.int .i64 op,.int .u8 fn,.int .i64 nn]) hcl)
 clear hcl
 have z1:(⟨#[40]⟩:ByteArray).size=1:=rfl
 have z2:(⟨#[41]⟩:ByteArray).size=1:=rfl
 go_enter func48,ntmps48
 go_wp2_with fail
 refine cM (HIH.out _ H1.out.bel) H1 fun w1 H3=>?_
 clear H1
 have F4:=sE H3
 go_wp2_with fail
 refine cM (HST.out _) H3 fun w5 H7=>?_
 clear F4 H3
 have F8:=sE H7
 go_wp2_with fail
 go_ret
 exact ⟨by rw [HR.out] <;> rfl,H7.out.bel⟩
theorem Bh (tb tz tl tc pc j nk vk:Nat) (pa:Option Addr) (vn:Int) (vt:List UInt8) (r1 r2 r3 r4 op:Int) (fn nn:Nat) (l:Int) (S:Nat) (X R:ByteArray) (w:World)
  (hcl:tb<w.heap.size∧ag w tb (tz+j * 11) 0 [.int .u8 nk,.int .u8 vk,.int .i64 vn,.string ⟨vt.toArray⟩,.int .i64 r1,.int .i64 r2,.int .i64 r3,.int .i64 r4,.int .i64 op,.int .u8 fn,.int .i64 nn]) (hj:j<tl) (hR:R=X)
  (HIH:bh (∀ w2,Below w.heap.size w w2→Calls prog 23 #[.slice (some ⟨tb,tz,none⟩) tl tc,.slice pa tl pc,.int .i64 (j:Nat)] w2 fun e w'=>e=.returned (.string X)∧Below w2.heap.size w2 w'))
  (HST:bh (∀ w2,Calls prog 49 #[.agg #[.int .u8 nk,.int .u8 vk,.int .i64 vn,.string ⟨vt.toArray⟩,.int .i64 r1,.int .i64 r2,.int .i64 r3,.int .i64 r4,.int .i64 op,.int .u8 fn,.int .i64 nn]] w2 fun e w'=>e=.returned (.int .i64 (S:Nat))∧Below w2.heap.size w2 w')) (hl:¬ (S:Int)<l) :
  Calls prog 48 #[.slice (some ⟨tb,tz,none⟩) tl tc,.slice pa tl pc,.int .i64 (j:Nat),.int .i64 l] w fun e w'=>e=.returned (.string R)∧Below w.heap.size w w':=by
 have HR:=keep hR
 clear hR
 have hji:(j:Int)<(tl:Int):=by omega
 have H1:=Lib.hid ((Ok.start w).add (aa tb (tz+j * 11) [.int .u8 nk,.int .u8 vk,.int .i64 vn,.string ⟨vt.toArray⟩,.int .i64 r1,.int .i64 r2,.int .i64 r3,.int .i64 r4,.int .i64 op,.int .u8 fn,.int .i64 nn]) hcl)
 clear hcl
 go_enter func48,ntmps48
 go_wp2_with fail
 refine cM (HIH.out _ H1.out.bel) H1 fun w1 H3=>?_
 clear H1
 have F4:=sE H3
 go_wp2_with fail
 refine cM (HST.out _) H3 fun w5 H7=>?_
 clear F4 H3
 have F8:=sE H7
 go_wp2_with fail
 go_ret
 exact ⟨by rw [HR.out] <;> rfl,H7.out.bel⟩
theorem eF {t:List Nd} {tb tz tc pc j:Nat} {pa:Option Addr} (hc:cT t) (hj:j<t.length) (IH:dZ t tb tz tc pa pc j) (l:Nat):eI t tb tz tc pa pc j l:=by
 intro W hin
 obtain ⟨n,hn⟩:∃ n,t[j]?=some n:=⟨_,List.getElem?_eq_getElem hj⟩
 have hg:=hc.good n (List.mem_of_getElem? hn)
 have hcl:=hin.node hn
 have hstr:(aF t j).2=hZ n:=by
  rw [li hn]
  refine sr n _ ?_
  rcases hg.1 with ⟨_,_,_,rfl,_⟩ | ⟨_,rfl,_⟩ | ⟨_,rfl,_⟩ | rfl | rfl | ⟨_,rfl,_⟩ | ⟨_,_,rfl,_⟩ <;> simp [cL,aM,ck,bS,aI,bI]
 obtain ⟨nk,vk,vn,vt,⟨r1,r2,r3,r4⟩,op,fn,nn⟩:=n
 have hih:=keep fun (w2:World) (hb:Below W.heap.size W w2)=>IH w2 (hin.below hb)
 have hst:=keep fun w2:World=>eQ ⟨nk,vk,vn,vt,⟨r1,r2,r3,r4⟩,op,fn,nn⟩ hg.1 w2
 by_cases hlt:l≤(aF t j).2
 ·refine Bh tb tz t.length tc pc j nk vk pa vn vt r1 r2 r3 r4 op fn nn (l:Nat) _ _ _ W hcl hj ?_ hih hst (by rw [hstr] at hlt; omega)
  unfold opT
  rw [if_pos hlt]
 refine Bi tb tz t.length tc pc j nk vk pa vn vt r1 r2 r3 r4 op fn nn (l:Nat) _ _ _ W hcl hj ?_ ?_ hih hst (by rw [hstr] at hlt; omega)
 ·have:=kC t hc.good j hj
  have:=hc.len
  show (aF t j).1.toArray.size≤_
  rw [List.size_toArray]
  omega
 unfold opT
 rw [if_neg hlt]
 show _=(⟨[40].toArray⟩:ByteArray)++⟨(aF t j).1.toArray⟩++⟨[41].toArray⟩
 rw [bytes_append,bytes_append]
 simp
theorem dP {t:List Nd} (hc:cT t) {tb tz i pc:Nat} {pa:Option Addr} (hi:i<t.length) {W:World} (hin:RIn t tb tz pa W) :
  Calls prog 47 #[.slice pa t.length pc,.int .i64 (i:Nat)] W fun e w'=>∃ kv,e=.returned kv∧w'.ownsRow W.heap.size 3 1 kv (ae t i).length ((ae t i).map fun x=>.int .i64 (x:Nat))∧Below W.heap.size W w':=by
 have hl:=eh t t.length
 have h:=q6 (gz t t.length) pa pc i W (by rw [hl]; have:=hc.len; omega) (by rw [hl]; omega) hin.par
 rw [hl,rz hi] at h
 refine h.mono ?_
 rintro e w' ⟨v,rfl,h1,h2⟩
 refine ⟨v,rfl,?_,h2⟩
 unfold cC at h1
 rw [List.length_map,List.map_map] at h1
 exact h1
theorem B6 (t:List Nd) (tb tz tc pc i:Nat) (pa:Option Addr) (vk:Nat) (vn:Int) (vt:List UInt8) (r1 r2 r3 r4 op:Int) (fn nn:Nat)  (hc:cT t) (hi:i<t.length) (hn:t[i]?=some ⟨4,vk,vn,vt,⟨r1,r2,r3,r4⟩,op,fn,nn⟩) (IH:∀ j,j<i→dZ t tb tz tc pa pc j) (w:World) (hin:RIn t tb tz pa w) :
  Calls prog 23 #[.slice (some ⟨tb,tz,none⟩) t.length tc,.slice pa t.length pc,.int .i64 (i:Nat)] w fun e w'=>e=.returned (.string ⟨(aF t i).1.toArray⟩)∧Below w.heap.size w w':=by
 have hkl:(ae t i).length=1:=hc.kids i _ hn
 obtain ⟨j0,hj0⟩ : ∃ j,(ae t i)[0]'(by omega) = j:=⟨_,rfl⟩
 have hji0:j0<i:=bw t i _ (by rw [← hj0]; exact List.getElem_mem _)
 obtain ⟨X,hX⟩:∃ X:ByteArray,⟨(opT 5 (aF t j0)).toArray⟩=X:=⟨_,rfl⟩
 have HX:=keep (eF hc (Nat.lt_trans hji0 hi) (IH j0 hji0) 5)
 have zX:X.size≤1000000000:=by rw [← hX]; exact cE hc (Nat.lt_trans hji0 hi) _
 have HJ0:=keep (show j0<t.length from Nat.lt_trans hji0 hi)
 obtain ⟨R,hR⟩:∃ R:ByteArray,⟨(aF t i).1.toArray⟩=R:=⟨_,rfl⟩
 have HR:=keep (show R=⟨#[45]⟩++X by
  rw [← hR,← hX,Cl hn rfl (by omega),hj0]
  show _=(⟨[45].toArray⟩:ByteArray)++⟨_⟩
  rw [bytes_append]
  rfl)
 rw [hR]
 clear hR
 obtain ⟨h1,h2⟩:=hin.node hn
 have HKID:=keep (fun (W:World) (h:RIn t tb tz pa W)=>dP (pc:=pc) hc hi h)
 have HWD:=keep (fun (W:World)=>cz ⟨4,vk,vn,vt,⟨r1,r2,r3,r4⟩,op,fn,nn⟩ (hc.good _ (List.mem_of_getElem? hn)).1 (hc.good _ (List.mem_of_getElem? hn)).2 W)
 obtain ⟨tl,htl⟩:=ex (t.length)
 have hki:(i:Int)<(tl:Int):=by omega
 rw [htl] at HKID ⊢
 have HTL:=keep htl
 have HIN:=keep hin
 have H1:=Lib.hid ((Ok.start w).add (aa tb (tz+i * 11) [.int .u8 4,.int .u8 vk,.int .i64 vn,.string ⟨vt.toArray⟩,.int .i64 r1,.int .i64 r2,.int .i64 r3,.int .i64 r4,.int .i64 op,.int .u8 fn,.int .i64 nn]) ⟨h1,h2⟩)
 clear h1 h2 htl hin hc hi hn IH
 go_enter func23,ntmps23
 go_wp2_with fail
 refine (HKID.out _ HIN.out).mono ?_
 rintro e w1 ⟨kv,rfl,hrow,hb2⟩
 obtain ⟨ka,kc,hkv⟩:=aQ hrow
 rw [hkl] at hkv
 subst hkv
 have H3:=Lib.hid (H1.out.below hb2)
 clear hb2 H1
 unfold eI at HX
 rw [hX,HTL.out] at HX
 clear hX
 obtain ⟨g,cap,e4,hgl,-⟩:=hrow.form (by omega)
 injection e4 with e5 e6 e7
 subst e5 e7
 clear e6
 have kc0:=hrow.cells (g:=g) rfl 0 _ (by rw [List.getElem?_map,List.getElem?_eq_getElem (show 0<(ae t i).length by omega)]; rfl)
 rw [fV] at kc0
 rw [hj0] at kc0
 have hglt:=(hrow.lt g rfl).2
 have H4:=Lib.hid (H3.out.add (aa g 0 [.int .i64 (j0:Nat)]) ⟨hglt,kc0,trivial⟩)
 clear H3 hglt hrow hgl kc0 hj0
 have F5:=sE H4
 go_upto_region 3 with fail
 clear F5
 have H6:=Lib.hid (H4.out.alloc w1.heap.size 27 [.int .u8 4,.int .u8 vk,.int .i64 vn,.string ⟨vt.toArray⟩,.int .i64 r1,.int .i64 r2,.int .i64 r3,.int .i64 r4,.int .i64 op,.int .u8 fn,.int .i64 nn] rfl)
 clear H4
 generalize (w1.alloc (.cells #[.int .u8 4,.int .u8 vk,.int .i64 vn,.string ⟨vt.toArray⟩,.int .i64 r1,.int .i64 r2,.int .i64 r3,.int .i64 r4,.int .i64 op,.int .u8 fn,.int .i64 nn] 27))=W7 at H6 ⊢
 have F8:=sE H6
 have zl:(⟨#[45]⟩:ByteArray).size=1:=rfl
 go_wp2_with fail
 refine cM (HX.out _ (HIN.out.below H6.out.bel)) H6 fun w9 H11=>?_
 clear F8 H6
 have F12:=sE H11
 go_wp2_with fail
 go_ret
 exact ⟨by rw [HR.out] <;> rfl,H11.out.bel⟩
theorem B7 (t:List Nd) (tb tz tc pc i:Nat) (pa:Option Addr) (vk:Nat) (vn:Int) (vt:List UInt8) (r1 r2 r3 r4 op:Int) (fn nn:Nat)  (hc:cT t) (hi:i<t.length) (hn:t[i]?=some ⟨5,vk,vn,vt,⟨r1,r2,r3,r4⟩,op,fn,nn⟩) (IH:∀ j,j<i→dZ t tb tz tc pa pc j) (w:World) (hin:RIn t tb tz pa w) :
  Calls prog 23 #[.slice (some ⟨tb,tz,none⟩) t.length tc,.slice pa t.length pc,.int .i64 (i:Nat)] w fun e w'=>e=.returned (.string ⟨(aF t i).1.toArray⟩)∧Below w.heap.size w w':=by
 have hkl:(ae t i).length=1:=hc.kids i _ hn
 obtain ⟨j0,hj0⟩ : ∃ j,(ae t i)[0]'(by omega) = j:=⟨_,rfl⟩
 have hji0:j0<i:=bw t i _ (by rw [← hj0]; exact List.getElem_mem _)
 obtain ⟨X,hX⟩:∃ X:ByteArray,⟨(opT 7 (aF t j0)).toArray⟩=X:=⟨_,rfl⟩
 have HX:=keep (eF hc (Nat.lt_trans hji0 hi) (IH j0 hji0) 7)
 have zX:X.size≤1000000000:=by rw [← hX]; exact cE hc (Nat.lt_trans hji0 hi) _
 have HJ0:=keep (show j0<t.length from Nat.lt_trans hji0 hi)
 obtain ⟨R,hR⟩:∃ R:ByteArray,⟨(aF t i).1.toArray⟩=R:=⟨_,rfl⟩
 have HR:=keep (show R=X++⟨#[37]⟩ by
  rw [← hR,← hX,Co hn rfl (by omega),hj0]
  show _=(⟨_⟩:ByteArray)++⟨[37].toArray⟩
  rw [bytes_append])
 rw [hR]
 clear hR
 obtain ⟨h1,h2⟩:=hin.node hn
 have HKID:=keep (fun (W:World) (h:RIn t tb tz pa W)=>dP (pc:=pc) hc hi h)
 have HWD:=keep (fun (W:World)=>cz ⟨5,vk,vn,vt,⟨r1,r2,r3,r4⟩,op,fn,nn⟩ (hc.good _ (List.mem_of_getElem? hn)).1 (hc.good _ (List.mem_of_getElem? hn)).2 W)
 obtain ⟨tl,htl⟩:=ex (t.length)
 have hki:(i:Int)<(tl:Int):=by omega
 rw [htl] at HKID ⊢
 have HTL:=keep htl
 have HIN:=keep hin
 have H1:=Lib.hid ((Ok.start w).add (aa tb (tz+i * 11) [.int .u8 5,.int .u8 vk,.int .i64 vn,.string ⟨vt.toArray⟩,.int .i64 r1,.int .i64 r2,.int .i64 r3,.int .i64 r4,.int .i64 op,.int .u8 fn,.int .i64 nn]) ⟨h1,h2⟩)
 clear h1 h2 htl hin hc hi hn IH
 go_enter func23,ntmps23
 go_wp2_with fail
 refine (HKID.out _ HIN.out).mono ?_
 rintro e w1 ⟨kv,rfl,hrow,hb2⟩
 obtain ⟨ka,kc,hkv⟩:=aQ hrow
 rw [hkl] at hkv
 subst hkv
 have H3:=Lib.hid (H1.out.below hb2)
 clear hb2 H1
 unfold eI at HX
 rw [hX,HTL.out] at HX
 clear hX
 obtain ⟨g,cap,e4,hgl,-⟩:=hrow.form (by omega)
 injection e4 with e5 e6 e7
 subst e5 e7
 clear e6
 have kc0:=hrow.cells (g:=g) rfl 0 _ (by rw [List.getElem?_map,List.getElem?_eq_getElem (show 0<(ae t i).length by omega)]; rfl)
 rw [fV] at kc0
 rw [hj0] at kc0
 have hglt:=(hrow.lt g rfl).2
 have H4:=Lib.hid (H3.out.add (aa g 0 [.int .i64 (j0:Nat)]) ⟨hglt,kc0,trivial⟩)
 clear H3 hglt hrow hgl kc0 hj0
 have F5:=sE H4
 go_upto_region 3 with fail
 clear F5
 have H6:=Lib.hid (H4.out.alloc w1.heap.size 27 [.int .u8 5,.int .u8 vk,.int .i64 vn,.string ⟨vt.toArray⟩,.int .i64 r1,.int .i64 r2,.int .i64 r3,.int .i64 r4,.int .i64 op,.int .u8 fn,.int .i64 nn] rfl)
 clear H4
 generalize (w1.alloc (.cells #[.int .u8 5,.int .u8 vk,.int .i64 vn,.string ⟨vt.toArray⟩,.int .i64 r1,.int .i64 r2,.int .i64 r3,.int .i64 r4,.int .i64 op,.int .u8 fn,.int .i64 nn] 27))=W7 at H6 ⊢
 have F8:=sE H6
 have zl:(⟨#[37]⟩:ByteArray).size=1:=rfl
 go_wp2_with fail
 refine cM (HX.out _ (HIN.out.below H6.out.bel)) H6 fun w9 H11=>?_
 clear F8 H6
 have F12:=sE H11
 go_wp2_with fail
 go_ret
 exact ⟨by rw [HR.out] <;> rfl,H11.out.bel⟩
theorem B0 (t:List Nd) (tb tz tc pc i:Nat) (pa:Option Addr) (vk:Nat) (vn:Int) (vt:List UInt8) (r1 r2 r3 r4 op:Int) (fn nn:Nat)  (hc:cT t) (hi:i<t.length) (hn:t[i]?=some ⟨1,vk,vn,vt,⟨r1,r2,r3,r4⟩,op,fn,nn⟩) (w:World) (hin:RIn t tb tz pa w) :
  Calls prog 23 #[.slice (some ⟨tb,tz,none⟩) t.length tc,.slice pa t.length pc,.int .i64 (i:Nat)] w fun e w'=>e=.returned (.string ⟨(aF t i).1.toArray⟩)∧Below w.heap.size w w':=by
 have hkl:(ae t i).length=0:=hc.kids i _ hn
 obtain ⟨R,hR⟩:∃ R:ByteArray,⟨(aF t i).1.toArray⟩=R:=⟨_,rfl⟩
 have HR:=keep (show R=⟨(bn ⟨1,vk,vn,vt,⟨r1,r2,r3,r4⟩,op,fn,nn⟩).toArray⟩ by rw [← hR,iI hn (by simp)])
 rw [hR]
 clear hR
 obtain ⟨h1,h2⟩:=hin.node hn
 have HKID:=keep (fun (W:World) (h:RIn t tb tz pa W)=>dP (pc:=pc) hc hi h)
 have HWD:=keep (fun (W:World)=>cz ⟨1,vk,vn,vt,⟨r1,r2,r3,r4⟩,op,fn,nn⟩ (hc.good _ (List.mem_of_getElem? hn)).1 (hc.good _ (List.mem_of_getElem? hn)).2 W)
 obtain ⟨tl,htl⟩:=ex (t.length)
 have hki:(i:Int)<(tl:Int):=by omega
 rw [htl] at HKID ⊢
 have HTL:=keep htl
 have HIN:=keep hin
 have H1:=Lib.hid ((Ok.start w).add (aa tb (tz+i * 11) [.int .u8 1,.int .u8 vk,.int .i64 vn,.string ⟨vt.toArray⟩,.int .i64 r1,.int .i64 r2,.int .i64 r3,.int .i64 r4,.int .i64 op,.int .u8 fn,.int .i64 nn]) ⟨h1,h2⟩)
 clear h1 h2 htl hin hc hi hn
 go_enter func23,ntmps23
 go_wp2_with fail
 refine (HKID.out _ HIN.out).mono ?_
 rintro e w1 ⟨kv,rfl,hrow,hb2⟩
 obtain ⟨ka,kc,hkv⟩:=aQ hrow
 rw [hkl] at hkv
 subst hkv
 have H3:=Lib.hid (H1.out.below hb2)
 clear hb2 H1
 clear hrow
 have F4:=sE H3
 go_upto_region 3 with fail
 clear F4
 have H5:=Lib.hid (H3.out.alloc w1.heap.size 27 [.int .u8 1,.int .u8 vk,.int .i64 vn,.string ⟨vt.toArray⟩,.int .i64 r1,.int .i64 r2,.int .i64 r3,.int .i64 r4,.int .i64 op,.int .u8 fn,.int .i64 nn] rfl)
 clear H3
 generalize (w1.alloc (.cells #[.int .u8 1,.int .u8 vk,.int .i64 vn,.string ⟨vt.toArray⟩,.int .i64 r1,.int .i64 r2,.int .i64 r3,.int .i64 r4,.int .i64 op,.int .u8 fn,.int .i64 nn] 27))=W6 at H5 ⊢
 have F7:=sE H5
 obtain ⟨Y,hY⟩:∃ Y:ByteArray,⟨(bn ⟨1,vk,vn,vt,⟨r1,r2,r3,r4⟩,op,fn,nn⟩).toArray⟩=Y:=⟨_,rfl⟩
 rw [hY] at HWD HR
 clear hY
 go_wp2_with fail
 refine cM (HWD.out _) H5 fun w8 H10=>?_
 clear F7 H5
 have F11:=sE H10
 go_wp2_with fail
 go_ret
 exact ⟨by rw [HR.out] <;> rfl,H10.out.bel⟩
theorem B4 (t:List Nd) (tb tz tc pc i:Nat) (pa:Option Addr) (vk:Nat) (vn:Int) (vt:List UInt8) (r1 r2 r3 r4 op:Int) (fn nn:Nat)  (hc:cT t) (hi:i<t.length) (hn:t[i]?=some ⟨2,vk,vn,vt,⟨r1,r2,r3,r4⟩,op,fn,nn⟩) (w:World) (hin:RIn t tb tz pa w) :
  Calls prog 23 #[.slice (some ⟨tb,tz,none⟩) t.length tc,.slice pa t.length pc,.int .i64 (i:Nat)] w fun e w'=>e=.returned (.string ⟨(aF t i).1.toArray⟩)∧Below w.heap.size w w':=by
 have hkl:(ae t i).length=0:=hc.kids i _ hn
 obtain ⟨R,hR⟩:∃ R:ByteArray,⟨(aF t i).1.toArray⟩=R:=⟨_,rfl⟩
 have HR:=keep (show R=⟨(bn ⟨2,vk,vn,vt,⟨r1,r2,r3,r4⟩,op,fn,nn⟩).toArray⟩ by rw [← hR,iI hn (by simp)])
 rw [hR]
 clear hR
 obtain ⟨h1,h2⟩:=hin.node hn
 have HKID:=keep (fun (W:World) (h:RIn t tb tz pa W)=>dP (pc:=pc) hc hi h)
 have HWD:=keep (fun (W:World)=>cz ⟨2,vk,vn,vt,⟨r1,r2,r3,r4⟩,op,fn,nn⟩ (hc.good _ (List.mem_of_getElem? hn)).1 (hc.good _ (List.mem_of_getElem? hn)).2 W)
 obtain ⟨tl,htl⟩:=ex (t.length)
 have hki:(i:Int)<(tl:Int):=by omega
 rw [htl] at HKID ⊢
 have HTL:=keep htl
 have HIN:=keep hin
 have H1:=Lib.hid ((Ok.start w).add (aa tb (tz+i * 11) [.int .u8 2,.int .u8 vk,.int .i64 vn,.string ⟨vt.toArray⟩,.int .i64 r1,.int .i64 r2,.int .i64 r3,.int .i64 r4,.int .i64 op,.int .u8 fn,.int .i64 nn]) ⟨h1,h2⟩)
 clear h1 h2 htl hin hc hi hn
 go_enter func23,ntmps23
 go_wp2_with fail
 refine (HKID.out _ HIN.out).mono ?_
 rintro e w1 ⟨kv,rfl,hrow,hb2⟩
 obtain ⟨ka,kc,hkv⟩:=aQ hrow
 rw [hkl] at hkv
 subst hkv
 have H3:=Lib.hid (H1.out.below hb2)
 clear hb2 H1
 clear hrow
 have F4:=sE H3
 go_upto_region 3 with fail
 clear F4
 have H5:=Lib.hid (H3.out.alloc w1.heap.size 27 [.int .u8 2,.int .u8 vk,.int .i64 vn,.string ⟨vt.toArray⟩,.int .i64 r1,.int .i64 r2,.int .i64 r3,.int .i64 r4,.int .i64 op,.int .u8 fn,.int .i64 nn] rfl)
 clear H3
 generalize (w1.alloc (.cells #[.int .u8 2,.int .u8 vk,.int .i64 vn,.string ⟨vt.toArray⟩,.int .i64 r1,.int .i64 r2,.int .i64 r3,.int .i64 r4,.int .i64 op,.int .u8 fn,.int .i64 nn] 27))=W6 at H5 ⊢
 have F7:=sE H5
 obtain ⟨Y,hY⟩:∃ Y:ByteArray,⟨(bn ⟨2,vk,vn,vt,⟨r1,r2,r3,r4⟩,op,fn,nn⟩).toArray⟩=Y:=⟨_,rfl⟩
 rw [hY] at HWD HR
 clear hY
 go_wp2_with fail
 refine cM (HWD.out _) H5 fun w8 H10=>?_
 clear F7 H5
 have F11:=sE H10
 go_wp2_with fail
 go_ret
 exact ⟨by rw [HR.out] <;> rfl,H10.out.bel⟩
theorem B5 (t:List Nd) (tb tz tc pc i:Nat) (pa:Option Addr) (vk:Nat) (vn:Int) (vt:List UInt8) (r1 r2 r3 r4 op:Int) (fn nn:Nat)  (hc:cT t) (hi:i<t.length) (hn:t[i]?=some ⟨3,vk,vn,vt,⟨r1,r2,r3,r4⟩,op,fn,nn⟩) (w:World) (hin:RIn t tb tz pa w) :
  Calls prog 23 #[.slice (some ⟨tb,tz,none⟩) t.length tc,.slice pa t.length pc,.int .i64 (i:Nat)] w fun e w'=>e=.returned (.string ⟨(aF t i).1.toArray⟩)∧Below w.heap.size w w':=by
 have hkl:(ae t i).length=0:=hc.kids i _ hn
 obtain ⟨R,hR⟩:∃ R:ByteArray,⟨(aF t i).1.toArray⟩=R:=⟨_,rfl⟩
 have HR:=keep (show R=⟨(bn ⟨3,vk,vn,vt,⟨r1,r2,r3,r4⟩,op,fn,nn⟩).toArray⟩ by rw [← hR,iI hn (by simp)])
 rw [hR]
 clear hR
 obtain ⟨h1,h2⟩:=hin.node hn
 have HKID:=keep (fun (W:World) (h:RIn t tb tz pa W)=>dP (pc:=pc) hc hi h)
 have HWD:=keep (fun (W:World)=>cz ⟨3,vk,vn,vt,⟨r1,r2,r3,r4⟩,op,fn,nn⟩ (hc.good _ (List.mem_of_getElem? hn)).1 (hc.good _ (List.mem_of_getElem? hn)).2 W)
 obtain ⟨tl,htl⟩:=ex (t.length)
 have hki:(i:Int)<(tl:Int):=by omega
 rw [htl] at HKID ⊢
 have HTL:=keep htl
 have HIN:=keep hin
 have H1:=Lib.hid ((Ok.start w).add (aa tb (tz+i * 11) [.int .u8 3,.int .u8 vk,.int .i64 vn,.string ⟨vt.toArray⟩,.int .i64 r1,.int .i64 r2,.int .i64 r3,.int .i64 r4,.int .i64 op,.int .u8 fn,.int .i64 nn]) ⟨h1,h2⟩)
 clear h1 h2 htl hin hc hi hn
 go_enter func23,ntmps23
 go_wp2_with fail
 refine (HKID.out _ HIN.out).mono ?_
 rintro e w1 ⟨kv,rfl,hrow,hb2⟩
 obtain ⟨ka,kc,hkv⟩:=aQ hrow
 rw [hkl] at hkv
 subst hkv
 have H3:=Lib.hid (H1.out.below hb2)
 clear hb2 H1
 clear hrow
 have F4:=sE H3
 go_upto_region 3 with fail
 clear F4
 have H5:=Lib.hid (H3.out.alloc w1.heap.size 27 [.int .u8 3,.int .u8 vk,.int .i64 vn,.string ⟨vt.toArray⟩,.int .i64 r1,.int .i64 r2,.int .i64 r3,.int .i64 r4,.int .i64 op,.int .u8 fn,.int .i64 nn] rfl)
 clear H3
 generalize (w1.alloc (.cells #[.int .u8 3,.int .u8 vk,.int .i64 vn,.string ⟨vt.toArray⟩,.int .i64 r1,.int .i64 r2,.int .i64 r3,.int .i64 r4,.int .i64 op,.int .u8 fn,.int .i64 nn] 27))=W6 at H5 ⊢
 have F7:=sE H5
 obtain ⟨Y,hY⟩:∃ Y:ByteArray,⟨(bn ⟨3,vk,vn,vt,⟨r1,r2,r3,r4⟩,op,fn,nn⟩).toArray⟩=Y:=⟨_,rfl⟩
 rw [hY] at HWD HR
 clear hY
 go_wp2_with fail
 refine cM (HWD.out _) H5 fun w8 H10=>?_
 clear F7 H5
 have F11:=sE H10
 go_wp2_with fail
 go_ret
 exact ⟨by rw [HR.out] <;> rfl,H10.out.bel⟩
theorem Bj (t:List Nd) (tb tz tc pc i:Nat) (pa:Option Addr) (vk:Nat) (vn:Int) (vt:List UInt8) (r1 r2 r3 r4:Int) (fn nn:Nat)  (hc:cT t) (hi:i<t.length) (hn:t[i]?=some ⟨6,vk,vn,vt,⟨r1,r2,r3,r4⟩,5,fn,nn⟩) (IH:∀ j,j<i→dZ t tb tz tc pa pc j) (w:World) (hin:RIn t tb tz pa w) :
  Calls prog 23 #[.slice (some ⟨tb,tz,none⟩) t.length tc,.slice pa t.length pc,.int .i64 (i:Nat)] w fun e w'=>e=.returned (.string ⟨(aF t i).1.toArray⟩)∧Below w.heap.size w w':=by
 have hkl:(ae t i).length=2:=hc.kids i _ hn
 obtain ⟨j0,hj0⟩ : ∃ j,(ae t i)[0]'(by omega) = j:=⟨_,rfl⟩
 have hji0:j0<i:=bw t i _ (by rw [← hj0]; exact List.getElem_mem _)
 obtain ⟨A,hA⟩:∃ X:ByteArray,⟨(opT 7 (aF t j0)).toArray⟩=X:=⟨_,rfl⟩
 have HA:=keep (eF hc (Nat.lt_trans hji0 hi) (IH j0 hji0) 7)
 have zA:A.size≤1000000000:=by rw [← hA]; exact cE hc (Nat.lt_trans hji0 hi) _
 have HJ0:=keep (show j0<t.length from Nat.lt_trans hji0 hi)
 obtain ⟨j1,hj1⟩ : ∃ j,(ae t i)[1]'(by omega) = j:=⟨_,rfl⟩
 have hji1:j1<i:=bw t i _ (by rw [← hj1]; exact List.getElem_mem _)
 obtain ⟨B,hB⟩:∃ X:ByteArray,⟨(opT 5 (aF t j1)).toArray⟩=X:=⟨_,rfl⟩
 have HB:=keep (eF hc (Nat.lt_trans hji1 hi) (IH j1 hji1) 5)
 have zB:B.size≤1000000000:=by rw [← hB]; exact cE hc (Nat.lt_trans hji1 hi) _
 have HJ1:=keep (show j1<t.length from Nat.lt_trans hji1 hi)
 obtain ⟨R,hR⟩:∃ R:ByteArray,⟨(aF t i).1.toArray⟩=R:=⟨_,rfl⟩
 obtain ⟨O,hO⟩:∃ O:ByteArray,⟨(bn ⟨6,vk,vn,vt,⟨r1,r2,r3,r4⟩,5,fn,nn⟩).toArray⟩=O:=⟨_,rfl⟩
 have zO:O.size≤1000000000:=by rw [← hO]; exact fI hc hn
 have HR:=keep (show R=A++O++B by
  rw [← hR,← hA,← hB,← hO,z6 hn rfl rfl (by omega) (by omega),hj0,hj1,bytes_append,bytes_append,List.append_assoc])
 have HSTR:=keep (fun W:World=>eQ ⟨6,vk,vn,vt,⟨r1,r2,r3,r4⟩,5,fn,nn⟩ (hc.good _ (List.mem_of_getElem? hn)).1 W)
 rw [hR]
 clear hR
 obtain ⟨h1,h2⟩:=hin.node hn
 have HKID:=keep (fun (W:World) (h:RIn t tb tz pa W)=>dP (pc:=pc) hc hi h)
 have HWD:=keep (fun (W:World)=>cz ⟨6,vk,vn,vt,⟨r1,r2,r3,r4⟩,5,fn,nn⟩ (hc.good _ (List.mem_of_getElem? hn)).1 (hc.good _ (List.mem_of_getElem? hn)).2 W)
 obtain ⟨tl,htl⟩:=ex (t.length)
 have hki:(i:Int)<(tl:Int):=by omega
 rw [htl] at HKID ⊢
 have HTL:=keep htl
 have HIN:=keep hin
 have H1:=Lib.hid ((Ok.start w).add (aa tb (tz+i * 11) [.int .u8 6,.int .u8 vk,.int .i64 vn,.string ⟨vt.toArray⟩,.int .i64 r1,.int .i64 r2,.int .i64 r3,.int .i64 r4,.int .i64 5,.int .u8 fn,.int .i64 nn]) ⟨h1,h2⟩)
 clear h1 h2 htl hin hc hi hn IH
 go_enter func23,ntmps23
 go_wp2_with fail
 refine (HKID.out _ HIN.out).mono ?_
 rintro e w1 ⟨kv,rfl,hrow,hb2⟩
 obtain ⟨ka,kc,hkv⟩:=aQ hrow
 rw [hkl] at hkv
 subst hkv
 have H3:=Lib.hid (H1.out.below hb2)
 clear hb2 H1
 unfold eI at HA
 rw [hA,HTL.out] at HA
 clear hA
 unfold eI at HB
 rw [hB,HTL.out] at HB
 clear hB
 obtain ⟨g,cap,e4,hgl,-⟩:=hrow.form (by omega)
 injection e4 with e5 e6 e7
 subst e5 e7
 clear e6
 have kc0:=hrow.cells (g:=g) rfl 0 _ (by rw [List.getElem?_map,List.getElem?_eq_getElem (show 0<(ae t i).length by omega)]; rfl)
 rw [fV] at kc0
 rw [hj0] at kc0
 have kc1:=hrow.cells (g:=g) rfl 1 _ (by rw [List.getElem?_map,List.getElem?_eq_getElem (show 1<(ae t i).length by omega)]; rfl)
 rw [fV] at kc1
 rw [hj1] at kc1
 have hglt:=(hrow.lt g rfl).2
 have H4:=Lib.hid (H3.out.add (aa g 0 [.int .i64 (j0:Nat),.int .i64 (j1:Nat)]) ⟨hglt,kc0,kc1,trivial⟩)
 clear H3 hglt hrow hgl kc0 hj0 kc1 hj1
 rw [hO] at HWD
 clear hO
 have hs6:hZ ⟨6,vk,vn,vt,⟨r1,r2,r3,r4⟩,5,fn,nn⟩=6:=rfl
 rw [hs6] at HSTR
 clear hs6
 have F5:=sE H4
 go_upto_region 3 with fail
 clear F5
 have H6:=Lib.hid (H4.out.alloc w1.heap.size 27 [.int .u8 6,.int .u8 vk,.int .i64 vn,.string ⟨vt.toArray⟩,.int .i64 r1,.int .i64 r2,.int .i64 r3,.int .i64 r4,.int .i64 5,.int .u8 fn,.int .i64 nn] rfl)
 clear H4
 generalize (w1.alloc (.cells #[.int .u8 6,.int .u8 vk,.int .i64 vn,.string ⟨vt.toArray⟩,.int .i64 r1,.int .i64 r2,.int .i64 r3,.int .i64 r4,.int .i64 5,.int .u8 fn,.int .i64 nn] 27))=W7 at H6 ⊢
 have F8:=sE H6
 go_upto_region 9 with fail
 refine wp_region_held_drew (S:=fun W=>Ok w [af (w1.heap.size) 27 [.int .u8 6,.int .u8 vk,.int .i64 vn,.string ⟨vt.toArray⟩,.int .i64 r1,.int .i64 r2,.int .i64 r3,.int .i64 r4,.int .i64 5,.int .u8 fn,.int .i64 nn],aa g 0 [.int .i64 (j0:Nat),.int .i64 (j1:Nat)],aa tb (tz+i * 11) [.int .u8 6,.int .u8 vk,.int .i64 vn,.string ⟨vt.toArray⟩,.int .i64 r1,.int .i64 r2,.int .i64 r3,.int .i64 r4,.int .i64 5,.int .u8 fn,.int .i64 nn]] W) (by kernel_rfl) H6.out.drew (fun hHeld => ?_)
 refine wt3 0 ?_
 refine wt3 2 ?_
 refine wal 1 fun K hK => ?_
 go_simp
 refine (HSTR.out _).mono ?_
 rintro e w10 ⟨rfl,hb11⟩
 go_wp2_with fail
 refine hK.out _ _ (hHeld.below hb11) (fun hHeld => ?_)
 clear hK K
 refine wn ?_
 refine wal 3 fun K hK => ?_
 go_simp
 refine (HSTR.out _).mono ?_
 rintro e w12 ⟨rfl,hb13⟩
 go_wp2_with fail
 refine hK.out _ _ (hHeld.below hb13) (fun hHeld => ?_)
 clear hK K
 refine wn ?_
 refine wt3 4 ?_
 refine wt3 5 ?_
 refine wt3 6 ?_
 refine wpAnyH_done (by kernel_rfl) ?_ _
 clear F8
 clear H6
 have H14:=Lib.hid hHeld
 clear hHeld
 have F15:=sE H14
 go_upto_region 12 with fail
 refine wp_region_held_drew (S:=fun W=>Ok w [af (w1.heap.size) 27 [.int .u8 6,.int .u8 vk,.int .i64 vn,.string ⟨vt.toArray⟩,.int .i64 r1,.int .i64 r2,.int .i64 r3,.int .i64 r4,.int .i64 5,.int .u8 fn,.int .i64 nn],aa g 0 [.int .i64 (j0:Nat),.int .i64 (j1:Nat)],aa tb (tz+i * 11) [.int .u8 6,.int .u8 vk,.int .i64 vn,.string ⟨vt.toArray⟩,.int .i64 r1,.int .i64 r2,.int .i64 r3,.int .i64 r4,.int .i64 5,.int .u8 fn,.int .i64 nn]] W) (by kernel_rfl) H14.out.drew (fun hHeld => ?_)
 refine wt4 0 ?_
 refine wt4 1 ?_
 refine wt4 2 ?_
 refine wt4 3 ?_
 refine wt4 4 ?_
 refine wt4 5 ?_
 refine wt4 7 ?_
 refine wt4 10 ?_
 refine wt4 11 ?_
 refine wt4 12 ?_
 refine wt4 13 ?_
 refine wt4 14 ?_
 refine wt4 15 ?_
 refine wal 6 fun K hK => ?_
 go_simp
 refine (HA.out _ (HIN.out.below hHeld.bel)).mono ?_
 rintro e w17 ⟨rfl,hb18⟩
 go_wp2_with fail
 refine hK.out _ _ (hHeld.below hb18) (fun hHeld => ?_)
 clear hK K
 refine wn ?_
 refine wal 8 fun K hK => ?_
 go_simp
 refine (HWD.out _).mono ?_
 rintro e w19 ⟨rfl,hb20⟩
 go_wp2_with fail
 refine hK.out _ _ (hHeld.below hb20) (fun hHeld => ?_)
 clear hK K
 refine wn ?_
 refine wt4 9 ?_
 refine wal 16 fun K hK => ?_
 go_simp
 refine (HB.out _ (HIN.out.below hHeld.bel)).mono ?_
 rintro e w21 ⟨rfl,hb22⟩
 go_wp2_with fail
 refine hK.out _ _ (hHeld.below hb22) (fun hHeld => ?_)
 clear hK K
 refine wn ?_
 refine wt4 17 ?_
 refine wt4 18 ?_
 refine wpAnyH_done (by kernel_rfl) ?_ _
 clear F15
 clear H14
 have H23:=Lib.hid hHeld
 clear hHeld
 have F24:=sE H23
 go_wp2_with fail
 go_ret
 exact ⟨by rw [HR.out] <;> rfl,H23.out.bel⟩
theorem B8 (t:List Nd) (tb tz tc pc i:Nat) (pa:Option Addr) (vk:Nat) (vn:Int) (vt:List UInt8) (r1 r2 r3 r4 op:Int) (fn nn:Nat) (h5:op≠5) (hc:cT t) (hi:i<t.length) (hn:t[i]?=some ⟨6,vk,vn,vt,⟨r1,r2,r3,r4⟩,op,fn,nn⟩) (IH:∀ j,j<i→dZ t tb tz tc pa pc j) (w:World) (hin:RIn t tb tz pa w) :
  Calls prog 23 #[.slice (some ⟨tb,tz,none⟩) t.length tc,.slice pa t.length pc,.int .i64 (i:Nat)] w fun e w'=>e=.returned (.string ⟨(aF t i).1.toArray⟩)∧Below w.heap.size w w':=by
 have hkl:(ae t i).length=2:=hc.kids i _ hn
 obtain ⟨j0,hj0⟩ : ∃ j,(ae t i)[0]'(by omega) = j:=⟨_,rfl⟩
 have hji0:j0<i:=bw t i _ (by rw [← hj0]; exact List.getElem_mem _)
 obtain ⟨A,hA⟩:∃ X:ByteArray,⟨(opT (aJ op) (aF t j0)).toArray⟩=X:=⟨_,rfl⟩
 have HA:=keep (eF hc (Nat.lt_trans hji0 hi) (IH j0 hji0) (aJ op))
 have zA:A.size≤1000000000:=by rw [← hA]; exact cE hc (Nat.lt_trans hji0 hi) _
 have HJ0:=keep (show j0<t.length from Nat.lt_trans hji0 hi)
 obtain ⟨j1,hj1⟩ : ∃ j,(ae t i)[1]'(by omega) = j:=⟨_,rfl⟩
 have hji1:j1<i:=bw t i _ (by rw [← hj1]; exact List.getElem_mem _)
 obtain ⟨B,hB⟩:∃ X:ByteArray,⟨(opT (aJ op+1) (aF t j1)).toArray⟩=X:=⟨_,rfl⟩
 have HB:=keep (eF hc (Nat.lt_trans hji1 hi) (IH j1 hji1) (aJ op+1))
 have zB:B.size≤1000000000:=by rw [← hB]; exact cE hc (Nat.lt_trans hji1 hi) _
 have HJ1:=keep (show j1<t.length from Nat.lt_trans hji1 hi)
 obtain ⟨R,hR⟩:∃ R:ByteArray,⟨(aF t i).1.toArray⟩=R:=⟨_,rfl⟩
 obtain ⟨O,hO⟩:∃ O:ByteArray,⟨(bn ⟨6,vk,vn,vt,⟨r1,r2,r3,r4⟩,op,fn,nn⟩).toArray⟩=O:=⟨_,rfl⟩
 have zO:O.size≤1000000000:=by rw [← hO]; exact fI hc hn
 have HR:=keep (show R=A++O++B by
  rw [← hR,← hA,← hB,← hO,Cp hn rfl h5 (by omega) (by omega),hj0,hj1,bytes_append,bytes_append,List.append_assoc])
 have HSTR:=keep (fun W:World=>eQ ⟨6,vk,vn,vt,⟨r1,r2,r3,r4⟩,op,fn,nn⟩ (hc.good _ (List.mem_of_getElem? hn)).1 W)
 rw [hR]
 clear hR
 obtain ⟨h1,h2⟩:=hin.node hn
 have HKID:=keep (fun (W:World) (h:RIn t tb tz pa W)=>dP (pc:=pc) hc hi h)
 have HWD:=keep (fun (W:World)=>cz ⟨6,vk,vn,vt,⟨r1,r2,r3,r4⟩,op,fn,nn⟩ (hc.good _ (List.mem_of_getElem? hn)).1 (hc.good _ (List.mem_of_getElem? hn)).2 W)
 obtain ⟨tl,htl⟩:=ex (t.length)
 have hki:(i:Int)<(tl:Int):=by omega
 rw [htl] at HKID ⊢
 have HTL:=keep htl
 have HIN:=keep hin
 have H1:=Lib.hid ((Ok.start w).add (aa tb (tz+i * 11) [.int .u8 6,.int .u8 vk,.int .i64 vn,.string ⟨vt.toArray⟩,.int .i64 r1,.int .i64 r2,.int .i64 r3,.int .i64 r4,.int .i64 op,.int .u8 fn,.int .i64 nn]) ⟨h1,h2⟩)
 clear h1 h2 htl hin hc hi hn IH
 go_enter func23,ntmps23
 go_wp2_with fail
 refine (HKID.out _ HIN.out).mono ?_
 rintro e w1 ⟨kv,rfl,hrow,hb2⟩
 obtain ⟨ka,kc,hkv⟩:=aQ hrow
 rw [hkl] at hkv
 subst hkv
 have H3:=Lib.hid (H1.out.below hb2)
 clear hb2 H1
 unfold eI at HA
 rw [hA,HTL.out] at HA
 clear hA
 unfold eI at HB
 rw [hB,HTL.out] at HB
 clear hB
 obtain ⟨g,cap,e4,hgl,-⟩:=hrow.form (by omega)
 injection e4 with e5 e6 e7
 subst e5 e7
 clear e6
 have kc0:=hrow.cells (g:=g) rfl 0 _ (by rw [List.getElem?_map,List.getElem?_eq_getElem (show 0<(ae t i).length by omega)]; rfl)
 rw [fV] at kc0
 rw [hj0] at kc0
 have kc1:=hrow.cells (g:=g) rfl 1 _ (by rw [List.getElem?_map,List.getElem?_eq_getElem (show 1<(ae t i).length by omega)]; rfl)
 rw [fV] at kc1
 rw [hj1] at kc1
 have hglt:=(hrow.lt g rfl).2
 have H4:=Lib.hid (H3.out.add (aa g 0 [.int .i64 (j0:Nat),.int .i64 (j1:Nat)]) ⟨hglt,kc0,kc1,trivial⟩)
 clear H3 hglt hrow hgl kc0 hj0 kc1 hj1
 rw [hO] at HWD
 clear hO
 have hs6:hZ ⟨6,vk,vn,vt,⟨r1,r2,r3,r4⟩,op,fn,nn⟩=aJ op:=by unfold hZ; rw [if_neg (by simp),if_neg (by simp),if_pos rfl,if_neg h5]
 rw [hs6] at HSTR
 have hop:(op == 5)=false:=by simpa using h5
 have hb8:aJ op≤8:=by unfold aJ; (repeat' split) <;> decide
 obtain ⟨b,hb⟩:=ex (aJ op)
 rw [hb] at HSTR HA HB hb8
 have hw1:IntKind.i64.wrap ((b:Int)+1)=((b+1:Nat):Int):=by rw [Go.IntWalk.i64_in _ (by omega)]; omega
 clear hs6 hb h5
 have F5:=sE H4
 go_upto_region 3 with fail
 clear F5
 have H6:=Lib.hid (H4.out.alloc w1.heap.size 27 [.int .u8 6,.int .u8 vk,.int .i64 vn,.string ⟨vt.toArray⟩,.int .i64 r1,.int .i64 r2,.int .i64 r3,.int .i64 r4,.int .i64 op,.int .u8 fn,.int .i64 nn] rfl)
 clear H4
 generalize (w1.alloc (.cells #[.int .u8 6,.int .u8 vk,.int .i64 vn,.string ⟨vt.toArray⟩,.int .i64 r1,.int .i64 r2,.int .i64 r3,.int .i64 r4,.int .i64 op,.int .u8 fn,.int .i64 nn] 27))=W7 at H6 ⊢
 have F8:=sE H6
 go_upto_region 9 with fail
 refine wp_region_held_drew (S:=fun W=>Ok w [af (w1.heap.size) 27 [.int .u8 6,.int .u8 vk,.int .i64 vn,.string ⟨vt.toArray⟩,.int .i64 r1,.int .i64 r2,.int .i64 r3,.int .i64 r4,.int .i64 op,.int .u8 fn,.int .i64 nn],aa g 0 [.int .i64 (j0:Nat),.int .i64 (j1:Nat)],aa tb (tz+i * 11) [.int .u8 6,.int .u8 vk,.int .i64 vn,.string ⟨vt.toArray⟩,.int .i64 r1,.int .i64 r2,.int .i64 r3,.int .i64 r4,.int .i64 op,.int .u8 fn,.int .i64 nn]] W) (by kernel_rfl) H6.out.drew (fun hHeld => ?_)
 refine wt3 0 ?_
 refine wt3 2 ?_
 refine wal 1 fun K hK => ?_
 go_simp
 refine (HSTR.out _).mono ?_
 rintro e w10 ⟨rfl,hb11⟩
 go_wp2_with fail
 refine hK.out _ _ (hHeld.below hb11) (fun hHeld => ?_)
 clear hK K
 refine wn ?_
 refine wal 3 fun K hK => ?_
 go_simp
 refine (HSTR.out _).mono ?_
 rintro e w12 ⟨rfl,hb13⟩
 go_wp2_with fail
 refine hK.out _ _ (hHeld.below hb13) (fun hHeld => ?_)
 clear hK K
 refine wn ?_
 refine wt3 4 ?_
 refine wt3 5 ?_
 refine wt3 6 ?_
 refine wpAnyH_done (by kernel_rfl) ?_ _
 clear F8
 clear H6
 have H14:=Lib.hid hHeld
 clear hHeld
 have F15:=sE H14
 go_upto_region 12 with fail
 refine wp_region_held_drew (S:=fun W=>Ok w [af (w1.heap.size) 27 [.int .u8 6,.int .u8 vk,.int .i64 vn,.string ⟨vt.toArray⟩,.int .i64 r1,.int .i64 r2,.int .i64 r3,.int .i64 r4,.int .i64 op,.int .u8 fn,.int .i64 nn],aa g 0 [.int .i64 (j0:Nat),.int .i64 (j1:Nat)],aa tb (tz+i * 11) [.int .u8 6,.int .u8 vk,.int .i64 vn,.string ⟨vt.toArray⟩,.int .i64 r1,.int .i64 r2,.int .i64 r3,.int .i64 r4,.int .i64 op,.int .u8 fn,.int .i64 nn]] W) (by kernel_rfl) H14.out.drew (fun hHeld => ?_)
 refine wt4 0 ?_
 refine wt4 1 ?_
 refine wt4 2 ?_
 refine wt4 3 ?_
 refine wt4 4 ?_
 refine wt4 5 ?_
 refine wt4 7 ?_
 refine wt4 10 ?_
 refine wt4 11 ?_
 refine wt4 12 ?_
 refine wt4 13 ?_
 refine wt4 14 ?_
 refine wt4 15 ?_
 refine wal 6 fun K hK => ?_
 go_simp
 refine (HA.out _ (HIN.out.below hHeld.bel)).mono ?_
 rintro e w17 ⟨rfl,hb18⟩
 go_wp2_with fail
 refine hK.out _ _ (hHeld.below hb18) (fun hHeld => ?_)
 clear hK K
 refine wn ?_
 refine wal 8 fun K hK => ?_
 go_simp
 refine (HWD.out _).mono ?_
 rintro e w19 ⟨rfl,hb20⟩
 go_wp2_with fail
 refine hK.out _ _ (hHeld.below hb20) (fun hHeld => ?_)
 clear hK K
 refine wn ?_
 refine wt4 9 ?_
 refine wal 16 fun K hK => ?_
 go_simp
 refine (HB.out _ (HIN.out.below hHeld.bel)).mono ?_
 rintro e w21 ⟨rfl,hb22⟩
 go_wp2_with fail
 refine hK.out _ _ (hHeld.below hb22) (fun hHeld => ?_)
 clear hK K
 refine wn ?_
 refine wt4 17 ?_
 refine wt4 18 ?_
 refine wpAnyH_done (by kernel_rfl) ?_ _
 clear F15
 clear H14
 have H23:=Lib.hid hHeld
 clear hHeld
 have F24:=sE H23
 go_wp2_with fail
 go_ret
 exact ⟨by rw [HR.out] <;> rfl,H23.out.bel⟩
