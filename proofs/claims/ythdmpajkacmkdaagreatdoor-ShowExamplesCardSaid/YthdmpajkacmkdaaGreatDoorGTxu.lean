/- show.text, kind by kind. -/
import Derived.Test.YthdmpajkacmkdaaGreatDoorGTxt
import Derived.Test.YthdmpajkacmkdaaGreatDoorGTg
namespace Go.Proofs.YthdmpajkacmkdaaGreatDoor
set_option maxRecDepth 100000
set_option maxHeartbeats 8000000
open Go.RowKit Go.Proofs.Tryz
theorem fB {ks:List Nat} {f:Nat→Tx} {k:Nat} (h:k<ks.length):(ks.map f).getD k ([],8)=f ks[k]:=by
 rw [List.getD_eq_getElem?_getD,List.getElem?_map,List.getElem?_eq_getElem h]; rfl
theorem Cl {t:List Nd} {i:Nat} {n:Nd} (hn:t[i]?=some n) (h4:n.kind=4) (hl:0<(ae t i).length):(aF t i).1=45::opT 5 (aF t (ae t i)[0]):=by
 rw [li hn]
 unfold i6
 rw [h4,fB hl]
 rfl
theorem Co {t:List Nd} {i:Nat} {n:Nd} (hn:t[i]?=some n) (h4:n.kind=5) (hl:0<(ae t i).length):(aF t i).1=opT 7 (aF t (ae t i)[0])++[37]:=by
 rw [li hn]
 unfold i6
 rw [h4,fB hl]
 rfl
theorem Cp {t:List Nd} {i:Nat} {n:Nd} (hn:t[i]?=some n) (h4:n.kind=6) (h5:n.op≠5) (h0:0<(ae t i).length) (h1:1<(ae t i).length):(aF t i).1=opT (aJ n.op) (aF t (ae t i)[0])++(bn n++opT (aJ n.op+1) (aF t (ae t i)[1])):=by
 rw [li hn]
 have ho:bn n=gy n:=lW (by omega) (by omega)
 unfold i6
 rw [h4,fB h0,fB h1,ho]
 simp only [Nat.reduceEqDiff,if_false,if_true]
 rw [if_neg h5]
theorem z6 {t:List Nd} {i:Nat} {n:Nd} (hn:t[i]?=some n) (h4:n.kind=6) (h5:n.op=5) (h0:0<(ae t i).length) (h1:1<(ae t i).length):(aF t i).1=opT 7 (aF t (ae t i)[0])++(bn n++opT 5 (aF t (ae t i)[1])):=by
 rw [li hn]
 have ho:bn n=gy n:=lW (by omega) (by omega)
 unfold i6
 rw [h4,fB h0,fB h1,ho]
 simp only [Nat.reduceEqDiff,if_false,if_true]
 rw [if_pos h5]
theorem Cq {t:List Nd} {i:Nat} {n:Nd} (hn:t[i]?=some n) (h4:n.kind=7):(aF t i).1=bn n++40::(jnT ((ae t i).map (aF t))++[41]):=by
 rw [li hn]
 have ho:bn n=gy n:=lW (by omega) (by omega)
 unfold i6
 rw [h4,ho]
 rfl
theorem iI {t:List Nd} {i:Nat} {n:Nd} (hn:t[i]?=some n) (h:n.kind=1∨n.kind=2∨n.kind=3):(aF t i).1=bn n:=by
 rw [li hn]
 have ho:bn n=gy n:=lW (by omega) (by omega)
 unfold i6
 rw [ho]
 rcases h with h | h | h <;> rw [h] <;> rfl
theorem cE {t:List Nd} (hc:cT t) {j:Nat} (hj:j<t.length) (l:Nat):(⟨(opT l (aF t j)).toArray⟩:ByteArray).size≤1000000000:=by
 have h1:=kC t hc.good j hj
 have h2:=f8 l (aF t j)
 have h3:=hc.len
 show (opT l (aF t j)).toArray.size≤_
 rw [List.size_toArray]
 omega
theorem fI {t:List Nd} (hc:cT t) {i:Nat} {n:Nd} (hn:t[i]?=some n):(⟨(bn n).toArray⟩:ByteArray).size≤1000000000:=by
 have hg:=hc.good n (List.mem_of_getElem? hn)
 have:=jE hg.1 hg.2
 show (bn n).toArray.size≤_
 rw [List.size_toArray]
 omega
theorem eo {t:List Nd} (hc:cT t) {tb tz tc i:Nat} (hi:i<t.length) {W:World} (hin:TIn t tb tz W) :
  Calls prog 41 #[.slice (some ⟨tb,tz,none⟩) t.length tc,.int .i64 (i:Nat)] W (rF (ae t i) W):=by
 have:=ua (t.map Nd.any) i (some ⟨tb,tz,none⟩) tc W (by rw [fu]; exact hin.rows) (by rw [List.length_map]; have:=hc.len; omega) (mH fun n hn=>(hc.good n hn).1) hc.chk (by rw [List.length_map]; exact hi)
 rw [List.length_map,jA] at this
 exact this
def jj (t:List Nd) (tb tz tc i k:Nat) (l:Int) (X:ByteArray):Prop:=∀ (W:World) (p q B:Nat) (kv:Value),TIn t tb tz W→Blk W p 28 #[.slice (some ⟨tb,tz,none⟩) t.length tc]→Blk W q 50 #[kv] →
  W.ownsRow B 3 1 kv (ae t i).length ((ae t i).map fun x=>.int .i64 (x:Nat)) →
  Calls prog 42 #[.int .i64 (k:Nat),.int .i64 l,.pointer (some ⟨p,0,none⟩),.pointer (some ⟨q,0,none⟩)] W fun e w'=>e=.returned (.string X)∧Below W.heap.size W w'
theorem dR {t:List Nd} {tb tz tc i k:Nat} (hc:cT t) (hi:i<t.length) (IH:∀ j,j<i→fU t tb tz tc j) (hk:k<(ae t i).length) (l:Nat):jj t tb tz tc i k (l:Nat) ⟨(opT l (aF t (ae t i)[k])).toArray⟩ :=
 fun _ _ _ _ _ h1 h2 h3 h4=>Ag hc hi IH h1 h2 h3 h4 hk
theorem Cu (t:List Nd) (tb tz tc i:Nat) (vk:Nat) (vn:Int) (vt:List UInt8) (r1 r2 r3 r4 op:Int) (fn nn:Nat)  (hc:cT t) (hi:i<t.length) (hn:t[i]?=some ⟨4,vk,vn,vt,⟨r1,r2,r3,r4⟩,op,fn,nn⟩) (IH:∀ j,j<i→fU t tb tz tc j) (w:World) (hin:TIn t tb tz w) :
  Calls prog 21 #[.slice (some ⟨tb,tz,none⟩) t.length tc,.int .i64 (i:Nat)] w fun e w'=>e=.returned (.string ⟨(aF t i).1.toArray⟩)∧Below w.heap.size w w':=by
 have hkl:(ae t i).length=1:=hc.kids i _ hn
 obtain ⟨X,hX⟩ : ∃ X : ByteArray,⟨(opT 5 (aF t ((ae t i)[0]'(by omega)))).toArray⟩ = X:=⟨_,rfl⟩
 have HX:=keep (show jj t tb tz tc i 0 (5:Nat) X by rw [← hX]; exact dR hc hi IH (by omega) 5)
 have zX:X.size≤1000000000:=by rw [← hX]; exact cE hc (Nat.lt_trans (bw t i _ (List.getElem_mem _)) hi) _
 obtain ⟨R,hR⟩:∃ R:ByteArray,⟨(aF t i).1.toArray⟩=R:=⟨_,rfl⟩
 have HR:=keep (show R=⟨#[45]⟩++X by
  rw [← hR,← hX,Cl hn rfl (by omega)]
  show _=(⟨[45].toArray⟩:ByteArray)++⟨_⟩
  rw [bytes_append]
  rfl)
 rw [hR]
 clear hR hX
 obtain ⟨h1,h2⟩:=hin.node hn
 have HKID:=keep (fun (W:World) (h:TIn t tb tz W)=>eo hc (tc:=tc) hi h)
 have HOWN:=keep (fun (W:World) (h:cn W)=>dM ⟨4,vk,vn,vt,⟨r1,r2,r3,r4⟩,op,fn,nn⟩ (hc.good _ (List.mem_of_getElem? hn)).1 (hc.good _ (List.mem_of_getElem? hn)).2 W h)
 obtain ⟨tl,htl⟩:=ex (t.length)
 have hki:(i:Int)<(tl:Int):=by omega
 rw [htl] at HKID ⊢
 have HTL:=keep htl
 have HIN:=keep hin
 have H1:=Lib.hid (((Ok.start w).add (aa tb (tz+i * 11) [.int .u8 4,.int .u8 vk,.int .i64 vn,.string ⟨vt.toArray⟩,.int .i64 r1,.int .i64 r2,.int .i64 r3,.int .i64 r4,.int .i64 op,.int .u8 fn,.int .i64 nn]) ⟨h1,h2⟩).alloc w.heap.size 28 [.slice (some ⟨tb,tz,none⟩) tl tc] rfl)
 clear h1 h2 htl hin hc hi hn IH
 go_enter func21,ntmps21
 go_upto_region 1 with fail
 generalize (w.alloc (.cells #[.slice (some ⟨tb,tz,none⟩) tl tc] 28))=W1 at H1 ⊢
 have F2:=sE H1
 go_upto_region 2 with fail
 clear F2
 have H3:=Lib.hid (H1.out.alloc W1.heap.size 27 [.int .u8 4,.int .u8 vk,.int .i64 vn,.string ⟨vt.toArray⟩,.int .i64 r1,.int .i64 r2,.int .i64 r3,.int .i64 r4,.int .i64 op,.int .u8 fn,.int .i64 nn] rfl)
 clear H1
 generalize (W1.alloc (.cells #[.int .u8 4,.int .u8 vk,.int .i64 vn,.string ⟨vt.toArray⟩,.int .i64 r1,.int .i64 r2,.int .i64 r3,.int .i64 r4,.int .i64 op,.int .u8 fn,.int .i64 nn] 27))=W4 at H3 ⊢
 have F5:=sE H3
 go_wp2_with fail
 refine (HKID.out _ (HIN.out.below H3.out.bel)).mono ?_
 rintro e w6 ⟨kv,rfl,hrow,hb7⟩
 obtain ⟨ka,kc,hkv⟩:=aQ hrow
 rw [hkl] at hkv
 subst hkv
 clear F5
 have H8:=Lib.hid ((H3.out.below hb7).add (aK W4.heap.size 3 1 (.slice ka 1 kc) (ae t i).length ((ae t i).map fun x=>.int .i64 (x:Nat))) hrow)
 clear hb7 H3 hrow
 have F9:=H8.out.sees
 simp only [sees,af,aa,ag,Nat.add_zero,ac,Nat.reduceAdd] at F9
 obtain ⟨-,⟨z1,c10,c11,c12,c13,c14,c15,c16,c17,c18,c19,c1a,-⟩,⟨z2,c20,-⟩,⟨z3,c30,c31,c32,c33,c34,c35,c36,c37,c38,c39,c3a,-⟩,-⟩:=F9
 go_upto_region 3 with fail
 have y10:=z1
 have y11:=z2
 have y12:=z3
 clear z1 c10 c11 c12 c13 c14 c15 c16 c17 c18 c19 c1a z2 c20 z3 c30 c31 c32 c33 c34 c35 c36 c37 c38 c39 c3a
 have H13:=Lib.hid (H8.out.var w6.heap.size 50 [.slice ka 1 kc] rfl)
 clear H8
 generalize (w6.alloc (.cells #[.slice ka 1 kc] 50))=W14 at H13 ⊢
 have F15:=sE H13
 go_wp2_with fail
 refine cM (HX.out _ w.heap.size (w6.heap.size) W4.heap.size (.slice ka 1 kc) (HIN.out.below H13.out.bel) (show Blk _ _ _ _ by rw [HTL.out]; exact H13.out.get (af (w.heap.size) 28 [.slice (some ⟨tb,tz,none⟩) tl tc]) (by simp)) (H13.out.get (ah (w6.heap.size) 50 [.slice ka 1 kc]) (by simp)) (H13.out.get (aK W4.heap.size 3 1 (.slice ka 1 kc) (ae t i).length ((ae t i).map fun x=>.int .i64 (x:Nat))) (by simp))) H13 fun w16 H18=>?_
 clear F15 H13
 have F19:=sE H18
 go_wp2_with fail
 go_ret
 exact ⟨by rw [HR.out]; rfl,H18.out.bel⟩
theorem Cv (t:List Nd) (tb tz tc i:Nat) (vk:Nat) (vn:Int) (vt:List UInt8) (r1 r2 r3 r4 op:Int) (fn nn:Nat)  (hc:cT t) (hi:i<t.length) (hn:t[i]?=some ⟨5,vk,vn,vt,⟨r1,r2,r3,r4⟩,op,fn,nn⟩) (IH:∀ j,j<i→fU t tb tz tc j) (w:World) (hin:TIn t tb tz w) :
  Calls prog 21 #[.slice (some ⟨tb,tz,none⟩) t.length tc,.int .i64 (i:Nat)] w fun e w'=>e=.returned (.string ⟨(aF t i).1.toArray⟩)∧Below w.heap.size w w':=by
 have hkl:(ae t i).length=1:=hc.kids i _ hn
 obtain ⟨X,hX⟩ : ∃ X : ByteArray,⟨(opT 7 (aF t ((ae t i)[0]'(by omega)))).toArray⟩ = X:=⟨_,rfl⟩
 have HX:=keep (show jj t tb tz tc i 0 (7:Nat) X by rw [← hX]; exact dR hc hi IH (by omega) 7)
 have zX:X.size≤1000000000:=by rw [← hX]; exact cE hc (Nat.lt_trans (bw t i _ (List.getElem_mem _)) hi) _
 obtain ⟨R,hR⟩:∃ R:ByteArray,⟨(aF t i).1.toArray⟩=R:=⟨_,rfl⟩
 have HR:=keep (show R=X++⟨#[37]⟩ by
  rw [← hR,← hX,Co hn rfl (by omega)]
  show _=(⟨_⟩:ByteArray)++⟨[37].toArray⟩
  rw [bytes_append])
 rw [hR]
 clear hR hX
 obtain ⟨h1,h2⟩:=hin.node hn
 have HKID:=keep (fun (W:World) (h:TIn t tb tz W)=>eo hc (tc:=tc) hi h)
 have HOWN:=keep (fun (W:World) (h:cn W)=>dM ⟨5,vk,vn,vt,⟨r1,r2,r3,r4⟩,op,fn,nn⟩ (hc.good _ (List.mem_of_getElem? hn)).1 (hc.good _ (List.mem_of_getElem? hn)).2 W h)
 obtain ⟨tl,htl⟩:=ex (t.length)
 have hki:(i:Int)<(tl:Int):=by omega
 rw [htl] at HKID ⊢
 have HTL:=keep htl
 have HIN:=keep hin
 have H1:=Lib.hid (((Ok.start w).add (aa tb (tz+i * 11) [.int .u8 5,.int .u8 vk,.int .i64 vn,.string ⟨vt.toArray⟩,.int .i64 r1,.int .i64 r2,.int .i64 r3,.int .i64 r4,.int .i64 op,.int .u8 fn,.int .i64 nn]) ⟨h1,h2⟩).alloc w.heap.size 28 [.slice (some ⟨tb,tz,none⟩) tl tc] rfl)
 clear h1 h2 htl hin hc hi hn IH
 go_enter func21,ntmps21
 go_upto_region 1 with fail
 generalize (w.alloc (.cells #[.slice (some ⟨tb,tz,none⟩) tl tc] 28))=W1 at H1 ⊢
 have F2:=sE H1
 go_upto_region 2 with fail
 clear F2
 have H3:=Lib.hid (H1.out.alloc W1.heap.size 27 [.int .u8 5,.int .u8 vk,.int .i64 vn,.string ⟨vt.toArray⟩,.int .i64 r1,.int .i64 r2,.int .i64 r3,.int .i64 r4,.int .i64 op,.int .u8 fn,.int .i64 nn] rfl)
 clear H1
 generalize (W1.alloc (.cells #[.int .u8 5,.int .u8 vk,.int .i64 vn,.string ⟨vt.toArray⟩,.int .i64 r1,.int .i64 r2,.int .i64 r3,.int .i64 r4,.int .i64 op,.int .u8 fn,.int .i64 nn] 27))=W4 at H3 ⊢
 have F5:=sE H3
 go_wp2_with fail
 refine (HKID.out _ (HIN.out.below H3.out.bel)).mono ?_
 rintro e w6 ⟨kv,rfl,hrow,hb7⟩
 obtain ⟨ka,kc,hkv⟩:=aQ hrow
 rw [hkl] at hkv
 subst hkv
 clear F5
 have H8:=Lib.hid ((H3.out.below hb7).add (aK W4.heap.size 3 1 (.slice ka 1 kc) (ae t i).length ((ae t i).map fun x=>.int .i64 (x:Nat))) hrow)
 clear hb7 H3 hrow
 have F9:=H8.out.sees
 simp only [sees,af,aa,ag,Nat.add_zero,ac,Nat.reduceAdd] at F9
 obtain ⟨-,⟨z1,c10,c11,c12,c13,c14,c15,c16,c17,c18,c19,c1a,-⟩,⟨z2,c20,-⟩,⟨z3,c30,c31,c32,c33,c34,c35,c36,c37,c38,c39,c3a,-⟩,-⟩:=F9
 go_upto_region 3 with fail
 have y10:=z1
 have y11:=z2
 have y12:=z3
 clear z1 c10 c11 c12 c13 c14 c15 c16 c17 c18 c19 c1a z2 c20 z3 c30 c31 c32 c33 c34 c35 c36 c37 c38 c39 c3a
 have H13:=Lib.hid (H8.out.var w6.heap.size 50 [.slice ka 1 kc] rfl)
 clear H8
 generalize (w6.alloc (.cells #[.slice ka 1 kc] 50))=W14 at H13 ⊢
 have F15:=sE H13
 go_wp2_with fail
 refine cM (HX.out _ w.heap.size (w6.heap.size) W4.heap.size (.slice ka 1 kc) (HIN.out.below H13.out.bel) (show Blk _ _ _ _ by rw [HTL.out]; exact H13.out.get (af (w.heap.size) 28 [.slice (some ⟨tb,tz,none⟩) tl tc]) (by simp)) (H13.out.get (ah (w6.heap.size) 50 [.slice ka 1 kc]) (by simp)) (H13.out.get (aK W4.heap.size 3 1 (.slice ka 1 kc) (ae t i).length ((ae t i).map fun x=>.int .i64 (x:Nat))) (by simp))) H13 fun w16 H18=>?_
 clear F15 H13
 have F19:=sE H18
 go_wp2_with fail
 go_ret
 exact ⟨by rw [HR.out]; rfl,H18.out.bel⟩
theorem Cr (t:List Nd) (tb tz tc i:Nat) (vk:Nat) (vn:Int) (vt:List UInt8) (r1 r2 r3 r4 op:Int) (fn nn:Nat)  (hc:cT t) (hi:i<t.length) (hn:t[i]?=some ⟨1,vk,vn,vt,⟨r1,r2,r3,r4⟩,op,fn,nn⟩) (w:World) (hin:TIn t tb tz w) :
  Calls prog 21 #[.slice (some ⟨tb,tz,none⟩) t.length tc,.int .i64 (i:Nat)] w fun e w'=>e=.returned (.string ⟨(aF t i).1.toArray⟩)∧Below w.heap.size w w':=by
 have hkl:(ae t i).length=0:=hc.kids i _ hn
 obtain ⟨R,hR⟩:∃ R:ByteArray,⟨(aF t i).1.toArray⟩=R:=⟨_,rfl⟩
 have HR:=keep (show R=⟨(bn ⟨1,vk,vn,vt,⟨r1,r2,r3,r4⟩,op,fn,nn⟩).toArray⟩ by rw [← hR,iI hn (by simp)])
 rw [hR]
 clear hR
 obtain ⟨h1,h2⟩:=hin.node hn
 have HKID:=keep (fun (W:World) (h:TIn t tb tz W)=>eo hc (tc:=tc) hi h)
 have HOWN:=keep (fun (W:World) (h:cn W)=>dM ⟨1,vk,vn,vt,⟨r1,r2,r3,r4⟩,op,fn,nn⟩ (hc.good _ (List.mem_of_getElem? hn)).1 (hc.good _ (List.mem_of_getElem? hn)).2 W h)
 obtain ⟨tl,htl⟩:=ex (t.length)
 have hki:(i:Int)<(tl:Int):=by omega
 rw [htl] at HKID ⊢
 have HTL:=keep htl
 have HIN:=keep hin
 have H1:=Lib.hid (((Ok.start w).add (aa tb (tz+i * 11) [.int .u8 1,.int .u8 vk,.int .i64 vn,.string ⟨vt.toArray⟩,.int .i64 r1,.int .i64 r2,.int .i64 r3,.int .i64 r4,.int .i64 op,.int .u8 fn,.int .i64 nn]) ⟨h1,h2⟩).alloc w.heap.size 28 [.slice (some ⟨tb,tz,none⟩) tl tc] rfl)
 clear h1 h2 htl hin hc hi hn
 go_enter func21,ntmps21
 go_upto_region 1 with fail
 generalize (w.alloc (.cells #[.slice (some ⟨tb,tz,none⟩) tl tc] 28))=W1 at H1 ⊢
 have F2:=sE H1
 go_upto_region 2 with fail
 clear F2
 have H3:=Lib.hid (H1.out.alloc W1.heap.size 27 [.int .u8 1,.int .u8 vk,.int .i64 vn,.string ⟨vt.toArray⟩,.int .i64 r1,.int .i64 r2,.int .i64 r3,.int .i64 r4,.int .i64 op,.int .u8 fn,.int .i64 nn] rfl)
 clear H1
 generalize (W1.alloc (.cells #[.int .u8 1,.int .u8 vk,.int .i64 vn,.string ⟨vt.toArray⟩,.int .i64 r1,.int .i64 r2,.int .i64 r3,.int .i64 r4,.int .i64 op,.int .u8 fn,.int .i64 nn] 27))=W4 at H3 ⊢
 have F5:=sE H3
 go_wp2_with fail
 refine (HKID.out _ (HIN.out.below H3.out.bel)).mono ?_
 rintro e w6 ⟨kv,rfl,hrow,hb7⟩
 obtain ⟨ka,kc,hkv⟩:=aQ hrow
 rw [hkl] at hkv
 subst hkv
 clear F5
 have H8:=Lib.hid ((H3.out.below hb7).add (aK W4.heap.size 3 1 (.slice ka 0 kc) (ae t i).length ((ae t i).map fun x=>.int .i64 (x:Nat))) hrow)
 clear hb7 H3 hrow
 have F9:=H8.out.sees
 simp only [sees,af,aa,ag,Nat.add_zero,ac,Nat.reduceAdd] at F9
 obtain ⟨-,⟨z1,c10,c11,c12,c13,c14,c15,c16,c17,c18,c19,c1a,-⟩,⟨z2,c20,-⟩,⟨z3,c30,c31,c32,c33,c34,c35,c36,c37,c38,c39,c3a,-⟩,-⟩:=F9
 go_upto_region 3 with fail
 have y10:=z1
 have y11:=z2
 have y12:=z3
 clear z1 c10 c11 c12 c13 c14 c15 c16 c17 c18 c19 c1a z2 c20 z3 c30 c31 c32 c33 c34 c35 c36 c37 c38 c39 c3a
 have H13:=Lib.hid (H8.out.var w6.heap.size 50 [.slice ka 0 kc] rfl)
 clear H8
 generalize (w6.alloc (.cells #[.slice ka 0 kc] 50))=W14 at H13 ⊢
 have F15:=sE H13
 obtain ⟨Y,hY⟩:∃ Y:ByteArray,⟨(bn ⟨1,vk,vn,vt,⟨r1,r2,r3,r4⟩,op,fn,nn⟩).toArray⟩=Y:=⟨_,rfl⟩
 rw [hY] at HOWN HR
 clear hY
 go_wp2_with fail
 refine cM (HOWN.out _ (HIN.out.below H13.out.bel).env) H13 fun w16 H18=>?_
 clear F15 H13
 have F19:=sE H18
 go_wp2_with fail
 go_ret
 exact ⟨by rw [HR.out]; rfl,H18.out.bel⟩
theorem Cs (t:List Nd) (tb tz tc i:Nat) (vk:Nat) (vn:Int) (vt:List UInt8) (r1 r2 r3 r4 op:Int) (fn nn:Nat)  (hc:cT t) (hi:i<t.length) (hn:t[i]?=some ⟨2,vk,vn,vt,⟨r1,r2,r3,r4⟩,op,fn,nn⟩) (w:World) (hin:TIn t tb tz w) :
  Calls prog 21 #[.slice (some ⟨tb,tz,none⟩) t.length tc,.int .i64 (i:Nat)] w fun e w'=>e=.returned (.string ⟨(aF t i).1.toArray⟩)∧Below w.heap.size w w':=by
 have hkl:(ae t i).length=0:=hc.kids i _ hn
 obtain ⟨R,hR⟩:∃ R:ByteArray,⟨(aF t i).1.toArray⟩=R:=⟨_,rfl⟩
 have HR:=keep (show R=⟨(bn ⟨2,vk,vn,vt,⟨r1,r2,r3,r4⟩,op,fn,nn⟩).toArray⟩ by rw [← hR,iI hn (by simp)])
 rw [hR]
 clear hR
 obtain ⟨h1,h2⟩:=hin.node hn
 have HKID:=keep (fun (W:World) (h:TIn t tb tz W)=>eo hc (tc:=tc) hi h)
 have HOWN:=keep (fun (W:World) (h:cn W)=>dM ⟨2,vk,vn,vt,⟨r1,r2,r3,r4⟩,op,fn,nn⟩ (hc.good _ (List.mem_of_getElem? hn)).1 (hc.good _ (List.mem_of_getElem? hn)).2 W h)
 obtain ⟨tl,htl⟩:=ex (t.length)
 have hki:(i:Int)<(tl:Int):=by omega
 rw [htl] at HKID ⊢
 have HTL:=keep htl
 have HIN:=keep hin
 have H1:=Lib.hid (((Ok.start w).add (aa tb (tz+i * 11) [.int .u8 2,.int .u8 vk,.int .i64 vn,.string ⟨vt.toArray⟩,.int .i64 r1,.int .i64 r2,.int .i64 r3,.int .i64 r4,.int .i64 op,.int .u8 fn,.int .i64 nn]) ⟨h1,h2⟩).alloc w.heap.size 28 [.slice (some ⟨tb,tz,none⟩) tl tc] rfl)
 clear h1 h2 htl hin hc hi hn
 go_enter func21,ntmps21
 go_upto_region 1 with fail
 generalize (w.alloc (.cells #[.slice (some ⟨tb,tz,none⟩) tl tc] 28))=W1 at H1 ⊢
 have F2:=sE H1
 go_upto_region 2 with fail
 clear F2
 have H3:=Lib.hid (H1.out.alloc W1.heap.size 27 [.int .u8 2,.int .u8 vk,.int .i64 vn,.string ⟨vt.toArray⟩,.int .i64 r1,.int .i64 r2,.int .i64 r3,.int .i64 r4,.int .i64 op,.int .u8 fn,.int .i64 nn] rfl)
 clear H1
 generalize (W1.alloc (.cells #[.int .u8 2,.int .u8 vk,.int .i64 vn,.string ⟨vt.toArray⟩,.int .i64 r1,.int .i64 r2,.int .i64 r3,.int .i64 r4,.int .i64 op,.int .u8 fn,.int .i64 nn] 27))=W4 at H3 ⊢
 have F5:=sE H3
 go_wp2_with fail
 refine (HKID.out _ (HIN.out.below H3.out.bel)).mono ?_
 rintro e w6 ⟨kv,rfl,hrow,hb7⟩
 obtain ⟨ka,kc,hkv⟩:=aQ hrow
 rw [hkl] at hkv
 subst hkv
 clear F5
 have H8:=Lib.hid ((H3.out.below hb7).add (aK W4.heap.size 3 1 (.slice ka 0 kc) (ae t i).length ((ae t i).map fun x=>.int .i64 (x:Nat))) hrow)
 clear hb7 H3 hrow
 have F9:=H8.out.sees
 simp only [sees,af,aa,ag,Nat.add_zero,ac,Nat.reduceAdd] at F9
 obtain ⟨-,⟨z1,c10,c11,c12,c13,c14,c15,c16,c17,c18,c19,c1a,-⟩,⟨z2,c20,-⟩,⟨z3,c30,c31,c32,c33,c34,c35,c36,c37,c38,c39,c3a,-⟩,-⟩:=F9
 go_upto_region 3 with fail
 have y10:=z1
 have y11:=z2
 have y12:=z3
 clear z1 c10 c11 c12 c13 c14 c15 c16 c17 c18 c19 c1a z2 c20 z3 c30 c31 c32 c33 c34 c35 c36 c37 c38 c39 c3a
 have H13:=Lib.hid (H8.out.var w6.heap.size 50 [.slice ka 0 kc] rfl)
 clear H8
 generalize (w6.alloc (.cells #[.slice ka 0 kc] 50))=W14 at H13 ⊢
 have F15:=sE H13
 obtain ⟨Y,hY⟩:∃ Y:ByteArray,⟨(bn ⟨2,vk,vn,vt,⟨r1,r2,r3,r4⟩,op,fn,nn⟩).toArray⟩=Y:=⟨_,rfl⟩
 rw [hY] at HOWN HR
 clear hY
 go_wp2_with fail
 refine cM (HOWN.out _ (HIN.out.below H13.out.bel).env) H13 fun w16 H18=>?_
 clear F15 H13
 have F19:=sE H18
 go_wp2_with fail
 go_ret
 exact ⟨by rw [HR.out]; rfl,H18.out.bel⟩
theorem Ct (t:List Nd) (tb tz tc i:Nat) (vk:Nat) (vn:Int) (vt:List UInt8) (r1 r2 r3 r4 op:Int) (fn nn:Nat)  (hc:cT t) (hi:i<t.length) (hn:t[i]?=some ⟨3,vk,vn,vt,⟨r1,r2,r3,r4⟩,op,fn,nn⟩) (w:World) (hin:TIn t tb tz w) :
  Calls prog 21 #[.slice (some ⟨tb,tz,none⟩) t.length tc,.int .i64 (i:Nat)] w fun e w'=>e=.returned (.string ⟨(aF t i).1.toArray⟩)∧Below w.heap.size w w':=by
 have hkl:(ae t i).length=0:=hc.kids i _ hn
 obtain ⟨R,hR⟩:∃ R:ByteArray,⟨(aF t i).1.toArray⟩=R:=⟨_,rfl⟩
 have HR:=keep (show R=⟨(bn ⟨3,vk,vn,vt,⟨r1,r2,r3,r4⟩,op,fn,nn⟩).toArray⟩ by rw [← hR,iI hn (by simp)])
 rw [hR]
 clear hR
 obtain ⟨h1,h2⟩:=hin.node hn
 have HKID:=keep (fun (W:World) (h:TIn t tb tz W)=>eo hc (tc:=tc) hi h)
 have HOWN:=keep (fun (W:World) (h:cn W)=>dM ⟨3,vk,vn,vt,⟨r1,r2,r3,r4⟩,op,fn,nn⟩ (hc.good _ (List.mem_of_getElem? hn)).1 (hc.good _ (List.mem_of_getElem? hn)).2 W h)
 obtain ⟨tl,htl⟩:=ex (t.length)
 have hki:(i:Int)<(tl:Int):=by omega
 rw [htl] at HKID ⊢
 have HTL:=keep htl
 have HIN:=keep hin
 have H1:=Lib.hid (((Ok.start w).add (aa tb (tz+i * 11) [.int .u8 3,.int .u8 vk,.int .i64 vn,.string ⟨vt.toArray⟩,.int .i64 r1,.int .i64 r2,.int .i64 r3,.int .i64 r4,.int .i64 op,.int .u8 fn,.int .i64 nn]) ⟨h1,h2⟩).alloc w.heap.size 28 [.slice (some ⟨tb,tz,none⟩) tl tc] rfl)
 clear h1 h2 htl hin hc hi hn
 go_enter func21,ntmps21
 go_upto_region 1 with fail
 generalize (w.alloc (.cells #[.slice (some ⟨tb,tz,none⟩) tl tc] 28))=W1 at H1 ⊢
 have F2:=sE H1
 go_upto_region 2 with fail
 clear F2
 have H3:=Lib.hid (H1.out.alloc W1.heap.size 27 [.int .u8 3,.int .u8 vk,.int .i64 vn,.string ⟨vt.toArray⟩,.int .i64 r1,.int .i64 r2,.int .i64 r3,.int .i64 r4,.int .i64 op,.int .u8 fn,.int .i64 nn] rfl)
 clear H1
 generalize (W1.alloc (.cells #[.int .u8 3,.int .u8 vk,.int .i64 vn,.string ⟨vt.toArray⟩,.int .i64 r1,.int .i64 r2,.int .i64 r3,.int .i64 r4,.int .i64 op,.int .u8 fn,.int .i64 nn] 27))=W4 at H3 ⊢
 have F5:=sE H3
 go_wp2_with fail
 refine (HKID.out _ (HIN.out.below H3.out.bel)).mono ?_
 rintro e w6 ⟨kv,rfl,hrow,hb7⟩
 obtain ⟨ka,kc,hkv⟩:=aQ hrow
 rw [hkl] at hkv
 subst hkv
 clear F5
 have H8:=Lib.hid ((H3.out.below hb7).add (aK W4.heap.size 3 1 (.slice ka 0 kc) (ae t i).length ((ae t i).map fun x=>.int .i64 (x:Nat))) hrow)
 clear hb7 H3 hrow
 have F9:=H8.out.sees
 simp only [sees,af,aa,ag,Nat.add_zero,ac,Nat.reduceAdd] at F9
 obtain ⟨-,⟨z1,c10,c11,c12,c13,c14,c15,c16,c17,c18,c19,c1a,-⟩,⟨z2,c20,-⟩,⟨z3,c30,c31,c32,c33,c34,c35,c36,c37,c38,c39,c3a,-⟩,-⟩:=F9
 go_upto_region 3 with fail
 have y10:=z1
 have y11:=z2
 have y12:=z3
 clear z1 c10 c11 c12 c13 c14 c15 c16 c17 c18 c19 c1a z2 c20 z3 c30 c31 c32 c33 c34 c35 c36 c37 c38 c39 c3a
 have H13:=Lib.hid (H8.out.var w6.heap.size 50 [.slice ka 0 kc] rfl)
 clear H8
 generalize (w6.alloc (.cells #[.slice ka 0 kc] 50))=W14 at H13 ⊢
 have F15:=sE H13
 obtain ⟨Y,hY⟩:∃ Y:ByteArray,⟨(bn ⟨3,vk,vn,vt,⟨r1,r2,r3,r4⟩,op,fn,nn⟩).toArray⟩=Y:=⟨_,rfl⟩
 rw [hY] at HOWN HR
 clear hY
 go_wp2_with fail
 refine cM (HOWN.out _ (HIN.out.below H13.out.bel).env) H13 fun w16 H18=>?_
 clear F15 H13
 have F19:=sE H18
 go_wp2_with fail
 go_ret
 exact ⟨by rw [HR.out]; rfl,H18.out.bel⟩
theorem Bp (t:List Nd) (tb tz tc i:Nat) (vk:Nat) (vn:Int) (vt:List UInt8) (r1 r2 r3 r4:Int) (fn nn:Nat)  (hc:cT t) (hi:i<t.length) (hn:t[i]?=some ⟨6,vk,vn,vt,⟨r1,r2,r3,r4⟩,5,fn,nn⟩) (IH:∀ j,j<i→fU t tb tz tc j) (w:World) (hin:TIn t tb tz w) :
  Calls prog 21 #[.slice (some ⟨tb,tz,none⟩) t.length tc,.int .i64 (i:Nat)] w fun e w'=>e=.returned (.string ⟨(aF t i).1.toArray⟩)∧Below w.heap.size w w':=by
 have hkl:(ae t i).length=2:=hc.kids i _ hn
 obtain ⟨A,hA⟩ : ∃ X : ByteArray,⟨(opT 7 (aF t ((ae t i)[0]'(by omega)))).toArray⟩ = X:=⟨_,rfl⟩
 have HA:=keep (show jj t tb tz tc i 0 (7:Nat) A by rw [← hA]; exact dR hc hi IH (by omega) 7)
 have zA:A.size≤1000000000:=by rw [← hA]; exact cE hc (Nat.lt_trans (bw t i _ (List.getElem_mem _)) hi) _
 obtain ⟨B,hB⟩ : ∃ X : ByteArray,⟨(opT 5 (aF t ((ae t i)[1]'(by omega)))).toArray⟩ = X:=⟨_,rfl⟩
 have HB:=keep (show jj t tb tz tc i 1 (5:Nat) B by rw [← hB]; exact dR hc hi IH (by omega) 5)
 have zB:B.size≤1000000000:=by rw [← hB]; exact cE hc (Nat.lt_trans (bw t i _ (List.getElem_mem _)) hi) _
 obtain ⟨R,hR⟩:∃ R:ByteArray,⟨(aF t i).1.toArray⟩=R:=⟨_,rfl⟩
 obtain ⟨O,hO⟩:∃ O:ByteArray,⟨(bn ⟨6,vk,vn,vt,⟨r1,r2,r3,r4⟩,5,fn,nn⟩).toArray⟩=O:=⟨_,rfl⟩
 have zO:O.size≤1000000000:=by rw [← hO]; exact fI hc hn
 have HR:=keep (show R=A++O++B by
  rw [← hR,← hA,← hB,← hO,z6 hn rfl rfl (by omega) (by omega),bytes_append,bytes_append,List.append_assoc])
 have HSTR:=keep (fun W:World=>fp ⟨6,vk,vn,vt,⟨r1,r2,r3,r4⟩,5,fn,nn⟩ (hc.good _ (List.mem_of_getElem? hn)).1 W)
 rw [hR]
 clear hR hA hB
 obtain ⟨h1,h2⟩:=hin.node hn
 have HKID:=keep (fun (W:World) (h:TIn t tb tz W)=>eo hc (tc:=tc) hi h)
 have HOWN:=keep (fun (W:World) (h:cn W)=>dM ⟨6,vk,vn,vt,⟨r1,r2,r3,r4⟩,5,fn,nn⟩ (hc.good _ (List.mem_of_getElem? hn)).1 (hc.good _ (List.mem_of_getElem? hn)).2 W h)
 obtain ⟨tl,htl⟩:=ex (t.length)
 have hki:(i:Int)<(tl:Int):=by omega
 rw [htl] at HKID ⊢
 have HTL:=keep htl
 have HIN:=keep hin
 have H1:=Lib.hid (((Ok.start w).add (aa tb (tz+i * 11) [.int .u8 6,.int .u8 vk,.int .i64 vn,.string ⟨vt.toArray⟩,.int .i64 r1,.int .i64 r2,.int .i64 r3,.int .i64 r4,.int .i64 5,.int .u8 fn,.int .i64 nn]) ⟨h1,h2⟩).alloc w.heap.size 28 [.slice (some ⟨tb,tz,none⟩) tl tc] rfl)
 clear h1 h2 htl hin hc hi hn IH
 go_enter func21,ntmps21
 go_upto_region 1 with fail
 generalize (w.alloc (.cells #[.slice (some ⟨tb,tz,none⟩) tl tc] 28))=W1 at H1 ⊢
 have F2:=sE H1
 go_upto_region 2 with fail
 clear F2
 have H3:=Lib.hid (H1.out.alloc W1.heap.size 27 [.int .u8 6,.int .u8 vk,.int .i64 vn,.string ⟨vt.toArray⟩,.int .i64 r1,.int .i64 r2,.int .i64 r3,.int .i64 r4,.int .i64 5,.int .u8 fn,.int .i64 nn] rfl)
 clear H1
 generalize (W1.alloc (.cells #[.int .u8 6,.int .u8 vk,.int .i64 vn,.string ⟨vt.toArray⟩,.int .i64 r1,.int .i64 r2,.int .i64 r3,.int .i64 r4,.int .i64 5,.int .u8 fn,.int .i64 nn] 27))=W4 at H3 ⊢
 have F5:=sE H3
 go_wp2_with fail
 refine (HKID.out _ (HIN.out.below H3.out.bel)).mono ?_
 rintro e w6 ⟨kv,rfl,hrow,hb7⟩
 obtain ⟨ka,kc,hkv⟩:=aQ hrow
 rw [hkl] at hkv
 subst hkv
 clear F5
 have H8:=Lib.hid ((H3.out.below hb7).add (aK W4.heap.size 3 1 (.slice ka 2 kc) (ae t i).length ((ae t i).map fun x=>.int .i64 (x:Nat))) hrow)
 clear hb7 H3 hrow
 have F9:=H8.out.sees
 simp only [sees,af,aa,ag,Nat.add_zero,ac,Nat.reduceAdd] at F9
 obtain ⟨-,⟨z1,c10,c11,c12,c13,c14,c15,c16,c17,c18,c19,c1a,-⟩,⟨z2,c20,-⟩,⟨z3,c30,c31,c32,c33,c34,c35,c36,c37,c38,c39,c3a,-⟩,-⟩:=F9
 go_upto_region 3 with fail
 have y10:=z1
 have y11:=z2
 have y12:=z3
 clear z1 c10 c11 c12 c13 c14 c15 c16 c17 c18 c19 c1a z2 c20 z3 c30 c31 c32 c33 c34 c35 c36 c37 c38 c39 c3a
 have H13:=Lib.hid (H8.out.var w6.heap.size 50 [.slice ka 2 kc] rfl)
 clear H8
 generalize (w6.alloc (.cells #[.slice ka 2 kc] 50))=W14 at H13 ⊢
 have F15:=sE H13
 rw [hO] at HOWN
 clear hO
 have hs6:hZ ⟨6,vk,vn,vt,⟨r1,r2,r3,r4⟩,5,fn,nn⟩=6:=rfl
 rw [hs6] at HSTR
 clear hs6
 go_upto_region 10 with fail
 refine wp_region_held_drew (S:=fun W=>Ok w [ah (w6.heap.size) 50 [.slice ka 2 kc],aK W4.heap.size 3 1 (.slice ka 2 kc) (ae t i).length ((ae t i).map fun x=>.int .i64 (x:Nat)),af (W1.heap.size) 27 [.int .u8 6,.int .u8 vk,.int .i64 vn,.string ⟨vt.toArray⟩,.int .i64 r1,.int .i64 r2,.int .i64 r3,.int .i64 r4,.int .i64 5,.int .u8 fn,.int .i64 nn],af (w.heap.size) 28 [.slice (some ⟨tb,tz,none⟩) tl tc],aa tb (tz+i * 11) [.int .u8 6,.int .u8 vk,.int .i64 vn,.string ⟨vt.toArray⟩,.int .i64 r1,.int .i64 r2,.int .i64 r3,.int .i64 r4,.int .i64 5,.int .u8 fn,.int .i64 nn]] W) (by kernel_rfl) H13.out.drew (fun hHeld => ?_)
 refine wt3 0 ?_
 refine wt3 2 ?_
 refine wal 1 fun K hK => ?_
 go_simp
 refine (HSTR.out _).mono ?_
 rintro e w17 ⟨rfl,hb18⟩
 go_wp2_with fail
 refine hK.out _ _ (hHeld.below hb18) (fun hHeld => ?_)
 clear hK K
 refine wn ?_
 refine wal 3 fun K hK => ?_
 go_simp
 refine (HSTR.out _).mono ?_
 rintro e w19 ⟨rfl,hb20⟩
 go_wp2_with fail
 refine hK.out _ _ (hHeld.below hb20) (fun hHeld => ?_)
 clear hK K
 refine wn ?_
 refine wt3 4 ?_
 refine wt3 5 ?_
 refine wt3 6 ?_
 refine wpAnyH_done (by kernel_rfl) ?_ _
 clear F15
 clear H13
 have H21:=Lib.hid hHeld
 clear hHeld
 have F22:=sE H21
 go_upto_region 13 with fail
 refine wp_region_held_drew (S:=fun W=>Ok w [ah (w6.heap.size) 50 [.slice ka 2 kc],aK W4.heap.size 3 1 (.slice ka 2 kc) (ae t i).length ((ae t i).map fun x=>.int .i64 (x:Nat)),af (W1.heap.size) 27 [.int .u8 6,.int .u8 vk,.int .i64 vn,.string ⟨vt.toArray⟩,.int .i64 r1,.int .i64 r2,.int .i64 r3,.int .i64 r4,.int .i64 5,.int .u8 fn,.int .i64 nn],af (w.heap.size) 28 [.slice (some ⟨tb,tz,none⟩) tl tc],aa tb (tz+i * 11) [.int .u8 6,.int .u8 vk,.int .i64 vn,.string ⟨vt.toArray⟩,.int .i64 r1,.int .i64 r2,.int .i64 r3,.int .i64 r4,.int .i64 5,.int .u8 fn,.int .i64 nn]] W) (by kernel_rfl) H21.out.drew (fun hHeld => ?_)
 refine wt4 0 ?_
 refine wt4 1 ?_
 refine wt4 3 ?_
 refine wt4 6 ?_
 refine wt4 7 ?_
 refine wal 2 fun K hK => ?_
 go_simp
 refine (HA.out _ w.heap.size (w6.heap.size) W4.heap.size (.slice ka 2 kc) (HIN.out.below hHeld.bel) (show Blk _ _ _ _ by rw [HTL.out]; exact hHeld.get (af (w.heap.size) 28 [.slice (some ⟨tb,tz,none⟩) tl tc]) (by simp)) (hHeld.get (ah (w6.heap.size) 50 [.slice ka 2 kc]) (by simp)) (hHeld.get (aK W4.heap.size 3 1 (.slice ka 2 kc) (ae t i).length ((ae t i).map fun x=>.int .i64 (x:Nat))) (by simp))).mono ?_
 rintro e w24 ⟨rfl,hb25⟩
 go_wp2_with fail
 refine hK.out _ _ (hHeld.below hb25) (fun hHeld => ?_)
 clear hK K
 refine wn ?_
 refine wal 4 fun K hK => ?_
 go_simp
 refine (HOWN.out _ (HIN.out.below hHeld.bel).env).mono ?_
 rintro e w26 ⟨rfl,hb27⟩
 go_wp2_with fail
 refine hK.out _ _ (hHeld.below hb27) (fun hHeld => ?_)
 clear hK K
 refine wn ?_
 refine wt4 5 ?_
 refine wal 8 fun K hK => ?_
 go_simp
 refine (HB.out _ w.heap.size (w6.heap.size) W4.heap.size (.slice ka 2 kc) (HIN.out.below hHeld.bel) (show Blk _ _ _ _ by rw [HTL.out]; exact hHeld.get (af (w.heap.size) 28 [.slice (some ⟨tb,tz,none⟩) tl tc]) (by simp)) (hHeld.get (ah (w6.heap.size) 50 [.slice ka 2 kc]) (by simp)) (hHeld.get (aK W4.heap.size 3 1 (.slice ka 2 kc) (ae t i).length ((ae t i).map fun x=>.int .i64 (x:Nat))) (by simp))).mono ?_
 rintro e w28 ⟨rfl,hb29⟩
 go_wp2_with fail
 refine hK.out _ _ (hHeld.below hb29) (fun hHeld => ?_)
 clear hK K
 refine wn ?_
 refine wt4 9 ?_
 refine wt4 10 ?_
 refine wpAnyH_done (by kernel_rfl) ?_ _
 clear F22
 clear H21
 have H30:=Lib.hid hHeld
 clear hHeld
 have F31:=sE H30
 go_wp2_with fail
 go_ret
 exact ⟨by rw [HR.out]; rfl,H30.out.bel⟩
theorem Cw (t:List Nd) (tb tz tc i:Nat) (vk:Nat) (vn:Int) (vt:List UInt8) (r1 r2 r3 r4 op:Int) (fn nn:Nat) (h5:op≠5) (hc:cT t) (hi:i<t.length) (hn:t[i]?=some ⟨6,vk,vn,vt,⟨r1,r2,r3,r4⟩,op,fn,nn⟩) (IH:∀ j,j<i→fU t tb tz tc j) (w:World) (hin:TIn t tb tz w) :
  Calls prog 21 #[.slice (some ⟨tb,tz,none⟩) t.length tc,.int .i64 (i:Nat)] w fun e w'=>e=.returned (.string ⟨(aF t i).1.toArray⟩)∧Below w.heap.size w w':=by
 have hkl:(ae t i).length=2:=hc.kids i _ hn
 obtain ⟨A,hA⟩ : ∃ X : ByteArray,⟨(opT (aJ op) (aF t ((ae t i)[0]'(by omega)))).toArray⟩ = X:=⟨_,rfl⟩
 have HA:=keep (show jj t tb tz tc i 0 ((aJ op):Nat) A by rw [← hA]; exact dR hc hi IH (by omega) (aJ op))
 have zA:A.size≤1000000000:=by rw [← hA]; exact cE hc (Nat.lt_trans (bw t i _ (List.getElem_mem _)) hi) _
 obtain ⟨B,hB⟩ : ∃ X : ByteArray,⟨(opT (aJ op + 1) (aF t ((ae t i)[1]'(by omega)))).toArray⟩ = X:=⟨_,rfl⟩
 have HB:=keep (show jj t tb tz tc i 1 ((aJ op+1):Nat) B by rw [← hB]; exact dR hc hi IH (by omega) (aJ op+1))
 have zB:B.size≤1000000000:=by rw [← hB]; exact cE hc (Nat.lt_trans (bw t i _ (List.getElem_mem _)) hi) _
 obtain ⟨R,hR⟩:∃ R:ByteArray,⟨(aF t i).1.toArray⟩=R:=⟨_,rfl⟩
 obtain ⟨O,hO⟩:∃ O:ByteArray,⟨(bn ⟨6,vk,vn,vt,⟨r1,r2,r3,r4⟩,op,fn,nn⟩).toArray⟩=O:=⟨_,rfl⟩
 have zO:O.size≤1000000000:=by rw [← hO]; exact fI hc hn
 have HR:=keep (show R=A++O++B by
  rw [← hR,← hA,← hB,← hO,Cp hn rfl h5 (by omega) (by omega),bytes_append,bytes_append,List.append_assoc])
 have HSTR:=keep (fun W:World=>fp ⟨6,vk,vn,vt,⟨r1,r2,r3,r4⟩,op,fn,nn⟩ (hc.good _ (List.mem_of_getElem? hn)).1 W)
 rw [hR]
 clear hR hA hB
 obtain ⟨h1,h2⟩:=hin.node hn
 have HKID:=keep (fun (W:World) (h:TIn t tb tz W)=>eo hc (tc:=tc) hi h)
 have HOWN:=keep (fun (W:World) (h:cn W)=>dM ⟨6,vk,vn,vt,⟨r1,r2,r3,r4⟩,op,fn,nn⟩ (hc.good _ (List.mem_of_getElem? hn)).1 (hc.good _ (List.mem_of_getElem? hn)).2 W h)
 obtain ⟨tl,htl⟩:=ex (t.length)
 have hki:(i:Int)<(tl:Int):=by omega
 rw [htl] at HKID ⊢
 have HTL:=keep htl
 have HIN:=keep hin
 have H1:=Lib.hid (((Ok.start w).add (aa tb (tz+i * 11) [.int .u8 6,.int .u8 vk,.int .i64 vn,.string ⟨vt.toArray⟩,.int .i64 r1,.int .i64 r2,.int .i64 r3,.int .i64 r4,.int .i64 op,.int .u8 fn,.int .i64 nn]) ⟨h1,h2⟩).alloc w.heap.size 28 [.slice (some ⟨tb,tz,none⟩) tl tc] rfl)
 clear h1 h2 htl hin hc hi hn IH
 go_enter func21,ntmps21
 go_upto_region 1 with fail
 generalize (w.alloc (.cells #[.slice (some ⟨tb,tz,none⟩) tl tc] 28))=W1 at H1 ⊢
 have F2:=sE H1
 go_upto_region 2 with fail
 clear F2
 have H3:=Lib.hid (H1.out.alloc W1.heap.size 27 [.int .u8 6,.int .u8 vk,.int .i64 vn,.string ⟨vt.toArray⟩,.int .i64 r1,.int .i64 r2,.int .i64 r3,.int .i64 r4,.int .i64 op,.int .u8 fn,.int .i64 nn] rfl)
 clear H1
 generalize (W1.alloc (.cells #[.int .u8 6,.int .u8 vk,.int .i64 vn,.string ⟨vt.toArray⟩,.int .i64 r1,.int .i64 r2,.int .i64 r3,.int .i64 r4,.int .i64 op,.int .u8 fn,.int .i64 nn] 27))=W4 at H3 ⊢
 have F5:=sE H3
 go_wp2_with fail
 refine (HKID.out _ (HIN.out.below H3.out.bel)).mono ?_
 rintro e w6 ⟨kv,rfl,hrow,hb7⟩
 obtain ⟨ka,kc,hkv⟩:=aQ hrow
 rw [hkl] at hkv
 subst hkv
 clear F5
 have H8:=Lib.hid ((H3.out.below hb7).add (aK W4.heap.size 3 1 (.slice ka 2 kc) (ae t i).length ((ae t i).map fun x=>.int .i64 (x:Nat))) hrow)
 clear hb7 H3 hrow
 have F9:=H8.out.sees
 simp only [sees,af,aa,ag,Nat.add_zero,ac,Nat.reduceAdd] at F9
 obtain ⟨-,⟨z1,c10,c11,c12,c13,c14,c15,c16,c17,c18,c19,c1a,-⟩,⟨z2,c20,-⟩,⟨z3,c30,c31,c32,c33,c34,c35,c36,c37,c38,c39,c3a,-⟩,-⟩:=F9
 go_upto_region 3 with fail
 have y10:=z1
 have y11:=z2
 have y12:=z3
 clear z1 c10 c11 c12 c13 c14 c15 c16 c17 c18 c19 c1a z2 c20 z3 c30 c31 c32 c33 c34 c35 c36 c37 c38 c39 c3a
 have H13:=Lib.hid (H8.out.var w6.heap.size 50 [.slice ka 2 kc] rfl)
 clear H8
 generalize (w6.alloc (.cells #[.slice ka 2 kc] 50))=W14 at H13 ⊢
 have F15:=sE H13
 rw [hO] at HOWN
 clear hO
 have hs6:hZ ⟨6,vk,vn,vt,⟨r1,r2,r3,r4⟩,op,fn,nn⟩=aJ op:=by unfold hZ; rw [if_neg (by simp),if_neg (by simp),if_pos rfl,if_neg h5]
 rw [hs6] at HSTR
 have hop:(op == 5)=false:=by simpa using h5
 have hb8:aJ op≤8:=by unfold aJ; (repeat' split) <;> decide
 obtain ⟨b,hb⟩:=ex (aJ op)
 rw [hb] at HSTR HA HB hb8
 have hw1:IntKind.i64.wrap ((b:Int)+1)=((b+1:Nat):Int):=by rw [Go.IntWalk.i64_in _ (by omega)]; omega
 clear hs6 hb h5
 go_upto_region 10 with fail
 refine wp_region_held_drew (S:=fun W=>Ok w [ah (w6.heap.size) 50 [.slice ka 2 kc],aK W4.heap.size 3 1 (.slice ka 2 kc) (ae t i).length ((ae t i).map fun x=>.int .i64 (x:Nat)),af (W1.heap.size) 27 [.int .u8 6,.int .u8 vk,.int .i64 vn,.string ⟨vt.toArray⟩,.int .i64 r1,.int .i64 r2,.int .i64 r3,.int .i64 r4,.int .i64 op,.int .u8 fn,.int .i64 nn],af (w.heap.size) 28 [.slice (some ⟨tb,tz,none⟩) tl tc],aa tb (tz+i * 11) [.int .u8 6,.int .u8 vk,.int .i64 vn,.string ⟨vt.toArray⟩,.int .i64 r1,.int .i64 r2,.int .i64 r3,.int .i64 r4,.int .i64 op,.int .u8 fn,.int .i64 nn]] W) (by kernel_rfl) H13.out.drew (fun hHeld => ?_)
 refine wt3 0 ?_
 refine wt3 2 ?_
 refine wal 1 fun K hK => ?_
 go_simp
 refine (HSTR.out _).mono ?_
 rintro e w17 ⟨rfl,hb18⟩
 go_wp2_with fail
 refine hK.out _ _ (hHeld.below hb18) (fun hHeld => ?_)
 clear hK K
 refine wn ?_
 refine wal 3 fun K hK => ?_
 go_simp
 refine (HSTR.out _).mono ?_
 rintro e w19 ⟨rfl,hb20⟩
 go_wp2_with fail
 refine hK.out _ _ (hHeld.below hb20) (fun hHeld => ?_)
 clear hK K
 refine wn ?_
 refine wt3 4 ?_
 refine wt3 5 ?_
 refine wt3 6 ?_
 refine wpAnyH_done (by kernel_rfl) ?_ _
 clear F15
 clear H13
 have H21:=Lib.hid hHeld
 clear hHeld
 have F22:=sE H21
 go_upto_region 13 with fail
 refine wp_region_held_drew (S:=fun W=>Ok w [ah (w6.heap.size) 50 [.slice ka 2 kc],aK W4.heap.size 3 1 (.slice ka 2 kc) (ae t i).length ((ae t i).map fun x=>.int .i64 (x:Nat)),af (W1.heap.size) 27 [.int .u8 6,.int .u8 vk,.int .i64 vn,.string ⟨vt.toArray⟩,.int .i64 r1,.int .i64 r2,.int .i64 r3,.int .i64 r4,.int .i64 op,.int .u8 fn,.int .i64 nn],af (w.heap.size) 28 [.slice (some ⟨tb,tz,none⟩) tl tc],aa tb (tz+i * 11) [.int .u8 6,.int .u8 vk,.int .i64 vn,.string ⟨vt.toArray⟩,.int .i64 r1,.int .i64 r2,.int .i64 r3,.int .i64 r4,.int .i64 op,.int .u8 fn,.int .i64 nn]] W) (by kernel_rfl) H21.out.drew (fun hHeld => ?_)
 refine wt4 0 ?_
 refine wt4 1 ?_
 refine wt4 3 ?_
 refine wt4 6 ?_
 refine wt4 7 ?_
 refine wal 2 fun K hK => ?_
 go_simp
 refine (HA.out _ w.heap.size (w6.heap.size) W4.heap.size (.slice ka 2 kc) (HIN.out.below hHeld.bel) (show Blk _ _ _ _ by rw [HTL.out]; exact hHeld.get (af (w.heap.size) 28 [.slice (some ⟨tb,tz,none⟩) tl tc]) (by simp)) (hHeld.get (ah (w6.heap.size) 50 [.slice ka 2 kc]) (by simp)) (hHeld.get (aK W4.heap.size 3 1 (.slice ka 2 kc) (ae t i).length ((ae t i).map fun x=>.int .i64 (x:Nat))) (by simp))).mono ?_
 rintro e w24 ⟨rfl,hb25⟩
 go_wp2_with fail
 refine hK.out _ _ (hHeld.below hb25) (fun hHeld => ?_)
 clear hK K
 refine wn ?_
 refine wal 4 fun K hK => ?_
 go_simp
 refine (HOWN.out _ (HIN.out.below hHeld.bel).env).mono ?_
 rintro e w26 ⟨rfl,hb27⟩
 go_wp2_with fail
 refine hK.out _ _ (hHeld.below hb27) (fun hHeld => ?_)
 clear hK K
 refine wn ?_
 refine wt4 5 ?_
 refine wal 8 fun K hK => ?_
 go_simp
 refine (HB.out _ w.heap.size (w6.heap.size) W4.heap.size (.slice ka 2 kc) (HIN.out.below hHeld.bel) (show Blk _ _ _ _ by rw [HTL.out]; exact hHeld.get (af (w.heap.size) 28 [.slice (some ⟨tb,tz,none⟩) tl tc]) (by simp)) (hHeld.get (ah (w6.heap.size) 50 [.slice ka 2 kc]) (by simp)) (hHeld.get (aK W4.heap.size 3 1 (.slice ka 2 kc) (ae t i).length ((ae t i).map fun x=>.int .i64 (x:Nat))) (by simp))).mono ?_
 rintro e w28 ⟨rfl,hb29⟩
 go_wp2_with fail
 refine hK.out _ _ (hHeld.below hb29) (fun hHeld => ?_)
 clear hK K
 refine wn ?_
 refine wt4 9 ?_
 refine wt4 10 ?_
 refine wpAnyH_done (by kernel_rfl) ?_ _
 clear F22
 clear H21
 have H30:=Lib.hid hHeld
 clear hHeld
 have F31:=sE H30
 go_wp2_with fail
 go_ret
 exact ⟨by rw [HR.out]; rfl,H30.out.bel⟩
