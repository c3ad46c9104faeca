/- show.text, kind by kind. -/
import Derived.Test.YtfffihcadhfplaaGreatDoorPTxt
import Derived.Test.YtfffihcadhfplaaGreatDoorPIterV
namespace Go.Proofs.YtfffihcadhfplaaGreatDoor
set_option maxRecDepth 100000
set_option maxHeartbeats 8000000
open Go.RowKit
theorem getD_kid {ks:List Nat} {f:Nat→Tx} {k:Nat} (h:k<ks.length):(ks.map f).getD k ([],8)=f ks[k]:=by
 rw [List.getD_eq_getElem?_getD,List.getElem?_map,List.getElem?_eq_getElem h]; rfl
theorem tx_4 {t:List Nd} {i:Nat} {n:Nd} (hn:t[i]?=some n) (h4:n.kind=4) (hl:0<(kidsS t i).length):(txAt t i).1=45::opT 5 (txAt t (kidsS t i)[0]):=by
 rw [tx_eq hn]
 unfold comT
 rw [h4,getD_kid hl]
 rfl
theorem tx_5 {t:List Nd} {i:Nat} {n:Nd} (hn:t[i]?=some n) (h4:n.kind=5) (hl:0<(kidsS t i).length):(txAt t i).1=opT 7 (txAt t (kidsS t i)[0])++[37]:=by
 rw [tx_eq hn]
 unfold comT
 rw [h4,getD_kid hl]
 rfl
theorem tx_6 {t:List Nd} {i:Nat} {n:Nd} (hn:t[i]?=some n) (h4:n.kind=6) (h5:n.op≠5) (h0:0<(kidsS t i).length) (h1:1<(kidsS t i).length):(txAt t i).1=opT (bindS n.op) (txAt t (kidsS t i)[0])++(ownO n++opT (bindS n.op+1) (txAt t (kidsS t i)[1])):=by
 rw [tx_eq hn]
 have ho:ownO n=ownT n:=own_of (by omega) (by omega)
 unfold comT
 rw [h4,getD_kid h0,getD_kid h1,ho]
 simp only [Nat.reduceEqDiff,if_false,if_true]
 rw [if_neg h5]
theorem tx_65 {t:List Nd} {i:Nat} {n:Nd} (hn:t[i]?=some n) (h4:n.kind=6) (h5:n.op=5) (h0:0<(kidsS t i).length) (h1:1<(kidsS t i).length):(txAt t i).1=opT 7 (txAt t (kidsS t i)[0])++(ownO n++opT 5 (txAt t (kidsS t i)[1])):=by
 rw [tx_eq hn]
 have ho:ownO n=ownT n:=own_of (by omega) (by omega)
 unfold comT
 rw [h4,getD_kid h0,getD_kid h1,ho]
 simp only [Nat.reduceEqDiff,if_false,if_true]
 rw [if_pos h5]
theorem tx_7 {t:List Nd} {i:Nat} {n:Nd} (hn:t[i]?=some n) (h4:n.kind=7):(txAt t i).1=ownO n++40::(jnT ((kidsS t i).map (txAt t))++[41]):=by
 rw [tx_eq hn]
 have ho:ownO n=ownT n:=own_of (by omega) (by omega)
 unfold comT
 rw [h4,ho]
 rfl
theorem tx_leaf {t:List Nd} {i:Nat} {n:Nd} (hn:t[i]?=some n) (h:n.kind=1∨n.kind=2∨n.kind=3):(txAt t i).1=ownO n:=by
 rw [tx_eq hn]
 have ho:ownO n=ownT n:=own_of (by omega) (by omega)
 unfold comT
 rw [ho]
 rcases h with h | h | h <;> rw [h] <;> rfl
theorem opT_size {t:List Nd} (hc:TChk t) {j:Nat} (hj:j<t.length) (l:Nat):(⟨(opT l (txAt t j)).toArray⟩:ByteArray).size≤1000000000:=by
 have h1:=tx_len t hc.good j hj
 have h2:=opT_len l (txAt t j)
 have h3:=hc.len
 show (opT l (txAt t j)).toArray.size≤_
 rw [List.size_toArray]
 omega
theorem own_size {t:List Nd} (hc:TChk t) {i:Nat} {n:Nd} (hn:t[i]?=some n):(⟨(ownO n).toArray⟩:ByteArray).size≤1000000000:=by
 have hg:=hc.good n (List.mem_of_getElem? hn)
 have:=own_len_ hg.1 hg.2
 show (ownO n).toArray.size≤_
 rw [List.size_toArray]
 omega
theorem kids_at {t:List Nd} (hc:TChk t) {tb tz tc i:Nat} (hi:i<t.length) {W:World} (hin:TIn t tb tz W) :
  Calls Tryz.prog 90 #[.slice (some ⟨tb,tz,none⟩) t.length tc,.int .i64 (i:Nat)] W (KidsOut (kidsS t i) W):=by
 have:=tree_Kids (t.map Nd.any) i (some ⟨tb,tz,none⟩) tc W (by rw [any_rows]; exact hin.rows) (by rw [List.length_map]; have:=hc.len; omega) (any_texts fun n hn=>(hc.good n hn).1) hc.chk (by rw [List.length_map]; exact hi)
 rw [List.length_map,map_any] at this
 exact this
def CloAt (t:List Nd) (tb tz tc i k:Nat) (l:Int) (X:ByteArray):Prop:=∀ (W:World) (p q B:Nat) (kv:Value),TIn t tb tz W→Blk W p 29 #[.slice (some ⟨tb,tz,none⟩) t.length tc]→Blk W q 125 #[kv] →
  W.ownsRow B 3 1 kv (kidsS t i).length ((kidsS t i).map fun x=>.int .i64 (x:Nat)) →
  Calls Tryz.prog 91 #[.int .i64 (k:Nat),.int .i64 l,.pointer (some ⟨p,0,none⟩),.pointer (some ⟨q,0,none⟩)] W fun e w'=>e=.returned (.string X)∧Below W.heap.size W w'
theorem clo_named {t:List Nd} {tb tz tc i k:Nat} (hc:TChk t) (hi:i<t.length) (IH:∀ j,j<i→TextAt t tb tz tc j) (hk:k<(kidsS t i).length) (l:Nat):CloAt t tb tz tc i k (l:Nat) ⟨(opT l (txAt t (kidsS t i)[k])).toArray⟩ :=
 fun _ _ _ _ _ h1 h2 h3 h4=>clo_at hc hi IH h1 h2 h3 h4 hk
theorem txt_4 (t:List Nd) (tb tz tc i:Nat) (vk:Nat) (vn:Int) (vt:List UInt8) (r1 r2 r3 r4 op:Int) (fn nn:Nat)  (hc:TChk t) (hi:i<t.length) (hn:t[i]?=some ⟨4,vk,vn,vt,⟨r1,r2,r3,r4⟩,op,fn,nn⟩) (IH:∀ j,j<i→TextAt t tb tz tc j) (w:World) (hin:TIn t tb tz w) :
  Calls Tryz.prog 58 #[.slice (some ⟨tb,tz,none⟩) t.length tc,.int .i64 (i:Nat)] w fun e w'=>e=.returned (.string ⟨(txAt t i).1.toArray⟩)∧Below w.heap.size w w':=by
 have hkl:(kidsS t i).length=1:=hc.kids i _ hn
 obtain ⟨X,hX⟩ : ∃ X : ByteArray,⟨(opT 5 (txAt t ((kidsS t i)[0]'(by omega)))).toArray⟩ = X:=⟨_,rfl⟩
 have HX:=keep (show CloAt t tb tz tc i 0 (5:Nat) X by rw [← hX]; exact clo_named hc hi IH (by omega) 5)
 have zX:X.size≤1000000000:=by rw [← hX]; exact opT_size hc (Nat.lt_trans (kids_lt t i _ (List.getElem_mem _)) hi) _
 obtain ⟨R,hR⟩:∃ R:ByteArray,⟨(txAt t i).1.toArray⟩=R:=⟨_,rfl⟩
 have HR:=keep (show R=⟨#[45]⟩++X by
  rw [← hR,← hX,tx_4 hn rfl (by omega)]
  show _=(⟨[45].toArray⟩:ByteArray)++⟨_⟩
  rw [bytes_append]
  rfl)
 rw [hR]
 clear hR hX
 obtain ⟨h1,h2⟩:=hin.node hn
 have HKID:=keep (fun (W:World) (h:TIn t tb tz W)=>kids_at hc (tc:=tc) hi h)
 have HOWN:=keep (fun (W:World) (h:WEnv W)=>show_own ⟨4,vk,vn,vt,⟨r1,r2,r3,r4⟩,op,fn,nn⟩ (hc.good _ (List.mem_of_getElem? hn)).1 (hc.good _ (List.mem_of_getElem? hn)).2 W h)
 obtain ⟨tl,htl⟩:∃ tl,t.length=tl:=⟨_,rfl⟩
 have hki:(i:Int)<(tl:Int):=by omega
 rw [htl] at HKID ⊢
 have HTL:=keep htl
 have HIN:=keep hin
 have H1:=Lib.hid (((Ok.start w).add (kCells tb (tz+i * 11) [.int .u8 4,.int .u8 vk,.int .i64 vn,.string ⟨vt.toArray⟩,.int .i64 r1,.int .i64 r2,.int .i64 r3,.int .i64 r4,.int .i64 op,.int .u8 fn,.int .i64 nn]) ⟨h1,h2⟩).alloc w.heap.size 29 [.slice (some ⟨tb,tz,none⟩) tl tc] rfl)
 clear h1 h2 htl hin hc hi hn IH
 go_enter Tryz.func58,Tryz.ntmps58
 go_upto_region 1 with fail
 generalize (w.alloc (.cells #[.slice (some ⟨tb,tz,none⟩) tl tc] 29))=W1 at H1 ⊢
 have F2:=H1.out.sees
 simp only [sees,kBlk,kCells,cellsFrom,Nat.add_zero,cellsAt,Nat.reduceAdd] at F2
 obtain ⟨⟨z0,c00,-⟩,⟨z1,c10,c11,c12,c13,c14,c15,c16,c17,c18,c19,c1a,-⟩,-⟩:=F2
 go_upto_region 2 with fail
 clear z0 c00 z1 c10 c11 c12 c13 c14 c15 c16 c17 c18 c19 c1a
 have H3:=Lib.hid (H1.out.alloc W1.heap.size 96 [.int .u8 4,.int .u8 vk,.int .i64 vn,.string ⟨vt.toArray⟩,.int .i64 r1,.int .i64 r2,.int .i64 r3,.int .i64 r4,.int .i64 op,.int .u8 fn,.int .i64 nn] rfl)
 clear H1
 generalize (W1.alloc (.cells #[.int .u8 4,.int .u8 vk,.int .i64 vn,.string ⟨vt.toArray⟩,.int .i64 r1,.int .i64 r2,.int .i64 r3,.int .i64 r4,.int .i64 op,.int .u8 fn,.int .i64 nn] 96))=W4 at H3 ⊢
 have F5:=H3.out.sees
 simp only [sees,kBlk,kCells,cellsFrom,Nat.add_zero,cellsAt,Nat.reduceAdd] at F5
 obtain ⟨⟨z0,c00,c01,c02,c03,c04,c05,c06,c07,c08,c09,c0a,-⟩,⟨z1,c10,-⟩,⟨z2,c20,c21,c22,c23,c24,c25,c26,c27,c28,c29,c2a,-⟩,-⟩:=F5
 go_wp2_with fail
 refine (HKID.out _ (HIN.out.below H3.out.bel)).mono ?_
 rintro e w6 ⟨kv,rfl,hrow,hb7⟩
 obtain ⟨ka,kc,hkv⟩:=own_len hrow
 rw [hkl] at hkv
 subst hkv
 clear z0 c00 c01 c02 c03 c04 c05 c06 c07 c08 c09 c0a z1 c10 z2 c20 c21 c22 c23 c24 c25 c26 c27 c28 c29 c2a
 have H8:=Lib.hid ((H3.out.below hb7).add (kRow W4.heap.size 3 1 (.slice ka 1 kc) (kidsS t i).length ((kidsS t i).map fun x=>.int .i64 (x:Nat))) hrow)
 clear hb7 H3 hrow
 have F9:=H8.out.sees
 simp only [sees,kBlk,kCells,cellsFrom,Nat.add_zero,cellsAt,Nat.reduceAdd] at F9
 obtain ⟨-,⟨z1,c10,c11,c12,c13,c14,c15,c16,c17,c18,c19,c1a,-⟩,⟨z2,c20,-⟩,⟨z3,c30,c31,c32,c33,c34,c35,c36,c37,c38,c39,c3a,-⟩,-⟩:=F9
 go_upto_region 3 with fail
 have y10:=z1
 have y11:=z2
 have y12:=z3
 clear z1 c10 c11 c12 c13 c14 c15 c16 c17 c18 c19 c1a z2 c20 z3 c30 c31 c32 c33 c34 c35 c36 c37 c38 c39 c3a
 have H13:=Lib.hid (H8.out.var w6.heap.size 125 [.slice ka 1 kc] rfl)
 clear H8
 generalize (w6.alloc (.cells #[.slice ka 1 kc] 125))=W14 at H13 ⊢
 have F15:=H13.out.sees
 simp only [sees,kBlk,kVar,kCells,cellsFrom,Nat.add_zero,cellsAt,Nat.reduceAdd] at F15
 obtain ⟨⟨⟨z0,fz0⟩,c00,-⟩,-,⟨z2,c20,c21,c22,c23,c24,c25,c26,c27,c28,c29,c2a,-⟩,⟨z3,c30,-⟩,⟨z4,c40,c41,c42,c43,c44,c45,c46,c47,c48,c49,c4a,-⟩,-⟩:=F15
 go_wp2_with fail
 refine (HX.out _ w.heap.size (w6.heap.size) W4.heap.size (.slice ka 1 kc) (HIN.out.below H13.out.bel) (show Blk _ _ _ _ by rw [HTL.out]; exact H13.out.get (kBlk (w.heap.size) 29 [.slice (some ⟨tb,tz,none⟩) tl tc]) (by simp)) (H13.out.get (kVar (w6.heap.size) 125 [.slice ka 1 kc]) (by simp)) (H13.out.get (kRow W4.heap.size 3 1 (.slice ka 1 kc) (kidsS t i).length ((kidsS t i).map fun x=>.int .i64 (x:Nat))) (by simp))).mono ?_
 rintro e w16 ⟨rfl,hb17⟩
 clear z0 fz0 c00 z2 c20 c21 c22 c23 c24 c25 c26 c27 c28 c29 c2a z3 c30 z4 c40 c41 c42 c43 c44 c45 c46 c47 c48 c49 c4a
 have H18:=Lib.hid (H13.out.below hb17)
 clear hb17 H13
 have F19:=H18.out.sees
 simp only [sees,kBlk,kVar,kCells,cellsFrom,Nat.add_zero,cellsAt,Nat.reduceAdd] at F19
 obtain ⟨⟨⟨z0,fz0⟩,c00,-⟩,-,⟨z2,c20,c21,c22,c23,c24,c25,c26,c27,c28,c29,c2a,-⟩,⟨z3,c30,-⟩,⟨z4,c40,c41,c42,c43,c44,c45,c46,c47,c48,c49,c4a,-⟩,-⟩:=F19
 go_wp2_with fail
 go_ret
 exact ⟨by rw [HR.out]; rfl,H18.out.bel⟩
theorem txt_5 (t:List Nd) (tb tz tc i:Nat) (vk:Nat) (vn:Int) (vt:List UInt8) (r1 r2 r3 r4 op:Int) (fn nn:Nat)  (hc:TChk t) (hi:i<t.length) (hn:t[i]?=some ⟨5,vk,vn,vt,⟨r1,r2,r3,r4⟩,op,fn,nn⟩) (IH:∀ j,j<i→TextAt t tb tz tc j) (w:World) (hin:TIn t tb tz w) :
  Calls Tryz.prog 58 #[.slice (some ⟨tb,tz,none⟩) t.length tc,.int .i64 (i:Nat)] w fun e w'=>e=.returned (.string ⟨(txAt t i).1.toArray⟩)∧Below w.heap.size w w':=by
 have hkl:(kidsS t i).length=1:=hc.kids i _ hn
 obtain ⟨X,hX⟩ : ∃ X : ByteArray,⟨(opT 7 (txAt t ((kidsS t i)[0]'(by omega)))).toArray⟩ = X:=⟨_,rfl⟩
 have HX:=keep (show CloAt t tb tz tc i 0 (7:Nat) X by rw [← hX]; exact clo_named hc hi IH (by omega) 7)
 have zX:X.size≤1000000000:=by rw [← hX]; exact opT_size hc (Nat.lt_trans (kids_lt t i _ (List.getElem_mem _)) hi) _
 obtain ⟨R,hR⟩:∃ R:ByteArray,⟨(txAt t i).1.toArray⟩=R:=⟨_,rfl⟩
 have HR:=keep (show R=X++⟨#[37]⟩ by
  rw [← hR,← hX,tx_5 hn rfl (by omega)]
  show _=(⟨_⟩:ByteArray)++⟨[37].toArray⟩
  rw [bytes_append])
 rw [hR]
 clear hR hX
 obtain ⟨h1,h2⟩:=hin.node hn
 have HKID:=keep (fun (W:World) (h:TIn t tb tz W)=>kids_at hc (tc:=tc) hi h)
 have HOWN:=keep (fun (W:World) (h:WEnv W)=>show_own ⟨5,vk,vn,vt,⟨r1,r2,r3,r4⟩,op,fn,nn⟩ (hc.good _ (List.mem_of_getElem? hn)).1 (hc.good _ (List.mem_of_getElem? hn)).2 W h)
 obtain ⟨tl,htl⟩:∃ tl,t.length=tl:=⟨_,rfl⟩
 have hki:(i:Int)<(tl:Int):=by omega
 rw [htl] at HKID ⊢
 have HTL:=keep htl
 have HIN:=keep hin
 have H1:=Lib.hid (((Ok.start w).add (kCells tb (tz+i * 11) [.int .u8 5,.int .u8 vk,.int .i64 vn,.string ⟨vt.toArray⟩,.int .i64 r1,.int .i64 r2,.int .i64 r3,.int .i64 r4,.int .i64 op,.int .u8 fn,.int .i64 nn]) ⟨h1,h2⟩).alloc w.heap.size 29 [.slice (some ⟨tb,tz,none⟩) tl tc] rfl)
 clear h1 h2 htl hin hc hi hn IH
 go_enter Tryz.func58,Tryz.ntmps58
 go_upto_region 1 with fail
 generalize (w.alloc (.cells #[.slice (some ⟨tb,tz,none⟩) tl tc] 29))=W1 at H1 ⊢
 have F2:=H1.out.sees
 simp only [sees,kBlk,kCells,cellsFrom,Nat.add_zero,cellsAt,Nat.reduceAdd] at F2
 obtain ⟨⟨z0,c00,-⟩,⟨z1,c10,c11,c12,c13,c14,c15,c16,c17,c18,c19,c1a,-⟩,-⟩:=F2
 go_upto_region 2 with fail
 clear z0 c00 z1 c10 c11 c12 c13 c14 c15 c16 c17 c18 c19 c1a
 have H3:=Lib.hid (H1.out.alloc W1.heap.size 96 [.int .u8 5,.int .u8 vk,.int .i64 vn,.string ⟨vt.toArray⟩,.int .i64 r1,.int .i64 r2,.int .i64 r3,.int .i64 r4,.int .i64 op,.int .u8 fn,.int .i64 nn] rfl)
 clear H1
 generalize (W1.alloc (.cells #[.int .u8 5,.int .u8 vk,.int .i64 vn,.string ⟨vt.toArray⟩,.int .i64 r1,.int .i64 r2,.int .i64 r3,.int .i64 r4,.int .i64 op,.int .u8 fn,.int .i64 nn] 96))=W4 at H3 ⊢
 have F5:=H3.out.sees
 simp only [sees,kBlk,kCells,cellsFrom,Nat.add_zero,cellsAt,Nat.reduceAdd] at F5
 obtain ⟨⟨z0,c00,c01,c02,c03,c04,c05,c06,c07,c08,c09,c0a,-⟩,⟨z1,c10,-⟩,⟨z2,c20,c21,c22,c23,c24,c25,c26,c27,c28,c29,c2a,-⟩,-⟩:=F5
 go_wp2_with fail
 refine (HKID.out _ (HIN.out.below H3.out.bel)).mono ?_
 rintro e w6 ⟨kv,rfl,hrow,hb7⟩
 obtain ⟨ka,kc,hkv⟩:=own_len hrow
 rw [hkl] at hkv
 subst hkv
 clear z0 c00 c01 c02 c03 c04 c05 c06 c07 c08 c09 c0a z1 c10 z2 c20 c21 c22 c23 c24 c25 c26 c27 c28 c29 c2a
 have H8:=Lib.hid ((H3.out.below hb7).add (kRow W4.heap.size 3 1 (.slice ka 1 kc) (kidsS t i).length ((kidsS t i).map fun x=>.int .i64 (x:Nat))) hrow)
 clear hb7 H3 hrow
 have F9:=H8.out.sees
 simp only [sees,kBlk,kCells,cellsFrom,Nat.add_zero,cellsAt,Nat.reduceAdd] at F9
 obtain ⟨-,⟨z1,c10,c11,c12,c13,c14,c15,c16,c17,c18,c19,c1a,-⟩,⟨z2,c20,-⟩,⟨z3,c30,c31,c32,c33,c34,c35,c36,c37,c38,c39,c3a,-⟩,-⟩:=F9
 go_upto_region 3 with fail
 have y10:=z1
 have y11:=z2
 have y12:=z3
 clear z1 c10 c11 c12 c13 c14 c15 c16 c17 c18 c19 c1a z2 c20 z3 c30 c31 c32 c33 c34 c35 c36 c37 c38 c39 c3a
 have H13:=Lib.hid (H8.out.var w6.heap.size 125 [.slice ka 1 kc] rfl)
 clear H8
 generalize (w6.alloc (.cells #[.slice ka 1 kc] 125))=W14 at H13 ⊢
 have F15:=H13.out.sees
 simp only [sees,kBlk,kVar,kCells,cellsFrom,Nat.add_zero,cellsAt,Nat.reduceAdd] at F15
 obtain ⟨⟨⟨z0,fz0⟩,c00,-⟩,-,⟨z2,c20,c21,c22,c23,c24,c25,c26,c27,c28,c29,c2a,-⟩,⟨z3,c30,-⟩,⟨z4,c40,c41,c42,c43,c44,c45,c46,c47,c48,c49,c4a,-⟩,-⟩:=F15
 go_wp2_with fail
 refine (HX.out _ w.heap.size (w6.heap.size) W4.heap.size (.slice ka 1 kc) (HIN.out.below H13.out.bel) (show Blk _ _ _ _ by rw [HTL.out]; exact H13.out.get (kBlk (w.heap.size) 29 [.slice (some ⟨tb,tz,none⟩) tl tc]) (by simp)) (H13.out.get (kVar (w6.heap.size) 125 [.slice ka 1 kc]) (by simp)) (H13.out.get (kRow W4.heap.size 3 1 (.slice ka 1 kc) (kidsS t i).length ((kidsS t i).map fun x=>.int .i64 (x:Nat))) (by simp))).mono ?_
 rintro e w16 ⟨rfl,hb17⟩
 clear z0 fz0 c00 z2 c20 c21 c22 c23 c24 c25 c26 c27 c28 c29 c2a z3 c30 z4 c40 c41 c42 c43 c44 c45 c46 c47 c48 c49 c4a
 have H18:=Lib.hid (H13.out.below hb17)
 clear hb17 H13
 have F19:=H18.out.sees
 simp only [sees,kBlk,kVar,kCells,cellsFrom,Nat.add_zero,cellsAt,Nat.reduceAdd] at F19
 obtain ⟨⟨⟨z0,fz0⟩,c00,-⟩,-,⟨z2,c20,c21,c22,c23,c24,c25,c26,c27,c28,c29,c2a,-⟩,⟨z3,c30,-⟩,⟨z4,c40,c41,c42,c43,c44,c45,c46,c47,c48,c49,c4a,-⟩,-⟩:=F19
 go_wp2_with fail
 go_ret
 exact ⟨by rw [HR.out]; rfl,H18.out.bel⟩
theorem txt_1 (t:List Nd) (tb tz tc i:Nat) (vk:Nat) (vn:Int) (vt:List UInt8) (r1 r2 r3 r4 op:Int) (fn nn:Nat)  (hc:TChk t) (hi:i<t.length) (hn:t[i]?=some ⟨1,vk,vn,vt,⟨r1,r2,r3,r4⟩,op,fn,nn⟩) (w:World) (hin:TIn t tb tz w) :
  Calls Tryz.prog 58 #[.slice (some ⟨tb,tz,none⟩) t.length tc,.int .i64 (i:Nat)] w fun e w'=>e=.returned (.string ⟨(txAt t i).1.toArray⟩)∧Below w.heap.size w w':=by
 have hkl:(kidsS t i).length=0:=hc.kids i _ hn
 obtain ⟨R,hR⟩:∃ R:ByteArray,⟨(txAt t i).1.toArray⟩=R:=⟨_,rfl⟩
 have HR:=keep (show R=⟨(ownO ⟨1,vk,vn,vt,⟨r1,r2,r3,r4⟩,op,fn,nn⟩).toArray⟩ by rw [← hR,tx_leaf hn (by simp)])
 rw [hR]
 clear hR
 obtain ⟨h1,h2⟩:=hin.node hn
 have HKID:=keep (fun (W:World) (h:TIn t tb tz W)=>kids_at hc (tc:=tc) hi h)
 have HOWN:=keep (fun (W:World) (h:WEnv W)=>show_own ⟨1,vk,vn,vt,⟨r1,r2,r3,r4⟩,op,fn,nn⟩ (hc.good _ (List.mem_of_getElem? hn)).1 (hc.good _ (List.mem_of_getElem? hn)).2 W h)
 obtain ⟨tl,htl⟩:∃ tl,t.length=tl:=⟨_,rfl⟩
 have hki:(i:Int)<(tl:Int):=by omega
 rw [htl] at HKID ⊢
 have HTL:=keep htl
 have HIN:=keep hin
 have H1:=Lib.hid (((Ok.start w).add (kCells tb (tz+i * 11) [.int .u8 1,.int .u8 vk,.int .i64 vn,.string ⟨vt.toArray⟩,.int .i64 r1,.int .i64 r2,.int .i64 r3,.int .i64 r4,.int .i64 op,.int .u8 fn,.int .i64 nn]) ⟨h1,h2⟩).alloc w.heap.size 29 [.slice (some ⟨tb,tz,none⟩) tl tc] rfl)
 clear h1 h2 htl hin hc hi hn
 go_enter Tryz.func58,Tryz.ntmps58
 go_upto_region 1 with fail
 generalize (w.alloc (.cells #[.slice (some ⟨tb,tz,none⟩) tl tc] 29))=W1 at H1 ⊢
 have F2:=H1.out.sees
 simp only [sees,kBlk,kCells,cellsFrom,Nat.add_zero,cellsAt,Nat.reduceAdd] at F2
 obtain ⟨⟨z0,c00,-⟩,⟨z1,c10,c11,c12,c13,c14,c15,c16,c17,c18,c19,c1a,-⟩,-⟩:=F2
 go_upto_region 2 with fail
 clear z0 c00 z1 c10 c11 c12 c13 c14 c15 c16 c17 c18 c19 c1a
 have H3:=Lib.hid (H1.out.alloc W1.heap.size 96 [.int .u8 1,.int .u8 vk,.int .i64 vn,.string ⟨vt.toArray⟩,.int .i64 r1,.int .i64 r2,.int .i64 r3,.int .i64 r4,.int .i64 op,.int .u8 fn,.int .i64 nn] rfl)
 clear H1
 generalize (W1.alloc (.cells #[.int .u8 1,.int .u8 vk,.int .i64 vn,.string ⟨vt.toArray⟩,.int .i64 r1,.int .i64 r2,.int .i64 r3,.int .i64 r4,.int .i64 op,.int .u8 fn,.int .i64 nn] 96))=W4 at H3 ⊢
 have F5:=H3.out.sees
 simp only [sees,kBlk,kCells,cellsFrom,Nat.add_zero,cellsAt,Nat.reduceAdd] at F5
 obtain ⟨⟨z0,c00,c01,c02,c03,c04,c05,c06,c07,c08,c09,c0a,-⟩,⟨z1,c10,-⟩,⟨z2,c20,c21,c22,c23,c24,c25,c26,c27,c28,c29,c2a,-⟩,-⟩:=F5
 go_wp2_with fail
 refine (HKID.out _ (HIN.out.below H3.out.bel)).mono ?_
 rintro e w6 ⟨kv,rfl,hrow,hb7⟩
 obtain ⟨ka,kc,hkv⟩:=own_len hrow
 rw [hkl] at hkv
 subst hkv
 clear z0 c00 c01 c02 c03 c04 c05 c06 c07 c08 c09 c0a z1 c10 z2 c20 c21 c22 c23 c24 c25 c26 c27 c28 c29 c2a
 have H8:=Lib.hid ((H3.out.below hb7).add (kRow W4.heap.size 3 1 (.slice ka 0 kc) (kidsS t i).length ((kidsS t i).map fun x=>.int .i64 (x:Nat))) hrow)
 clear hb7 H3 hrow
 have F9:=H8.out.sees
 simp only [sees,kBlk,kCells,cellsFrom,Nat.add_zero,cellsAt,Nat.reduceAdd] at F9
 obtain ⟨-,⟨z1,c10,c11,c12,c13,c14,c15,c16,c17,c18,c19,c1a,-⟩,⟨z2,c20,-⟩,⟨z3,c30,c31,c32,c33,c34,c35,c36,c37,c38,c39,c3a,-⟩,-⟩:=F9
 go_upto_region 3 with fail
 have y10:=z1
 have y11:=z2
 have y12:=z3
 clear z1 c10 c11 c12 c13 c14 c15 c16 c17 c18 c19 c1a z2 c20 z3 c30 c31 c32 c33 c34 c35 c36 c37 c38 c39 c3a
 have H13:=Lib.hid (H8.out.var w6.heap.size 125 [.slice ka 0 kc] rfl)
 clear H8
 generalize (w6.alloc (.cells #[.slice ka 0 kc] 125))=W14 at H13 ⊢
 have F15:=H13.out.sees
 simp only [sees,kBlk,kVar,kCells,cellsFrom,Nat.add_zero,cellsAt,Nat.reduceAdd] at F15
 obtain ⟨⟨⟨z0,fz0⟩,c00,-⟩,-,⟨z2,c20,c21,c22,c23,c24,c25,c26,c27,c28,c29,c2a,-⟩,⟨z3,c30,-⟩,⟨z4,c40,c41,c42,c43,c44,c45,c46,c47,c48,c49,c4a,-⟩,-⟩:=F15
 obtain ⟨Y,hY⟩:∃ Y:ByteArray,⟨(ownO ⟨1,vk,vn,vt,⟨r1,r2,r3,r4⟩,op,fn,nn⟩).toArray⟩=Y:=⟨_,rfl⟩
 rw [hY] at HOWN HR
 clear hY
 go_wp2_with fail
 refine (HOWN.out _ (HIN.out.below H13.out.bel).env).mono ?_
 rintro e w16 ⟨rfl,hb17⟩
 clear z0 fz0 c00 z2 c20 c21 c22 c23 c24 c25 c26 c27 c28 c29 c2a z3 c30 z4 c40 c41 c42 c43 c44 c45 c46 c47 c48 c49 c4a
 have H18:=Lib.hid (H13.out.below hb17)
 clear hb17 H13
 have F19:=H18.out.sees
 simp only [sees,kBlk,kVar,kCells,cellsFrom,Nat.add_zero,cellsAt,Nat.reduceAdd] at F19
 obtain ⟨⟨⟨z0,fz0⟩,c00,-⟩,-,⟨z2,c20,c21,c22,c23,c24,c25,c26,c27,c28,c29,c2a,-⟩,⟨z3,c30,-⟩,⟨z4,c40,c41,c42,c43,c44,c45,c46,c47,c48,c49,c4a,-⟩,-⟩:=F19
 go_wp2_with fail
 go_ret
 exact ⟨by rw [HR.out]; rfl,H18.out.bel⟩
theorem txt_2 (t:List Nd) (tb tz tc i:Nat) (vk:Nat) (vn:Int) (vt:List UInt8) (r1 r2 r3 r4 op:Int) (fn nn:Nat)  (hc:TChk t) (hi:i<t.length) (hn:t[i]?=some ⟨2,vk,vn,vt,⟨r1,r2,r3,r4⟩,op,fn,nn⟩) (w:World) (hin:TIn t tb tz w) :
  Calls Tryz.prog 58 #[.slice (some ⟨tb,tz,none⟩) t.length tc,.int .i64 (i:Nat)] w fun e w'=>e=.returned (.string ⟨(txAt t i).1.toArray⟩)∧Below w.heap.size w w':=by
 have hkl:(kidsS t i).length=0:=hc.kids i _ hn
 obtain ⟨R,hR⟩:∃ R:ByteArray,⟨(txAt t i).1.toArray⟩=R:=⟨_,rfl⟩
 have HR:=keep (show R=⟨(ownO ⟨2,vk,vn,vt,⟨r1,r2,r3,r4⟩,op,fn,nn⟩).toArray⟩ by rw [← hR,tx_leaf hn (by simp)])
 rw [hR]
 clear hR
 obtain ⟨h1,h2⟩:=hin.node hn
 have HKID:=keep (fun (W:World) (h:TIn t tb tz W)=>kids_at hc (tc:=tc) hi h)
 have HOWN:=keep (fun (W:World) (h:WEnv W)=>show_own ⟨2,vk,vn,vt,⟨r1,r2,r3,r4⟩,op,fn,nn⟩ (hc.good _ (List.mem_of_getElem? hn)).1 (hc.good _ (List.mem_of_getElem? hn)).2 W h)
 obtain ⟨tl,htl⟩:∃ tl,t.length=tl:=⟨_,rfl⟩
 have hki:(i:Int)<(tl:Int):=by omega
 rw [htl] at HKID ⊢
 have HTL:=keep htl
 have HIN:=keep hin
 have H1:=Lib.hid (((Ok.start w).add (kCells tb (tz+i * 11) [.int .u8 2,.int .u8 vk,.int .i64 vn,.string ⟨vt.toArray⟩,.int .i64 r1,.int .i64 r2,.int .i64 r3,.int .i64 r4,.int .i64 op,.int .u8 fn,.int .i64 nn]) ⟨h1,h2⟩).alloc w.heap.size 29 [.slice (some ⟨tb,tz,none⟩) tl tc] rfl)
 clear h1 h2 htl hin hc hi hn
 go_enter Tryz.func58,Tryz.ntmps58
 go_upto_region 1 with fail
 generalize (w.alloc (.cells #[.slice (some ⟨tb,tz,none⟩) tl tc] 29))=W1 at H1 ⊢
 have F2:=H1.out.sees
 simp only [sees,kBlk,kCells,cellsFrom,Nat.add_zero,cellsAt,Nat.reduceAdd] at F2
 obtain ⟨⟨z0,c00,-⟩,⟨z1,c10,c11,c12,c13,c14,c15,c16,c17,c18,c19,c1a,-⟩,-⟩:=F2
 go_upto_region 2 with fail
 clear z0 c00 z1 c10 c11 c12 c13 c14 c15 c16 c17 c18 c19 c1a
 have H3:=Lib.hid (H1.out.alloc W1.heap.size 96 [.int .u8 2,.int .u8 vk,.int .i64 vn,.string ⟨vt.toArray⟩,.int .i64 r1,.int .i64 r2,.int .i64 r3,.int .i64 r4,.int .i64 op,.int .u8 fn,.int .i64 nn] rfl)
 clear H1
 generalize (W1.alloc (.cells #[.int .u8 2,.int .u8 vk,.int .i64 vn,.string ⟨vt.toArray⟩,.int .i64 r1,.int .i64 r2,.int .i64 r3,.int .i64 r4,.int .i64 op,.int .u8 fn,.int .i64 nn] 96))=W4 at H3 ⊢
 have F5:=H3.out.sees
 simp only [sees,kBlk,kCells,cellsFrom,Nat.add_zero,cellsAt,Nat.reduceAdd] at F5
 obtain ⟨⟨z0,c00,c01,c02,c03,c04,c05,c06,c07,c08,c09,c0a,-⟩,⟨z1,c10,-⟩,⟨z2,c20,c21,c22,c23,c24,c25,c26,c27,c28,c29,c2a,-⟩,-⟩:=F5
 go_wp2_with fail
 refine (HKID.out _ (HIN.out.below H3.out.bel)).mono ?_
 rintro e w6 ⟨kv,rfl,hrow,hb7⟩
 obtain ⟨ka,kc,hkv⟩:=own_len hrow
 rw [hkl] at hkv
 subst hkv
 clear z0 c00 c01 c02 c03 c04 c05 c06 c07 c08 c09 c0a z1 c10 z2 c20 c21 c22 c23 c24 c25 c26 c27 c28 c29 c2a
 have H8:=Lib.hid ((H3.out.below hb7).add (kRow W4.heap.size 3 1 (.slice ka 0 kc) (kidsS t i).length ((kidsS t i).map fun x=>.int .i64 (x:Nat))) hrow)
 clear hb7 H3 hrow
 have F9:=H8.out.sees
 simp only [sees,kBlk,kCells,cellsFrom,Nat.add_zero,cellsAt,Nat.reduceAdd] at F9
 obtain ⟨-,⟨z1,c10,c11,c12,c13,c14,c15,c16,c17,c18,c19,c1a,-⟩,⟨z2,c20,-⟩,⟨z3,c30,c31,c32,c33,c34,c35,c36,c37,c38,c39,c3a,-⟩,-⟩:=F9
 go_upto_region 3 with fail
 have y10:=z1
 have y11:=z2
 have y12:=z3
 clear z1 c10 c11 c12 c13 c14 c15 c16 c17 c18 c19 c1a z2 c20 z3 c30 c31 c32 c33 c34 c35 c36 c37 c38 c39 c3a
 have H13:=Lib.hid (H8.out.var w6.heap.size 125 [.slice ka 0 kc] rfl)
 clear H8
 generalize (w6.alloc (.cells #[.slice ka 0 kc] 125))=W14 at H13 ⊢
 have F15:=H13.out.sees
 simp only [sees,kBlk,kVar,kCells,cellsFrom,Nat.add_zero,cellsAt,Nat.reduceAdd] at F15
 obtain ⟨⟨⟨z0,fz0⟩,c00,-⟩,-,⟨z2,c20,c21,c22,c23,c24,c25,c26,c27,c28,c29,c2a,-⟩,⟨z3,c30,-⟩,⟨z4,c40,c41,c42,c43,c44,c45,c46,c47,c48,c49,c4a,-⟩,-⟩:=F15
 obtain ⟨Y,hY⟩:∃ Y:ByteArray,⟨(ownO ⟨2,vk,vn,vt,⟨r1,r2,r3,r4⟩,op,fn,nn⟩).toArray⟩=Y:=⟨_,rfl⟩
 rw [hY] at HOWN HR
 clear hY
 go_wp2_with fail
 refine (HOWN.out _ (HIN.out.below H13.out.bel).env).mono ?_
 rintro e w16 ⟨rfl,hb17⟩
 clear z0 fz0 c00 z2 c20 c21 c22 c23 c24 c25 c26 c27 c28 c29 c2a z3 c30 z4 c40 c41 c42 c43 c44 c45 c46 c47 c48 c49 c4a
 have H18:=Lib.hid (H13.out.below hb17)
 clear hb17 H13
 have F19:=H18.out.sees
 simp only [sees,kBlk,kVar,kCells,cellsFrom,Nat.add_zero,cellsAt,Nat.reduceAdd] at F19
 obtain ⟨⟨⟨z0,fz0⟩,c00,-⟩,-,⟨z2,c20,c21,c22,c23,c24,c25,c26,c27,c28,c29,c2a,-⟩,⟨z3,c30,-⟩,⟨z4,c40,c41,c42,c43,c44,c45,c46,c47,c48,c49,c4a,-⟩,-⟩:=F19
 go_wp2_with fail
 go_ret
 exact ⟨by rw [HR.out]; rfl,H18.out.bel⟩
theorem txt_3 (t:List Nd) (tb tz tc i:Nat) (vk:Nat) (vn:Int) (vt:List UInt8) (r1 r2 r3 r4 op:Int) (fn nn:Nat)  (hc:TChk t) (hi:i<t.length) (hn:t[i]?=some ⟨3,vk,vn,vt,⟨r1,r2,r3,r4⟩,op,fn,nn⟩) (w:World) (hin:TIn t tb tz w) :
  Calls Tryz.prog 58 #[.slice (some ⟨tb,tz,none⟩) t.length tc,.int .i64 (i:Nat)] w fun e w'=>e=.returned (.string ⟨(txAt t i).1.toArray⟩)∧Below w.heap.size w w':=by
 have hkl:(kidsS t i).length=0:=hc.kids i _ hn
 obtain ⟨R,hR⟩:∃ R:ByteArray,⟨(txAt t i).1.toArray⟩=R:=⟨_,rfl⟩
 have HR:=keep (show R=⟨(ownO ⟨3,vk,vn,vt,⟨r1,r2,r3,r4⟩,op,fn,nn⟩).toArray⟩ by rw [← hR,tx_leaf hn (by simp)])
 rw [hR]
 clear hR
 obtain ⟨h1,h2⟩:=hin.node hn
 have HKID:=keep (fun (W:World) (h:TIn t tb tz W)=>kids_at hc (tc:=tc) hi h)
 have HOWN:=keep (fun (W:World) (h:WEnv W)=>show_own ⟨3,vk,vn,vt,⟨r1,r2,r3,r4⟩,op,fn,nn⟩ (hc.good _ (List.mem_of_getElem? hn)).1 (hc.good _ (List.mem_of_getElem? hn)).2 W h)
 obtain ⟨tl,htl⟩:∃ tl,t.length=tl:=⟨_,rfl⟩
 have hki:(i:Int)<(tl:Int):=by omega
 rw [htl] at HKID ⊢
 have HTL:=keep htl
 have HIN:=keep hin
 have H1:=Lib.hid (((Ok.start w).add (kCells tb (tz+i * 11) [.int .u8 3,.int .u8 vk,.int .i64 vn,.string ⟨vt.toArray⟩,.int .i64 r1,.int .i64 r2,.int .i64 r3,.int .i64 r4,.int .i64 op,.int .u8 fn,.int .i64 nn]) ⟨h1,h2⟩).alloc w.heap.size 29 [.slice (some ⟨tb,tz,none⟩) tl tc] rfl)
 clear h1 h2 htl hin hc hi hn
 go_enter Tryz.func58,Tryz.ntmps58
 go_upto_region 1 with fail
 generalize (w.alloc (.cells #[.slice (some ⟨tb,tz,none⟩) tl tc] 29))=W1 at H1 ⊢
 have F2:=H1.out.sees
 simp only [sees,kBlk,kCells,cellsFrom,Nat.add_zero,cellsAt,Nat.reduceAdd] at F2
 obtain ⟨⟨z0,c00,-⟩,⟨z1,c10,c11,c12,c13,c14,c15,c16,c17,c18,c19,c1a,-⟩,-⟩:=F2
 go_upto_region 2 with fail
 clear z0 c00 z1 c10 c11 c12 c13 c14 c15 c16 c17 c18 c19 c1a
 have H3:=Lib.hid (H1.out.alloc W1.heap.size 96 [.int .u8 3,.int .u8 vk,.int .i64 vn,.string ⟨vt.toArray⟩,.int .i64 r1,.int .i64 r2,.int .i64 r3,.int .i64 r4,.int .i64 op,.int .u8 fn,.int .i64 nn] rfl)
 clear H1
 generalize (W1.alloc (.cells #[.int .u8 3,.int .u8 vk,.int .i64 vn,.string ⟨vt.toArray⟩,.int .i64 r1,.int .i64 r2,.int .i64 r3,.int .i64 r4,.int .i64 op,.int .u8 fn,.int .i64 nn] 96))=W4 at H3 ⊢
 have F5:=H3.out.sees
 simp only [sees,kBlk,kCells,cellsFrom,Nat.add_zero,cellsAt,Nat.reduceAdd] at F5
 obtain ⟨⟨z0,c00,c01,c02,c03,c04,c05,c06,c07,c08,c09,c0a,-⟩,⟨z1,c10,-⟩,⟨z2,c20,c21,c22,c23,c24,c25,c26,c27,c28,c29,c2a,-⟩,-⟩:=F5
 go_wp2_with fail
 refine (HKID.out _ (HIN.out.below H3.out.bel)).mono ?_
 rintro e w6 ⟨kv,rfl,hrow,hb7⟩
 obtain ⟨ka,kc,hkv⟩:=own_len hrow
 rw [hkl] at hkv
 subst hkv
 clear z0 c00 c01 c02 c03 c04 c05 c06 c07 c08 c09 c0a z1 c10 z2 c20 c21 c22 c23 c24 c25 c26 c27 c28 c29 c2a
 have H8:=Lib.hid ((H3.out.below hb7).add (kRow W4.heap.size 3 1 (.slice ka 0 kc) (kidsS t i).length ((kidsS t i).map fun x=>.int .i64 (x:Nat))) hrow)
 clear hb7 H3 hrow
 have F9:=H8.out.sees
 simp only [sees,kBlk,kCells,cellsFrom,Nat.add_zero,cellsAt,Nat.reduceAdd] at F9
 obtain ⟨-,⟨z1,c10,c11,c12,c13,c14,c15,c16,c17,c18,c19,c1a,-⟩,⟨z2,c20,-⟩,⟨z3,c30,c31,c32,c33,c34,c35,c36,c37,c38,c39,c3a,-⟩,-⟩:=F9
 go_upto_region 3 with fail
 have y10:=z1
 have y11:=z2
 have y12:=z3
 clear z1 c10 c11 c12 c13 c14 c15 c16 c17 c18 c19 c1a z2 c20 z3 c30 c31 c32 c33 c34 c35 c36 c37 c38 c39 c3a
 have H13:=Lib.hid (H8.out.var w6.heap.size 125 [.slice ka 0 kc] rfl)
 clear H8
 generalize (w6.alloc (.cells #[.slice ka 0 kc] 125))=W14 at H13 ⊢
 have F15:=H13.out.sees
 simp only [sees,kBlk,kVar,kCells,cellsFrom,Nat.add_zero,cellsAt,Nat.reduceAdd] at F15
 obtain ⟨⟨⟨z0,fz0⟩,c00,-⟩,-,⟨z2,c20,c21,c22,c23,c24,c25,c26,c27,c28,c29,c2a,-⟩,⟨z3,c30,-⟩,⟨z4,c40,c41,c42,c43,c44,c45,c46,c47,c48,c49,c4a,-⟩,-⟩:=F15
 obtain ⟨Y,hY⟩:∃ Y:ByteArray,⟨(ownO ⟨3,vk,vn,vt,⟨r1,r2,r3,r4⟩,op,fn,nn⟩).toArray⟩=Y:=⟨_,rfl⟩
 rw [hY] at HOWN HR
 clear hY
 go_wp2_with fail
 refine (HOWN.out _ (HIN.out.below H13.out.bel).env).mono ?_
 rintro e w16 ⟨rfl,hb17⟩
 clear z0 fz0 c00 z2 c20 c21 c22 c23 c24 c25 c26 c27 c28 c29 c2a z3 c30 z4 c40 c41 c42 c43 c44 c45 c46 c47 c48 c49 c4a
 have H18:=Lib.hid (H13.out.below hb17)
 clear hb17 H13
 have F19:=H18.out.sees
 simp only [sees,kBlk,kVar,kCells,cellsFrom,Nat.add_zero,cellsAt,Nat.reduceAdd] at F19
 obtain ⟨⟨⟨z0,fz0⟩,c00,-⟩,-,⟨z2,c20,c21,c22,c23,c24,c25,c26,c27,c28,c29,c2a,-⟩,⟨z3,c30,-⟩,⟨z4,c40,c41,c42,c43,c44,c45,c46,c47,c48,c49,c4a,-⟩,-⟩:=F19
 go_wp2_with fail
 go_ret
 exact ⟨by rw [HR.out]; rfl,H18.out.bel⟩
theorem txt_65 (t:List Nd) (tb tz tc i:Nat) (vk:Nat) (vn:Int) (vt:List UInt8) (r1 r2 r3 r4:Int) (fn nn:Nat)  (hc:TChk t) (hi:i<t.length) (hn:t[i]?=some ⟨6,vk,vn,vt,⟨r1,r2,r3,r4⟩,5,fn,nn⟩) (IH:∀ j,j<i→TextAt t tb tz tc j) (w:World) (hin:TIn t tb tz w) :
  Calls Tryz.prog 58 #[.slice (some ⟨tb,tz,none⟩) t.length tc,.int .i64 (i:Nat)] w fun e w'=>e=.returned (.string ⟨(txAt t i).1.toArray⟩)∧Below w.heap.size w w':=by
 have hkl:(kidsS t i).length=2:=hc.kids i _ hn
 obtain ⟨A,hA⟩ : ∃ X : ByteArray,⟨(opT 7 (txAt t ((kidsS t i)[0]'(by omega)))).toArray⟩ = X:=⟨_,rfl⟩
 have HA:=keep (show CloAt t tb tz tc i 0 (7:Nat) A by rw [← hA]; exact clo_named hc hi IH (by omega) 7)
 have zA:A.size≤1000000000:=by rw [← hA]; exact opT_size hc (Nat.lt_trans (kids_lt t i _ (List.getElem_mem _)) hi) _
 obtain ⟨B,hB⟩ : ∃ X : ByteArray,⟨(opT 5 (txAt t ((kidsS t i)[1]'(by omega)))).toArray⟩ = X:=⟨_,rfl⟩
 have HB:=keep (show CloAt t tb tz tc i 1 (5:Nat) B by rw [← hB]; exact clo_named hc hi IH (by omega) 5)
 have zB:B.size≤1000000000:=by rw [← hB]; exact opT_size hc (Nat.lt_trans (kids_lt t i _ (List.getElem_mem _)) hi) _
 obtain ⟨R,hR⟩:∃ R:ByteArray,⟨(txAt t i).1.toArray⟩=R:=⟨_,rfl⟩
 obtain ⟨O,hO⟩:∃ O:ByteArray,⟨(ownO ⟨6,vk,vn,vt,⟨r1,r2,r3,r4⟩,5,fn,nn⟩).toArray⟩=O:=⟨_,rfl⟩
 have zO:O.size≤1000000000:=by rw [← hO]; exact own_size hc hn
 have HR:=keep (show R=A++O++B by
  rw [← hR,← hA,← hB,← hO,tx_65 hn rfl rfl (by omega) (by omega),bytes_append,bytes_append,List.append_assoc])
 have HSTR:=keep (fun W:World=>show_strength ⟨6,vk,vn,vt,⟨r1,r2,r3,r4⟩,5,fn,nn⟩ (hc.good _ (List.mem_of_getElem? hn)).1 W)
 rw [hR]
 clear hR hA hB
 obtain ⟨h1,h2⟩:=hin.node hn
 have HKID:=keep (fun (W:World) (h:TIn t tb tz W)=>kids_at hc (tc:=tc) hi h)
 have HOWN:=keep (fun (W:World) (h:WEnv W)=>show_own ⟨6,vk,vn,vt,⟨r1,r2,r3,r4⟩,5,fn,nn⟩ (hc.good _ (List.mem_of_getElem? hn)).1 (hc.good _ (List.mem_of_getElem? hn)).2 W h)
 obtain ⟨tl,htl⟩:∃ tl,t.length=tl:=⟨_,rfl⟩
 have hki:(i:Int)<(tl:Int):=by omega
 rw [htl] at HKID ⊢
 have HTL:=keep htl
 have HIN:=keep hin
 have H1:=Lib.hid (((Ok.start w).add (kCells tb (tz+i * 11) [.int .u8 6,.int .u8 vk,.int .i64 vn,.string ⟨vt.toArray⟩,.int .i64 r1,.int .i64 r2,.int .i64 r3,.int .i64 r4,.int .i64 5,.int .u8 fn,.int .i64 nn]) ⟨h1,h2⟩).alloc w.heap.size 29 [.slice (some ⟨tb,tz,none⟩) tl tc] rfl)
 clear h1 h2 htl hin hc hi hn IH
 go_enter Tryz.func58,Tryz.ntmps58
 go_upto_region 1 with fail
 generalize (w.alloc (.cells #[.slice (some ⟨tb,tz,none⟩) tl tc] 29))=W1 at H1 ⊢
 have F2:=H1.out.sees
 simp only [sees,kBlk,kCells,cellsFrom,Nat.add_zero,cellsAt,Nat.reduceAdd] at F2
 obtain ⟨⟨z0,c00,-⟩,⟨z1,c10,c11,c12,c13,c14,c15,c16,c17,c18,c19,c1a,-⟩,-⟩:=F2
 go_upto_region 2 with fail
 clear z0 c00 z1 c10 c11 c12 c13 c14 c15 c16 c17 c18 c19 c1a
 have H3:=Lib.hid (H1.out.alloc W1.heap.size 96 [.int .u8 6,.int .u8 vk,.int .i64 vn,.string ⟨vt.toArray⟩,.int .i64 r1,.int .i64 r2,.int .i64 r3,.int .i64 r4,.int .i64 5,.int .u8 fn,.int .i64 nn] rfl)
 clear H1
 generalize (W1.alloc (.cells #[.int .u8 6,.int .u8 vk,.int .i64 vn,.string ⟨vt.toArray⟩,.int .i64 r1,.int .i64 r2,.int .i64 r3,.int .i64 r4,.int .i64 5,.int .u8 fn,.int .i64 nn] 96))=W4 at H3 ⊢
 have F5:=H3.out.sees
 simp only [sees,kBlk,kCells,cellsFrom,Nat.add_zero,cellsAt,Nat.reduceAdd] at F5
 obtain ⟨⟨z0,c00,c01,c02,c03,c04,c05,c06,c07,c08,c09,c0a,-⟩,⟨z1,c10,-⟩,⟨z2,c20,c21,c22,c23,c24,c25,c26,c27,c28,c29,c2a,-⟩,-⟩:=F5
 go_wp2_with fail
 refine (HKID.out _ (HIN.out.below H3.out.bel)).mono ?_
 rintro e w6 ⟨kv,rfl,hrow,hb7⟩
 obtain ⟨ka,kc,hkv⟩:=own_len hrow
 rw [hkl] at hkv
 subst hkv
 clear z0 c00 c01 c02 c03 c04 c05 c06 c07 c08 c09 c0a z1 c10 z2 c20 c21 c22 c23 c24 c25 c26 c27 c28 c29 c2a
 have H8:=Lib.hid ((H3.out.below hb7).add (kRow W4.heap.size 3 1 (.slice ka 2 kc) (kidsS t i).length ((kidsS t i).map fun x=>.int .i64 (x:Nat))) hrow)
 clear hb7 H3 hrow
 have F9:=H8.out.sees
 simp only [sees,kBlk,kCells,cellsFrom,Nat.add_zero,cellsAt,Nat.reduceAdd] at F9
 obtain ⟨-,⟨z1,c10,c11,c12,c13,c14,c15,c16,c17,c18,c19,c1a,-⟩,⟨z2,c20,-⟩,⟨z3,c30,c31,c32,c33,c34,c35,c36,c37,c38,c39,c3a,-⟩,-⟩:=F9
 go_upto_region 3 with fail
 have y10:=z1
 have y11:=z2
 have y12:=z3
 clear z1 c10 c11 c12 c13 c14 c15 c16 c17 c18 c19 c1a z2 c20 z3 c30 c31 c32 c33 c34 c35 c36 c37 c38 c39 c3a
 have H13:=Lib.hid (H8.out.var w6.heap.size 125 [.slice ka 2 kc] rfl)
 clear H8
 generalize (w6.alloc (.cells #[.slice ka 2 kc] 125))=W14 at H13 ⊢
 have F15:=H13.out.sees
 simp only [sees,kBlk,kVar,kCells,cellsFrom,Nat.add_zero,cellsAt,Nat.reduceAdd] at F15
 obtain ⟨⟨⟨z0,fz0⟩,c00,-⟩,-,⟨z2,c20,c21,c22,c23,c24,c25,c26,c27,c28,c29,c2a,-⟩,⟨z3,c30,-⟩,⟨z4,c40,c41,c42,c43,c44,c45,c46,c47,c48,c49,c4a,-⟩,-⟩:=F15
 rw [hO] at HOWN
 clear hO
 have hs6:strT ⟨6,vk,vn,vt,⟨r1,r2,r3,r4⟩,5,fn,nn⟩=6:=rfl
 rw [hs6] at HSTR
 clear hs6
 go_upto_region 10 with fail
 refine wp_region_held_drew (S:=fun W=>Ok w [kVar (w6.heap.size) 125 [.slice ka 2 kc],kRow W4.heap.size 3 1 (.slice ka 2 kc) (kidsS t i).length ((kidsS t i).map fun x=>.int .i64 (x:Nat)),kBlk (W1.heap.size) 96 [.int .u8 6,.int .u8 vk,.int .i64 vn,.string ⟨vt.toArray⟩,.int .i64 r1,.int .i64 r2,.int .i64 r3,.int .i64 r4,.int .i64 5,.int .u8 fn,.int .i64 nn],kBlk (w.heap.size) 29 [.slice (some ⟨tb,tz,none⟩) tl tc],kCells tb (tz+i * 11) [.int .u8 6,.int .u8 vk,.int .i64 vn,.string ⟨vt.toArray⟩,.int .i64 r1,.int .i64 r2,.int .i64 r3,.int .i64 r4,.int .i64 5,.int .u8 fn,.int .i64 nn]] W) (by kernel_rfl) H13.out.drew (fun hHeld => ?_)
 refine wt3 (i:=0) rfl (by assumption) ?_
 refine wt3 (i:=2) rfl (by assumption) ?_
 refine wal (i:=1) rfl (fun K hK => ?_)
 go_simp
 refine (HSTR.out _).mono ?_
 rintro e w17 ⟨rfl,hb18⟩
 go_wp2_with fail
 refine hK.out _ _ (hHeld.below hb18) (fun hHeld => ?_)
 clear hK K
 try simp only [Act.put,wp1,wp2,wp3,wp4,wp5,wp6]
 refine wal (i:=3) rfl (fun K hK => ?_)
 go_simp
 refine (HSTR.out _).mono ?_
 rintro e w19 ⟨rfl,hb20⟩
 go_wp2_with fail
 refine hK.out _ _ (hHeld.below hb20) (fun hHeld => ?_)
 clear hK K
 try simp only [Act.put,wp1,wp2,wp3,wp4,wp5,wp6]
 refine wt3 (i:=4) rfl (by assumption) ?_
 refine wt3 (i:=5) rfl (by assumption) ?_
 refine wt3 (i:=6) rfl (by assumption) ?_
 refine wpAnyH_done (by kernel_rfl) ?_ _
 clear z0 fz0 c00 z2 c20 c21 c22 c23 c24 c25 c26 c27 c28 c29 c2a z3 c30 z4 c40 c41 c42 c43 c44 c45 c46 c47 c48 c49 c4a
 clear H13
 have H21:=Lib.hid hHeld
 clear hHeld
 have F22:=H21.out.sees
 simp only [sees,kBlk,kVar,kCells,cellsFrom,Nat.add_zero,cellsAt,Nat.reduceAdd] at F22
 obtain ⟨⟨⟨z0,fz0⟩,c00,-⟩,-,⟨z2,c20,c21,c22,c23,c24,c25,c26,c27,c28,c29,c2a,-⟩,⟨z3,c30,-⟩,⟨z4,c40,c41,c42,c43,c44,c45,c46,c47,c48,c49,c4a,-⟩,-⟩:=F22
 go_upto_region 13 with fail
 refine wp_region_held_drew (S:=fun W=>Ok w [kVar (w6.heap.size) 125 [.slice ka 2 kc],kRow W4.heap.size 3 1 (.slice ka 2 kc) (kidsS t i).length ((kidsS t i).map fun x=>.int .i64 (x:Nat)),kBlk (W1.heap.size) 96 [.int .u8 6,.int .u8 vk,.int .i64 vn,.string ⟨vt.toArray⟩,.int .i64 r1,.int .i64 r2,.int .i64 r3,.int .i64 r4,.int .i64 5,.int .u8 fn,.int .i64 nn],kBlk (w.heap.size) 29 [.slice (some ⟨tb,tz,none⟩) tl tc],kCells tb (tz+i * 11) [.int .u8 6,.int .u8 vk,.int .i64 vn,.string ⟨vt.toArray⟩,.int .i64 r1,.int .i64 r2,.int .i64 r3,.int .i64 r4,.int .i64 5,.int .u8 fn,.int .i64 nn]] W) (by kernel_rfl) H21.out.drew (fun hHeld => ?_)
 refine wt4 (i:=0) rfl (by assumption) ?_
 refine wt4 (i:=1) rfl (by assumption) ?_
 refine wt4 (i:=3) rfl (by assumption) ?_
 refine wt4 (i:=6) rfl (by assumption) ?_
 refine wt4 (i:=7) rfl (by assumption) ?_
 refine wal (i:=2) rfl (fun K hK => ?_)
 go_simp
 refine (HA.out _ w.heap.size (w6.heap.size) W4.heap.size (.slice ka 2 kc) (HIN.out.below hHeld.bel) (show Blk _ _ _ _ by rw [HTL.out]; exact hHeld.get (kBlk (w.heap.size) 29 [.slice (some ⟨tb,tz,none⟩) tl tc]) (by simp)) (hHeld.get (kVar (w6.heap.size) 125 [.slice ka 2 kc]) (by simp)) (hHeld.get (kRow W4.heap.size 3 1 (.slice ka 2 kc) (kidsS t i).length ((kidsS t i).map fun x=>.int .i64 (x:Nat))) (by simp))).mono ?_
 rintro e w24 ⟨rfl,hb25⟩
 go_wp2_with fail
 refine hK.out _ _ (hHeld.below hb25) (fun hHeld => ?_)
 clear hK K
 try simp only [Act.put,wp1,wp2,wp3,wp4,wp5,wp6]
 refine wal (i:=4) rfl (fun K hK => ?_)
 go_simp
 refine (HOWN.out _ (HIN.out.below hHeld.bel).env).mono ?_
 rintro e w26 ⟨rfl,hb27⟩
 go_wp2_with fail
 refine hK.out _ _ (hHeld.below hb27) (fun hHeld => ?_)
 clear hK K
 try simp only [Act.put,wp1,wp2,wp3,wp4,wp5,wp6]
 refine wt4 (i:=5) rfl (by assumption) ?_
 refine wal (i:=8) rfl (fun K hK => ?_)
 go_simp
 refine (HB.out _ w.heap.size (w6.heap.size) W4.heap.size (.slice ka 2 kc) (HIN.out.below hHeld.bel) (show Blk _ _ _ _ by rw [HTL.out]; exact hHeld.get (kBlk (w.heap.size) 29 [.slice (some ⟨tb,tz,none⟩) tl tc]) (by simp)) (hHeld.get (kVar (w6.heap.size) 125 [.slice ka 2 kc]) (by simp)) (hHeld.get (kRow W4.heap.size 3 1 (.slice ka 2 kc) (kidsS t i).length ((kidsS t i).map fun x=>.int .i64 (x:Nat))) (by simp))).mono ?_
 rintro e w28 ⟨rfl,hb29⟩
 go_wp2_with fail
 refine hK.out _ _ (hHeld.below hb29) (fun hHeld => ?_)
 clear hK K
 try simp only [Act.put,wp1,wp2,wp3,wp4,wp5,wp6]
 refine wt4 (i:=9) rfl (by assumption) ?_
 refine wt4 (i:=10) rfl (by assumption) ?_
 refine wpAnyH_done (by kernel_rfl) ?_ _
 clear z0 fz0 c00 z2 c20 c21 c22 c23 c24 c25 c26 c27 c28 c29 c2a z3 c30 z4 c40 c41 c42 c43 c44 c45 c46 c47 c48 c49 c4a
 clear H21
 have H30:=Lib.hid hHeld
 clear hHeld
 have F31:=H30.out.sees
 simp only [sees,kBlk,kVar,kCells,cellsFrom,Nat.add_zero,cellsAt,Nat.reduceAdd] at F31
 obtain ⟨⟨⟨z0,fz0⟩,c00,-⟩,-,⟨z2,c20,c21,c22,c23,c24,c25,c26,c27,c28,c29,c2a,-⟩,⟨z3,c30,-⟩,⟨z4,c40,c41,c42,c43,c44,c45,c46,c47,c48,c49,c4a,-⟩,-⟩:=F31
 go_wp2_with fail
 go_ret
 exact ⟨by rw [HR.out]; rfl,H30.out.bel⟩
theorem txt_6 (t:List Nd) (tb tz tc i:Nat) (vk:Nat) (vn:Int) (vt:List UInt8) (r1 r2 r3 r4 op:Int) (fn nn:Nat) (h5:op≠5) (hc:TChk t) (hi:i<t.length) (hn:t[i]?=some ⟨6,vk,vn,vt,⟨r1,r2,r3,r4⟩,op,fn,nn⟩) (IH:∀ j,j<i→TextAt t tb tz tc j) (w:World) (hin:TIn t tb tz w) :
  Calls Tryz.prog 58 #[.slice (some ⟨tb,tz,none⟩) t.length tc,.int .i64 (i:Nat)] w fun e w'=>e=.returned (.string ⟨(txAt t i).1.toArray⟩)∧Below w.heap.size w w':=by
 have hkl:(kidsS t i).length=2:=hc.kids i _ hn
 obtain ⟨A,hA⟩ : ∃ X : ByteArray,⟨(opT (bindS op) (txAt t ((kidsS t i)[0]'(by omega)))).toArray⟩ = X:=⟨_,rfl⟩
 have HA:=keep (show CloAt t tb tz tc i 0 ((bindS op):Nat) A by rw [← hA]; exact clo_named hc hi IH (by omega) (bindS op))
 have zA:A.size≤1000000000:=by rw [← hA]; exact opT_size hc (Nat.lt_trans (kids_lt t i _ (List.getElem_mem _)) hi) _
 obtain ⟨B,hB⟩ : ∃ X : ByteArray,⟨(opT (bindS op + 1) (txAt t ((kidsS t i)[1]'(by omega)))).toArray⟩ = X:=⟨_,rfl⟩
 have HB:=keep (show CloAt t tb tz tc i 1 ((bindS op+1):Nat) B by rw [← hB]; exact clo_named hc hi IH (by omega) (bindS op+1))
 have zB:B.size≤1000000000:=by rw [← hB]; exact opT_size hc (Nat.lt_trans (kids_lt t i _ (List.getElem_mem _)) hi) _
 obtain ⟨R,hR⟩:∃ R:ByteArray,⟨(txAt t i).1.toArray⟩=R:=⟨_,rfl⟩
 obtain ⟨O,hO⟩:∃ O:ByteArray,⟨(ownO ⟨6,vk,vn,vt,⟨r1,r2,r3,r4⟩,op,fn,nn⟩).toArray⟩=O:=⟨_,rfl⟩
 have zO:O.size≤1000000000:=by rw [← hO]; exact own_size hc hn
 have HR:=keep (show R=A++O++B by
  rw [← hR,← hA,← hB,← hO,tx_6 hn rfl h5 (by omega) (by omega),bytes_append,bytes_append,List.append_assoc])
 have HSTR:=keep (fun W:World=>show_strength ⟨6,vk,vn,vt,⟨r1,r2,r3,r4⟩,op,fn,nn⟩ (hc.good _ (List.mem_of_getElem? hn)).1 W)
 rw [hR]
 clear hR hA hB
 obtain ⟨h1,h2⟩:=hin.node hn
 have HKID:=keep (fun (W:World) (h:TIn t tb tz W)=>kids_at hc (tc:=tc) hi h)
 have HOWN:=keep (fun (W:World) (h:WEnv W)=>show_own ⟨6,vk,vn,vt,⟨r1,r2,r3,r4⟩,op,fn,nn⟩ (hc.good _ (List.mem_of_getElem? hn)).1 (hc.good _ (List.mem_of_getElem? hn)).2 W h)
 obtain ⟨tl,htl⟩:∃ tl,t.length=tl:=⟨_,rfl⟩
 have hki:(i:Int)<(tl:Int):=by omega
 rw [htl] at HKID ⊢
 have HTL:=keep htl
 have HIN:=keep hin
 have H1:=Lib.hid (((Ok.start w).add (kCells tb (tz+i * 11) [.int .u8 6,.int .u8 vk,.int .i64 vn,.string ⟨vt.toArray⟩,.int .i64 r1,.int .i64 r2,.int .i64 r3,.int .i64 r4,.int .i64 op,.int .u8 fn,.int .i64 nn]) ⟨h1,h2⟩).alloc w.heap.size 29 [.slice (some ⟨tb,tz,none⟩) tl tc] rfl)
 clear h1 h2 htl hin hc hi hn IH
 go_enter Tryz.func58,Tryz.ntmps58
 go_upto_region 1 with fail
 generalize (w.alloc (.cells #[.slice (some ⟨tb,tz,none⟩) tl tc] 29))=W1 at H1 ⊢
 have F2:=H1.out.sees
 simp only [sees,kBlk,kCells,cellsFrom,Nat.add_zero,cellsAt,Nat.reduceAdd] at F2
 obtain ⟨⟨z0,c00,-⟩,⟨z1,c10,c11,c12,c13,c14,c15,c16,c17,c18,c19,c1a,-⟩,-⟩:=F2
 go_upto_region 2 with fail
 clear z0 c00 z1 c10 c11 c12 c13 c14 c15 c16 c17 c18 c19 c1a
 have H3:=Lib.hid (H1.out.alloc W1.heap.size 96 [.int .u8 6,.int .u8 vk,.int .i64 vn,.string ⟨vt.toArray⟩,.int .i64 r1,.int .i64 r2,.int .i64 r3,.int .i64 r4,.int .i64 op,.int .u8 fn,.int .i64 nn] rfl)
 clear H1
 generalize (W1.alloc (.cells #[.int .u8 6,.int .u8 vk,.int .i64 vn,.string ⟨vt.toArray⟩,.int .i64 r1,.int .i64 r2,.int .i64 r3,.int .i64 r4,.int .i64 op,.int .u8 fn,.int .i64 nn] 96))=W4 at H3 ⊢
 have F5:=H3.out.sees
 simp only [sees,kBlk,kCells,cellsFrom,Nat.add_zero,cellsAt,Nat.reduceAdd] at F5
 obtain ⟨⟨z0,c00,c01,c02,c03,c04,c05,c06,c07,c08,c09,c0a,-⟩,⟨z1,c10,-⟩,⟨z2,c20,c21,c22,c23,c24,c25,c26,c27,c28,c29,c2a,-⟩,-⟩:=F5
 go_wp2_with fail
 refine (HKID.out _ (HIN.out.below H3.out.bel)).mono ?_
 rintro e w6 ⟨kv,rfl,hrow,hb7⟩
 obtain ⟨ka,kc,hkv⟩:=own_len hrow
 rw [hkl] at hkv
 subst hkv
 clear z0 c00 c01 c02 c03 c04 c05 c06 c07 c08 c09 c0a z1 c10 z2 c20 c21 c22 c23 c24 c25 c26 c27 c28 c29 c2a
 have H8:=Lib.hid ((H3.out.below hb7).add (kRow W4.heap.size 3 1 (.slice ka 2 kc) (kidsS t i).length ((kidsS t i).map fun x=>.int .i64 (x:Nat))) hrow)
 clear hb7 H3 hrow
 have F9:=H8.out.sees
 simp only [sees,kBlk,kCells,cellsFrom,Nat.add_zero,cellsAt,Nat.reduceAdd] at F9
 obtain ⟨-,⟨z1,c10,c11,c12,c13,c14,c15,c16,c17,c18,c19,c1a,-⟩,⟨z2,c20,-⟩,⟨z3,c30,c31,c32,c33,c34,c35,c36,c37,c38,c39,c3a,-⟩,-⟩:=F9
 go_upto_region 3 with fail
 have y10:=z1
 have y11:=z2
 have y12:=z3
 clear z1 c10 c11 c12 c13 c14 c15 c16 c17 c18 c19 c1a z2 c20 z3 c30 c31 c32 c33 c34 c35 c36 c37 c38 c39 c3a
 have H13:=Lib.hid (H8.out.var w6.heap.size 125 [.slice ka 2 kc] rfl)
 clear H8
 generalize (w6.alloc (.cells #[.slice ka 2 kc] 125))=W14 at H13 ⊢
 have F15:=H13.out.sees
 simp only [sees,kBlk,kVar,kCells,cellsFrom,Nat.add_zero,cellsAt,Nat.reduceAdd] at F15
 obtain ⟨⟨⟨z0,fz0⟩,c00,-⟩,-,⟨z2,c20,c21,c22,c23,c24,c25,c26,c27,c28,c29,c2a,-⟩,⟨z3,c30,-⟩,⟨z4,c40,c41,c42,c43,c44,c45,c46,c47,c48,c49,c4a,-⟩,-⟩:=F15
 rw [hO] at HOWN
 clear hO
 have hs6:strT ⟨6,vk,vn,vt,⟨r1,r2,r3,r4⟩,op,fn,nn⟩=bindS op:=by unfold strT; rw [if_neg (by simp),if_neg (by simp),if_pos rfl,if_neg h5]
 rw [hs6] at HSTR
 have hop:(op == 5)=false:=by simpa using h5
 have hb8:bindS op≤8:=by unfold bindS; (repeat' split) <;> decide
 obtain ⟨b,hb⟩:∃ b,bindS op=b:=⟨_,rfl⟩
 rw [hb] at HSTR HA HB hb8
 have hw1:IntKind.i64.wrap ((b:Int)+1)=((b+1:Nat):Int):=by rw [Go.IntWalk.i64_in _ (by omega)]; omega
 clear hs6 hb h5
 go_upto_region 10 with fail
 refine wp_region_held_drew (S:=fun W=>Ok w [kVar (w6.heap.size) 125 [.slice ka 2 kc],kRow W4.heap.size 3 1 (.slice ka 2 kc) (kidsS t i).length ((kidsS t i).map fun x=>.int .i64 (x:Nat)),kBlk (W1.heap.size) 96 [.int .u8 6,.int .u8 vk,.int .i64 vn,.string ⟨vt.toArray⟩,.int .i64 r1,.int .i64 r2,.int .i64 r3,.int .i64 r4,.int .i64 op,.int .u8 fn,.int .i64 nn],kBlk (w.heap.size) 29 [.slice (some ⟨tb,tz,none⟩) tl tc],kCells tb (tz+i * 11) [.int .u8 6,.int .u8 vk,.int .i64 vn,.string ⟨vt.toArray⟩,.int .i64 r1,.int .i64 r2,.int .i64 r3,.int .i64 r4,.int .i64 op,.int .u8 fn,.int .i64 nn]] W) (by kernel_rfl) H13.out.drew (fun hHeld => ?_)
 refine wt3 (i:=0) rfl (by assumption) ?_
 refine wt3 (i:=2) rfl (by assumption) ?_
 refine wal (i:=1) rfl (fun K hK => ?_)
 go_simp
 refine (HSTR.out _).mono ?_
 rintro e w17 ⟨rfl,hb18⟩
 go_wp2_with fail
 refine hK.out _ _ (hHeld.below hb18) (fun hHeld => ?_)
 clear hK K
 try simp only [Act.put,wp1,wp2,wp3,wp4,wp5,wp6]
 refine wal (i:=3) rfl (fun K hK => ?_)
 go_simp
 refine (HSTR.out _).mono ?_
 rintro e w19 ⟨rfl,hb20⟩
 go_wp2_with fail
 refine hK.out _ _ (hHeld.below hb20) (fun hHeld => ?_)
 clear hK K
 try simp only [Act.put,wp1,wp2,wp3,wp4,wp5,wp6]
 refine wt3 (i:=4) rfl (by assumption) ?_
 refine wt3 (i:=5) rfl (by assumption) ?_
 refine wt3 (i:=6) rfl (by assumption) ?_
 refine wpAnyH_done (by kernel_rfl) ?_ _
 clear z0 fz0 c00 z2 c20 c21 c22 c23 c24 c25 c26 c27 c28 c29 c2a z3 c30 z4 c40 c41 c42 c43 c44 c45 c46 c47 c48 c49 c4a
 clear H13
 have H21:=Lib.hid hHeld
 clear hHeld
 have F22:=H21.out.sees
 simp only [sees,kBlk,kVar,kCells,cellsFrom,Nat.add_zero,cellsAt,Nat.reduceAdd] at F22
 obtain ⟨⟨⟨z0,fz0⟩,c00,-⟩,-,⟨z2,c20,c21,c22,c23,c24,c25,c26,c27,c28,c29,c2a,-⟩,⟨z3,c30,-⟩,⟨z4,c40,c41,c42,c43,c44,c45,c46,c47,c48,c49,c4a,-⟩,-⟩:=F22
 go_upto_region 13 with fail
 refine wp_region_held_drew (S:=fun W=>Ok w [kVar (w6.heap.size) 125 [.slice ka 2 kc],kRow W4.heap.size 3 1 (.slice ka 2 kc) (kidsS t i).length ((kidsS t i).map fun x=>.int .i64 (x:Nat)),kBlk (W1.heap.size) 96 [.int .u8 6,.int .u8 vk,.int .i64 vn,.string ⟨vt.toArray⟩,.int .i64 r1,.int .i64 r2,.int .i64 r3,.int .i64 r4,.int .i64 op,.int .u8 fn,.int .i64 nn],kBlk (w.heap.size) 29 [.slice (some ⟨tb,tz,none⟩) tl tc],kCells tb (tz+i * 11) [.int .u8 6,.int .u8 vk,.int .i64 vn,.string ⟨vt.toArray⟩,.int .i64 r1,.int .i64 r2,.int .i64 r3,.int .i64 r4,.int .i64 op,.int .u8 fn,.int .i64 nn]] W) (by kernel_rfl) H21.out.drew (fun hHeld => ?_)
 refine wt4 (i:=0) rfl (by assumption) ?_
 refine wt4 (i:=1) rfl (by assumption) ?_
 refine wt4 (i:=3) rfl (by assumption) ?_
 refine wt4 (i:=6) rfl (by assumption) ?_
 refine wt4 (i:=7) rfl (by assumption) ?_
 refine wal (i:=2) rfl (fun K hK => ?_)
 go_simp
 refine (HA.out _ w.heap.size (w6.heap.size) W4.heap.size (.slice ka 2 kc) (HIN.out.below hHeld.bel) (show Blk _ _ _ _ by rw [HTL.out]; exact hHeld.get (kBlk (w.heap.size) 29 [.slice (some ⟨tb,tz,none⟩) tl tc]) (by simp)) (hHeld.get (kVar (w6.heap.size) 125 [.slice ka 2 kc]) (by simp)) (hHeld.get (kRow W4.heap.size 3 1 (.slice ka 2 kc) (kidsS t i).length ((kidsS t i).map fun x=>.int .i64 (x:Nat))) (by simp))).mono ?_
 rintro e w24 ⟨rfl,hb25⟩
 go_wp2_with fail
 refine hK.out _ _ (hHeld.below hb25) (fun hHeld => ?_)
 clear hK K
 try simp only [Act.put,wp1,wp2,wp3,wp4,wp5,wp6]
 refine wal (i:=4) rfl (fun K hK => ?_)
 go_simp
 refine (HOWN.out _ (HIN.out.below hHeld.bel).env).mono ?_
 rintro e w26 ⟨rfl,hb27⟩
 go_wp2_with fail
 refine hK.out _ _ (hHeld.below hb27) (fun hHeld => ?_)
 clear hK K
 try simp only [Act.put,wp1,wp2,wp3,wp4,wp5,wp6]
 refine wt4 (i:=5) rfl (by assumption) ?_
 refine wal (i:=8) rfl (fun K hK => ?_)
 go_simp
 refine (HB.out _ w.heap.size (w6.heap.size) W4.heap.size (.slice ka 2 kc) (HIN.out.below hHeld.bel) (show Blk _ _ _ _ by rw [HTL.out]; exact hHeld.get (kBlk (w.heap.size) 29 [.slice (some ⟨tb,tz,none⟩) tl tc]) (by simp)) (hHeld.get (kVar (w6.heap.size) 125 [.slice ka 2 kc]) (by simp)) (hHeld.get (kRow W4.heap.size 3 1 (.slice ka 2 kc) (kidsS t i).length ((kidsS t i).map fun x=>.int .i64 (x:Nat))) (by simp))).mono ?_
 rintro e w28 ⟨rfl,hb29⟩
 go_wp2_with fail
 refine hK.out _ _ (hHeld.below hb29) (fun hHeld => ?_)
 clear hK K
 try simp only [Act.put,wp1,wp2,wp3,wp4,wp5,wp6]
 refine wt4 (i:=9) rfl (by assumption) ?_
 refine wt4 (i:=10) rfl (by assumption) ?_
 refine wpAnyH_done (by kernel_rfl) ?_ _
 clear z0 fz0 c00 z2 c20 c21 c22 c23 c24 c25 c26 c27 c28 c29 c2a z3 c30 z4 c40 c41 c42 c43 c44 c45 c46 c47 c48 c49 c4a
 clear H21
 have H30:=Lib.hid hHeld
 clear hHeld
 have F31:=H30.out.sees
 simp only [sees,kBlk,kVar,kCells,cellsFrom,Nat.add_zero,cellsAt,Nat.reduceAdd] at F31
 obtain ⟨⟨⟨z0,fz0⟩,c00,-⟩,-,⟨z2,c20,c21,c22,c23,c24,c25,c26,c27,c28,c29,c2a,-⟩,⟨z3,c30,-⟩,⟨z4,c40,c41,c42,c43,c44,c45,c46,c47,c48,c49,c4a,-⟩,-⟩:=F31
 go_wp2_with fail
 go_ret
 exact ⟨by rw [HR.out]; rfl,H30.out.bel⟩
