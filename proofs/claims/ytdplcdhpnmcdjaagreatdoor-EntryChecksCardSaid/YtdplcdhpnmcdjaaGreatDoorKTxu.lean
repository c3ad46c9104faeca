/- The reference's text of a literal, at any value. The reference's values: Truth, Make, Fail, Show of blanks and texts, Code (louvreref05). entry.Constant. The reference's node: one node and the trees behind it. show.text, kind by kind. -/
import Derived.Test.YtdplcdhpnmcdjaaGreatDoorKTxt
import Derived.Test.YtdplcdhpnmcdjaaGreatDoorKRqC
import Derived.Test.YtdplcdhpnmcdjaaGreatDoorKTg
import Derived.Test.YtdplcdhpnmcdjaaGreatDoorKRqD
import Derived.Test.YtdplcdhpnmcdjaaGreatDoorKGiv
import Derived.Test.YtdplcdhpnmcdjaaGreatDoorKR8B
import Derived.Test.YtdplcdhpnmcdjaaGreatDoorKEvb
import Derived.Deep.LoopGhost
import Derived.IntWalk
namespace Go.Proofs.YtdplcdhpnmcdjaaGreatDoor
open Go.RowKit
set_option maxRecDepth 100000
set_option maxHeartbeats 8000000
open Go.RowKit Go.Proofs.Tryz
theorem mP (w:World) :
  Calls prog 79 #[.bool true] w fun e w'=>e=.returned (.agg #[.int .u8 2,.int .i64 1,.string ⟨#[]⟩])∧Below w.heap.size w w':=by
 have H0:=Lib.hid (Ok.start w)
 go_enter func79,ntmps79
 go_upto_region 1 with fail
 have H1:=Lib.hid (H0.out.var w.heap.size 35 [.int .u8 0,.int .i64 0,.string ⟨#[]⟩] rfl)
 clear H0
 generalize (w.alloc (.cells #[.int .u8 0,.int .i64 0,.string ⟨#[]⟩] 35))=W2 at H1 ⊢
 have F1:=sE H1
 go_wp2_with fail
 have hK:=H1.out.get (af (w.heap.size) 35 [.int .u8 0,.int .i64 0,.string ⟨#[]⟩]) (by simp)
 have hB:=H1.out.bel
 have hE:=((((show Blk W2 (w.heap.size) 35 _ from hK).set_ 0 (.int .u8 2)).set_ 1 (.int .i64 1)).set_ 2 (.string ⟨#[]⟩))
 exact bodyPost_ret (v:=.agg #[.int .u8 2,.int .i64 1,.string ⟨#[]⟩]) (by simp [results,results79,go_sem,hE.cell]) rfl ⟨rfl,(sC (sC (sC hB _) _) _)⟩
theorem mO (w:World) :
  Calls prog 79 #[.bool false] w fun e w'=>e=.returned (.agg #[.int .u8 2,.int .i64 0,.string ⟨#[]⟩])∧Below w.heap.size w w':=by
 have H0:=Lib.hid (Ok.start w)
 go_enter func79,ntmps79
 go_upto_region 1 with fail
 have H1:=Lib.hid (H0.out.var w.heap.size 35 [.int .u8 0,.int .i64 0,.string ⟨#[]⟩] rfl)
 clear H0
 generalize (w.alloc (.cells #[.int .u8 0,.int .i64 0,.string ⟨#[]⟩] 35))=W2 at H1 ⊢
 have F1:=sE H1
 go_wp2_with fail
 have hK:=H1.out.get (af (w.heap.size) 35 [.int .u8 0,.int .i64 0,.string ⟨#[]⟩]) (by simp)
 have hB:=H1.out.bel
 have hE:=((((show Blk W2 (w.heap.size) 35 _ from hK).set_ 0 (.int .u8 2)).set_ 1 (.int .i64 0)).set_ 2 (.string ⟨#[]⟩))
 exact bodyPost_ret (v:=.agg #[.int .u8 2,.int .i64 0,.string ⟨#[]⟩]) (by simp [results,results79,go_sem,hE.cell]) rfl ⟨rfl,(sC (sC (sC hB _) _) _)⟩
theorem qw (n:Int) (hn : -9223372036854775807≤n) (w:World) :
  Calls prog 82 #[.int .i64 n] w fun e w'=>e=.returned (.agg #[.int .u8 1,.int .i64 n,.string ⟨#[]⟩])∧Below w.heap.size w w':=by
 have H0:=Lib.hid (Ok.start w)
 go_enter func82,ntmps82
 go_upto_region 1 with fail
 have H1:=Lib.hid (H0.out.var w.heap.size 35 [.int .u8 0,.int .i64 0,.string ⟨#[]⟩] rfl)
 clear H0
 generalize (w.alloc (.cells #[.int .u8 0,.int .i64 0,.string ⟨#[]⟩] 35))=W2 at H1 ⊢
 have F1:=sE H1
 go_wp2_with fail
 have hK:=H1.out.get (af (w.heap.size) 35 [.int .u8 0,.int .i64 0,.string ⟨#[]⟩]) (by simp)
 have hB:=H1.out.bel
 have hE:=((((show Blk W2 (w.heap.size) 35 _ from hK).set_ 0 (.int .u8 1)).set_ 1 (.int .i64 n)).set_ 2 (.string ⟨#[]⟩))
 exact bodyPost_ret (v:=.agg #[.int .u8 1,.int .i64 n,.string ⟨#[]⟩]) (by simp [results,results82,go_sem,hE.cell]) rfl ⟨rfl,(sC (sC (sC hB _) _) _)⟩
theorem gC (c:Int) (h1:1≤c) (h7:c≤7) (w:World) :
  Calls prog 41 #[.int .i64 c] w fun e w'=>e=.returned (.agg #[.int .u8 4,.int .i64 c,.string ⟨#[]⟩])∧Below w.heap.size w w':=by
 have H0:=Lib.hid (Ok.start w)
 go_enter func41,ntmps41
 go_upto_region 1 with fail
 have H1:=Lib.hid (H0.out.var w.heap.size 35 [.int .u8 0,.int .i64 0,.string ⟨#[]⟩] rfl)
 clear H0
 generalize (w.alloc (.cells #[.int .u8 0,.int .i64 0,.string ⟨#[]⟩] 35))=W2 at H1 ⊢
 have F1:=sE H1
 go_wp2_with fail
 have hK:=H1.out.get (af (w.heap.size) 35 [.int .u8 0,.int .i64 0,.string ⟨#[]⟩]) (by simp)
 have hB:=H1.out.bel
 have hE:=((((show Blk W2 (w.heap.size) 35 _ from hK).set_ 0 (.int .u8 4)).set_ 1 (.int .i64 c)).set_ 2 (.string ⟨#[]⟩))
 exact bodyPost_ret (v:=.agg #[.int .u8 4,.int .i64 c,.string ⟨#[]⟩]) (by simp [results,results41,go_sem,hE.cell]) rfl ⟨rfl,(sC (sC (sC hB _) _) _)⟩
theorem oV {k:Nat} (h1:1≤k) (h7:k≤7):i1 (k:Int)=aB[k]?.getD []:=by
 unfold i1
 rw [if_pos ⟨by omega,by omega⟩]; rfl
theorem qv (s:ByteArray) (hs:s.size≤4611686018427387904) (w:World) :
  Calls prog 80 #[.string s] w fun e w'=>e=.returned (.tuple #[.int .i64 (bH s.data.toList:Nat),.int .i64 (iL s.data.toList)])∧Below w.heap.size w w':=by
 have HS:=Lib.hid hs
 obtain ⟨u,hu⟩:=ex (s.data.toList.map upB)
 obtain ⟨c,hc⟩:=ex (bH s.data.toList)
 have HAT:=keep (fun (k:Nat) (h1:1≤k) (h7:k≤7) (h:u=i1 (k:Int))=>(oO h1 h7 (hu.trans (h.trans (oV h1 h7)))).symm.trans hc)
 have HNO:=keep (fun (h:∀ k:Nat,1≤k→k≤7→u≠i1 (k:Int))=>(oQ (l:=s.data.toList) (fun k h1 h7 e=>h k h1 h7 (hu.symm.trans (e.trans (oV h1 h7).symm)))).symm.trans hc)
 have HCE:=keep (show iL s.data.toList=if c=0 then 4 else 0 by unfold iL; rw [hc])
 have HUP:=keep (fun W=>jR s W HS.out)
 rw [hu] at HUP
 rw [HCE.out,hc]
 obtain ⟨U,hU⟩:∃ U:ByteArray,⟨u.toArray⟩=U:=⟨_,rfl⟩
 rw [hU] at HUP
 have HU:=keep (show U.toList=u by rw [← hU,toL])
 clear hs hu hc hU
 obtain ⟨R,hR⟩:∃ R:Ending,R=.returned (.tuple #[.int .i64 (c:Nat),.int .i64 (if c=0 then 4 else 0)]):=⟨_,rfl⟩
 rw [← hR]
 have HRR:=keep hR
 clear hR
 have H0:=Lib.hid (Ok.start w)
 go_enter func80,ntmps80
 go_wp2_with fail
 go_loopw [4] (fun iv wr=>∃ k:Nat,1≤k∧k≤8∧iv=.int .i64 (k:Int)∧ao (∀ j:Nat,1≤j→j<k→u≠i1 (j:Int))∧Hid (Ok w [] wr)) (fun iv _=>8 - (intOf iv).toNat)
 case atStart=>exact ⟨1,Nat.le_refl _,by omega,rfl,keep (fun j h1 h2=>by omega),H0⟩
 case round =>
  clear H0
  obtain ⟨k,hk1,hk8,rfl,HJ,HQ⟩:=hrel
  obtain ⟨wq,rfl⟩:∃ wq:World,wq=wr:=⟨_,rfl⟩
  by_cases hlt:(k:Int)≤7
  ·obtain ⟨X,hX⟩:∃ X:ByteArray,⟨(i1 (k:Int)).toArray⟩=X:=⟨_,rfl⟩
   have HX:=keep (show X.toList=i1 (k:Int) by rw [← hX,toL])
   go_wp2_with fail
   refine (ix (k:Int) _).mono ?_
   rintro e w1 ⟨rfl,hw⟩
   obtain rfl:wq=w1:=hw.symm
   rw [hX]
   clear hX
   go_wp2_with fail
   refine (HUP.out _).mono ?_
   rintro e w2 ⟨rfl,hb⟩
   have H2:=Lib.hid (HQ.out.below hb)
   clear hb
   by_cases he:u=i1 (k:Int)
   ·have ht:(X.toList == U.toList)=true:=by rw [HX.out,HU.out,he]; simp
    have HC:=keep (HAT.out k hk1 (by omega) he)
    clear he
    go_wp2_with fail
    refine bodyPost_ret (v:=.tuple #[.int .i64 (k:Int),.int .i64 0]) (by simp [results,results80,go_sem]) rfl ⟨?_,H2.out.bel⟩
    rw [HRR.out,← HC.out,if_neg (by omega)]
   have ht:(X.toList == U.toList)=false:=by rw [HX.out,HU.out]; exact beq_eq_false_iff_ne.2 fun h=>he h.symm
   have HE:=keep he
   clear he
   go_wp2_with fail
   go_roundw
   case rel=>exact ⟨k+1,by omega,by omega,by go_num,keep (fun j h1 h2=>if h3:j<k then HJ.out j h1 h3 else (show j=k by omega)▸HE.out),H2⟩
   case measure=>simp [intOf]; omega
  obtain rfl:k=8:=by omega
  have HC:=keep (HNO.out fun j h1 h7=>HJ.out j h1 (by omega))
  go_wp2_with fail
  refine bodyPost_ret (v:=.tuple #[.int .i64 0,.int .i64 4]) (by simp [results,results80,go_sem]) rfl ⟨?_,HQ.out.bel⟩
  rw [HRR.out,← HC.out]; rfl
attribute [local go_sem high] ju
theorem BI:(prog.info? 130).map (fun i=>(i.zero,i.size,i.bytes))=some (some (.agg #[.int .i64 0,.int .i64 0]),2,16):=by kernel_rfl
def zP (p:Pt):List Value:=[.int .i64 (p.root:Nat),.int .i64 (p.depth:Nat)]
def hJ (l:List Pt):List Value:=l.flatMap zP
theorem As (l:List Pt):(hJ l).length=l.length * 2:=by
 induction l with
 | nil=>rfl
 | cons n l ih=>simp only [hJ,List.flatMap_cons,List.length_append,List.length_cons] at ih ⊢; rw [ih]; simp [zP]; omega
theorem Aj (l:List Pt) (k:Nat) (h:k≤l.length):(hJ l).take (k * 2)=hJ (l.take k):=by
 conv=>lhs; rw [← List.take_append_drop k l]
 unfold hJ
 rw [List.flatMap_append]
 have h2:=As (l.take k)
 unfold hJ at h2
 rw [List.length_take,Nat.min_eq_left h] at h2
 rw [← h2,List.take_left]
theorem Ai (l:List Pt) (p:Pt):hJ (l++[p])=hJ l++zP p:=by simp [hJ]
theorem zT (l:List Pt) (i:Nat) (p:Pt) (h:l[i]?=some p) (j:Nat) (v:Value) (hj:(zP p)[j]?=some v):(hJ l)[i * 2+j]?=some v:=by
 obtain ⟨hi,rfl⟩:=List.getElem?_eq_some_iff.1 h
 have h1:hJ l=hJ (l.take i)++(zP l[i]++hJ (l.drop (i+1))):=by
  have e:l=l.take i++l[i]::l.drop (i+1):=by rw [← List.drop_eq_getElem_cons hi,List.take_append_drop]
  unfold hJ
  conv=>lhs; rw [e]
  rw [List.flatMap_append,List.flatMap_cons]
 have h2:=As (l.take i)
 rw [List.length_take,Nat.min_eq_left (by omega)] at h2
 have hj3:j<2:=by
  have:=(List.getElem?_eq_some_iff.1 hj).1
  simpa [zP] using this
 rw [h1,List.getElem?_append_right (by omega),h2,Nat.add_sub_cancel_left,List.getElem?_append_left (by simpa [zP] using hj3)]
 exact hj
theorem Be (g x:Nat):(⟨g,0,none⟩:Addr).add x=⟨g,x,none⟩:=by unfold Addr.add; split <;> simp_all
theorem AE (l:List Pt):∀ u∈hJ l,u.oneCell'=true:=by
 intro u hu
 unfold hJ at hu
 rw [List.mem_flatMap] at hu
 obtain ⟨p,_,hp⟩:=hu
 simp [zP] at hp
 rcases hp with rfl | rfl <;> rfl
theorem own_below {w w':World} {B n s:Nat} {e:TypeId} {v:Value} {xs:List Value} (h:w.ownsRow B e s v n xs) (hb:Below w.heap.size w w'):w'.ownsRow B e s v n xs :=
 h.kept (gk hb none) (by cases hv:v.ownBlock <;> simp)
theorem zR {W:World} {B B' n m:Nat} {v s:Value} {xs news:List Value} (hv:W.ownsRow B 130 2 v n xs) (hs:W.ownsRow B' 130 2 s m news) (h1:∀ u∈news,u.oneCell'=true) (hB:B≤W.heap.size) (hn:n+m≤4194304) :
  ∃ v' w',(Builtin.append_ #[126,126] 126 #[v,s]).run prog W=.ok v' w'∧w'.ownsRow B 130 2 v' (n+m) (xs++news)∧W.grownBy w' v.ownBlock∧(v'.ownBlock=none∨v'.ownBlock=v.ownBlock∨v'.ownBlock=some W.heap.size):=by
 obtain ⟨i0,hi0,hz0,hz1,hzb⟩:=info_parts BI
 have hc:=@World.ownsRow.cells _ _ _ _ _ _ _ hs
 have hlen:=hs.1
 rcases hs.2 with ⟨rfl,rfl⟩ | ⟨g,cap,cur,rfl,_⟩
 ·obtain rfl:news=[]:=List.eq_nil_of_length_eq_zero (by simpa using hlen)
  refine ⟨v,W,run_append_owned_none (P:=prog) (w:=W) B 126 126 130 i0 2 underlying126 hi0 v n xs hv,by rw [List.append_nil]; exact hv,⟨rfl,rfl,rfl,Nat.le_refl _,fun _ _ _=>rfl⟩,.inr (.inl rfl)⟩
 obtain ⟨v',w',hr,ho,hg,_,hat⟩:=run_append_own_at (P:=prog) W B 126 126 130 i0 _ 2 16 underlying126 hi0 hz0 hz1 hzb rfl (by omega) v n xs hv ⟨g,0,none⟩ m cap news hlen (hc rfl) h1 (by unfold maxLen; omega) (by omega) hB
 exact ⟨v',w',hr,ho,hg,.inr hat⟩
theorem Aa {P:Program} {w w':World} {ops:Array Oper} {rest:List Oper} {o:Oper} {a:Act} {Q:Exit→Act→World→Prop} {v:Value} (hgd:o.guard=none) (s x:Operand) (t:TypeId)
  (ho:o.op=.call { callee:=.builtin .append,args:=#[s,x],argTypes:=#[t,t] }) (V X:Value) (hs:a.eval s=V) (hx:a.eval x=X) (hr:(Builtin.append_ #[t,t] o.type #[V,X]).run P w=.ok v w')
  (h:wpList P ops Q rest (a.put o.dst v) w'):wpList P ops Q (o::rest) a w:=by
 refine wpList_plain hgd fun K hK => ?_
 unfold Oper.wp execOp
 simp only [ho,resolve,invoke,builtin,Sem.run_bind,Sem.run_pure,Result.andThen_ok,List.map_toArray,List.map_cons,List.map_nil,hs,hx,hr]
 exact hK _ _ h
theorem Dh {t:List Nd} {n:Nd} {j:Nat} {p:Pt} (hg:aL n) (hj:j<aw n) (hw:p.wide=decide (lz t p.root=3)):d8 t n j p=Cc n j (lz t p.root):=by
 unfold d8 Cc
 rw [hw]
 generalize lz t p.root=k
 by_cases h7:n.kind=7
 ·have hc:lx n=true:=by simp [lx,h7]
  rw [if_neg (by simp [h7]),hc]
  obtain ⟨g1,g2⟩:=lu hg h7
  by_cases h46:46≤n.fn
  ·have hr:yi n.fn=true:=by simp [yi,h46,g2]
   have har:(arS n.fn).2=1:=by
    have:n.fn=46∨n.fn=47∨n.fn=48∨n.fn=49∨n.fn=50:=by omega
    rcases this with h | h | h | h | h <;> rw [h] <;> decide
   have hb:aw n=n.n:=by unfold aw; rw [if_neg (by omega),if_neg (by omega),if_pos h7]
   have hn1:n.n≤(arS n.fn).2:=by
    rcases hg with ⟨vk,vn,vt,rfl,hv⟩ | ⟨r,rfl,_⟩ | ⟨r,rfl,_⟩ | rfl | rfl | ⟨op,rfl,_⟩ | ⟨fn,k,rfl,h1,h2,h3,h4⟩
    ·simp at h7
    ·simp [eu] at h7
    ·simp [cj] at h7
    ·simp [fz] at h7
    ·simp [dt] at h7
    ·simp [cN] at h7
    exact h4
   obtain rfl:j=0:=by omega
   have hwd:cE n.fn 0=true:=by
    have:n.fn=46∨n.fn=47∨n.fn=48∨n.fn=49∨n.fn=50:=by omega
    rcases this with h | h | h | h | h <;> rw [h] <;> decide
   rw [if_pos h46,hr,hwd]
   by_cases h2:k=2
   ·subst h2; rfl
   by_cases h3:k=3
   ·subst h3; rfl
   rw [decide_eq_false (p:=k=3∨k=2) (by omega),decide_eq_true (p:=k≠2∧k≠3) ⟨h2,h3⟩]
   simp
  have hr:yi n.fn=false:=by simp [yi,h46]
  rw [if_neg h46,hr]
  by_cases h3:k=3
  ·subst h3; simp
  simp [h3]
 have hc:lx n=false:=by simp [lx,h7]
 rw [if_pos h7,hc]
 by_cases h3:k=3
 ·subst h3; rfl
 simp [h3]
set_option maxRecDepth 100000
set_option maxHeartbeats 8000000
theorem el {ks:List Nat} {f:Nat→Tx} {k:Nat} (h:k<ks.length):(ks.map f).getD k ([],8)=f ks[k]:=by
 rw [List.getD_eq_getElem?_getD,List.getElem?_map,List.getElem?_eq_getElem h]; rfl
theorem zo {t:List Nd} {i:Nat} {n:Nd} (hn:t[i]?=some n) (h4:n.kind=6) (h5:n.op≠5) (h0:0<(ai t i).length) (h1:1<(ai t i).length):(aR t i).1=opT (aT n.op) (aR t (ai t i)[0])++(cU n++opT (aT n.op+1) (aR t (ai t i)[1])):=by
 rw [j8 hn]
 have ho:cU n=fb n:=jD (by omega) (by omega)
 unfold gn
 rw [h4,el h0,el h1,ho]
 simp only [Nat.reduceEqDiff,if_false,if_true]
 rw [if_neg h5]
theorem lS {t:List Nd} {i:Nat} {n:Nd} (hn:t[i]?=some n) (h:n.kind=1∨n.kind=2∨n.kind=3):(aR t i).1=cU n:=by
 rw [j8 hn]
 have ho:cU n=fb n:=jD (by omega) (by omega)
 unfold gn
 rw [ho]
 rcases h with h | h | h <;> rw [h] <;> rfl
theorem ez {t:List Nd} (hc:f9 t) {j:Nat} (hj:j<t.length) (l:Nat):(⟨(opT l (aR t j)).toArray⟩:ByteArray).size≤1000000000:=by
 have h1:=oD t hc.good j hj
 have h2:=eP l (aR t j)
 have h3:=hc.len
 show (opT l (aR t j)).toArray.size≤_
 rw [List.size_toArray]
 omega
theorem jE {t:List Nd} (hc:f9 t) {i:Nat} {n:Nd} (hn:t[i]?=some n):(⟨(cU n).toArray⟩:ByteArray).size≤1000000000:=by
 have hg:=hc.good n (List.mem_of_getElem? hn)
 have:=mC hg.1 hg.2
 show (cU n).toArray.size≤_
 rw [List.size_toArray]
 omega
theorem dZ {t:List Nd} (hc:f9 t) {tb tz tc i:Nat} (hi:i<t.length) {W:World} (hin:TIn t tb tz W) :
  Calls prog 49 #[.slice (some ⟨tb,tz,none⟩) t.length tc,.int .i64 (i:Nat)] W (oK (ai t i) W):=by
 have:=qD (t.map Nd.any) i (some ⟨tb,tz,none⟩) tc W (by rw [gJ]; exact hin.rows) (by rw [List.length_map]; have:=hc.len; omega) (Ao fun n hn=>(hc.good n hn).1) hc.chk (by rw [List.length_map]; exact hi)
 rw [List.length_map,lB] at this
 exact this
def gH (t:List Nd) (tb tz tc i k:Nat) (l:Int) (X:ByteArray):Prop:=∀ (W:World) (p q B:Nat) (kv:Value),TIn t tb tz W→Blk W p 22 #[.slice (some ⟨tb,tz,none⟩) t.length tc]→Blk W q 57 #[kv] →
  W.ownsRow B 3 1 kv (ai t i).length ((ai t i).map fun x=>.int .i64 (x:Nat)) →
  Calls prog 50 #[.int .i64 (k:Nat),.int .i64 l,.pointer (some ⟨p,0,none⟩),.pointer (some ⟨q,0,none⟩)] W fun e w'=>e=.returned (.string X)∧Below W.heap.size W w'
theorem c9 {t:List Nd} {tb tz tc i k:Nat} (hc:f9 t) (hi:i<t.length) (IH:∀ j,j<i→eH t tb tz tc j) (hk:k<(ai t i).length) (l:Nat):gH t tb tz tc i k (l:Nat) ⟨(opT l (aR t (ai t i)[k])).toArray⟩ :=
 fun _ _ _ _ _ h1 h2 h3 h4=>vN hc hi IH h1 h2 h3 h4 hk
theorem yw (t:List Nd) (tb tz tc i:Nat) (vk:Nat) (vn:Int) (vt:List UInt8) (r1 r2 r3 r4 op:Int) (fn nn:Nat)  (hc:f9 t) (hi:i<t.length) (hn:t[i]?=some ⟨1,vk,vn,vt,⟨r1,r2,r3,r4⟩,op,fn,nn⟩) (w:World) (hin:TIn t tb tz w) :
  Calls prog 25 #[.slice (some ⟨tb,tz,none⟩) t.length tc,.int .i64 (i:Nat)] w fun e w'=>e=.returned (.string ⟨(aR t i).1.toArray⟩)∧Below w.heap.size w w':=by
 have hkl:(ai t i).length=0:=hc.kids i _ hn
 obtain ⟨R,hR⟩:∃ R:ByteArray,⟨(aR t i).1.toArray⟩=R:=⟨_,rfl⟩
 have HR:=keep (show R=⟨(cU ⟨1,vk,vn,vt,⟨r1,r2,r3,r4⟩,op,fn,nn⟩).toArray⟩ by rw [← hR,lS hn (by simp)])
 rw [hR]
 clear hR
 obtain ⟨h1,h2⟩:=hin.node hn
 have HKID:=keep (fun (W:World) (h:TIn t tb tz W)=>dZ hc (tc:=tc) hi h)
 have HOWN:=keep (fun (W:World) (h:dm W)=>hc.own _ (List.mem_of_getElem? hn) W h)
 obtain ⟨tl,htl⟩:=ex (t.length)
 have hki:(i:Int)<(tl:Int):=by omega
 rw [htl] at HKID ⊢
 have HTL:=keep htl
 have HIN:=keep hin
 have H1:=Lib.hid (((Ok.start w).add (ae tb (tz+i * 11) [.int .u8 1,.int .u8 vk,.int .i64 vn,.string ⟨vt.toArray⟩,.int .i64 r1,.int .i64 r2,.int .i64 r3,.int .i64 r4,.int .i64 op,.int .u8 fn,.int .i64 nn]) ⟨h1,h2⟩).alloc w.heap.size 22 [.slice (some ⟨tb,tz,none⟩) tl tc] rfl)
 clear h1 h2 htl hin hc hi hn
 go_enter func25,ntmps25
 go_upto_region 1 with fail
 generalize (w.alloc (.cells #[.slice (some ⟨tb,tz,none⟩) tl tc] 22))=W1 at H1 ⊢
 have F2:=sE H1
 go_upto_region 2 with fail
 clear F2
 have H3:=Lib.hid (H1.out.alloc W1.heap.size 39 [.int .u8 1,.int .u8 vk,.int .i64 vn,.string ⟨vt.toArray⟩,.int .i64 r1,.int .i64 r2,.int .i64 r3,.int .i64 r4,.int .i64 op,.int .u8 fn,.int .i64 nn] rfl)
 clear H1
 generalize (W1.alloc (.cells #[.int .u8 1,.int .u8 vk,.int .i64 vn,.string ⟨vt.toArray⟩,.int .i64 r1,.int .i64 r2,.int .i64 r3,.int .i64 r4,.int .i64 op,.int .u8 fn,.int .i64 nn] 39))=W4 at H3 ⊢
 have F5:=sE H3
 go_wp2_with fail
 refine (HKID.out _ (HIN.out.below H3.out.bel)).mono ?_
 rintro e w6 ⟨kv,rfl,hrow,hb7⟩
 obtain ⟨ka,kc,hkv⟩:=bp hrow
 rw [hkl] at hkv
 subst hkv
 clear F5
 have H8:=Lib.hid ((H3.out.below hb7).add (aZ W4.heap.size 3 1 (.slice ka 0 kc) (ai t i).length ((ai t i).map fun x=>.int .i64 (x:Nat))) hrow)
 clear hb7 H3 hrow
 have F9:=H8.out.sees
 simp only [sees,ac,ae,ag,Nat.add_zero,aa,Nat.reduceAdd] at F9
 obtain ⟨-,⟨z1,c10,c11,c12,c13,c14,c15,c16,c17,c18,c19,c1a,-⟩,⟨z2,c20,-⟩,⟨z3,c30,c31,c32,c33,c34,c35,c36,c37,c38,c39,c3a,-⟩,-⟩:=F9
 go_upto_region 3 with fail
 have y10:=z1
 have y11:=z2
 have y12:=z3
 clear z1 c10 c11 c12 c13 c14 c15 c16 c17 c18 c19 c1a z2 c20 z3 c30 c31 c32 c33 c34 c35 c36 c37 c38 c39 c3a
 have H13:=Lib.hid (H8.out.var w6.heap.size 57 [.slice ka 0 kc] rfl)
 clear H8
 generalize (w6.alloc (.cells #[.slice ka 0 kc] 57))=W14 at H13 ⊢
 have F15:=sE H13
 obtain ⟨Y,hY⟩:∃ Y:ByteArray,⟨(cU ⟨1,vk,vn,vt,⟨r1,r2,r3,r4⟩,op,fn,nn⟩).toArray⟩=Y:=⟨_,rfl⟩
 rw [hY] at HOWN HR
 clear hY
 go_wp2_with fail
 refine cM (HOWN.out _ (HIN.out.below H13.out.bel).env) H13 fun w16 H18=>?_
 clear F15 H13
 have F19:=sE H18
 go_wp2_with fail
 go_ret
 exact ⟨by rw [HR.out]; rfl,H18.out.bel⟩
theorem yx (t:List Nd) (tb tz tc i:Nat) (vk:Nat) (vn:Int) (vt:List UInt8) (r1 r2 r3 r4 op:Int) (fn nn:Nat)  (hc:f9 t) (hi:i<t.length) (hn:t[i]?=some ⟨2,vk,vn,vt,⟨r1,r2,r3,r4⟩,op,fn,nn⟩) (w:World) (hin:TIn t tb tz w) :
  Calls prog 25 #[.slice (some ⟨tb,tz,none⟩) t.length tc,.int .i64 (i:Nat)] w fun e w'=>e=.returned (.string ⟨(aR t i).1.toArray⟩)∧Below w.heap.size w w':=by
 have hkl:(ai t i).length=0:=hc.kids i _ hn
 obtain ⟨R,hR⟩:∃ R:ByteArray,⟨(aR t i).1.toArray⟩=R:=⟨_,rfl⟩
 have HR:=keep (show R=⟨(cU ⟨2,vk,vn,vt,⟨r1,r2,r3,r4⟩,op,fn,nn⟩).toArray⟩ by rw [← hR,lS hn (by simp)])
 rw [hR]
 clear hR
 obtain ⟨h1,h2⟩:=hin.node hn
 have HKID:=keep (fun (W:World) (h:TIn t tb tz W)=>dZ hc (tc:=tc) hi h)
 have HOWN:=keep (fun (W:World) (h:dm W)=>hc.own _ (List.mem_of_getElem? hn) W h)
 obtain ⟨tl,htl⟩:=ex (t.length)
 have hki:(i:Int)<(tl:Int):=by omega
 rw [htl] at HKID ⊢
 have HTL:=keep htl
 have HIN:=keep hin
 have H1:=Lib.hid (((Ok.start w).add (ae tb (tz+i * 11) [.int .u8 2,.int .u8 vk,.int .i64 vn,.string ⟨vt.toArray⟩,.int .i64 r1,.int .i64 r2,.int .i64 r3,.int .i64 r4,.int .i64 op,.int .u8 fn,.int .i64 nn]) ⟨h1,h2⟩).alloc w.heap.size 22 [.slice (some ⟨tb,tz,none⟩) tl tc] rfl)
 clear h1 h2 htl hin hc hi hn
 go_enter func25,ntmps25
 go_upto_region 1 with fail
 generalize (w.alloc (.cells #[.slice (some ⟨tb,tz,none⟩) tl tc] 22))=W1 at H1 ⊢
 have F2:=sE H1
 go_upto_region 2 with fail
 clear F2
 have H3:=Lib.hid (H1.out.alloc W1.heap.size 39 [.int .u8 2,.int .u8 vk,.int .i64 vn,.string ⟨vt.toArray⟩,.int .i64 r1,.int .i64 r2,.int .i64 r3,.int .i64 r4,.int .i64 op,.int .u8 fn,.int .i64 nn] rfl)
 clear H1
 generalize (W1.alloc (.cells #[.int .u8 2,.int .u8 vk,.int .i64 vn,.string ⟨vt.toArray⟩,.int .i64 r1,.int .i64 r2,.int .i64 r3,.int .i64 r4,.int .i64 op,.int .u8 fn,.int .i64 nn] 39))=W4 at H3 ⊢
 have F5:=sE H3
 go_wp2_with fail
 refine (HKID.out _ (HIN.out.below H3.out.bel)).mono ?_
 rintro e w6 ⟨kv,rfl,hrow,hb7⟩
 obtain ⟨ka,kc,hkv⟩:=bp hrow
 rw [hkl] at hkv
 subst hkv
 clear F5
 have H8:=Lib.hid ((H3.out.below hb7).add (aZ W4.heap.size 3 1 (.slice ka 0 kc) (ai t i).length ((ai t i).map fun x=>.int .i64 (x:Nat))) hrow)
 clear hb7 H3 hrow
 have F9:=H8.out.sees
 simp only [sees,ac,ae,ag,Nat.add_zero,aa,Nat.reduceAdd] at F9
 obtain ⟨-,⟨z1,c10,c11,c12,c13,c14,c15,c16,c17,c18,c19,c1a,-⟩,⟨z2,c20,-⟩,⟨z3,c30,c31,c32,c33,c34,c35,c36,c37,c38,c39,c3a,-⟩,-⟩:=F9
 go_upto_region 3 with fail
 have y10:=z1
 have y11:=z2
 have y12:=z3
 clear z1 c10 c11 c12 c13 c14 c15 c16 c17 c18 c19 c1a z2 c20 z3 c30 c31 c32 c33 c34 c35 c36 c37 c38 c39 c3a
 have H13:=Lib.hid (H8.out.var w6.heap.size 57 [.slice ka 0 kc] rfl)
 clear H8
 generalize (w6.alloc (.cells #[.slice ka 0 kc] 57))=W14 at H13 ⊢
 have F15:=sE H13
 obtain ⟨Y,hY⟩:∃ Y:ByteArray,⟨(cU ⟨2,vk,vn,vt,⟨r1,r2,r3,r4⟩,op,fn,nn⟩).toArray⟩=Y:=⟨_,rfl⟩
 rw [hY] at HOWN HR
 clear hY
 go_wp2_with fail
 refine cM (HOWN.out _ (HIN.out.below H13.out.bel).env) H13 fun w16 H18=>?_
 clear F15 H13
 have F19:=sE H18
 go_wp2_with fail
 go_ret
 exact ⟨by rw [HR.out]; rfl,H18.out.bel⟩
theorem yB (t:List Nd) (tb tz tc i:Nat) (vk:Nat) (vn:Int) (vt:List UInt8) (r1 r2 r3 r4 op:Int) (fn nn:Nat) (h5:op≠5) (hc:f9 t) (hi:i<t.length) (hn:t[i]?=some ⟨6,vk,vn,vt,⟨r1,r2,r3,r4⟩,op,fn,nn⟩) (IH:∀ j,j<i→eH t tb tz tc j) (w:World) (hin:TIn t tb tz w) :
  Calls prog 25 #[.slice (some ⟨tb,tz,none⟩) t.length tc,.int .i64 (i:Nat)] w fun e w'=>e=.returned (.string ⟨(aR t i).1.toArray⟩)∧Below w.heap.size w w':=by
 have hkl:(ai t i).length=2:=hc.kids i _ hn
 obtain ⟨A,hA⟩ : ∃ X : ByteArray,⟨(opT (aT op) (aR t ((ai t i)[0]'(by omega)))).toArray⟩ = X:=⟨_,rfl⟩
 have HA:=keep (show gH t tb tz tc i 0 ((aT op):Nat) A by rw [← hA]; exact c9 hc hi IH (by omega) (aT op))
 have zA:A.size≤1000000000:=by rw [← hA]; exact ez hc (Nat.lt_trans (eK t i _ (List.getElem_mem _)) hi) _
 obtain ⟨B,hB⟩ : ∃ X : ByteArray,⟨(opT (aT op + 1) (aR t ((ai t i)[1]'(by omega)))).toArray⟩ = X:=⟨_,rfl⟩
 have HB:=keep (show gH t tb tz tc i 1 ((aT op+1):Nat) B by rw [← hB]; exact c9 hc hi IH (by omega) (aT op+1))
 have zB:B.size≤1000000000:=by rw [← hB]; exact ez hc (Nat.lt_trans (eK t i _ (List.getElem_mem _)) hi) _
 obtain ⟨R,hR⟩:∃ R:ByteArray,⟨(aR t i).1.toArray⟩=R:=⟨_,rfl⟩
 obtain ⟨O,hO⟩:∃ O:ByteArray,⟨(cU ⟨6,vk,vn,vt,⟨r1,r2,r3,r4⟩,op,fn,nn⟩).toArray⟩=O:=⟨_,rfl⟩
 have zO:O.size≤1000000000:=by rw [← hO]; exact jE hc hn
 have HR:=keep (show R=A++O++B by
  rw [← hR,← hA,← hB,← hO,zo hn rfl h5 (by omega) (by omega),bytes_append,bytes_append,List.append_assoc])
 have HSTR:=keep (fun W:World=>ea ⟨6,vk,vn,vt,⟨r1,r2,r3,r4⟩,op,fn,nn⟩ (hc.good _ (List.mem_of_getElem? hn)).1 W)
 rw [hR]
 clear hR hA hB
 obtain ⟨h1,h2⟩:=hin.node hn
 have HKID:=keep (fun (W:World) (h:TIn t tb tz W)=>dZ hc (tc:=tc) hi h)
 have HOWN:=keep (fun (W:World) (h:dm W)=>hc.own _ (List.mem_of_getElem? hn) W h)
 obtain ⟨tl,htl⟩:=ex (t.length)
 have hki:(i:Int)<(tl:Int):=by omega
 rw [htl] at HKID ⊢
 have HTL:=keep htl
 have HIN:=keep hin
 have H1:=Lib.hid (((Ok.start w).add (ae tb (tz+i * 11) [.int .u8 6,.int .u8 vk,.int .i64 vn,.string ⟨vt.toArray⟩,.int .i64 r1,.int .i64 r2,.int .i64 r3,.int .i64 r4,.int .i64 op,.int .u8 fn,.int .i64 nn]) ⟨h1,h2⟩).alloc w.heap.size 22 [.slice (some ⟨tb,tz,none⟩) tl tc] rfl)
 clear h1 h2 htl hin hc hi hn IH
 go_enter func25,ntmps25
 go_upto_region 1 with fail
 generalize (w.alloc (.cells #[.slice (some ⟨tb,tz,none⟩) tl tc] 22))=W1 at H1 ⊢
 have F2:=sE H1
 go_upto_region 2 with fail
 clear F2
 have H3:=Lib.hid (H1.out.alloc W1.heap.size 39 [.int .u8 6,.int .u8 vk,.int .i64 vn,.string ⟨vt.toArray⟩,.int .i64 r1,.int .i64 r2,.int .i64 r3,.int .i64 r4,.int .i64 op,.int .u8 fn,.int .i64 nn] rfl)
 clear H1
 generalize (W1.alloc (.cells #[.int .u8 6,.int .u8 vk,.int .i64 vn,.string ⟨vt.toArray⟩,.int .i64 r1,.int .i64 r2,.int .i64 r3,.int .i64 r4,.int .i64 op,.int .u8 fn,.int .i64 nn] 39))=W4 at H3 ⊢
 have F5:=sE H3
 go_wp2_with fail
 refine (HKID.out _ (HIN.out.below H3.out.bel)).mono ?_
 rintro e w6 ⟨kv,rfl,hrow,hb7⟩
 obtain ⟨ka,kc,hkv⟩:=bp hrow
 rw [hkl] at hkv
 subst hkv
 clear F5
 have H8:=Lib.hid ((H3.out.below hb7).add (aZ W4.heap.size 3 1 (.slice ka 2 kc) (ai t i).length ((ai t i).map fun x=>.int .i64 (x:Nat))) hrow)
 clear hb7 H3 hrow
 have F9:=H8.out.sees
 simp only [sees,ac,ae,ag,Nat.add_zero,aa,Nat.reduceAdd] at F9
 obtain ⟨-,⟨z1,c10,c11,c12,c13,c14,c15,c16,c17,c18,c19,c1a,-⟩,⟨z2,c20,-⟩,⟨z3,c30,c31,c32,c33,c34,c35,c36,c37,c38,c39,c3a,-⟩,-⟩:=F9
 go_upto_region 3 with fail
 have y10:=z1
 have y11:=z2
 have y12:=z3
 clear z1 c10 c11 c12 c13 c14 c15 c16 c17 c18 c19 c1a z2 c20 z3 c30 c31 c32 c33 c34 c35 c36 c37 c38 c39 c3a
 have H13:=Lib.hid (H8.out.var w6.heap.size 57 [.slice ka 2 kc] rfl)
 clear H8
 generalize (w6.alloc (.cells #[.slice ka 2 kc] 57))=W14 at H13 ⊢
 have F15:=sE H13
 rw [hO] at HOWN
 clear hO
 have hs6:kp ⟨6,vk,vn,vt,⟨r1,r2,r3,r4⟩,op,fn,nn⟩=aT op:=by unfold kp; rw [if_neg (by simp),if_neg (by simp),if_pos rfl,if_neg h5]
 rw [hs6] at HSTR
 have hop:(op == 5)=false:=by simpa using h5
 have hb8:aT op≤8:=by unfold aT; (repeat' split) <;> decide
 obtain ⟨b,hb⟩:=ex (aT op)
 rw [hb] at HSTR HA HB hb8
 have hw1:IntKind.i64.wrap ((b:Int)+1)=((b+1:Nat):Int):=by rw [Go.IntWalk.i64_in _ (by omega)]; omega
 clear hs6 hb h5
 go_upto_region 10 with fail
 refine wp_region_held_drew (S:=fun W=>Ok w [af (w6.heap.size) 57 [.slice ka 2 kc],aZ W4.heap.size 3 1 (.slice ka 2 kc) (ai t i).length ((ai t i).map fun x=>.int .i64 (x:Nat)),ac (W1.heap.size) 39 [.int .u8 6,.int .u8 vk,.int .i64 vn,.string ⟨vt.toArray⟩,.int .i64 r1,.int .i64 r2,.int .i64 r3,.int .i64 r4,.int .i64 op,.int .u8 fn,.int .i64 nn],ac (w.heap.size) 22 [.slice (some ⟨tb,tz,none⟩) tl tc],ae tb (tz+i * 11) [.int .u8 6,.int .u8 vk,.int .i64 vn,.string ⟨vt.toArray⟩,.int .i64 r1,.int .i64 r2,.int .i64 r3,.int .i64 r4,.int .i64 op,.int .u8 fn,.int .i64 nn]] W) (by kernel_rfl) H13.out.drew (fun hHeld => ?_)
 refine wt3 0 ?_
 refine wt3 2 ?_
 refine wal 1 fun K hK => ?_
 go_simp
 refine (HSTR.out _).mono ?_
 rintro e w17 ⟨rfl,hb18⟩
 go_wp2_with fail
 refine hK.out _ _ (hHeld.below hb18) (fun hHeld => ?_)
 clear hK K
 refine wn ?_
 refine wal 3 fun K hK => ?_
 go_simp
 refine (HSTR.out _).mono ?_
 rintro e w19 ⟨rfl,hb20⟩
 go_wp2_with fail
 refine hK.out _ _ (hHeld.below hb20) (fun hHeld => ?_)
 clear hK K
 refine wn ?_
 refine wt3 4 ?_
 refine wt3 5 ?_
 refine wt3 6 ?_
 refine wpAnyH_done (by kernel_rfl) ?_ _
 clear F15
 clear H13
 have H21:=Lib.hid hHeld
 clear hHeld
 have F22:=sE H21
 go_upto_region 13 with fail
 refine wp_region_held_drew (S:=fun W=>Ok w [af (w6.heap.size) 57 [.slice ka 2 kc],aZ W4.heap.size 3 1 (.slice ka 2 kc) (ai t i).length ((ai t i).map fun x=>.int .i64 (x:Nat)),ac (W1.heap.size) 39 [.int .u8 6,.int .u8 vk,.int .i64 vn,.string ⟨vt.toArray⟩,.int .i64 r1,.int .i64 r2,.int .i64 r3,.int .i64 r4,.int .i64 op,.int .u8 fn,.int .i64 nn],ac (w.heap.size) 22 [.slice (some ⟨tb,tz,none⟩) tl tc],ae tb (tz+i * 11) [.int .u8 6,.int .u8 vk,.int .i64 vn,.string ⟨vt.toArray⟩,.int .i64 r1,.int .i64 r2,.int .i64 r3,.int .i64 r4,.int .i64 op,.int .u8 fn,.int .i64 nn]] W) (by kernel_rfl) H21.out.drew (fun hHeld => ?_)
 refine wt4 0 ?_
 refine wt4 1 ?_
 refine wt4 3 ?_
 refine wt4 6 ?_
 refine wt4 7 ?_
 refine wal 2 fun K hK => ?_
 go_simp
 refine (HA.out _ w.heap.size (w6.heap.size) W4.heap.size (.slice ka 2 kc) (HIN.out.below hHeld.bel) (show Blk _ _ _ _ by rw [HTL.out]; exact hHeld.get (ac (w.heap.size) 22 [.slice (some ⟨tb,tz,none⟩) tl tc]) (by simp)) (hHeld.get (af (w6.heap.size) 57 [.slice ka 2 kc]) (by simp)) (hHeld.get (aZ W4.heap.size 3 1 (.slice ka 2 kc) (ai t i).length ((ai t i).map fun x=>.int .i64 (x:Nat))) (by simp))).mono ?_
 rintro e w24 ⟨rfl,hb25⟩
 go_wp2_with fail
 refine hK.out _ _ (hHeld.below hb25) (fun hHeld => ?_)
 clear hK K
 refine wn ?_
 refine wal 4 fun K hK => ?_
 go_simp
 refine (HOWN.out _ (HIN.out.below hHeld.bel).env).mono ?_
 rintro e w26 ⟨rfl,hb27⟩
 go_wp2_with fail
 refine hK.out _ _ (hHeld.below hb27) (fun hHeld => ?_)
 clear hK K
 refine wn ?_
 refine wt4 5 ?_
 refine wal 8 fun K hK => ?_
 go_simp
 refine (HB.out _ w.heap.size (w6.heap.size) W4.heap.size (.slice ka 2 kc) (HIN.out.below hHeld.bel) (show Blk _ _ _ _ by rw [HTL.out]; exact hHeld.get (ac (w.heap.size) 22 [.slice (some ⟨tb,tz,none⟩) tl tc]) (by simp)) (hHeld.get (af (w6.heap.size) 57 [.slice ka 2 kc]) (by simp)) (hHeld.get (aZ W4.heap.size 3 1 (.slice ka 2 kc) (ai t i).length ((ai t i).map fun x=>.int .i64 (x:Nat))) (by simp))).mono ?_
 rintro e w28 ⟨rfl,hb29⟩
 go_wp2_with fail
 refine hK.out _ _ (hHeld.below hb29) (fun hHeld => ?_)
 clear hK K
 refine wn ?_
 refine wt4 9 ?_
 refine wt4 10 ?_
 refine wpAnyH_done (by kernel_rfl) ?_ _
 clear F22
 clear H21
 have H30:=Lib.hid hHeld
 clear hHeld
 have F31:=sE H30
 go_wp2_with fail
 go_ret
 exact ⟨by rw [HR.out]; rfl,H30.out.bel⟩
