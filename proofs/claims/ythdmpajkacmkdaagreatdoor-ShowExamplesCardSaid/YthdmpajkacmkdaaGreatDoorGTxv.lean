/- What the reference says of a node in a line of the outline. show.text at calls, and at every node. The reference's node: one node and the trees behind it. show.Formula, of any nodes. -/
import Derived.Test.YthdmpajkacmkdaaGreatDoorGTxt
import Derived.Test.YthdmpajkacmkdaaGreatDoorGTg
import Derived.Test.YthdmpajkacmkdaaGreatDoorGParE
import Derived.Test.YthdmpajkacmkdaaGreatDoorGTxu
import Derived.Test.YthdmpajkacmkdaaGreatDoorGParK
import Derived.Test.YthdmpajkacmkdaaGreatDoorGRfd
import Derived.Test.YthdmpajkacmkdaaGreatDoorGRft
import Derived.Test.YthdmpajkacmkdaaGreatDoorGShw
import Derived.Deep.LoopGhost
import Derived.IntWalk
namespace Go.Proofs.YthdmpajkacmkdaaGreatDoor
set_option maxRecDepth 100000
set_option maxHeartbeats 4000000
open Go.RowKit Go.Proofs.Tryz
theorem qg (l:List UInt8):(⟨l.toArray⟩:ByteArray).data.toList=l:=by simp
theorem Dh (vk:Nat) (vn:Int) (vt:List UInt8) (hs:(⟨vt.toArray⟩:ByteArray).size≤4611686018427387904) (hlo : -9223372036854775808≤vn) (hhi:vn≤9223372036854775807) (w:World) :
  Calls prog 50 #[.agg #[.int .u8 1,.int .u8 (vk:Nat),.int .i64 vn,.string ⟨vt.toArray⟩,.int .i64 0,.int .i64 0,.int .i64 0,.int .i64 0,.int .i64 0,.int .u8 0,.int .i64 0]] w fun e w'=>e=.returned (.string ⟨(gS vk vn vt).1.toArray⟩)∧Below w.heap.size w w':=by
 have HS:=keep hs
 have HLO:=keep hlo
 have HHI:=keep hhi
 clear hs hlo hhi
 have H1:=Lib.hid ((Ok.start w).alloc w.heap.size 27 [.int .u8 1,.int .u8 (vk:Nat),.int .i64 vn,.string ⟨vt.toArray⟩,.int .i64 0,.int .i64 0,.int .i64 0,.int .i64 0,.int .i64 0,.int .u8 0,.int .i64 0] rfl)
 go_enter func50,ntmps50
 go_wp2_with fail
 generalize (w.alloc (.cells #[.int .u8 1,.int .u8 (vk:Nat),.int .i64 vn,.string ⟨vt.toArray⟩,.int .i64 0,.int .i64 0,.int .i64 0,.int .i64 0,.int .i64 0,.int .u8 0,.int .i64 0] 27))=W2 at H1 ⊢
 refine cM (iQ vk vn ⟨vt.toArray⟩ HS.out HLO.out HHI.out _) H1 fun w3 H5=>?_
 rw [qg vt]
 clear H1
 obtain ⟨E9,hE9⟩:=ex ((gS vk vn vt).2)
 rw [hE9]
 clear hE9
 obtain ⟨X,hX⟩:∃ X:ByteArray,X=⟨(gS vk vn vt).1.toArray⟩:=⟨_,rfl⟩
 rw [← hX]
 have HX:=keep hX
 clear hX
 go_wp2_with fail
 go_ret
 exact ⟨by rw [← HX.out]; rfl,H5.out.bel⟩
theorem Di (a b c d:Int) (w:World) :
  Calls prog 50 #[.agg #[.int .u8 2,.int .u8 0,.int .i64 0,.string ⟨#[]⟩,.int .i64 a,.int .i64 b,.int .i64 c,.int .i64 d,.int .i64 0,.int .u8 0,.int .i64 0]] w fun e w'=>e=.returned (.string ⟨(em ⟨a,b,c,d⟩).1.toArray⟩)∧Below w.heap.size w w':=by
 have H1:=Lib.hid ((Ok.start w).alloc w.heap.size 27 [.int .u8 2,.int .u8 0,.int .i64 0,.string ⟨#[]⟩,.int .i64 a,.int .i64 b,.int .i64 c,.int .i64 d,.int .i64 0,.int .u8 0,.int .i64 0] rfl)
 go_enter func50,ntmps50
 go_wp2_with fail
 generalize (w.alloc (.cells #[.int .u8 2,.int .u8 0,.int .i64 0,.string ⟨#[]⟩,.int .i64 a,.int .i64 b,.int .i64 c,.int .i64 d,.int .i64 0,.int .u8 0,.int .i64 0] 27))=W2 at H1 ⊢
 refine cM (kW a b c d _) H1 fun w3 H5=>?_
 clear H1
 obtain ⟨E9,hE9⟩:=ex ((em ⟨a,b,c,d⟩).2)
 rw [hE9]
 clear hE9
 obtain ⟨X,hX⟩:∃ X:ByteArray,X=⟨(em ⟨a,b,c,d⟩).1.toArray⟩:=⟨_,rfl⟩
 rw [← hX]
 have HX:=keep hX
 clear hX
 go_wp2_with fail
 go_ret
 exact ⟨by rw [← HX.out]; rfl,H5.out.bel⟩
theorem Dj (a b c d:Int) (w:World) :
  Calls prog 50 #[.agg #[.int .u8 3,.int .u8 0,.int .i64 0,.string ⟨#[]⟩,.int .i64 a,.int .i64 b,.int .i64 c,.int .i64 d,.int .i64 0,.int .u8 0,.int .i64 0]] w fun e w'=>e=.returned (.string ⟨(em ⟨a,b,c,d⟩).1.toArray⟩)∧Below w.heap.size w w':=by
 have H1:=Lib.hid ((Ok.start w).alloc w.heap.size 27 [.int .u8 3,.int .u8 0,.int .i64 0,.string ⟨#[]⟩,.int .i64 a,.int .i64 b,.int .i64 c,.int .i64 d,.int .i64 0,.int .u8 0,.int .i64 0] rfl)
 go_enter func50,ntmps50
 go_wp2_with fail
 generalize (w.alloc (.cells #[.int .u8 3,.int .u8 0,.int .i64 0,.string ⟨#[]⟩,.int .i64 a,.int .i64 b,.int .i64 c,.int .i64 d,.int .i64 0,.int .u8 0,.int .i64 0] 27))=W2 at H1 ⊢
 refine cM (kW a b c d _) H1 fun w3 H5=>?_
 clear H1
 obtain ⟨E9,hE9⟩:=ex ((em ⟨a,b,c,d⟩).2)
 rw [hE9]
 clear hE9
 obtain ⟨X,hX⟩:∃ X:ByteArray,X=⟨(em ⟨a,b,c,d⟩).1.toArray⟩:=⟨_,rfl⟩
 rw [← hX]
 have HX:=keep hX
 clear hX
 go_wp2_with fail
 go_ret
 exact ⟨by rw [← HX.out]; rfl,H5.out.bel⟩
theorem Dk  (w:World) :
  Calls prog 50 #[.agg #[.int .u8 4,.int .u8 0,.int .i64 0,.string ⟨#[]⟩,.int .i64 0,.int .i64 0,.int .i64 0,.int .i64 0,.int .i64 0,.int .u8 0,.int .i64 0]] w fun e w'=>e=.returned (.string ⟨#[110,101,103]⟩)∧Below w.heap.size w w':=by
 have H1:=Lib.hid ((Ok.start w).alloc w.heap.size 27 [.int .u8 4,.int .u8 0,.int .i64 0,.string ⟨#[]⟩,.int .i64 0,.int .i64 0,.int .i64 0,.int .i64 0,.int .i64 0,.int .u8 0,.int .i64 0] rfl)
 go_enter func50,ntmps50
 go_wp2_with fail
 generalize (w.alloc (.cells #[.int .u8 4,.int .u8 0,.int .i64 0,.string ⟨#[]⟩,.int .i64 0,.int .i64 0,.int .i64 0,.int .i64 0,.int .i64 0,.int .u8 0,.int .i64 0] 27))=W2 at H1 ⊢
 go_ret
 exact ⟨rfl,H1.out.bel⟩
theorem Dl  (w:World) :
  Calls prog 50 #[.agg #[.int .u8 5,.int .u8 0,.int .i64 0,.string ⟨#[]⟩,.int .i64 0,.int .i64 0,.int .i64 0,.int .i64 0,.int .i64 0,.int .u8 0,.int .i64 0]] w fun e w'=>e=.returned (.string ⟨#[112,101,114,99,101,110,116]⟩)∧Below w.heap.size w w':=by
 have H1:=Lib.hid ((Ok.start w).alloc w.heap.size 27 [.int .u8 5,.int .u8 0,.int .i64 0,.string ⟨#[]⟩,.int .i64 0,.int .i64 0,.int .i64 0,.int .i64 0,.int .i64 0,.int .u8 0,.int .i64 0] rfl)
 go_enter func50,ntmps50
 go_wp2_with fail
 generalize (w.alloc (.cells #[.int .u8 5,.int .u8 0,.int .i64 0,.string ⟨#[]⟩,.int .i64 0,.int .i64 0,.int .i64 0,.int .i64 0,.int .i64 0,.int .u8 0,.int .i64 0] 27))=W2 at H1 ⊢
 go_ret
 exact ⟨rfl,H1.out.bel⟩
theorem Dm (op:Int) (w:World) :
  Calls prog 50 #[.agg #[.int .u8 6,.int .u8 0,.int .i64 0,.string ⟨#[]⟩,.int .i64 0,.int .i64 0,.int .i64 0,.int .i64 0,.int .i64 op,.int .u8 0,.int .i64 0]] w fun e w'=>e=.returned (.string ⟨(dS op).toArray⟩)∧Below w.heap.size w w':=by
 have H1:=Lib.hid ((Ok.start w).alloc w.heap.size 27 [.int .u8 6,.int .u8 0,.int .i64 0,.string ⟨#[]⟩,.int .i64 0,.int .i64 0,.int .i64 0,.int .i64 0,.int .i64 op,.int .u8 0,.int .i64 0] rfl)
 go_enter func50,ntmps50
 go_wp2_with fail
 generalize (w.alloc (.cells #[.int .u8 6,.int .u8 0,.int .i64 0,.string ⟨#[]⟩,.int .i64 0,.int .i64 0,.int .i64 0,.int .i64 0,.int .i64 op,.int .u8 0,.int .i64 0] 27))=W2 at H1 ⊢
 refine (mF op _).mono ?_
 rintro e wz ⟨rfl,hwz⟩
 obtain rfl:W2=wz:=hwz.symm
 obtain ⟨X,hX⟩:∃ X:ByteArray,X=⟨(dS op).toArray⟩:=⟨_,rfl⟩
 rw [← hX]
 have HX:=keep hX
 clear hX
 go_wp2_with fail
 go_ret
 exact ⟨by rw [← HX.out]; rfl,H1.out.bel⟩
theorem Dn (fn k:Nat) (hf:fn≤50) (w:World) :
  Calls prog 50 #[.agg #[.int .u8 7,.int .u8 0,.int .i64 0,.string ⟨#[]⟩,.int .i64 0,.int .i64 0,.int .i64 0,.int .i64 0,.int .i64 0,.int .u8 (fn:Nat),.int .i64 (k:Nat)]] w fun e w'=>e=.returned (.string ⟨(cX fn).toArray⟩)∧Below w.heap.size w w':=by
 have HF:=keep hf
 clear hf
 have H1:=Lib.hid ((Ok.start w).alloc w.heap.size 27 [.int .u8 7,.int .u8 0,.int .i64 0,.string ⟨#[]⟩,.int .i64 0,.int .i64 0,.int .i64 0,.int .i64 0,.int .i64 0,.int .u8 (fn:Nat),.int .i64 (k:Nat)] rfl)
 go_enter func50,ntmps50
 go_wp2_with fail
 generalize (w.alloc (.cells #[.int .u8 7,.int .u8 0,.int .i64 0,.string ⟨#[]⟩,.int .i64 0,.int .i64 0,.int .i64 0,.int .i64 0,.int .i64 0,.int .u8 (fn:Nat),.int .i64 (k:Nat)] 27))=W2 at H1 ⊢
 refine cM (iF fn _ HF.out) H1 fun w3 H5=>?_
 clear H1
 obtain ⟨X,hX⟩:∃ X:ByteArray,X=⟨(cX fn).toArray⟩:=⟨_,rfl⟩
 rw [← hX]
 have HX:=keep hX
 clear hX
 go_wp2_with fail
 go_ret
 exact ⟨by rw [← HX.out]; rfl,H5.out.bel⟩
theorem cz (n:Nd) (hg:aL n) (hn:n.vn≤9223372036854775807) (w:World) :
  Calls prog 50 #[ndA n] w fun e w'=>e=.returned (.string ⟨(bn n).toArray⟩)∧Below w.heap.size w w':=by
 have rng:∀ r:R4,aG r=true→jL r=(em r).1:=by
  intro r h
  rw [jr h]
  rfl
 rcases hg with ⟨vk,vn,vt,rfl,hv⟩ | ⟨⟨a,b,c,d⟩,rfl,hc,h1,h2⟩ | ⟨⟨a,b,c,d⟩,rfl,hc,hne⟩ | rfl | rfl | ⟨op,rfl,h1,h2⟩ | ⟨fn,k,rfl,h1,h2,h3,h4⟩
 ·have e:bn ⟨1,vk,vn,vt,R4.zero,0,0,0⟩=(gS vk vn vt).1:=by rw [jy hv]; rfl
  rw [e]
  have hl:=iu (n:=⟨1,vk,vn,vt,R4.zero,0,0,0⟩) (.inl ⟨vk,vn,vt,rfl,hv⟩)
  have hl:vt.length≤256:=hl
  have hlo : -9223372036854775808≤vn:=by rcases hv with ⟨_,h0,_⟩ | ⟨_,h0,_⟩ | ⟨_,h0,_⟩ | ⟨_,h0,_⟩ <;> omega
  exact Dh vk vn vt (by show vt.toArray.size≤_; rw [List.size_toArray]; omega) hlo hn w
 ·have e:bn (cL ⟨a,b,c,d⟩)=(em ⟨a,b,c,d⟩).1:=(show bn (cL ⟨a,b,c,d⟩)=jL ⟨a,b,c,d⟩ from rfl).trans (rng _ hc)
  rw [e]
  exact Di a b c d w
 ·have e:bn (aM ⟨a,b,c,d⟩)=(em ⟨a,b,c,d⟩).1:=(show bn (aM ⟨a,b,c,d⟩)=jL ⟨a,b,c,d⟩ from rfl).trans (rng _ hc)
  rw [e]
  exact Dj a b c d w
 ·exact Dk w
 ·exact Dl w
 ·exact Dm op w
 have e:bn ⟨7,0,0,[],R4.zero,0,fn,k⟩=cX fn:=by
  show aE fn=cX fn
  unfold aE cX
  obtain ⟨f,rfl⟩:∃ f,fn=f+1:=⟨fn - 1,by omega⟩
  rfl
 show Calls _ _ _ _ fun e w'=>e=.returned (.string ⟨(bn ⟨7,0,0,[],R4.zero,0,fn,k⟩).toArray⟩)∧_
 rw [e]
 exact Dn fn k h2 w
set_option maxRecDepth 100000
set_option maxHeartbeats 8000000
def gP (t:List Nd) (i m:Nat):List (List UInt8):=((ae t i).take m).map fun j=>(aF t j).1
theorem qI {t:List Nd} {i m:Nat} (h:m<(ae t i).length):gP t i (m+1)=gP t i m++[(aF t (ae t i)[m]).1]:=by
 unfold gP
 rw [List.take_succ_eq_append_getElem h,List.map_append]; rfl
theorem j8 {t:List Nd} {i m:Nat} (h:m≤(ae t i).length):(gP t i m).length=m:=by unfold gP; rw [List.length_map,List.length_take]; omega
theorem rW:∀ xs:List Tx,Lib.join (xs.map (·.1)) [44]=jnT xs
 | []=>rfl
 | [_]=>by simp [Lib.join,jnT]
 | x::y::r=>by
  have ih:=rW (y::r)
  have e:Lib.join ((x::y::r).map (·.1)) [44]=x.1++([44]++Lib.join ((y::r).map (·.1)) [44]):=by
   simp [Lib.join]
  rw [e,ih]
  rfl
theorem mQ (t:List Nd) (i:Nat):Lib.join (gP t i (ae t i).length) [44]=jnT ((ae t i).map (aF t)):=by
 rw [← rW,List.map_map]
 unfold gP
 rw [List.take_length]
 rfl
theorem rU {t:List Nd} (hc:cT t) {i:Nat} (hi:i<t.length):(jnT ((ae t i).map (aF t))).length≤100000000:=by
 have h1:=nM ((ae t i).map (aF t))
 have h2:=(mo t i (Nat.le_of_lt hi)).1
 have h3:=wE t hc.good i (Nat.le_of_lt hi)
 rw [h2] at h3
 obtain ⟨n,hn⟩:∃ n,t[i]?=some n:=⟨_,List.getElem?_eq_getElem hi⟩
 have h4:ia ((ae t i).map (aF t))≤ia ((ao t i).map (aF t)):=by
  rw [db hn]
  conv=>rhs; rw [← List.take_append_drop ((ao t i).length - am n) (ao t i),List.map_append,jP]
  omega
 have:=hc.len
 omega
theorem j7:(prog.info? 9).map (fun i=>(i.zero,i.size,i.bytes))=some (some (.string ⟨#[]⟩),1,16):=by kernel_rfl
theorem Cx (t:List Nd) (tb tz tc i:Nat) (vk:Nat) (vn:Int) (vt:List UInt8) (r1 r2 r3 r4 op:Int) (fn nn:Nat)  (hc:cT t) (hi:i<t.length) (hn:t[i]?=some ⟨7,vk,vn,vt,⟨r1,r2,r3,r4⟩,op,fn,nn⟩) (IH:∀ j,j<i→fU t tb tz tc j) (w:World) (hin:TIn t tb tz w) :
  Calls prog 21 #[.slice (some ⟨tb,tz,none⟩) t.length tc,.int .i64 (i:Nat)] w fun e w'=>e=.returned (.string ⟨(aF t i).1.toArray⟩)∧Below w.heap.size w w':=by
 have hkl:(ae t i).length=nn:=hc.kids i _ hn
 have hfn:1≤nn∧nn≤16:=by
  rcases (hc.good _ (List.mem_of_getElem? hn)).1 with ⟨_,_,_,h,_⟩ | ⟨_,h,_⟩ | ⟨_,h,_⟩ | h | h | ⟨_,h,_⟩ | ⟨fn2,k2,h,_,_,h3,h4⟩
  iterate 6 (have:=congrArg Nd.kind h; simp [cL,aM,ck,bS,aI] at this)
  have e1:nn=k2:=congrArg Nd.n h
  have:=nu fn2
  have:(arS fn2).2≤16:=by unfold arS; (repeat' split) <;> decide
  omega
 have HCL:=keep (show ∀ m (h:m<(ae t i).length),jj t tb tz tc i m (0:Nat) ⟨(aF t ((ae t i)[m])).1.toArray⟩ from fun m h=>by
  have:=dR (tc:=tc) hc hi IH h 0
  rw [vF] at this
  exact this)
 have HKL:=keep hkl
 obtain ⟨R,hR⟩:∃ R:ByteArray,⟨(aF t i).1.toArray⟩=R:=⟨_,rfl⟩
 obtain ⟨O,hO⟩:∃ O:ByteArray,⟨(bn ⟨7,vk,vn,vt,⟨r1,r2,r3,r4⟩,op,fn,nn⟩).toArray⟩=O:=⟨_,rfl⟩
 obtain ⟨J,hJ⟩:∃ J:ByteArray,⟨(jnT ((ae t i).map (aF t))).toArray⟩=J:=⟨_,rfl⟩
 have zO:O.size≤1000000000:=by rw [← hO]; exact fI hc hn
 have hjs:=rU hc hi
 have zJ:J.size≤1000000000:=by
  rw [← hJ]
  show (jnT ((ae t i).map (aF t))).toArray.size≤_
  rw [List.size_toArray]
  omega
 have HJ:=keep (show (⟨(Lib.join (gP t i nn) [44]).toArray⟩:ByteArray)=J by rw [← hJ,← mQ,hkl])
 have HJL:=keep (show (Lib.join (gP t i nn) [44]).length≤140737488355328 by rw [← hkl,mQ]; omega)
 have HR:=keep (show R=O++⟨#[40]⟩++J++⟨#[41]⟩ by
  rw [← hR,← hJ,← hO,Cq hn rfl]
  show _=(⟨_⟩:ByteArray)++⟨[40].toArray⟩++⟨_⟩++⟨[41].toArray⟩
  rw [bytes_append,bytes_append,bytes_append]
  simp)
 have HC5:=keep hi
 rw [hR]
 clear hR hJ hjs
 obtain ⟨h1,h2⟩:=hin.node hn
 have HKID:=keep (fun (W:World) (h:TIn t tb tz W)=>eo hc (tc:=tc) hi h)
 have HOWN:=keep (fun (W:World) (h:cn W)=>dM ⟨7,vk,vn,vt,⟨r1,r2,r3,r4⟩,op,fn,nn⟩ (hc.good _ (List.mem_of_getElem? hn)).1 (hc.good _ (List.mem_of_getElem? hn)).2 W h)
 obtain ⟨tl,htl⟩:=ex (t.length)
 have hki:(i:Int)<(tl:Int):=by omega
 rw [htl] at HKID ⊢
 have HTL:=keep htl
 have HIN:=keep hin
 have H1:=Lib.hid (((Ok.start w).add (aa tb (tz+i * 11) [.int .u8 7,.int .u8 vk,.int .i64 vn,.string ⟨vt.toArray⟩,.int .i64 r1,.int .i64 r2,.int .i64 r3,.int .i64 r4,.int .i64 op,.int .u8 fn,.int .i64 nn]) ⟨h1,h2⟩).alloc w.heap.size 28 [.slice (some ⟨tb,tz,none⟩) tl tc] rfl)
 clear h1 h2 htl hin hc hi hn IH
 go_enter func21,ntmps21
 go_upto_region 1 with fail
 generalize (w.alloc (.cells #[.slice (some ⟨tb,tz,none⟩) tl tc] 28))=W1 at H1 ⊢
 have F2:=sE H1
 go_upto_region 2 with fail
 clear F2
 have H3:=Lib.hid (H1.out.alloc W1.heap.size 27 [.int .u8 7,.int .u8 vk,.int .i64 vn,.string ⟨vt.toArray⟩,.int .i64 r1,.int .i64 r2,.int .i64 r3,.int .i64 r4,.int .i64 op,.int .u8 fn,.int .i64 nn] rfl)
 clear H1
 generalize (W1.alloc (.cells #[.int .u8 7,.int .u8 vk,.int .i64 vn,.string ⟨vt.toArray⟩,.int .i64 r1,.int .i64 r2,.int .i64 r3,.int .i64 r4,.int .i64 op,.int .u8 fn,.int .i64 nn] 27))=W4 at H3 ⊢
 have F5:=sE H3
 go_wp2_with fail
 refine (HKID.out _ (HIN.out.below H3.out.bel)).mono ?_
 rintro e w6 ⟨kv,rfl,hrow,hb7⟩
 obtain ⟨ka,kc,hkv⟩:=aQ hrow
 rw [hkl] at hkv
 subst hkv
 clear F5
 have H8:=Lib.hid ((H3.out.below hb7).add (aK W4.heap.size 3 1 (.slice ka (nn) kc) (ae t i).length ((ae t i).map fun x=>.int .i64 (x:Nat))) hrow)
 clear hb7 H3 hrow
 have F9:=H8.out.sees
 simp only [sees,af,aa,ag,Nat.add_zero,ac,Nat.reduceAdd] at F9
 obtain ⟨-,⟨z1,c10,c11,c12,c13,c14,c15,c16,c17,c18,c19,c1a,-⟩,⟨z2,c20,-⟩,⟨z3,c30,c31,c32,c33,c34,c35,c36,c37,c38,c39,c3a,-⟩,-⟩:=F9
 go_upto_region 3 with fail
 have y10:=z1
 have y11:=z2
 have y12:=z3
 clear z1 c10 c11 c12 c13 c14 c15 c16 c17 c18 c19 c1a z2 c20 z3 c30 c31 c32 c33 c34 c35 c36 c37 c38 c39 c3a
 have H13:=Lib.hid (H8.out.var w6.heap.size 50 [.slice ka (nn) kc] rfl)
 clear H8
 generalize (w6.alloc (.cells #[.slice ka (nn) kc] 50))=W14 at H13 ⊢
 have F15:=sE H13
 rw [hO] at HOWN
 clear hO
 obtain ⟨i0,hi,hz0,hz1,hz2⟩:=info_parts j7
 have z40:(⟨#[40]⟩:ByteArray).size=1:=rfl
 have z41:(⟨#[41]⟩:ByteArray).size=1:=rfl
 have HST:=Lib.hid (ai.start H13.out 9 1)
 go_wp2_with fail
 clear F15
 go_loopw [11,60] (fun av iv wr=>∃ m:Nat,m≤nn∧iv=.int .i64 (m:Int)∧Hid (ai w [ah (w6.heap.size) 50 [.slice ka (nn) kc],aK W4.heap.size 3 1 (.slice ka (nn) kc) (ae t i).length ((ae t i).map fun x=>.int .i64 (x:Nat)),af (W1.heap.size) 27 [.int .u8 7,.int .u8 vk,.int .i64 vn,.string ⟨vt.toArray⟩,.int .i64 r1,.int .i64 r2,.int .i64 r3,.int .i64 r4,.int .i64 op,.int .u8 fn,.int .i64 nn],af (w.heap.size) 28 [.slice (some ⟨tb,tz,none⟩) tl tc],aa tb (tz+i * 11) [.int .u8 7,.int .u8 vk,.int .i64 vn,.string ⟨vt.toArray⟩,.int .i64 r1,.int .i64 r2,.int .i64 r3,.int .i64 r4,.int .i64 op,.int .u8 fn,.int .i64 nn]] 9 1 av m (bH (gP t i m)) wr)) (fun _ iv _=>nn - (intOf iv).toNat)
 case atStart=>exact ⟨0,Nat.zero_le _,rfl,HST⟩
 case round =>
  clear HST H13
  obtain ⟨m,hmk,rfl,HRW⟩:=hrel
  obtain ⟨wq,rfl⟩:∃ wq:World,wq=wr:=⟨_,rfl⟩
  by_cases hlm:(m:Int)<(nn:Int)
  ·have hml:m<(ae t i).length:=by rw [HKL.out]; omega
   have hcm:=HCL.out m hml
   have HKX:=keep (qI hml)
   obtain ⟨L,hL⟩:=ex ((aF t ((ae t i)[m]'hml)).1)
   rw [hL] at hcm HKX
   obtain ⟨X,hX⟩:∃ X:ByteArray,byt L=X:=⟨_,rfl⟩
   have HCM:=keep (show jj t tb tz tc i m (0:Nat) X by rw [← hX]; exact hcm)
   have HX:=keep hX
   clear hcm hX hL hml
   go_wp2_with fail
   refine cR (HCM.out _ w.heap.size (w6.heap.size) W4.heap.size (.slice ka (nn) kc) (HIN.out.below HRW.out.ok.bel) (show Blk _ _ _ _ by rw [HTL.out]; exact HRW.out.ok.get (af (w.heap.size) 28 [.slice (some ⟨tb,tz,none⟩) tl tc]) (by simp)) (HRW.out.ok.get (ah (w6.heap.size) 50 [.slice ka (nn) kc]) (by simp)) (HRW.out.ok.get (aK W4.heap.size 3 1 (.slice ka (nn) kc) (ae t i).length ((ae t i).map fun x=>.int .i64 (x:Nat))) (by simp))) HRW fun w8 HR2=>?_
   clear HRW
   go_wp2_with (at_builtin; refine wpList_append_lies _ rfl _ _ _ rfl w.heap.size 9 i0 _ 1 16 underlying38 hi hz0 hz1 hz2 rfl (by omega) _ _ _ rfl (HR2.out.own.alloc _) ⟨w8.heap.size,0,none⟩ 1 1 [.string X] rfl rfl (World.news_of_block (cs:=#[.string X]) (t:=9) (fr:=(0,0)) (heap_alloc_new _ _)) (by intro u hu; simp at hu; rcases hu with rfl; rfl) (by omega) (by unfold maxLen; omega) (by omega) (by have:=HR2.out.ok.bel.size; simp; omega) _ rfl ?_; intro g5 cap5 w5b hown5 hgrow5 hat5 hlt5)
   go_roundw
   case rel =>
    have h9:=(HR2.out.alloc_obj _).appended hown5 hgrow5 hat5
    refine ⟨m+1,by omega,by go_num,Lib.hid ?_⟩
    rw [HKX.out,mg,HX.out]
    exact h9
   case measure=>simp [intOf]; omega
  obtain rfl:nn=m:=by omega
  obtain ⟨ava,avc,hav⟩:=aQ HRW.out.own
  subst hav
  have HOK:=Lib.hid HRW.out.ok
  have F16:=sE HOK
  clear HOK
  go_wp2_with fail
  refine (HOWN.out _ (HIN.out.below HRW.out.ok.bel).env).mono ?_
  rintro e w9 ⟨rfl,hb9⟩
  have HR3:=Lib.hid (HRW.out.below hb9)
  clear F16
  clear hb9 HRW
  go_wp2_with fail
  refine (vg (gP t i nn) 44 (show World.ownsRow _ _ _ _ _ _ _ by rw [j8 (by rw [HKL.out]; exact Nat.le_refl _)]; exact HR3.out.own) (by intro h9; have h8:=j8 (t:=t) (i:=i) (m:=nn) (by rw [HKL.out]; exact Nat.le_refl _); rw [h9] at h8; simp at h8; omega) (by rw [j8 (by rw [HKL.out]; exact Nat.le_refl _)]; omega) HJL.out).mono ?_
  rintro e w10 ⟨rfl,hb10⟩
  rw [HJ.out]
  have HR4:=Lib.hid (HR3.out.ok.below hb10)
  clear hb10 HR3
  go_wp2_with fail
  go_ret
  exact ⟨by rw [HR.out]; rfl,HR4.out.bel⟩
theorem tW (t:List Nd) (tb tz tc:Nat) (hc:cT t):∀ i,i<t.length→fU t tb tz tc i:=by
 intro i
 induction i using Nat.strongRecOn with
 | _ i ih =>
  intro hi w hin
  have IH:∀ j,j<i→fU t tb tz tc j:=fun j hj=>ih j hj (by omega)
  obtain ⟨n,hn⟩:∃ n,t[i]?=some n:=⟨_,List.getElem?_eq_getElem hi⟩
  rcases (hc.good n (List.mem_of_getElem? hn)).1 with ⟨vk,vn,vt,rfl,hv⟩ | ⟨⟨a,b,c,d⟩,rfl,hck,h1,h2⟩ | ⟨⟨a,b,c,d⟩,rfl,hck,hne⟩ | rfl | rfl | ⟨op,rfl,h1,h2⟩ | ⟨fn,k,rfl,h1,h2,h3,h4⟩
  ·exact Cr t tb tz tc i vk vn vt 0 0 0 0 0 0 0 hc hi hn w hin
  ·exact Cs t tb tz tc i 0 0 [] a b c d 0 0 0 hc hi hn w hin
  ·exact Ct t tb tz tc i 0 0 [] a b c d 0 0 0 hc hi hn w hin
  ·exact Cu t tb tz tc i 0 0 [] 0 0 0 0 0 0 0 hc hi hn IH w hin
  ·exact Cv t tb tz tc i 0 0 [] 0 0 0 0 0 0 0 hc hi hn IH w hin
  ·by_cases h5:op=5
   ·subst h5
    exact Bp t tb tz tc i 0 0 [] 0 0 0 0 0 0 hc hi hn IH w hin
   exact Cw t tb tz tc i 0 0 [] 0 0 0 0 op 0 0 h5 hc hi hn IH w hin
  exact Cx t tb tz tc i 0 0 [] 0 0 0 0 0 fn k hc hi hn IH w hin
theorem rR {n:Nd} (h:aL n):n.vt.length≤4611686018427387904∧-9223372036854775808≤n.vn:=by
 rcases h with ⟨vk,vn,vt,rfl,hv⟩ | ⟨_,rfl,_⟩ | ⟨_,rfl,_⟩ | rfl | rfl | ⟨_,rfl,_⟩ | ⟨_,_,rfl,_⟩
 ·show vt.length≤_∧_≤vn
  rcases hv with ⟨_,h1,rfl⟩ | ⟨_,h1,rfl⟩ | ⟨_,rfl,h1,_⟩ | ⟨_,⟨h1,_⟩,rfl⟩
  ·exact ⟨Nat.zero_le _,by omega⟩
  ·exact ⟨Nat.zero_le _,by omega⟩
  ·exact ⟨by omega,by decide⟩
  exact ⟨Nat.zero_le _,by omega⟩
 all_goals exact ⟨Nat.zero_le _,(by decide:(-9223372036854775808:Int)≤0)⟩
theorem kZ (n:Nd) (h:aL n) (w:World) :
  Calls prog 157 #[ndA n] w fun e w'=>e=.returned (.bool true)∧Below w.heap.size w w':=by
 have h1:=dI n.any (rR h).1 (rR h).2 w
 have h2:okA n.any:=Classical.byContradiction fun g=>by
  have h3:=ff h
  rw [aT g] at h3
  exact absurd h3 (by decide)
 rw [d6 h2] at h1
 exact h1
theorem oF:(prog.info? 116).map (fun i=>(i.zero,i.size,i.bytes))=some (some (.agg #[.int .i64 0,.int .i64 0]),2,16):=by kernel_rfl
def el (p:Pt):List Value:=[.int .i64 (p.root:Nat),.int .i64 (p.depth:Nat)]
def aY (l:List Pt):List Value:=l.flatMap el
theorem jR (l:List Pt):(aY l).length=l.length * 2:=by
 induction l with
 | nil=>rfl
 | cons n l ih=>simp only [aY,List.flatMap_cons,List.length_append,List.length_cons] at ih ⊢; rw [ih]; simp [el]; omega
theorem iT (l:List Pt) (k:Nat) (h:k≤l.length):(aY l).take (k * 2)=aY (l.take k):=by
 conv=>lhs; rw [← List.take_append_drop k l]
 unfold aY
 rw [List.flatMap_append]
 have h2:=jR (l.take k)
 unfold aY at h2
 rw [List.length_take,Nat.min_eq_left h] at h2
 rw [← h2,List.take_left]
theorem iS (l:List Pt) (p:Pt):aY (l++[p])=aY l++el p:=by simp [aY]
theorem fl (l:List Pt) (i:Nat) (p:Pt) (h:l[i]?=some p) (j:Nat) (v:Value) (hj:(el p)[j]?=some v):(aY l)[i * 2+j]?=some v:=by
 obtain ⟨hi,rfl⟩:=List.getElem?_eq_some_iff.1 h
 have h1:aY l=aY (l.take i)++(el l[i]++aY (l.drop (i+1))):=by
  have e:l=l.take i++l[i]::l.drop (i+1):=by rw [← List.drop_eq_getElem_cons hi,List.take_append_drop]
  unfold aY
  conv=>lhs; rw [e]
  rw [List.flatMap_append,List.flatMap_cons]
 have h2:=jR (l.take i)
 rw [List.length_take,Nat.min_eq_left (by omega)] at h2
 have hj3:j<2:=by
  have:=(List.getElem?_eq_some_iff.1 hj).1
  simpa [el] using this
 rw [h1,List.getElem?_append_right (by omega),h2,Nat.add_sub_cancel_left,List.getElem?_append_left (by simpa [el] using hj3)]
 exact hj
theorem nr (g x:Nat):(⟨g,0,none⟩:Addr).add x=⟨g,x,none⟩:=by unfold Addr.add; split <;> simp_all
theorem lA (l:List Pt):∀ u∈aY l,u.oneCell'=true:=by
 intro u hu
 unfold aY at hu
 rw [List.mem_flatMap] at hu
 obtain ⟨p,_,hp⟩:=hu
 simp [el] at hp
 rcases hp with rfl | rfl <;> rfl
theorem own_below {w w':World} {B n s:Nat} {e:TypeId} {v:Value} {xs:List Value} (h:w.ownsRow B e s v n xs) (hb:Below w.heap.size w w'):w'.ownsRow B e s v n xs :=
 h.kept (d7 hb none) (by cases hv:v.ownBlock <;> simp)
theorem eX {W:World} {B B' n m:Nat} {v s:Value} {xs news:List Value} (hv:W.ownsRow B 116 2 v n xs) (hs:W.ownsRow B' 116 2 s m news) (h1:∀ u∈news,u.oneCell'=true) (hB:B≤W.heap.size) (hn:n+m≤4194304) :
  ∃ v' w',(Builtin.append_ #[112,112] 112 #[v,s]).run prog W=.ok v' w'∧w'.ownsRow B 116 2 v' (n+m) (xs++news)∧W.grownBy w' v.ownBlock∧(v'.ownBlock=none∨v'.ownBlock=v.ownBlock∨v'.ownBlock=some W.heap.size):=by
 obtain ⟨i0,hi0,hz0,hz1,hzb⟩:=info_parts oF
 have hc:=@World.ownsRow.cells _ _ _ _ _ _ _ hs
 have hlen:=hs.1
 rcases hs.2 with ⟨rfl,rfl⟩ | ⟨g,cap,cur,rfl,_⟩
 ·obtain rfl:news=[]:=List.eq_nil_of_length_eq_zero (by simpa using hlen)
  refine ⟨v,W,run_append_owned_none (P:=prog) (w:=W) B 112 112 116 i0 2 underlying112 hi0 v n xs hv,by rw [List.append_nil]; exact hv,⟨rfl,rfl,rfl,Nat.le_refl _,fun _ _ _=>rfl⟩,.inr (.inl rfl)⟩
 obtain ⟨v',w',hr,ho,hg,_,hat⟩:=run_append_own_at (P:=prog) W B 112 112 116 i0 _ 2 16 underlying112 hi0 hz0 hz1 hzb rfl (by omega) v n xs hv ⟨g,0,none⟩ m cap news hlen (hc rfl) h1 (by unfold maxLen; omega) (by omega) hB
 exact ⟨v',w',hr,ho,hg,.inr hat⟩
theorem gu {P:Program} {w w':World} {ops:Array Oper} {rest:List Oper} {o:Oper} {a:Act} {Q:Exit→Act→World→Prop} {v:Value} (hgd:o.guard=none) (s x:Operand) (t:TypeId)
  (ho:o.op=.call { callee:=.builtin .append,args:=#[s,x],argTypes:=#[t,t] }) (V X:Value) (hs:a.eval s=V) (hx:a.eval x=X) (hr:(Builtin.append_ #[t,t] o.type #[V,X]).run P w=.ok v w')
  (h:wpList P ops Q rest (a.put o.dst v) w'):wpList P ops Q (o::rest) a w:=by
 refine wpList_plain hgd fun K hK => ?_
 unfold Oper.wp execOp
 simp only [ho,resolve,invoke,builtin,Sem.run_bind,Sem.run_pure,Result.andThen_ok,List.map_toArray,List.map_cons,List.map_nil,hs,hx,hr]
 exact hK _ _ h
theorem uS {t:List Nd} {n:Nd} {j:Nat} {p:Pt} (hg:aL n) (hj:j<am n) (hw:p.wide=decide (bR t p.root=3)):dE t n j p=qz n j (bR t p.root):=by
 unfold dE qz
 rw [hw]
 generalize bR t p.root=k
 by_cases h7:n.kind=7
 ·have hc:ek n=true:=by simp [ek,h7]
  rw [if_neg (by simp [h7]),hc]
  obtain ⟨g1,g2⟩:=it hg h7
  by_cases h46:46≤n.fn
  ·have hr:nV n.fn=true:=by simp [nV,h46,g2]
   have har:(arS n.fn).2=1:=by
    have:n.fn=46∨n.fn=47∨n.fn=48∨n.fn=49∨n.fn=50:=by omega
    rcases this with h | h | h | h | h <;> rw [h] <;> decide
   have hb:am n=n.n:=by unfold am; rw [if_neg (by omega),if_neg (by omega),if_pos h7]
   have hn1:n.n≤(arS n.fn).2:=by
    rcases hg with ⟨vk,vn,vt,rfl,hv⟩ | ⟨r,rfl,_⟩ | ⟨r,rfl,_⟩ | rfl | rfl | ⟨op,rfl,_⟩ | ⟨fn,k,rfl,h1,h2,h3,h4⟩
    ·simp at h7
    ·simp [cL] at h7
    ·simp [aM] at h7
    ·simp [ck] at h7
    ·simp [bS] at h7
    ·simp [aI] at h7
    exact h4
   obtain rfl:j=0:=by omega
   have hwd:b8 n.fn 0=true:=by
    have:n.fn=46∨n.fn=47∨n.fn=48∨n.fn=49∨n.fn=50:=by omega
    rcases this with h | h | h | h | h <;> rw [h] <;> decide
   rw [if_pos h46,hr,hwd]
   by_cases h2:k=2
   ·subst h2; rfl
   by_cases h3:k=3
   ·subst h3; rfl
   rw [decide_eq_false (p:=k=3∨k=2) (by omega),decide_eq_true (p:=k≠2∧k≠3) ⟨h2,h3⟩]
   simp
  have hr:nV n.fn=false:=by simp [nV,h46]
  rw [if_neg h46,hr]
  by_cases h3:k=3
  ·subst h3; simp
  simp [h3]
 have hc:ek n=false:=by simp [ek,h7]
 rw [if_pos h7,hc]
 by_cases h3:k=3
 ·subst h3; rfl
 simp [h3]
set_option maxRecDepth 100000
set_option maxHeartbeats 4000000
theorem jQ {t:List NdA} (h:aC t=0) (hn:∀ a∈t,a.vn≤9223372036854775807):t=(t.map NdA.nd).map Nd.any∧cT (t.map NdA.nd)∧t≠[]∧∃ p,cQ (t.map NdA.nd) 0 (t.map NdA.nd) []=.ok [p]∧cu (t.map NdA.nd) 0 t []=.ok [p]:=by
 obtain ⟨hg,hc,h0,hl,p,hw⟩:=eY h
 have he:t=(t.map NdA.nd).map Nd.any:=by
  rw [List.map_map]
  conv=>lhs; rw [← List.map_id t]
  exact List.map_congr_left fun a ha=>(cW (hg a ha)).2.2
 have hww:cQ (t.map NdA.nd) 0 (t.map NdA.nd) []=.ok [p]:=by
  have:=jh (t.map NdA.nd) t 0 [] hg
  rw [← this]; exact hw
 have hne:t.map NdA.nd≠[]:=by simpa using h0
 refine ⟨he,⟨?_,by rw [← he]; exact h,by rw [List.length_map]; exact hl,(eW hww hne).2.1⟩,h0,p,hww,hw⟩
 intro n hm
 obtain ⟨a,ha,rfl⟩:=List.mem_map.1 hm
 exact ⟨(cW (hg a ha)).1,hn a ha⟩
noncomputable def fP (t:List NdA):List UInt8×Int:=if aC t≠0 then ([],aC t) else if 256<(co (t.map NdA.nd)).length then ([],5) else (co (t.map NdA.nd),0)
theorem ng {t:List NdA} (h:aC t≠0):fP t=([],aC t):=if_pos h
theorem ma {t:List NdA} (h:aC t=0) (hl:256<(co (t.map NdA.nd)).length):fP t=([],5):=by unfold fP; rw [if_neg (by rw [h]; decide),if_pos hl]
theorem mb {t:List NdA} (h:aC t=0) (hl:¬ 256<(co (t.map NdA.nd)).length):fP t=(co (t.map NdA.nd),0):=by unfold fP; rw [if_neg (by rw [h]; decide),if_neg hl]
structure AIn (t:List NdA) (ta:Option Addr) (w:World):Prop where
 rows:ax w ta 11 (t.map bf)
 env:cn w
theorem AIn.below {t:List NdA} {ta:Option Addr} {w w':World} (h:AIn t ta w) (hb:Below w.heap.size w w'):AIn t ta w':=⟨h.rows.below hb,h.env.below hb⟩
structure ASz (t:List NdA):Prop where
 len:t.length≤1000
 txt:∀ a∈t,a.vt.length≤4611686018427387904
 num:∀ a∈t,a.vn≤9223372036854775807
theorem AIn.tin {t:List NdA} {ta:Option Addr} {w:World} (h:AIn t ta w) (hc:aC t=0) (hs:ASz t):∃ tb tz,ta=some ⟨tb,tz,none⟩∧TIn (t.map NdA.nd) tb tz w:=by
 obtain ⟨he,-,h0,-⟩:=jQ hc hs.num
 obtain ⟨tb,tz,e,-,-⟩:=h.rows (by simpa using h0)
 refine ⟨tb,tz,e,?_,h.env⟩
 have:=h.rows
 rw [e,he,fu] at this
 exact this
theorem jM (t:List NdA) (ta:Option Addr) (tc:Nat) (w:World) (hs:ASz t) (hin:AIn t ta w) :
  Calls prog 9 #[.slice ta t.length tc] w fun e w'=>e=.returned (.tuple #[.string ⟨(fP t).1.toArray⟩,.int .i64 (fP t).2])∧Below w.heap.size w w':=by
 have HCK:=keep (bZ t ta tc w hin.rows hs.len hs.txt)
 obtain ⟨tl,htl⟩:=ex (t.length)
 by_cases hc:aC t=0
 ·obtain ⟨he,hk,h0,p,hw,-⟩:=jQ hc hs.num
  obtain ⟨tb,tz,rfl,htin⟩:=hin.tin hc hs
  have hpos:0<t.length:=List.length_pos_iff.2 h0
  have hne:t.map NdA.nd≠[]:=by simpa using h0
  have htx:(aF (t.map NdA.nd) (tl - 1)).1=co (t.map NdA.nd):=by
   have:=(eW hw hne).2.2.1
   rw [List.length_map,htl] at this
   exact this.symm
  have hlen:=kC _ hk.good (tl - 1) (by rw [List.length_map]; omega)
  rw [htx] at hlen
  have hkl:=hk.len
  obtain ⟨S,hS⟩:=ex (co (t.map NdA.nd))
  have HTX:=keep (fun w2 (h:TIn (t.map NdA.nd) tb tz w2)=>by
   have:=tW (t.map NdA.nd) tb tz tc hk (tl - 1) (by rw [List.length_map]; omega) w2 h
   rw [htx,hS,List.length_map,htl] at this
   exact this)
  have HIN:=keep htin
  have hsz:S.length≤100000000:=by rw [← hS]; omega
  rw [hc,htl] at HCK
  have hp1:0<tl:=by omega
  obtain ⟨l1,hl1⟩:=ex (tl - 1)
  rw [hl1] at HTX
  have hi1:IntKind.i64.wrap ((tl:Int) - 1)=(l1:Int):=by rw [Go.IntWalk.i64_in _ (by have:=hs.len; omega)]; omega
  rw [htl]
  have hss:(⟨S.toArray⟩:ByteArray).size=S.length:=by show S.toArray.size=_; simp
  by_cases h256:256<S.length
  ·have hf:=ma hc (by rw [hS]; exact h256)
   rw [hf]
   have hgt:(((⟨S.toArray⟩:ByteArray).size:Nat):Int)>256:=by rw [hss]; omega
   obtain ⟨X,hX⟩:∃ X:ByteArray,⟨S.toArray⟩=X:=⟨_,rfl⟩
   rw [hX] at HTX hgt
   clear hf h256 hss hX hsz hlen htx hw hne hpos h0 he hk hin htin hS hc hs
   go_enter func9,ntmps9
   go_wp2_with fail
   refine HCK.out.mono ?_
   rintro e w1 ⟨rfl,hb⟩
   have HB:=Lib.hid hb
   have HI2:=keep (HIN.out.below hb)
   clear hb
   go_wp2_with fail
   refine (HTX.out _ HI2.out).mono ?_
   rintro e w2 ⟨rfl,hb⟩
   have HB2:=Lib.hid (an HB.out hb)
   clear hb
   go_wp2_with fail
   exact bodyPost_ret (v:=.tuple #[.string ⟨#[]⟩,.int .i64 5]) (by simp [results,results9,go_sem]) rfl ⟨rfl,HB2.out⟩
  have hf:=mb hc (by rw [hS]; exact h256)
  rw [hf,hS]
  have hgt:¬ (((⟨S.toArray⟩:ByteArray).size:Nat):Int)>256:=by rw [hss]; omega
  obtain ⟨X,hX⟩:∃ X:ByteArray,⟨S.toArray⟩=X:=⟨_,rfl⟩
  show Calls _ _ _ _ fun e w'=>e=.returned (.tuple #[.string ⟨S.toArray⟩,.int .i64 0])∧Below w.heap.size w w'
  rw [hX] at HTX hgt ⊢
  clear hf h256 hss hX hsz hlen htx hw hne hpos h0 he hk hin htin hS hc hs
  go_enter func9,ntmps9
  go_wp2_with fail
  refine HCK.out.mono ?_
  rintro e w1 ⟨rfl,hb⟩
  have HB:=Lib.hid hb
  have HI2:=keep (HIN.out.below hb)
  clear hb
  go_wp2_with fail
  refine (HTX.out _ HI2.out).mono ?_
  rintro e w2 ⟨rfl,hb⟩
  have HB2:=Lib.hid (an HB.out hb)
  clear hb
  go_wp2_with fail
  exact bodyPost_ret (v:=.tuple #[.string X,.int .i64 0]) (by simp [results,results9,go_sem]) rfl ⟨rfl,HB2.out⟩
 rw [ng hc]
 obtain ⟨c,hcc⟩:=ex (aC t)
 rw [hcc] at HCK hc ⊢
 have hcb:(c != 0)=true:=by simpa using hc
 rw [htl] at HCK ⊢
 clear hcc hc hin hs htl
 go_enter func9,ntmps9
 go_wp2_with fail
 refine HCK.out.mono ?_
 rintro e w1 ⟨rfl,hb⟩
 have HB:=Lib.hid hb
 clear hb
 go_wp2_with fail
 exact bodyPost_ret (v:=.tuple #[.string ⟨#[]⟩,.int .i64 c]) (by simp [results,results9,go_sem]) rfl ⟨rfl,HB.out⟩
