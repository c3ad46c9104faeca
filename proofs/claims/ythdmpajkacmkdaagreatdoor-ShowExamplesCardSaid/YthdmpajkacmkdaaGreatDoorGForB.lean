/- The contracts of tree.check and tree.Check, at nodes that a formula may hold. Plain: how long the canonical texts are. No program stands here. The contract of parse.Formula. -/
import Derived.Test.YthdmpajkacmkdaaGreatDoorGShn
import Derived.Test.YthdmpajkacmkdaaGreatDoorGShR
import Derived.Test.YthdmpajkacmkdaaGreatDoorGShc
import Derived.Test.YthdmpajkacmkdaaGreatDoorGLexI
import Derived.Test.YthdmpajkacmkdaaGreatDoorGTreA
import Derived.Test.YthdmpajkacmkdaaGreatDoorGTg
import Derived.Test.YthdmpajkacmkdaaGreatDoorGParI
import Derived.Test.YthdmpajkacmkdaaGreatDoorGRft
import Derived.Test.YthdmpajkacmkdaaGreatDoorGLexN
namespace Go.Proofs.YthdmpajkacmkdaaGreatDoor
open Go.RowKit Go.Proofs.Tryz
theorem iu {n:Nd} (h:aL n):n.vt.length≤256:=by
 rcases h with ⟨vk,vn,vt,rfl,hv⟩ | ⟨r,rfl,_⟩ | ⟨r,rfl,_⟩ | rfl | rfl | ⟨op,rfl,_⟩ | ⟨fn,k,rfl,_⟩
 ·rcases hv with ⟨-,-,rfl⟩ | ⟨-,-,rfl⟩ | ⟨-,-,h,-⟩ | ⟨-,-,rfl⟩
  ·exact Nat.zero_le _
  ·exact Nat.zero_le _
  ·exact h
  exact Nat.zero_le _
 all_goals exact Nat.zero_le _
theorem fu (t:List Nd):(t.map Nd.any).map bf=t.map bj:=by rw [List.map_map]; rfl
theorem mH {t:List Nd} (h:∀ n∈t,aL n):∀ a∈t.map Nd.any,a.vt.length≤4611686018427387904:=by
 intro a ha
 obtain ⟨n,hn,rfl⟩:=List.mem_map.1 ha
 have:=iu (h n hn)
 show n.vt.length≤_
 omega
theorem rt (t:List Nd) (ta:Option Addr) (tc:Nat) (w:World) (ht:ax w ta 11 (t.map bj)) (htl:t.length≤1000) (hgood:∀ n∈t,aL n) :
  Calls prog 20 #[.slice ta t.length tc] w fun e w'=>e=.returned (.int .i64 (de t))∧Below w.heap.size w w':=by
 have:=bZ (t.map Nd.any) ta tc w (by rw [fu]; exact ht) (by rw [List.length_map]; exact htl) (mH hgood)
 rw [List.length_map,iX hgood] at this
 exact this
open Go.RowKit
theorem qU (l:List UInt8):(l.flatMap bG).length≤2 * l.length:=by
 induction l with
 | nil=>exact Nat.le_refl _
 | cons b l ih =>
  rw [List.flatMap_cons,List.length_append,List.length_cons]
  have:(bG b).length≤2:=by unfold bG; split <;> simp
  omega
theorem qV (l:List UInt8):(cY l).length≤2 * l.length+2:=by
 unfold cY
 rw [List.length_cons,List.length_append]
 have:=qU l
 have e:([34]:List UInt8).length=1:=rfl
 omega
theorem pC (r:R4):(jL r).length≤6100:=by
 unfold jL
 rw [List.length_append]
 have h1:=dt r.c1 r.r1
 have h2:=dt r.c2 r.r2
 split
 ·simp; omega
 simp; omega
theorem tB (fn:Nat) (h1:1≤fn) (h50:fn≤50):(aE fn).length≤20:=by
 have key:∀ k:Fin 50,(aE (k.1+1)).length≤20:=by decide +kernel
 have:=key ⟨fn - 1,by omega⟩
 simpa only [show fn - 1+1=fn by omega] using this
theorem jE {n:Nd} (h:aL n) (hn:n.vn≤9223372036854775807):(bn n).length≤7000:=by
 rcases h with ⟨vk,vn,vt,rfl,hv⟩ | ⟨r,rfl,_⟩ | ⟨r,rfl,_⟩ | rfl | rfl | ⟨op,rfl,_⟩ | ⟨fn,k,rfl,h1,h2,_⟩
 ·have hn:vn≤9223372036854775807:=hn
  rcases hv with ⟨rfl,h0,rfl⟩ | ⟨rfl,h0,rfl⟩ | ⟨rfl,rfl,hl,-⟩ | ⟨rfl,⟨h1,h5⟩,rfl⟩
  ·have:=uH vn (by omega) hn
   show (eK vn).length≤7000
   omega
  ·rcases h0 with rfl | rfl <;> decide
  ·have:=qV vt
   show (cY vt).length≤7000
   omega
  have h:vn=1∨vn=2∨vn=3∨vn=4∨vn=5:=by omega
  rcases h with rfl | rfl | rfl | rfl | rfl <;> decide
 ·have:=pC r
  show (jL r).length≤7000
  omega
 ·have:=pC r
  show (jL r).length≤7000
  omega
 ·decide
 ·decide
 ·have:=qP op
  show (dS op).length≤7000
  omega
 have:=tB fn h1 h2
 show (aE fn).length≤7000
 omega
def ia (xs:List Tx):Nat:=(xs.map fun x=>x.1.length+3).sum
theorem jP (a b:List Tx):ia (a++b)=ia a+ia b:=by unfold ia; rw [List.map_append,List.sum_append]
theorem dY (x:Tx) (b:List Tx):ia (x::b)=x.1.length+3+ia b:=by unfold ia; rw [List.map_cons,List.sum_cons]
theorem f8 (l:Nat) (x:Tx):(opT l x).length≤x.1.length+2:=by
 unfold opT
 split
 ·omega
 simp
theorem nM:∀ xs:List Tx,(jnT xs).length≤ia xs
 | []=>Nat.zero_le _
 | [x]=>by rw [dY]; show x.1.length≤_; omega
 | x::y::r=>by
  have:=nM (y::r)
  rw [dY]
  show (x.1++44::jnT (y::r)).length≤_
  rw [List.length_append,List.length_cons]
  omega
theorem lW {n:Nd} (h4:n.kind≠4) (h5:n.kind≠5):bn n=gy n:=by unfold bn; rw [if_neg h4,if_neg h5]
theorem uy {n:Nd} (h:aL n) (hn:n.vn≤9223372036854775807) (xs:List Tx):(i6 n xs).1.length+3≤8000+ia xs:=by
 have ho:=jE h hn
 have e0:(xs.getD 0 ([],8)).1.length+(xs.getD 1 ([],8)).1.length≤ia xs:=by
  match xs with
  | []=>exact Nat.le_refl _
  | [x]=>rw [dY]; show x.1.length+0≤_; omega
  | x::y::r=>rw [dY,dY]; show x.1.length+y.1.length≤_; omega
 unfold i6
 by_cases h4:n.kind=4
 ·simp only [h4,Nat.reduceEqDiff,if_false,if_true,List.length_cons]
  have:=f8 5 (xs.getD 0 ([],8))
  omega
 by_cases h5:n.kind=5
 ·simp only [h5,Nat.reduceEqDiff,if_false,if_true,List.length_append]
  have:=f8 7 (xs.getD 0 ([],8))
  simp
  simp at this e0
  omega
 rw [lW h4 h5] at ho
 by_cases h1:n.kind=1
 ·rw [if_pos h1]; show (gy n).length+3≤_; omega
 rw [if_neg h1]
 by_cases h2:n.kind=2
 ·rw [if_pos h2]; show (gy n).length+3≤_; omega
 rw [if_neg h2]
 by_cases h3:n.kind=3
 ·rw [if_pos h3]; show (gy n).length+3≤_; omega
 rw [if_neg h3,if_neg h4,if_neg h5]
 by_cases h6:n.kind=6
 ·rw [if_pos h6]
  by_cases ho5:n.op=5
  ·rw [if_pos ho5]
   show (opT 7 _++(gy n++opT 5 _)).length+3≤_
   rw [List.length_append,List.length_append]
   have a1:=f8 7 (xs.getD 0 ([],8))
   have a2:=f8 5 (xs.getD 1 ([],8))
   omega
  rw [if_neg ho5]
  show (opT (aJ n.op) _++(gy n++opT (aJ n.op+1) _)).length+3≤_
  rw [List.length_append,List.length_append]
  have a1:=f8 (aJ n.op) (xs.getD 0 ([],8))
  have a2:=f8 (aJ n.op+1) (xs.getD 1 ([],8))
  omega
 rw [if_neg h6]
 show (gy n++40::(jnT xs++[41])).length+3≤_
 have:=nM xs
 simp only [List.length_append,List.length_cons,List.length_nil]
 omega
theorem wE (t:List Nd) (hg:∀ n∈t,aL n∧n.vn≤9223372036854775807):∀ i,i≤t.length→ia (txW (t.take i) [])≤8000 * i:=by
 intro i
 induction i with
 | zero=>intro _; exact Nat.le_refl _
 | succ i ih =>
  intro hi
  have:=ih (by omega)
  rw [List.take_succ_eq_append_getElem (by omega),fR,jP]
  have hn:=hg (t[i]'(by omega)) (List.getElem_mem _)
  have hc:=uy hn.1 hn.2 ((txW (t.take i) []).drop ((txW (t.take i) []).length - am (t[i]'(by omega))))
  have hs : ia (txW (t.take i) []) = ia ((txW (t.take i) []).take ((txW (t.take i) []).length - am (t[i]'(by omega)))) + ia ((txW (t.take i) []).drop ((txW (t.take i) []).length - am (t[i]'(by omega)))):=by rw [← jP,List.take_append_drop]
  rw [dY]
  have h0:ia []=0:=rfl
  omega
theorem kC (t:List Nd) (hg:∀ n∈t,aL n∧n.vn≤9223372036854775807) (i:Nat) (hi:i<t.length):(aF t i).1.length≤8000 * t.length:=by
 have h:=wE t hg (i+1) (by omega)
 unfold aF
 rw [List.take_succ_eq_append_getElem hi,fR,jP,dY] at h
 rw [List.take_succ_eq_append_getElem hi,fR]
 rw [List.getLast?_append]
 simp only [List.getLast?_singleton,Option.some_or,Option.getD_some]
 have:8000 * (i+1)≤8000 * t.length:=Nat.mul_le_mul_left _ hi
 omega
set_option maxRecDepth 100000
set_option maxHeartbeats 4000000
def rE (L:List UInt8) (w:World) (e:Ending) (w':World):Prop :=
 ∃ v,e=.returned (.tuple #[v,.int .i64 (bU L).2.1,.int .i64 (bU L).2.2])∧w'.ownsRow w.heap.size 27 11 v (bU L).1.length (ew (bU L).1)∧Below w.heap.size w w'
theorem ai.rebase {w0 w1 w:World} {ps:List aZ} {e:TypeId} {size n:Nat} {v:Value} {xs:List Value} (h:ai w1 ps e size v n xs w) (hb:Below w0.heap.size w0 w1):ai w0 ps e size v n xs w :=
 ⟨⟨hb.trans (h.ok.bel.mono hb.size),h.ok.all⟩,h.own.mono hb.size,h.far⟩
theorem nJ {α:Type} (f:α→List Value) (s:Nat) (hf:∀ x,(f x).length=s):∀ (l:List α) (i:Nat) (x:α),l[i]?=some x→∀ (j:Nat) (v:Value),(f x)[j]?=some v→(l.flatMap f)[i * s+j]?=some v
 | [],i,x,h,_,_,_=>by simp at h
 | y::l,0,x,h,j,v,hj=>by
  simp at h
  subst h
  rw [List.flatMap_cons,Nat.zero_mul,Nat.zero_add,List.getElem?_append_left (by have:=(List.getElem?_eq_some_iff.1 hj).1; exact this)]
  exact hj
 | y::l,i+1,x,h,j,v,hj=>by
  have h9:=nJ f s hf l i x (by simpa using h) j v hj
  rw [List.flatMap_cons,List.getElem?_append_right (by rw [hf,Nat.add_mul]; omega),hf,show (i+1) * s+j - s=i * s+j by rw [Nat.add_mul]; omega]
  exact h9
theorem fN {α:Type} (f:α→List Value) {s:Nat} (hf:∀ x,(f x).length=s) {w:World} {base n:Nat} {e:TypeId} {v:Value} {l:List α} (h:w.ownsRow base e s v n (l.flatMap f)) (hn:n=l.length):∃ a c,v=.slice a l.length c∧l.length≤c∧c≤9223372036854775807∧ax w a s (l.map f):=by
 subst hn
 have hc:=@World.ownsRow.cells _ _ _ _ _ _ _ h
 have hlt:=h.lt
 rcases h.2 with ⟨rfl,h0⟩ | ⟨g,cap,cur,rfl,h4,h5,h6,h7,h8,h9⟩
 ·refine ⟨none,0,by rw [h0],by omega,by omega,fun hne => ?_⟩
  rw [List.length_eq_zero_iff.1 h0] at hne
  exact absurd rfl hne
 refine ⟨_,cap,rfl,h6,by unfold maxLen at h7; omega,fun _=>⟨g,0,rfl,(hlt g rfl).2,fun i r hi j v hj => ?_⟩⟩
 rw [List.getElem?_map] at hi
 obtain ⟨x,hx,rfl⟩:=Option.map_eq_some_iff.1 hi
 have h10:=hc rfl _ v (nJ f s hf l i x hx j v hj)
 rw [show (⟨g,0,none⟩:Addr).add (i * s+j)=⟨g,0+(i * s+j),none⟩ by unfold Addr.add; split <;> simp_all] at h10
 exact h10
theorem zo {w:World} {base:Nat} {v:Value} {ts:List Tk} (h:w.ownsRow base 66 8 v ts.length (gn ts)):∃ a c,v=.slice a ts.length c∧jl w a c ts:=by
 obtain ⟨a,c,h1,h2,h3,h4⟩:=fN cg (fun _=>rfl) h rfl
 refine ⟨a,c,h1,h2,h3,fun hne => ?_⟩
 obtain ⟨b,z,h5,h6,h7⟩:=h4 (by simpa using hne)
 exact ⟨b,z,h5,h6,fun i t hi j v hj=>h7 i (cg t) (by rw [List.getElem?_map,hi]; rfl) j v hj⟩
theorem form_nil {L:List UInt8} {w w':World} {a e:Int} (h:bU L=([],a,e)) (hb:Below w.heap.size w w'):rE L w (.returned (.tuple #[.slice none 0 0,.int .i64 a,.int .i64 e])) w':=by
 refine ⟨.slice none 0 0,by rw [h],?_,hb⟩
 rw [h]
 exact World.ownsRow_nil _ _ _ _
theorem iP (s:ByteArray) (w:World) (hs:s.size≤4611686018427387904) (hw:Words w) :
  Calls prog 17 #[.string s] w (rE s.data.toList w):=by
 have HW:=keep hw
 clear hw
 have H1:=Lib.hid ((((Ok.start w).var w.heap.size 28 [.slice none 0 0] rfl).var (w.heap.size+1) 3 [.int .i64 0] (by simp)).var (w.heap.size+1+1) 35 [.int .i64 0] (by simp))
 go_enter_defers func17,ntmps17
 go_wp2_with fail
 generalize (((w.alloc (.cells #[.slice none 0 0] 28)).alloc (.cells #[.int .i64 0] 3)).alloc (.cells #[.int .i64 0] 35))=W1 at H1 ⊢
 obtain ⟨T,hT⟩:=ex (ba s.data.toList)
 have HTT:=keep hT
 refine (qL s W1 hs (HW.out.below H1.out.bel)).mono ?_
 rintro e w2 ⟨tv,rfl,hown,hb⟩
 rw [hT] at hown ⊢
 clear hT
 obtain ⟨ts,ta,te⟩:=T
 simp only [] at hown ⊢
 have HOR:=Lib.hid (ai.of_new H1.out hb hown)
 have HLT:=keep (show w.heap.size+1+1<W1.heap.size from (H1.out.get (ah (w.heap.size+1+1) 35 [.int .i64 0]) (by simp)).lt)
 clear hb hown
 have F:=sR HOR
 go_upto_region 2 with fail
 clear F
 have HOS:=Lib.hid (((((HOR.out.drop [ah (w.heap.size+1) 3 [.int .i64 0],ah w.heap.size 28 [.slice none 0 0],ah (w.heap.size+1+1) 35 [.int .i64 0]] (by simp)).set_ (i:=0) (u:=.int .i64 ta) (by omega) (by simp [ah] <;> omega)).drop
  [ah (w.heap.size+1+1) 35 [.int .i64 0],ah w.heap.size 28 [.slice none 0 0],ah (w.heap.size+1) 3 [.int .i64 ta]] (by simp)).set_ (i:=0) (u:=.int .i64 te) (by omega) (by simp [ah] <;> omega)).drop
  [ah w.heap.size 28 [.slice none 0 0],ah (w.heap.size+1) 3 [.int .i64 ta],ah (w.heap.size+1+1) 35 [.int .i64 te]] (by simp))
 clear HOR H1
 generalize ((w2.setCell ⟨w.heap.size+1,0,none⟩ (.int .i64 ta)).setCell ⟨w.heap.size+1+1,0,none⟩ (.int .i64 te))=w3 at HOS ⊢
 have F:=HOS.out.ok.sees
 simp only [sees,ah,ac] at F
 obtain ⟨⟨⟨z0,f0⟩,c0,-⟩,⟨⟨z1,f1⟩,c1,-⟩,⟨⟨z2,f2⟩,c2,-⟩,-⟩:=F
 by_cases hte:te=0
 ·subst hte
  obtain ⟨hta0,h256,hpl,hlex⟩:=iH HTT.out
  subst hta0
  have HGT:=keep (ie HTT.out)
  have hls:s.data.toList.length=s.size:=Array.length_toList
  have hsz:s.size≤256:=by omega
  have hts:ts.length≤256:=Nat.le_trans hlex.len h256
  obtain ⟨r,hr,hform⟩:=rQ HTT.out
  rw [hls] at hform
  unfold vL at hr
  rw [hls] at hr
  have HF:=keep hform
  have HRR:=keep hr
  obtain ⟨la,c,rfl,HTK⟩:=zo HOS.out.own
  have HP:=Lib.hid HOS.out.ok
  have HST:=Lib.hid (show St w3 [ah w.heap.size 28 [.slice none 0 0],ah (w.heap.size+1) 3 [.int .i64 0],ah (w.heap.size+1+1) 35 [.int .i64 0]] w3.heap.size s.size ts [] (w3.alloc (.cells #[.slice la ts.length c,.int .i64 s.size,.slice none 0 0] 64)) from
   ⟨Nat.le_refl _,fun x hx=>x.new _ _ (Nat.le_refl _) (HOS.out.ok.all x hx),la,c,.slice none 0 0,HTK,ai.start ((⟨Below.refl _ _,HOS.out.ok.all⟩:Ok w3 _ w3).var w3.heap.size 64 [.slice la ts.length c,.int .i64 s.size,.slice none 0 0] rfl) _ _⟩)
  clear HTK hform hr hlex hpl h256 hls HOS
  have hmf:∀ (fn:Fn) (first cap:Array Value) (w:World),(Instr.makeFunc fn first cap).run prog w=.ok (.func fn first cap) w:=fun _ _ _ _=>rfl
  go_wp2_with fail
  clear hmf
  generalize (w3.alloc (.cells #[.slice la ts.length c,.int .i64 s.size,.slice none 0 0] 64))=w4 at HST ⊢
  clear z0 f0 c0 z1 f1 c1 z2 f2 c2
  have HC:=keep (wS _ w3 _ w3.heap.size s.size (.lv 1) ts r [] w4 HRR.out (by rw [List.length_nil]; omega) HST.out (by omega) (by omega))
  obtain ⟨pb,hpb⟩:=ex (w3.heap.size)
  rw [hpb] at HST HC ⊢
  clear hpb
  refine (fJ w3 _ pb s.size (dj [] r) w4 HC.out).mono ?_
  clear HC
  cases r with
  | bad fa fc =>
   rintro e w5 hp9
   obtain ⟨rfl,hb⟩:Bad (fa:Nat) fc w3 e w5:=hp9
   have HQ:=Lib.hid (HP.out.below hb)
   clear hb HST
   have HF2:=keep (show bU s.data.toList=([],(fa:Int),fc) from HF.out)
   go_wp2_with fail
   refine leaves_cons (f:=35) (args:=#[.pointer (some ⟨w.heap.size,0,none⟩),.pointer (some ⟨w.heap.size+1,0,none⟩),.pointer (some ⟨w.heap.size+1+1,0,none⟩)]) (by simp) (by simp [go_sem]) ?_
   refine (kG w _ _ _ _ _ _ _ _ _ (Nat.le_refl _) (by omega) (by omega) (by omega) (by omega) (by omega) (HQ.out)).mono ?_
   rintro e u' w9 ⟨rfl,rfl,hok⟩
   have HE:=Lib.hid hok
   clear hok
   have F:=HE.out.sees
   simp only [sees,ah,ac] at F
   obtain ⟨⟨-,r0,-⟩,⟨-,r1,-⟩,⟨-,r2,-⟩,-⟩:=F
   simp [Leaves,settle,results,results17,go_sem,r0,r1,r2]
   exact form_nil HF2.out HE.out.bel
  | ok u ns n =>
   rintro e w5 hp9
   obtain ⟨rfl,hst⟩:sH (.tuple #[]) w3 [ah w.heap.size 28 [.slice none 0 0],ah (w.heap.size+1) 3 [.int .i64 0],ah (w.heap.size+1+1) 35 [.int .i64 0]] pb s.size u ([]++ns) e w5:=hp9
   rw [List.nil_append] at hst
   have HS5:=Lib.hid hst
   have HPK:=keep (cy _ _ _ _ _ _ HRR.out)
   have hnl:ns.length≤256:=by have:=aO _ _ _ _ _ _ HRR.out; omega
   have HGN:=keep (HPK.out.good trivial HGT.out)
   have HGU:=keep (fun t ht=>HGT.out t (HPK.out.sub t ht):∀ t∈u,okT t=true)
   clear hst HST HRR
   have F:=HS5.out.sees
   obtain ⟨zp,-⟩:=F
   go_wp2_with fail
   obtain ⟨⟨hk,hnn,htt,⟨r1,r2,r3,r4⟩,hat⟩,hth⟩:∃ t,hdS s.size u=t:=⟨_,rfl⟩
   have HTH:=keep hth
   have HHK:=keep (show hkS u=hk by rw [← dp s.size,hth])
   refine (bo w3 _ pb s.size u ns _ HS5.out).mono ?_
   rintro e w6 ⟨rfl,hb⟩
   rw [hth]
   have HS6:=Lib.hid (HS5.out.below hb)
   clear hb HS5 hth zp
   have F:=HS6.out.sees
   obtain ⟨zp,-⟩:=F
   simp only [tkA]
   have HS7:=Lib.hid (HS6.out.alloc 66 [.int .u8 (hk:Nat),.int .i64 hnn,.string ⟨htt.toArray⟩,.int .i64 r1,.int .i64 r2,.int .i64 r3,.int .i64 r4,.int .i64 hat])
   go_upto_region 9 with fail
   clear HS6 zp
   generalize (w6.alloc (.cells #[.int .u8 (hk:Nat),.int .i64 hnn,.string ⟨htt.toArray⟩,.int .i64 r1,.int .i64 r2,.int .i64 r3,.int .i64 r4,.int .i64 hat] 66))=w7 at HS7 ⊢
   obtain ⟨t8,ht8⟩:=ex (w6.heap.size)
   rw [ht8] at HS7 ⊢
   clear ht8
   have F:=HS7.out.sees
   simp only [sees,af,ah,ac,Nat.reduceAdd] at F
   obtain ⟨zp,⟨z8,k0,k1,k2,k3,k4,k5,k6,k7,-⟩,-⟩:=F
   by_cases hk0:hk=0
   ·subst hk0
    have HU:=keep (show u=[] from Classical.byContradiction fun e9=>absurd HHK.out ((uY HGU.out).2 e9))
    obtain ⟨-,-,la',c',ov,-,hO⟩:=HS7.out
    obtain ⟨na,nc,rfl,-,-,hrows⟩:=fN bj (fun _=>rfl) hO.own rfl
    have HO:=Lib.hid (hO.rebase HP.out.bel)
    have HRW:=keep hrows
    clear hO hrows HS7
    have F:=HO.out.ok.sees
    simp only [sees,af,ah,ac,Nat.reduceAdd] at F
    obtain ⟨⟨⟨y0,-⟩,y1,y2,y3,-⟩,-⟩:=F
    go_wp2_with fail
    refine (rt ns na nc w7 HRW.out (by omega) HGN.out).mono ?_
    rintro e w8 ⟨rfl,hb⟩
    obtain ⟨E,hE⟩:=ex (de ns)
    rw [hE]
    have HEE:=keep hE
    have HO8:=Lib.hid (HO.out.below hb)
    clear hE hb HO zp z8 k0 k1 k2 k3 k4 k5 k6 k7 y0 y1 y2 y3
    have F:=HO8.out.ok.sees
    simp only [sees,af,ah,ac,Nat.reduceAdd] at F
    obtain ⟨⟨⟨y0,-⟩,y1,y2,y3,-⟩,-,⟨⟨z0,f0⟩,c0,-⟩,⟨⟨z1,f1⟩,c1,-⟩,⟨⟨z2,f2⟩,c2,-⟩,-⟩:=F
    by_cases hE0:E=0
    ·subst hE0
     have HF2:=keep (show bU s.data.toList=(ns,0,0) by
      rw [HF.out]
      simp only [mO]
      rw [HU.out,if_neg (by simp [hkS]),HEE.out,if_neg (by decide)])
     have HE:=Lib.hid ((((((HO8.out.drop [ah w.heap.size 28 [.slice none 0 0],ah (w.heap.size+1) 3 [.int .i64 0],ah (w.heap.size+1+1) 35 [.int .i64 0]] (by simp)).set_ (i:=0) (u:=.slice na ns.length nc) (by omega) (by simp [ah] <;> omega)).drop
    [ah (w.heap.size+1) 3 [.int .i64 0],ah w.heap.size 28 [.slice na ns.length nc],ah (w.heap.size+1+1) 35 [.int .i64 0]] (by simp)).set_ (i:=0) (u:=.int .i64 0) (by omega) (by simp [ah] <;> omega)).drop
    [ah (w.heap.size+1+1) 35 [.int .i64 0],ah w.heap.size 28 [.slice na ns.length nc],ah (w.heap.size+1) 3 [.int .i64 0]] (by simp)).set_ (i:=0) (u:=.int .i64 0) (by omega) (by simp [ah] <;> omega))
     clear HO8
     go_wp2_with fail
     generalize (((w8.setCell ⟨w.heap.size,0,none⟩ (.slice na ns.length nc)).setCell ⟨w.heap.size+1,0,none⟩ (.int .i64 0)).setCell ⟨w.heap.size+1+1,0,none⟩ (.int .i64 0))=w9 at HE ⊢
     have F:=HE.out.ok.sees
     simp only [sees,ah,ac] at F
     obtain ⟨⟨-,r2,-⟩,⟨-,r0,-⟩,⟨-,r1,-⟩,-⟩:=F
     refine leaves_cons (f:=35) (args:=#[.pointer (some ⟨w.heap.size,0,none⟩),.pointer (some ⟨w.heap.size+1,0,none⟩),.pointer (some ⟨w.heap.size+1+1,0,none⟩)]) (by simp) (by simp [go_sem]) ?_
     refine (lH _ _ _ _).mono ?_
     rintro e u' w10 ⟨rfl,rfl,rfl⟩
     simp [Leaves,settle,results,results17,go_sem,r0,r1,r2]
     exact ⟨_,by rw [HF2.out],by rw [HF2.out]; exact HE.out.own,HE.out.ok.bel⟩
    ·have hEb:(E != 0)=true:=by simpa using hE0
     have HF2:=keep (show bU s.data.toList=([],0,E) by
      rw [HF.out]
      simp only [mO]
      rw [HU.out,if_neg (by simp [hkS]),if_pos (by rw [HEE.out]; exact hE0),HEE.out])
     have HE:=Lib.hid ((((((HO8.out.drop [ah w.heap.size 28 [.slice none 0 0],ah (w.heap.size+1) 3 [.int .i64 0],ah (w.heap.size+1+1) 35 [.int .i64 0]] (by simp)).set_ (i:=0) (u:=.slice none 0 0) (by omega) (by simp [ah] <;> omega)).drop
    [ah (w.heap.size+1) 3 [.int .i64 0],ah w.heap.size 28 [.slice none 0 0],ah (w.heap.size+1+1) 35 [.int .i64 0]] (by simp)).set_ (i:=0) (u:=.int .i64 0) (by omega) (by simp [ah] <;> omega)).drop
    [ah (w.heap.size+1+1) 35 [.int .i64 0],ah w.heap.size 28 [.slice none 0 0],ah (w.heap.size+1) 3 [.int .i64 0]] (by simp)).set_ (i:=0) (u:=.int .i64 E) (by omega) (by simp [ah] <;> omega))
     clear HO8 hE0
     go_wp2_with fail
     generalize (((w8.setCell ⟨w.heap.size,0,none⟩ (.slice none 0 0)).setCell ⟨w.heap.size+1,0,none⟩ (.int .i64 0)).setCell ⟨w.heap.size+1+1,0,none⟩ (.int .i64 E))=w9 at HE ⊢
     have F:=HE.out.ok.sees
     simp only [sees,ah,ac] at F
     obtain ⟨⟨-,r2,-⟩,⟨-,r0,-⟩,⟨-,r1,-⟩,-⟩:=F
     refine leaves_cons (f:=35) (args:=#[.pointer (some ⟨w.heap.size,0,none⟩),.pointer (some ⟨w.heap.size+1,0,none⟩),.pointer (some ⟨w.heap.size+1+1,0,none⟩)]) (by simp) (by simp [go_sem]) ?_
     refine (lH _ _ _ _).mono ?_
     rintro e u' w10 ⟨rfl,rfl,rfl⟩
     simp [Leaves,settle,results,results17,go_sem,r0,r1,r2]
     exact form_nil HF2.out HE.out.ok.bel
   have hkb:((hk:Int) != 0)=true:=by simp; omega
   have HF2:=keep (show bU s.data.toList=([],(hat:Int),4) by
    rw [HF.out]
    simp only [mO]
    rw [HHK.out,if_pos hk0,HTH.out])
   clear hk0
   go_wp2_with fail
   refine (eO w3 pb _ _ _ HS7.out.bel).mono ?_
   rintro e w8 ⟨rfl,hb⟩
   have HQ:=Lib.hid (HP.out.below hb)
   clear hb HS7 zp z8 k0 k1 k2 k3 k4 k5 k6 k7
   go_wp2_with fail
   refine leaves_cons (f:=35) (args:=#[.pointer (some ⟨w.heap.size,0,none⟩),.pointer (some ⟨w.heap.size+1,0,none⟩),.pointer (some ⟨w.heap.size+1+1,0,none⟩)]) (by simp) (by simp [go_sem]) ?_
   refine (kG w _ _ _ _ _ _ _ _ _ (Nat.le_refl _) (by omega) (by omega) (by omega) (by omega) (by omega) (HQ.out)).mono ?_
   rintro e u' w9 ⟨rfl,rfl,hok⟩
   have HE:=Lib.hid hok
   clear hok
   have F:=HE.out.sees
   simp only [sees,ah,ac] at F
   obtain ⟨⟨-,r0,-⟩,⟨-,r1,-⟩,⟨-,r2,-⟩,-⟩:=F
   simp [Leaves,settle,results,results17,go_sem,r0,r1,r2]
   exact form_nil HF2.out HE.out.bel
 have hteb:(te != 0)=true:=by simpa using hte
 have HF:=keep (oC HTT.out hte)
 have HE:=Lib.hid (((((((HOS.out.ok.set_ (i:=0) (u:=.slice none 0 0) (by omega) (by simp [ah] <;> omega)).drop
  [ah (w.heap.size+1) 3 [.int .i64 ta],ah w.heap.size 28 [.slice none 0 0],ah (w.heap.size+1+1) 35 [.int .i64 te]] (by simp)).set_ (i:=0) (u:=.int .i64 ta) (by omega) (by simp [ah] <;> omega)).drop
  [ah (w.heap.size+1+1) 35 [.int .i64 te],ah w.heap.size 28 [.slice none 0 0],ah (w.heap.size+1) 3 [.int .i64 ta]] (by simp)).set_ (i:=0) (u:=.int .i64 te) (by omega) (by simp [ah] <;> omega)).drop
  [ah w.heap.size 28 [.slice none 0 0],ah (w.heap.size+1) 3 [.int .i64 ta],ah (w.heap.size+1+1) 35 [.int .i64 te]] (by simp)).drew)
 clear hte
 go_upto_region 3 with fail
 go_region
 all_goals go_wp2_with fail
 have F:=HE.out.sees
 simp only [sees,ah,ac] at F
 obtain ⟨⟨-,r0,-⟩,⟨-,r1,-⟩,⟨-,r2,-⟩,-⟩:=F
 all_goals
  simp [bodyPostD,Leaves,results,results17,go_sem,r0,r1,r2]
 all_goals exact form_nil HF.out HE.out.bel
