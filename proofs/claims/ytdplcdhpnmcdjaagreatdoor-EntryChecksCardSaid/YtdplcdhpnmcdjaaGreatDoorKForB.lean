/- show.strength, tree.Name, show.Literal and show.own. The contracts of tree.check and tree.Check, at nodes that a formula may hold. The contract of parse.Formula. Plain: how long the canonical texts are. No program stands here. The reference's check of a text, where it holds. -/
import Derived.Test.YtdplcdhpnmcdjaaGreatDoorKGiv
import Derived.Test.YtdplcdhpnmcdjaaGreatDoorKTg
import Derived.Test.YtdplcdhpnmcdjaaGreatDoorKNdA
import Derived.Test.YtdplcdhpnmcdjaaGreatDoorKParP
import Derived.Test.YtdplcdhpnmcdjaaGreatDoorKTwd
import Derived.Test.YtdplcdhpnmcdjaaGreatDoorKLexD
import Derived.Test.YtdplcdhpnmcdjaaGreatDoorKLexG
import Derived.Test.YtdplcdhpnmcdjaaGreatDoorKTreA
import Derived.Test.YtdplcdhpnmcdjaaGreatDoorKParI
import Derived.Test.YtdplcdhpnmcdjaaGreatDoorKLexN
import Derived.Test.YtdplcdhpnmcdjaaGreatDoorKLexJ
import Derived.Test.YtdplcdhpnmcdjaaGreatDoorKLexK
import Derived.Test.YtdplcdhpnmcdjaaGreatDoorKRefC
namespace Go.Proofs.YtdplcdhpnmcdjaaGreatDoor
set_option maxRecDepth 100000
set_option maxHeartbeats 4000000
open Go.RowKit Go.Proofs.Tryz
def kp (n:Nd):Nat:=if n.kind=5 then 7 else if n.kind=4 then 5 else if n.kind=6 then (if n.op=5 then 6 else aT n.op) else 8
theorem vj (n:Nd) (xs:List Tx) (h:n.kind≤7):(gn n xs).2=kp n:=by
 unfold gn kp
 have:n.kind=0∨n.kind=1∨n.kind=2∨n.kind=3∨n.kind=4∨n.kind=5∨n.kind=6∨n.kind=7:=by omega
 rcases this with g | g | g | g | g | g | g | g <;> simp [g]
 split <;> rfl
theorem mT (op:Int) (h1:1≤op) (h12:op≤12) (w:World) :
  Calls prog 88 #[.int .i64 op] w fun e w'=>e=.returned (.int .i64 ((if op=5 then 6 else aT op:Nat):Int))∧Below w.heap.size w w':=by
 have h:op=1∨op=2∨op=3∨op=4∨op=5∨op=6∨op=7∨op=8∨op=9∨op=10∨op=11∨op=12:=by omega
 clear h1 h12
 obtain ⟨V,hV⟩:∃ V:Int,((if op=5 then 6 else aT op:Nat):Int)=V:=⟨_,rfl⟩
 rw [hV]
 rcases h with rfl | rfl | rfl | rfl | rfl | rfl | rfl | rfl | rfl | rfl | rfl | rfl
 all_goals
  have HV:=keep hV
  clear hV
  go_enter func88,ntmps88
  go_wp2_with fail
  go_ret
  exact ⟨by rw [← HV.out]; rfl,Below.refl _ _⟩
theorem ym (vk vn r1 r2 r3 r4 op fn nn:Int) (s:ByteArray) (w:World) :
  Calls prog 51 #[.agg #[.int .u8 4,.int .u8 vk,.int .i64 vn,.string s,.int .i64 r1,.int .i64 r2,.int .i64 r3,.int .i64 r4,.int .i64 op,.int .u8 fn,.int .i64 nn]] w fun e w'=>e=.returned (.int .i64 5)∧Below w.heap.size w w':=by
 have H1:=Lib.hid ((Ok.start w).alloc w.heap.size 39 [.int .u8 4,.int .u8 vk,.int .i64 vn,.string s,.int .i64 r1,.int .i64 r2,.int .i64 r3,.int .i64 r4,.int .i64 op,.int .u8 fn,.int .i64 nn] rfl)
 go_enter func51,ntmps51
 go_wp2_with fail
 generalize (w.alloc (.cells #[.int .u8 4,.int .u8 vk,.int .i64 vn,.string s,.int .i64 r1,.int .i64 r2,.int .i64 r3,.int .i64 r4,.int .i64 op,.int .u8 fn,.int .i64 nn] 39))=W2 at H1 ⊢
 go_ret
 exact ⟨rfl,H1.out.bel⟩
theorem yn (vk vn r1 r2 r3 r4 op fn nn:Int) (s:ByteArray) (w:World) :
  Calls prog 51 #[.agg #[.int .u8 5,.int .u8 vk,.int .i64 vn,.string s,.int .i64 r1,.int .i64 r2,.int .i64 r3,.int .i64 r4,.int .i64 op,.int .u8 fn,.int .i64 nn]] w fun e w'=>e=.returned (.int .i64 7)∧Below w.heap.size w w':=by
 have H1:=Lib.hid ((Ok.start w).alloc w.heap.size 39 [.int .u8 5,.int .u8 vk,.int .i64 vn,.string s,.int .i64 r1,.int .i64 r2,.int .i64 r3,.int .i64 r4,.int .i64 op,.int .u8 fn,.int .i64 nn] rfl)
 go_enter func51,ntmps51
 go_wp2_with fail
 generalize (w.alloc (.cells #[.int .u8 5,.int .u8 vk,.int .i64 vn,.string s,.int .i64 r1,.int .i64 r2,.int .i64 r3,.int .i64 r4,.int .i64 op,.int .u8 fn,.int .i64 nn] 39))=W2 at H1 ⊢
 go_ret
 exact ⟨rfl,H1.out.bel⟩
theorem yo (vk vn r1 r2 r3 r4 op fn nn:Int) (s:ByteArray) (h1:1≤op) (h12:op≤12) (w:World) :
  Calls prog 51 #[.agg #[.int .u8 6,.int .u8 vk,.int .i64 vn,.string s,.int .i64 r1,.int .i64 r2,.int .i64 r3,.int .i64 r4,.int .i64 op,.int .u8 fn,.int .i64 nn]] w fun e w'=>e=.returned (.int .i64 ((if op=5 then 6 else aT op:Nat):Int))∧Below w.heap.size w w':=by
 obtain ⟨B,hB⟩:∃ B:Int,((if op=5 then 6 else aT op:Nat):Int)=B:=⟨_,rfl⟩
 have HBI:=keep (fun w2:World=>show Calls prog 88 #[.int .i64 op] w2 fun e w'=>e=.returned (.int .i64 B)∧Below w2.heap.size w2 w' by rw [← hB]; exact mT op h1 h12 w2)
 rw [hB]
 clear hB
 have H1:=Lib.hid ((Ok.start w).alloc w.heap.size 39 [.int .u8 6,.int .u8 vk,.int .i64 vn,.string s,.int .i64 r1,.int .i64 r2,.int .i64 r3,.int .i64 r4,.int .i64 op,.int .u8 fn,.int .i64 nn] rfl)
 go_enter func51,ntmps51
 go_wp2_with fail
 generalize (w.alloc (.cells #[.int .u8 6,.int .u8 vk,.int .i64 vn,.string s,.int .i64 r1,.int .i64 r2,.int .i64 r3,.int .i64 r4,.int .i64 op,.int .u8 fn,.int .i64 nn] 39))=W2 at H1 ⊢
 refine cM (HBI.out _) H1 fun w3 H5=>?_
 clear H1
 have F6:=sE H5
 go_wp2_with fail
 go_ret
 exact ⟨rfl,H5.out.bel⟩
theorem yp (k:Int) (vk vn r1 r2 r3 r4 op fn nn:Int) (s:ByteArray) (h4:(k == 4)=false) (h5:(k == 5)=false) (h6:(k == 6)=false) (w:World) :
  Calls prog 51 #[.agg #[.int .u8 k,.int .u8 vk,.int .i64 vn,.string s,.int .i64 r1,.int .i64 r2,.int .i64 r3,.int .i64 r4,.int .i64 op,.int .u8 fn,.int .i64 nn]] w fun e w'=>e=.returned (.int .i64 8)∧Below w.heap.size w w':=by
 have H1:=Lib.hid ((Ok.start w).alloc w.heap.size 39 [.int .u8 k,.int .u8 vk,.int .i64 vn,.string s,.int .i64 r1,.int .i64 r2,.int .i64 r3,.int .i64 r4,.int .i64 op,.int .u8 fn,.int .i64 nn] rfl)
 go_enter func51,ntmps51
 go_wp2_with fail
 generalize (w.alloc (.cells #[.int .u8 k,.int .u8 vk,.int .i64 vn,.string s,.int .i64 r1,.int .i64 r2,.int .i64 r3,.int .i64 r4,.int .i64 op,.int .u8 fn,.int .i64 nn] 39))=W2 at H1 ⊢
 go_ret
 exact ⟨rfl,H1.out.bel⟩
theorem ea (n:Nd) (hg:aL n) (w:World) :
  Calls prog 51 #[ndA n] w fun e w'=>e=.returned (.int .i64 (kp n:Nat))∧Below w.heap.size w w':=by
 obtain ⟨k,vk,vn,vt,⟨r1,r2,r3,r4⟩,op,fn,nn⟩:=n
 by_cases k4:k=4
 ·subst k4; exact ym vk vn r1 r2 r3 r4 op fn nn _ w
 by_cases k5:k=5
 ·subst k5; exact yn vk vn r1 r2 r3 r4 op fn nn _ w
 by_cases k6:k=6
 ·subst k6
  have hop:1≤op∧op≤12:=by
   rcases hg with ⟨_,_,_,h,_⟩ | ⟨r,h,_⟩ | ⟨r,h,_⟩ | h | h | ⟨o,h,h1,h2⟩ | ⟨_,_,h,_⟩
   ·injection h with h; exact absurd h (by decide)
   ·injection h with h; exact absurd h (by decide)
   ·injection h with h; exact absurd h (by decide)
   ·injection h with h; exact absurd h (by decide)
   ·injection h with h; exact absurd h (by decide)
   ·injection h with _ _ _ _ _ h; subst h; exact ⟨h1,h2⟩
   injection h with h; exact absurd h (by decide)
  exact yo vk vn r1 r2 r3 r4 op fn nn _ hop.1 hop.2 w
 have e:kp ⟨k,vk,vn,vt,⟨r1,r2,r3,r4⟩,op,fn,nn⟩=8:=by
  unfold kp
  rw [if_neg k5,if_neg k4,if_neg k6]
 rw [e]
 exact yp k vk vn r1 r2 r3 r4 op fn nn _ (by simp; omega) (by simp; omega) (by simp; omega) w
-- names
theorem B6 {t:List Nd} (h:256<t.length):dp t=5:=by unfold dp; rw [if_pos h]
theorem B7:dp []=4:=by simp [dp]
theorem AY {t:List Nd} (h:¬ 256<t.length) (h0:t≠[]) (hw:kV t≠0):dp t=kV t:=by unfold dp; rw [if_neg h,if_neg h0,if_pos hw]
theorem B5 {t:List Nd} {n:Nd} {k:Nat} (h:¬ 256<t.length) (h0:t≠[]) (hw:kV t=0) (hn:t[t.length - 1]?=some n) (hk:n.kind=k):dp t=if k=3 then 4 else 0:=by
 unfold dp
 rw [if_neg h,if_neg h0,if_neg (by rw [hw]; decide),List.getLast?_eq_getElem?,hn,← hk]
 simp
theorem gJ (t:List Nd):(t.map Nd.any).map dv=t.map du:=by rw [List.map_map]; rfl
theorem Ao {t:List Nd} (h:∀ n∈t,aL n):∀ a∈t.map Nd.any,AF a:=by
 intro a ha w
 obtain ⟨n,hn,rfl⟩:=List.mem_map.1 ha
 rw [ft (h n hn)]
 exact mY n (h n hn) w
theorem oy (t:List Nd) (ta:Option Addr) (tc:Nat) (w:World) (ht:bi w ta 11 (t.map du)) (htl:t.length≤1000) (hgood:∀ n∈t,aL n) :
  Calls prog 24 #[.slice ta t.length tc] w fun e w'=>e=.returned (.int .i64 (dp t))∧Below w.heap.size w w':=by
 have:=bW (t.map Nd.any) ta tc w (by rw [gJ]; exact ht) (by rw [List.length_map]; exact htl) (Ao hgood)
 rw [List.length_map,gm hgood] at this
 exact this
set_option maxRecDepth 100000
set_option maxHeartbeats 4000000
def kY (L:List UInt8) (w:World) (e:Ending) (w':World):Prop :=
 ∃ v,e=.returned (.tuple #[v,.int .i64 (bo L).2.1,.int .i64 (bo L).2.2])∧w'.ownsRow w.heap.size 39 11 v (bo L).1.length (de (bo L).1)∧Below w.heap.size w w'
theorem an.rebase {w0 w1 w:World} {ps:List aS} {e:TypeId} {size n:Nat} {v:Value} {xs:List Value} (h:an w1 ps e size v n xs w) (hb:Below w0.heap.size w0 w1):an w0 ps e size v n xs w :=
 ⟨⟨hb.trans (h.ok.bel.mono hb.size),h.ok.all⟩,h.own.mono hb.size,h.far⟩
theorem oW {α:Type} (f:α→List Value) (s:Nat) (hf:∀ x,(f x).length=s):∀ (l:List α) (i:Nat) (x:α),l[i]?=some x→∀ (j:Nat) (v:Value),(f x)[j]?=some v→(l.flatMap f)[i * s+j]?=some v
 | [],i,x,h,_,_,_=>by simp at h
 | y::l,0,x,h,j,v,hj=>by
  simp at h
  subst h
  rw [List.flatMap_cons,Nat.zero_mul,Nat.zero_add,List.getElem?_append_left (by have:=(List.getElem?_eq_some_iff.1 hj).1; exact this)]
  exact hj
 | y::l,i+1,x,h,j,v,hj=>by
  have h9:=oW f s hf l i x (by simpa using h) j v hj
  rw [List.flatMap_cons,List.getElem?_append_right (by rw [hf,Nat.add_mul]; omega),hf,show (i+1) * s+j - s=i * s+j by rw [Nat.add_mul]; omega]
  exact h9
theorem jV {α:Type} (f:α→List Value) {s:Nat} (hf:∀ x,(f x).length=s) {w:World} {base n:Nat} {e:TypeId} {v:Value} {l:List α} (h:w.ownsRow base e s v n (l.flatMap f)) (hn:n=l.length):∃ a c,v=.slice a l.length c∧l.length≤c∧c≤9223372036854775807∧bi w a s (l.map f):=by
 subst hn
 have hc:=@World.ownsRow.cells _ _ _ _ _ _ _ h
 have hlt:=h.lt
 rcases h.2 with ⟨rfl,h0⟩ | ⟨g,cap,cur,rfl,h4,h5,h6,h7,h8,h9⟩
 ·refine ⟨none,0,by rw [h0],by omega,by omega,fun hne => ?_⟩
  rw [List.length_eq_zero_iff.1 h0] at hne
  exact absurd rfl hne
 refine ⟨_,cap,rfl,h6,by unfold maxLen at h7; omega,fun _=>⟨g,0,rfl,(hlt g rfl).2,fun i r hi j v hj => ?_⟩⟩
 rw [List.getElem?_map] at hi
 obtain ⟨x,hx,rfl⟩:=Option.map_eq_some_iff.1 hi
 have h10:=hc rfl _ v (oW f s hf l i x hx j v hj)
 rw [show (⟨g,0,none⟩:Addr).add (i * s+j)=⟨g,0+(i * s+j),none⟩ by unfold Addr.add; split <;> simp_all] at h10
 exact h10
theorem vq {w:World} {base:Nat} {v:Value} {ts:List Tk} (h:w.ownsRow base 97 8 v ts.length (eU ts)):∃ a c,v=.slice a ts.length c∧gI w a c ts:=by
 obtain ⟨a,c,h1,h2,h3,h4⟩:=jV bN (fun _=>rfl) h rfl
 refine ⟨a,c,h1,h2,h3,fun hne => ?_⟩
 obtain ⟨b,z,h5,h6,h7⟩:=h4 (by simpa using hne)
 exact ⟨b,z,h5,h6,fun i t hi j v hj=>h7 i (bN t) (by rw [List.getElem?_map,hi]; rfl) j v hj⟩
theorem form_nil {L:List UInt8} {w w':World} {a e:Int} (h:bo L=([],a,e)) (hb:Below w.heap.size w w'):kY L w (.returned (.tuple #[.slice none 0 0,.int .i64 a,.int .i64 e])) w':=by
 refine ⟨.slice none 0 0,by rw [h],?_,hb⟩
 rw [h]
 exact World.ownsRow_nil _ _ _ _
theorem km (s:ByteArray) (w:World) (hs:s.size≤4611686018427387904) (hw:Words w) :
  Calls prog 31 #[.string s] w (kY s.data.toList w):=by
 have HW:=keep hw
 clear hw
 have H1:=Lib.hid ((((Ok.start w).var w.heap.size 22 [.slice none 0 0] rfl).var (w.heap.size+1) 3 [.int .i64 0] (by simp)).var (w.heap.size+1+1) 24 [.int .i64 0] (by simp))
 go_enter_defers func31,ntmps31
 go_wp2_with fail
 generalize (((w.alloc (.cells #[.slice none 0 0] 22)).alloc (.cells #[.int .i64 0] 3)).alloc (.cells #[.int .i64 0] 24))=W1 at H1 ⊢
 obtain ⟨T,hT⟩:=ex (aM s.data.toList)
 have HTT:=keep hT
 refine (nQ s W1 hs (HW.out.below H1.out.bel)).mono ?_
 rintro e w2 ⟨tv,rfl,hown,hb⟩
 rw [hT] at hown ⊢
 clear hT
 obtain ⟨ts,ta,te⟩:=T
 simp only [] at hown ⊢
 have HOR:=Lib.hid (an.of_new H1.out hb hown)
 have HLT:=keep (show w.heap.size+1+1<W1.heap.size from (H1.out.get (af (w.heap.size+1+1) 24 [.int .i64 0]) (by simp)).lt)
 clear hb hown
 have F:=sR HOR
 go_upto_region 2 with fail
 clear F
 have HOS:=Lib.hid (((((HOR.out.drop [af (w.heap.size+1) 3 [.int .i64 0],af w.heap.size 22 [.slice none 0 0],af (w.heap.size+1+1) 24 [.int .i64 0]] (by simp)).set_ (i:=0) (u:=.int .i64 ta) (by omega) (by simp [af] <;> omega)).drop
  [af (w.heap.size+1+1) 24 [.int .i64 0],af w.heap.size 22 [.slice none 0 0],af (w.heap.size+1) 3 [.int .i64 ta]] (by simp)).set_ (i:=0) (u:=.int .i64 te) (by omega) (by simp [af] <;> omega)).drop
  [af w.heap.size 22 [.slice none 0 0],af (w.heap.size+1) 3 [.int .i64 ta],af (w.heap.size+1+1) 24 [.int .i64 te]] (by simp))
 clear HOR H1
 generalize ((w2.setCell ⟨w.heap.size+1,0,none⟩ (.int .i64 ta)).setCell ⟨w.heap.size+1+1,0,none⟩ (.int .i64 te))=w3 at HOS ⊢
 have F:=HOS.out.ok.sees
 simp only [sees,af,aa] at F
 obtain ⟨⟨⟨z0,f0⟩,c0,-⟩,⟨⟨z1,f1⟩,c1,-⟩,⟨⟨z2,f2⟩,c2,-⟩,-⟩:=F
 by_cases hte:te=0
 ·subst hte
  obtain ⟨hta0,h256,hpl,hlex⟩:=fZ HTT.out
  subst hta0
  have HGT:=keep (fJ HTT.out)
  have hls:s.data.toList.length=s.size:=Array.length_toList
  have hsz:s.size≤256:=by omega
  have hts:ts.length≤256:=Nat.le_trans hlex.len h256
  obtain ⟨r,hr,hform⟩:=oX HTT.out
  rw [hls] at hform
  unfold rS at hr
  rw [hls] at hr
  have HF:=keep hform
  have HRR:=keep hr
  obtain ⟨la,c,rfl,HTK⟩:=vq HOS.out.own
  have HP:=Lib.hid HOS.out.ok
  have HST:=Lib.hid (show St w3 [af w.heap.size 22 [.slice none 0 0],af (w.heap.size+1) 3 [.int .i64 0],af (w.heap.size+1+1) 24 [.int .i64 0]] w3.heap.size s.size ts [] (w3.alloc (.cells #[.slice la ts.length c,.int .i64 s.size,.slice none 0 0] 95)) from
   ⟨Nat.le_refl _,fun x hx=>x.new _ _ (Nat.le_refl _) (HOS.out.ok.all x hx),la,c,.slice none 0 0,HTK,an.start ((⟨Below.refl _ _,HOS.out.ok.all⟩:Ok w3 _ w3).var w3.heap.size 95 [.slice la ts.length c,.int .i64 s.size,.slice none 0 0] rfl) _ _⟩)
  clear HTK hform hr hlex hpl h256 hls HOS
  have hmf:∀ (fn:Fn) (first cap:Array Value) (w:World),(Instr.makeFunc fn first cap).run prog w=.ok (.func fn first cap) w:=fun _ _ _ _=>rfl
  go_wp2_with fail
  clear hmf
  generalize (w3.alloc (.cells #[.slice la ts.length c,.int .i64 s.size,.slice none 0 0] 95))=w4 at HST ⊢
  clear z0 f0 c0 z1 f1 c1 z2 f2 c2
  have HC:=keep (sO _ w3 _ w3.heap.size s.size (.lv 1) ts r [] w4 HRR.out (by rw [List.length_nil]; omega) HST.out (by omega) (by omega))
  obtain ⟨pb,hpb⟩:=ex (w3.heap.size)
  rw [hpb] at HST HC ⊢
  clear hpb
  refine (eA w3 _ pb s.size (cB [] r) w4 HC.out).mono ?_
  clear HC
  cases r with
  | bad fa fc =>
   rintro e w5 hp9
   obtain ⟨rfl,hb⟩:Bad (fa:Nat) fc w3 e w5:=hp9
   have HQ:=Lib.hid (HP.out.below hb)
   clear hb HST
   have HF2:=keep (show bo s.data.toList=([],(fa:Int),fc) from HF.out)
   go_wp2_with fail
   refine leaves_cons (f:=62) (args:=#[.pointer (some ⟨w.heap.size,0,none⟩),.pointer (some ⟨w.heap.size+1,0,none⟩),.pointer (some ⟨w.heap.size+1+1,0,none⟩)]) (by simp) (by simp [go_sem]) ?_
   refine (iI w _ _ _ _ _ _ _ _ _ (Nat.le_refl _) (by omega) (by omega) (by omega) (by omega) (by omega) (HQ.out)).mono ?_
   rintro e u' w9 ⟨rfl,rfl,hok⟩
   have HE:=Lib.hid hok
   clear hok
   have F:=HE.out.sees
   simp only [sees,af,aa] at F
   obtain ⟨⟨-,r0,-⟩,⟨-,r1,-⟩,⟨-,r2,-⟩,-⟩:=F
   simp [Leaves,settle,results,results31,go_sem,r0,r1,r2]
   exact form_nil HF2.out HE.out.bel
  | ok u ns n =>
   rintro e w5 hp9
   obtain ⟨rfl,hst⟩:pB (.tuple #[]) w3 [af w.heap.size 22 [.slice none 0 0],af (w.heap.size+1) 3 [.int .i64 0],af (w.heap.size+1+1) 24 [.int .i64 0]] pb s.size u ([]++ns) e w5:=hp9
   rw [List.nil_append] at hst
   have HS5:=Lib.hid hst
   have HPK:=keep (bZ _ _ _ _ _ _ HRR.out)
   have hnl:ns.length≤256:=by have:=aE _ _ _ _ _ _ HRR.out; omega
   have HGN:=keep (HPK.out.good trivial HGT.out)
   have HGU:=keep (fun t ht=>HGT.out t (HPK.out.sub t ht):∀ t∈u,okT t=true)
   clear hst HST HRR
   have F:=HS5.out.sees
   obtain ⟨zp,-⟩:=F
   go_wp2_with fail
   obtain ⟨⟨hk,hnn,htt,⟨r1,r2,r3,r4⟩,hat⟩,hth⟩:∃ t,hdS s.size u=t:=⟨_,rfl⟩
   have HTH:=keep hth
   have HHK:=keep (show hkS u=hk by rw [← dd s.size,hth])
   refine (aX w3 _ pb s.size u ns _ HS5.out).mono ?_
   rintro e w6 ⟨rfl,hb⟩
   rw [hth]
   have HS6:=Lib.hid (HS5.out.below hb)
   clear hb HS5 hth zp
   have F:=HS6.out.sees
   obtain ⟨zp,-⟩:=F
   simp only [tkA]
   have HS7:=Lib.hid (HS6.out.alloc 97 [.int .u8 (hk:Nat),.int .i64 hnn,.string ⟨htt.toArray⟩,.int .i64 r1,.int .i64 r2,.int .i64 r3,.int .i64 r4,.int .i64 hat])
   go_upto_region 9 with fail
   clear HS6 zp
   generalize (w6.alloc (.cells #[.int .u8 (hk:Nat),.int .i64 hnn,.string ⟨htt.toArray⟩,.int .i64 r1,.int .i64 r2,.int .i64 r3,.int .i64 r4,.int .i64 hat] 97))=w7 at HS7 ⊢
   obtain ⟨t8,ht8⟩:=ex (w6.heap.size)
   rw [ht8] at HS7 ⊢
   clear ht8
   have F:=HS7.out.sees
   simp only [sees,ac,af,aa,Nat.reduceAdd] at F
   obtain ⟨zp,⟨z8,k0,k1,k2,k3,k4,k5,k6,k7,-⟩,-⟩:=F
   by_cases hk0:hk=0
   ·subst hk0
    have HU:=keep (show u=[] from Classical.byContradiction fun e9=>absurd HHK.out ((rA HGU.out).2 e9))
    obtain ⟨-,-,la',c',ov,-,hO⟩:=HS7.out
    obtain ⟨na,nc,rfl,-,-,hrows⟩:=jV du (fun _=>rfl) hO.own rfl
    have HO:=Lib.hid (hO.rebase HP.out.bel)
    have HRW:=keep hrows
    clear hO hrows HS7
    have F:=HO.out.ok.sees
    simp only [sees,ac,af,aa,Nat.reduceAdd] at F
    obtain ⟨⟨⟨y0,-⟩,y1,y2,y3,-⟩,-⟩:=F
    go_wp2_with fail
    refine (oy ns na nc w7 HRW.out (by omega) HGN.out).mono ?_
    rintro e w8 ⟨rfl,hb⟩
    obtain ⟨E,hE⟩:=ex (dp ns)
    rw [hE]
    have HEE:=keep hE
    have HO8:=Lib.hid (HO.out.below hb)
    clear hE hb HO zp z8 k0 k1 k2 k3 k4 k5 k6 k7 y0 y1 y2 y3
    have F:=HO8.out.ok.sees
    simp only [sees,ac,af,aa,Nat.reduceAdd] at F
    obtain ⟨⟨⟨y0,-⟩,y1,y2,y3,-⟩,-,⟨⟨z0,f0⟩,c0,-⟩,⟨⟨z1,f1⟩,c1,-⟩,⟨⟨z2,f2⟩,c2,-⟩,-⟩:=F
    by_cases hE0:E=0
    ·subst hE0
     have HF2:=keep (show bo s.data.toList=(ns,0,0) by
      rw [HF.out]
      simp only [kB]
      rw [HU.out,if_neg (by simp [hkS]),HEE.out,if_neg (by decide)])
     have HE:=Lib.hid ((((((HO8.out.drop [af w.heap.size 22 [.slice none 0 0],af (w.heap.size+1) 3 [.int .i64 0],af (w.heap.size+1+1) 24 [.int .i64 0]] (by simp)).set_ (i:=0) (u:=.slice na ns.length nc) (by omega) (by simp [af] <;> omega)).drop
    [af (w.heap.size+1) 3 [.int .i64 0],af w.heap.size 22 [.slice na ns.length nc],af (w.heap.size+1+1) 24 [.int .i64 0]] (by simp)).set_ (i:=0) (u:=.int .i64 0) (by omega) (by simp [af] <;> omega)).drop
    [af (w.heap.size+1+1) 24 [.int .i64 0],af w.heap.size 22 [.slice na ns.length nc],af (w.heap.size+1) 3 [.int .i64 0]] (by simp)).set_ (i:=0) (u:=.int .i64 0) (by omega) (by simp [af] <;> omega))
     clear HO8
     go_wp2_with fail
     generalize (((w8.setCell ⟨w.heap.size,0,none⟩ (.slice na ns.length nc)).setCell ⟨w.heap.size+1,0,none⟩ (.int .i64 0)).setCell ⟨w.heap.size+1+1,0,none⟩ (.int .i64 0))=w9 at HE ⊢
     have F:=HE.out.ok.sees
     simp only [sees,af,aa] at F
     obtain ⟨⟨-,r2,-⟩,⟨-,r0,-⟩,⟨-,r1,-⟩,-⟩:=F
     refine leaves_cons (f:=62) (args:=#[.pointer (some ⟨w.heap.size,0,none⟩),.pointer (some ⟨w.heap.size+1,0,none⟩),.pointer (some ⟨w.heap.size+1+1,0,none⟩)]) (by simp) (by simp [go_sem]) ?_
     refine (jj _ _ _ _).mono ?_
     rintro e u' w10 ⟨rfl,rfl,rfl⟩
     simp [Leaves,settle,results,results31,go_sem,r0,r1,r2]
     exact ⟨_,by rw [HF2.out],by rw [HF2.out]; exact HE.out.own,HE.out.ok.bel⟩
    ·have hEb:(E != 0)=true:=by simpa using hE0
     have HF2:=keep (show bo s.data.toList=([],0,E) by
      rw [HF.out]
      simp only [kB]
      rw [HU.out,if_neg (by simp [hkS]),if_pos (by rw [HEE.out]; exact hE0),HEE.out])
     have HE:=Lib.hid ((((((HO8.out.drop [af w.heap.size 22 [.slice none 0 0],af (w.heap.size+1) 3 [.int .i64 0],af (w.heap.size+1+1) 24 [.int .i64 0]] (by simp)).set_ (i:=0) (u:=.slice none 0 0) (by omega) (by simp [af] <;> omega)).drop
    [af (w.heap.size+1) 3 [.int .i64 0],af w.heap.size 22 [.slice none 0 0],af (w.heap.size+1+1) 24 [.int .i64 0]] (by simp)).set_ (i:=0) (u:=.int .i64 0) (by omega) (by simp [af] <;> omega)).drop
    [af (w.heap.size+1+1) 24 [.int .i64 0],af w.heap.size 22 [.slice none 0 0],af (w.heap.size+1) 3 [.int .i64 0]] (by simp)).set_ (i:=0) (u:=.int .i64 E) (by omega) (by simp [af] <;> omega))
     clear HO8 hE0
     go_wp2_with fail
     generalize (((w8.setCell ⟨w.heap.size,0,none⟩ (.slice none 0 0)).setCell ⟨w.heap.size+1,0,none⟩ (.int .i64 0)).setCell ⟨w.heap.size+1+1,0,none⟩ (.int .i64 E))=w9 at HE ⊢
     have F:=HE.out.ok.sees
     simp only [sees,af,aa] at F
     obtain ⟨⟨-,r2,-⟩,⟨-,r0,-⟩,⟨-,r1,-⟩,-⟩:=F
     refine leaves_cons (f:=62) (args:=#[.pointer (some ⟨w.heap.size,0,none⟩),.pointer (some ⟨w.heap.size+1,0,none⟩),.pointer (some ⟨w.heap.size+1+1,0,none⟩)]) (by simp) (by simp [go_sem]) ?_
     refine (jj _ _ _ _).mono ?_
     rintro e u' w10 ⟨rfl,rfl,rfl⟩
     simp [Leaves,settle,results,results31,go_sem,r0,r1,r2]
     exact form_nil HF2.out HE.out.ok.bel
   have hkb:((hk:Int) != 0)=true:=by simp; omega
   have HF2:=keep (show bo s.data.toList=([],(hat:Int),4) by
    rw [HF.out]
    simp only [kB]
    rw [HHK.out,if_pos hk0,HTH.out])
   clear hk0
   go_wp2_with fail
   refine (dO w3 pb _ _ _ HS7.out.bel).mono ?_
   rintro e w8 ⟨rfl,hb⟩
   have HQ:=Lib.hid (HP.out.below hb)
   clear hb HS7 zp z8 k0 k1 k2 k3 k4 k5 k6 k7
   go_wp2_with fail
   refine leaves_cons (f:=62) (args:=#[.pointer (some ⟨w.heap.size,0,none⟩),.pointer (some ⟨w.heap.size+1,0,none⟩),.pointer (some ⟨w.heap.size+1+1,0,none⟩)]) (by simp) (by simp [go_sem]) ?_
   refine (iI w _ _ _ _ _ _ _ _ _ (Nat.le_refl _) (by omega) (by omega) (by omega) (by omega) (by omega) (HQ.out)).mono ?_
   rintro e u' w9 ⟨rfl,rfl,hok⟩
   have HE:=Lib.hid hok
   clear hok
   have F:=HE.out.sees
   simp only [sees,af,aa] at F
   obtain ⟨⟨-,r0,-⟩,⟨-,r1,-⟩,⟨-,r2,-⟩,-⟩:=F
   simp [Leaves,settle,results,results31,go_sem,r0,r1,r2]
   exact form_nil HF2.out HE.out.bel
 have hteb:(te != 0)=true:=by simpa using hte
 have HF:=keep (mg HTT.out hte)
 have HE:=Lib.hid (((((((HOS.out.ok.set_ (i:=0) (u:=.slice none 0 0) (by omega) (by simp [af] <;> omega)).drop
  [af (w.heap.size+1) 3 [.int .i64 ta],af w.heap.size 22 [.slice none 0 0],af (w.heap.size+1+1) 24 [.int .i64 te]] (by simp)).set_ (i:=0) (u:=.int .i64 ta) (by omega) (by simp [af] <;> omega)).drop
  [af (w.heap.size+1+1) 24 [.int .i64 te],af w.heap.size 22 [.slice none 0 0],af (w.heap.size+1) 3 [.int .i64 ta]] (by simp)).set_ (i:=0) (u:=.int .i64 te) (by omega) (by simp [af] <;> omega)).drop
  [af w.heap.size 22 [.slice none 0 0],af (w.heap.size+1) 3 [.int .i64 ta],af (w.heap.size+1+1) 24 [.int .i64 te]] (by simp)).drew)
 clear hte
 go_upto_region 3 with fail
 go_region
 all_goals go_wp2_with fail
 have F:=HE.out.sees
 simp only [sees,af,aa] at F
 obtain ⟨⟨-,r0,-⟩,⟨-,r1,-⟩,⟨-,r2,-⟩,-⟩:=F
 all_goals
  simp [bodyPostD,Leaves,results,results31,go_sem,r0,r1,r2]
 all_goals exact form_nil HF.out HE.out.bel
open Go.RowKit
theorem nY (l:List UInt8):(l.flatMap bS).length≤2 * l.length:=by
 induction l with
 | nil=>exact Nat.le_refl _
 | cons b l ih =>
  rw [List.flatMap_cons,List.length_append,List.length_cons]
  have:(bS b).length≤2:=by unfold bS; split <;> simp
  omega
theorem nZ (l:List UInt8):(dr l).length≤2 * l.length+2:=by
 unfold dr
 rw [List.length_cons,List.length_append]
 have:=nY l
 have e:([34]:List UInt8).length=1:=rfl
 omega
theorem mQ (r:R4):(jT r).length≤6100:=by
 unfold jT
 rw [List.length_append]
 have h1:=dL r.c1 r.r1
 have h2:=dL r.c2 r.r2
 split
 ·simp; omega
 simp; omega
theorem qf (fn:Nat) (h1:1≤fn) (h50:fn≤50):(az fn).length≤20:=by
 have key:∀ k:Fin 50,(az (k.1+1)).length≤20:=by decide +kernel
 have:=key ⟨fn - 1,by omega⟩
 simpa only [show fn - 1+1=fn by omega] using this
theorem mC {n:Nd} (h:aL n) (hn:n.vn≤9223372036854775807):(cU n).length≤7000:=by
 rcases h with ⟨vk,vn,vt,rfl,hv⟩ | ⟨r,rfl,_⟩ | ⟨r,rfl,_⟩ | rfl | rfl | ⟨op,rfl,_⟩ | ⟨fn,k,rfl,h1,h2,_⟩
 ·have hn:vn≤9223372036854775807:=hn
  rcases hv with ⟨rfl,h0,rfl⟩ | ⟨rfl,h0,rfl⟩ | ⟨rfl,rfl,hl,-⟩ | ⟨rfl,⟨h1,h5⟩,rfl⟩
  ·have:=l6 vn (by omega) hn
   show (cD vn).length≤7000
   omega
  ·rcases h0 with rfl | rfl <;> decide
  ·have:=nZ vt
   show (dr vt).length≤7000
   omega
  have h:vn=1∨vn=2∨vn=3∨vn=4∨vn=5:=by omega
  rcases h with rfl | rfl | rfl | rfl | rfl <;> decide
 ·have:=mQ r
  show (jT r).length≤7000
  omega
 ·have:=mQ r
  show (jT r).length≤7000
  omega
 ·decide
 ·decide
 ·have:=nU op
  show (fA op).length≤7000
  omega
 have:=qf fn h1 h2
 show (az fn).length≤7000
 omega
def fH (xs:List Tx):Nat:=(xs.map fun x=>x.1.length+3).sum
theorem ie (a b:List Tx):fH (a++b)=fH a+fH b:=by unfold fH; rw [List.map_append,List.sum_append]
theorem dc (x:Tx) (b:List Tx):fH (x::b)=x.1.length+3+fH b:=by unfold fH; rw [List.map_cons,List.sum_cons]
theorem eP (l:Nat) (x:Tx):(opT l x).length≤x.1.length+2:=by
 unfold opT
 split
 ·omega
 simp
theorem ly:∀ xs:List Tx,(jnT xs).length≤fH xs
 | []=>Nat.zero_le _
 | [x]=>by rw [dc]; show x.1.length≤_; omega
 | x::y::r=>by
  have:=ly (y::r)
  rw [dc]
  show (x.1++44::jnT (y::r)).length≤_
  rw [List.length_append,List.length_cons]
  omega
theorem jD {n:Nd} (h4:n.kind≠4) (h5:n.kind≠5):cU n=fb n:=by unfold cU; rw [if_neg h4,if_neg h5]
theorem qZ {n:Nd} (h:aL n) (hn:n.vn≤9223372036854775807) (xs:List Tx):(gn n xs).1.length+3≤8000+fH xs:=by
 have ho:=mC h hn
 have e0:(xs.getD 0 ([],8)).1.length+(xs.getD 1 ([],8)).1.length≤fH xs:=by
  match xs with
  | []=>exact Nat.le_refl _
  | [x]=>rw [dc]; show x.1.length+0≤_; omega
  | x::y::r=>rw [dc,dc]; show x.1.length+y.1.length≤_; omega
 unfold gn
 by_cases h4:n.kind=4
 ·simp only [h4,Nat.reduceEqDiff,if_false,if_true,List.length_cons]
  have:=eP 5 (xs.getD 0 ([],8))
  omega
 by_cases h5:n.kind=5
 ·simp only [h5,Nat.reduceEqDiff,if_false,if_true,List.length_append]
  have:=eP 7 (xs.getD 0 ([],8))
  simp
  simp at this e0
  omega
 rw [jD h4 h5] at ho
 by_cases h1:n.kind=1
 ·rw [if_pos h1]; show (fb n).length+3≤_; omega
 rw [if_neg h1]
 by_cases h2:n.kind=2
 ·rw [if_pos h2]; show (fb n).length+3≤_; omega
 rw [if_neg h2]
 by_cases h3:n.kind=3
 ·rw [if_pos h3]; show (fb n).length+3≤_; omega
 rw [if_neg h3,if_neg h4,if_neg h5]
 by_cases h6:n.kind=6
 ·rw [if_pos h6]
  by_cases ho5:n.op=5
  ·rw [if_pos ho5]
   show (opT 7 _++(fb n++opT 5 _)).length+3≤_
   rw [List.length_append,List.length_append]
   have a1:=eP 7 (xs.getD 0 ([],8))
   have a2:=eP 5 (xs.getD 1 ([],8))
   omega
  rw [if_neg ho5]
  show (opT (aT n.op) _++(fb n++opT (aT n.op+1) _)).length+3≤_
  rw [List.length_append,List.length_append]
  have a1:=eP (aT n.op) (xs.getD 0 ([],8))
  have a2:=eP (aT n.op+1) (xs.getD 1 ([],8))
  omega
 rw [if_neg h6]
 show (fb n++40::(jnT xs++[41])).length+3≤_
 have:=ly xs
 simp only [List.length_append,List.length_cons,List.length_nil]
 omega
theorem sh (t:List Nd) (hg:∀ n∈t,aL n∧n.vn≤9223372036854775807):∀ i,i≤t.length→fH (txW (t.take i) [])≤8000 * i:=by
 intro i
 induction i with
 | zero=>intro _; exact Nat.le_refl _
 | succ i ih =>
  intro hi
  have:=ih (by omega)
  rw [List.take_succ_eq_append_getElem (by omega),eG,ie]
  have hn:=hg (t[i]'(by omega)) (List.getElem_mem _)
  have hc:=qZ hn.1 hn.2 ((txW (t.take i) []).drop ((txW (t.take i) []).length - aw (t[i]'(by omega))))
  have hs : fH (txW (t.take i) []) = fH ((txW (t.take i) []).take ((txW (t.take i) []).length - aw (t[i]'(by omega)))) + fH ((txW (t.take i) []).drop ((txW (t.take i) []).length - aw (t[i]'(by omega)))):=by rw [← ie,List.take_append_drop]
  rw [dc]
  have h0:fH []=0:=rfl
  omega
theorem oD (t:List Nd) (hg:∀ n∈t,aL n∧n.vn≤9223372036854775807) (i:Nat) (hi:i<t.length):(aR t i).1.length≤8000 * t.length:=by
 have h:=sh t hg (i+1) (by omega)
 unfold aR
 rw [List.take_succ_eq_append_getElem hi,eG,ie,dc] at h
 rw [List.take_succ_eq_append_getElem hi,eG]
 rw [List.getLast?_append]
 simp only [List.getLast?_singleton,Option.some_or,Option.getD_some]
 have:8000 * (i+1)≤8000 * t.length:=Nat.mul_le_mul_left _ hi
 omega
set_option maxRecDepth 100000
theorem BO (s:ByteArray) (w:World) (hs:s.size≤4611686018427387904) :
  Calls prog 130 #[.string s] w fun e w'=>e=.returned (.bool (s.data.toList.all aj))∧w'=w:=by
 have HSL:=keep (show s.data.toList.length=s.size by rw [Array.length_toList]; rfl)
 obtain ⟨p,hp⟩:=ex (s.data.toList.all aj)
 rw [hp]
 have HPP:=keep hp
 clear hp
 go_enter func130,ntmps130
 go_wp2_with fail
 go_loopw [3] (fun iv wr=>∃ k:Nat,k≤s.size∧iv=.int .i64 (k:Int)∧ao (∀ b∈s.data.toList.take k,aj b=true)∧wr=w) (fun iv _=>s.size - (intOf iv).toNat)
 case atStart=>exact ⟨0,Nat.zero_le _,rfl,keep (by simp),rfl⟩
 case round =>
  obtain ⟨k,hk,rfl,HP,hwr⟩:=hrel
  obtain rfl:w=wr:=hwr.symm
  by_cases hlt:(k:Int)<s.size
  ·have hks:k<s.size:=by omega
   have hno : aj (s[k]'hks) = false → p = false:=fun h => by
    rw [← HPP.out,List.all_eq_false]
    refine ⟨s[k]'hks,?_,by rw [h]; decide⟩
    show s.data.toList[k]'(by rw [HSL.out]; exact hks) ∈ _
    exact List.getElem_mem _
   rcases (show (((s[k]'hks).toNat : Int) < 32) ∨ (32 ≤ ((s[k]'hks).toNat : Int) ∧ 126 < ((s[k]'hks).toNat : Int)) ∨ (32 ≤ ((s[k]'hks).toNat : Int) ∧ ((s[k]'hks).toNat : Int) ≤ 126) by omega) with h1 | ⟨h1,h2⟩ | ⟨h1,h2⟩
   ·have HB:=keep (hno (by unfold aj; simp; omega))
    clear hno
    go_wp2_with fail
    go_ret
    exact ⟨by rw [HB.out]; rfl,rfl⟩
   ·have HB:=keep (hno (by unfold aj; simp; omega))
    clear hno
    go_wp2_with fail
    go_ret
    exact ⟨by rw [HB.out]; rfl,rfl⟩
   have HB:=keep (show ∀ b∈s.data.toList.take (k+1),aj b=true by
    intro b hb
    rw [List.take_succ_eq_append_getElem (by rw [HSL.out]; exact hks)] at hb
    rcases List.mem_append.1 hb with hb | hb
    ·exact HP.out b hb
    simp at hb
    subst hb
    show aj (s[k]'hks) = true
    unfold aj
    simp; omega)
   clear hno
   go_wp2_with fail
   go_roundw
   case rel=>exact ⟨k+1,by omega,by go_num,HB,by first | trivial | rfl⟩
   case measure=>simp [intOf]; omega
  obtain rfl:k=s.size:=by omega
  have HA:=keep (show p=true by
   rw [← HPP.out,List.all_eq_true]
   exact fun b hb=>HP.out b (by rw [← HSL.out,List.take_length]; exact hb))
  go_wp2_with fail
  go_ret
  exact ⟨by rw [HA.out]; rfl,rfl⟩
theorem Bp (t:List UInt8) (w:World) (h:t.length≤256) (hp:t.all aj=true) :
  Calls prog 75 #[.string ⟨t.toArray⟩] w fun e w'=>e=.returned (.int .i64 0)∧w'=w:=by
 obtain ⟨s,hs⟩:∃ s:ByteArray,s=⟨t.toArray⟩:=⟨_,rfl⟩
 have hsz:s.size≤256:=by subst hs; show t.toArray.size≤256; simpa using h
 have hal:s.data.toList.all aj=true:=by subst hs; exact hp
 rw [← hs]
 clear hs h hp
 have HP:=keep (BO s w (by omega))
 rw [hal] at HP
 clear hal
 have hi:¬ (s.size:Int)>256:=by omega
 go_enter func75,ntmps75
 go_wp2_with fail
 refine (HP.out).mono ?_
 rintro e w1 ⟨rfl,hw⟩
 obtain rfl:w=w1:=hw.symm
 go_wp2_with fail
 go_ret
 exact ⟨rfl,rfl⟩
