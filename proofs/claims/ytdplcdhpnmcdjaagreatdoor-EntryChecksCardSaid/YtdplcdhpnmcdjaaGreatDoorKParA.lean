/- Plain: the number that the reference's Parse (louvreref01) builds place by place, against parD. No program stands here. The parser's object: what it holds, and the contracts of its small methods. -/
import Derived.Test.YtdplcdhpnmcdjaaGreatDoorKLexG
import Derived.Test.YtdplcdhpnmcdjaaGreatDoorKTg
import Derived.Test.YtdplcdhpnmcdjaaGreatDoorKRefA
import Derived.Test.YtdplcdhpnmcdjaaGreatDoorKLexN
import Derived.Test.YtdplcdhpnmcdjaaGreatDoorKParP
import Derived.Deep.DeepCutAuto
namespace Go.Proofs.YtdplcdhpnmcdjaaGreatDoor
open Go.RowKit
def gN (f P i:Nat):Nat:=if i≤P then i - f else i - f - 1
def nq (l:List UInt8) (i:Nat):Nat:=(l[i]?.getD 48).toNat - 48
def gA (D:List UInt8) (f P i:Nat):Nat:=cz (D.take (gN f P i))
def gX (w p:List UInt8):List UInt8:=w++(p++ik).take 4
theorem o9 (w p:List UInt8):(gX w p).length=w.length+4:=by
 unfold gX ik
 rw [List.length_append,List.length_take,List.length_append]
 simp only [List.length_cons,List.length_nil]
 omega
theorem qi (D:List UInt8) (f P:Nat) (h:f≤P):gA D f P f=0:=by
 unfold gA gN
 rw [if_pos h,Nat.sub_self]; rfl
theorem qh (D:List UInt8) (f P:Nat) (h:f≤P):gA D f P (P+1)=gA D f P P:=by
 unfold gA gN
 rw [if_neg (by omega),if_pos (Nat.le_refl _),show P+1 - f - 1=P - f by omega]
theorem wR (D:List UInt8) (f P i:Nat):gA D f P i≤cz D:=by
 unfold gA
 have:=vw (D.take (gN f P i)) (D.drop (gN f P i))
 rwa [List.take_append_drop] at this
theorem uY (w p:List UInt8) (f:Nat):gA (gX w p) f (f+w.length) (f+w.length+5)=cz (gX w p):=by
 unfold gA gN
 rw [if_neg (by omega),List.take_of_length_le (by rw [o9]; omega)]
theorem rM {l s w z p:List UInt8} {f i:Nat} (hl:l=s++(w++z)) (hs:s.length=f) (hz:z=[]∧p=[]∨z=46::p) (h1:f≤i) (h2:i<f+w.length+5) (h3:i≠f+w.length) :
  gA (gX w p) f (f+w.length) (i+1)=10 * gA (gX w p) f (f+w.length) i+nq l i:=by
 have hk:gN f (f+w.length) (i+1)=gN f (f+w.length) i+1:=by
  unfold gN
  by_cases h:i<f+w.length
  ·rw [if_pos (by omega),if_pos (by omega)]; omega
  rw [if_neg (by omega),if_neg (by omega)]; omega
 have hlt:gN f (f+w.length) i<(gX w p).length:=by
  rw [o9]
  unfold gN
  split <;> omega
 unfold gA
 rw [hk,f7 _ _ hlt]
 congr 1
 have e:(gX w p)[gN f (f+w.length) i]?=some (l[i]?.getD 48):=by
  subst hl
  rw [List.getElem?_append_right (by omega),hs]
  unfold gX
  by_cases h:i<f+w.length
  ·have hc:gN f (f+w.length) i=i - f:=if_pos (by omega)
   rw [hc,List.getElem?_append_left (by omega),List.getElem?_append_left (by omega),List.getElem?_eq_getElem (by omega)]
   rfl
  have hc:gN f (f+w.length) i=i - f - 1:=if_neg (by omega)
  rw [hc,List.getElem?_append_right (by omega),List.getElem?_append_right (by omega),List.getElem?_take_of_lt (by omega)]
  obtain ⟨j,hj⟩:=ex (i - f - 1 - w.length)
  rw [hj,show i - f - w.length=j+1 by omega]
  have hj4:j<4:=by omega
  have hzj:z[j+1]?=p[j]?:=by
   rcases hz with ⟨rfl,rfl⟩ | rfl
   ·rfl
   rw [List.getElem?_cons_succ]
  rw [hzj]
  by_cases hp:j<p.length
  ·rw [List.getElem?_append_left hp,List.getElem?_eq_getElem hp]; rfl
  rw [List.getElem?_append_right (by omega),List.getElem?_eq_none (by omega:p.length≤j)]
  have key:∀ q:Fin 5,ik[q.1]?=some 48:=by decide
  exact key ⟨j - p.length,by omega⟩
 rw [List.getElem?_eq_getElem hlt] at e
 rw [Option.some.inj e]; rfl
theorem yD {l s w z p:List UInt8} {f:Nat} (hl:l=s++(w++z)) (hs:s.length=f) (hz:z=[]∧p=[]∨z=46::p) :
  upD p=decide (53≤(l[f+w.length+5]?.getD 48).toNat):=by
 subst hl
 unfold upD
 rw [List.getElem?_append_right (by omega),hs,List.getElem?_append_right (by omega),show f+w.length+5 - f - w.length=4+1 by omega]
 have hzj:z[4+1]?=p[4]?:=by
  rcases hz with ⟨rfl,rfl⟩ | rfl
  ·rfl
  rw [List.getElem?_cons_succ]
 rw [hzj,List.getD_eq_getElem?_getD]
 by_cases hp:4<p.length
 ·rw [List.getElem?_append_left hp]
  rw [List.getElem?_eq_getElem hp]; rfl
 rw [List.getElem?_append_right (by omega),List.getElem?_eq_none (by omega:p.length≤4)]
 have key:∀ q:Fin 5,ik[q.1]?.getD 0=48:=by decide
 rw [key ⟨4 - p.length,by omega⟩]; rfl
theorem wZ {l s w z p:List UInt8} {M:Nat} (hl:l=s++(w++z)) (hs:(l.head?=some 45∧s=[45])∨(l.head?≠some 45∧s=[])) (hw:w.all ah=true) (hz:z=[]∧p=[]∨(z=46::p∧p≠[]∧p.all ah=true)) (hne:w≠[]) (hM:it w p=M) :
  cx l=if M≤aD then ((if l.head?=some 45 then -(M:Int) else M),0) else (0,3):=by
 have hu:bT l=w++z:=by
  unfold bT
  rcases hs with ⟨h,rfl⟩ | ⟨h,rfl⟩
  ·rw [if_pos h,hl]; rfl
  rw [if_neg h,hl]; rfl
 have hst:stops ah z=true:=by
  rcases hz with ⟨rfl,-⟩ | ⟨rfl,-,-⟩ <;> rfl
 obtain ⟨h1,h2⟩:=cg ah w z (fun b hb=>List.all_eq_true.1 hw b hb) hst
 have hp:jI ((bT l).dropWhile ah)=some p:=by
  rw [hu,h2]
  rcases hz with ⟨rfl,rfl⟩ | ⟨rfl,h3,h4⟩
  ·rfl
  exact if_pos ⟨rfl,h3,h4⟩
 have hq:(bT l).takeWhile ah=w:=by rw [hu,h1]
 rw [pa (by rw [hq]; exact hne) hp,hq,hM]
set_option maxHeartbeats 1000000
open Go.RowKit Go.Proofs.Tryz
def du (n:Nd):List Value:=[.int .u8 n.kind,.int .u8 n.vk,.int .i64 n.vn,.string ⟨n.vt.toArray⟩,.int .i64 n.r.c1,.int .i64 n.r.r1,.int .i64 n.r.c2,.int .i64 n.r.r2,.int .i64 n.op,.int .u8 n.fn,.int .i64 (n.n:Nat)]
def de (l:List Nd):List Value:=l.flatMap du
theorem gU (l:List Nd) (n:Nd):de (l++[n])=de l++du n:=by simp [de]
theorem iO (l:List Nd):(de l).length=l.length * 11:=by
 induction l with
 | nil=>rfl
 | cons n l ih=>simp only [de,List.flatMap_cons,List.length_append,List.length_cons] at ih ⊢; rw [ih]; simp [du]; omega
structure gI (w:World) (a:Option Addr) (c:Nat) (ts:List Tk):Prop where
 le:ts.length≤c
 cap:c≤9223372036854775807
 at_:ts≠[]→∃ b o,a=some ⟨b,o,none⟩∧b<w.heap.size∧∀ i t,ts[i]?=some t→∀ j v,(bN t)[j]?=some v→w.cell? ⟨b,o+(i * 8+j),none⟩=some v
theorem gI.last (w:World) (a:Option Addr):gI w a 0 []:=⟨Nat.le_refl _,Nat.zero_le _,fun h=>absurd rfl h⟩
theorem gI.next {w:World} {b o c:Nat} {t:Tk} {ts:List Tk} (h:gI w (some ⟨b,o,none⟩) c (t::ts)):gI w (some ⟨b,o+8,none⟩) (c - 1) ts:=by
 refine ⟨by have:=h.le; simp at this; omega,by have:=h.cap; omega,fun _ => ?_⟩
 obtain ⟨b',o',e,hb,hc⟩:=h.at_ (by simp)
 simp at e
 obtain ⟨rfl,rfl⟩:=e
 refine ⟨b,o+8,rfl,hb,fun i u hi j v hj => ?_⟩
 have:=hc (i+1) u (by simpa using hi) j v hj
 rw [show o+8+(i * 8+j)=o+((i+1) * 8+j) by omega]
 exact this
theorem an.set_ {w0 w:World} {ps:List aS} {e:TypeId} {size n b i:Nat} {t:TypeId} {cs xs:List Value} {u v:Value} (h:an w0 (af b t cs::ps) e size v n xs w) (hb:w0.heap.size≤b) (hf:∀ x∈ps,x.far (some b)) :
  an w0 (af b t (cs.set i u)::ps) e size v n xs (w.setCell ⟨b,i,none⟩ u):=by
 have hne:some b≠v.ownBlock:=h.far _ (List.mem_cons_self ..)
 refine ⟨h.ok.set_ hb hf,h.own.kept (my b i u) ?_,fun x hx => ?_⟩
 ·cases hv:v.ownBlock with
  | none=>exact .inl rfl
  | some k =>
   right
   intro e9
   exact hne (by rw [hv]; exact e9.symm)
 rcases List.mem_cons.1 hx with rfl | hx
 ·exact hne
 exact h.far x (List.mem_cons_of_mem _ hx)
def St (w1:World) (ps:List aS) (pb en:Nat) (ts:List Tk) (ns:List Nd) (w:World):Prop :=
 w1.heap.size≤pb∧(∀ x∈ps,x.far (some pb))∧∃ la c ov,gI w1 la c ts∧an w1 (af pb 95 [.slice la ts.length c,.int .i64 (en:Int),ov]::ps) 39 11 ov ns.length (de ns) w
section
variable {w1 w w':World} {ps:List aS} {pb en:Nat} {ts:List Tk} {ns:List Nd}
theorem St.below (h:St w1 ps pb en ts ns w) (hb:Below w.heap.size w w'):St w1 ps pb en ts ns w':=by
 obtain ⟨h1,h2,la,c,ov,h3,h4⟩:=h
 exact ⟨h1,h2,la,c,ov,h3,h4.below hb⟩
theorem an.swap {w0:World} {x y:aS} {ps:List aS} {e:TypeId} {size n:Nat} {v:Value} {xs:List Value} (h:an w0 (x::y::ps) e size v n xs w):an w0 (y::x::ps) e size v n xs w :=
 h.drop _ (by intro z hz; simp at hz ⊢; rcases hz with h | h | h <;> simp [h])
theorem St.alloc (h:St w1 ps pb en ts ns w) (t:TypeId) (cs:List Value):St w1 (ac w.heap.size t cs::ps) pb en ts ns (w.alloc (.cells cs.toArray t)):=by
 obtain ⟨h1,h2,la,c,ov,h3,h4⟩:=h
 have hlt:pb<w.heap.size:=by
  have:=h4.ok.sees
  exact this.1.1.1
 refine ⟨h1,fun x hx => ?_,la,c,ov,h3,(h4.alloc w.heap.size t cs rfl).swap⟩
 rcases List.mem_cons.1 hx with rfl | hx
 ·show some w.heap.size≠some pb
  simp; omega
 exact h2 x hx
theorem St.alloc_obj (h:St w1 ps pb en ts ns w) (o:Obj):St w1 ps pb en ts ns (w.alloc o):=h.below ((Below.refl _ _).alloc (Nat.le_refl _) _)
theorem St.tail {x:aS} (h:St w1 (x::ps) pb en ts ns w):St w1 ps pb en ts ns w:=by
 obtain ⟨h1,h2,la,c,ov,h3,h4⟩:=h
 exact ⟨h1,fun y hy=>h2 y (List.mem_cons_of_mem _ hy),la,c,ov,h3,h4.drop _ (by intro z hz; simp at hz ⊢; rcases hz with h | h <;> simp [h])⟩
theorem St.drop (h:St w1 ps pb en ts ns w) (qs:List aS) (hq:∀ x∈qs,x∈ps):St w1 qs pb en ts ns w:=by
 obtain ⟨h1,h2,la,c,ov,h3,h4⟩:=h
 exact ⟨h1,fun y hy=>h2 y (hq y hy),la,c,ov,h3,h4.drop _ (by intro z hz; simp at hz ⊢; rcases hz with h | h; exact .inl h; exact .inr (hq _ h))⟩
theorem St.sees (h:St w1 ps pb en ts ns w):pb<w.heap.size∧Go.Proofs.YtdplcdhpnmcdjaaGreatDoor.sees ps w:=by
 obtain ⟨h1,h2,la,c,ov,h3,h4⟩:=h
 have:=h4.ok.sees
 exact ⟨this.1.1.1,this.2⟩
theorem St.bel (h:St w1 ps pb en ts ns w):Below w1.heap.size w1 w:=by
 obtain ⟨h1,h2,la,c,ov,h3,h4⟩:=h
 exact h4.ok.bel
theorem St.lt (h:St w1 ps pb en ts ns w):pb<w.heap.size:=h.sees.1
end
theorem p8:(prog.info? 39).map (fun i=>(i.zero,i.size,i.bytes))=some (some (.agg #[.int .u8 0,.int .u8 0,.int .i64 0,.string ⟨#[]⟩,.int .i64 0,.int .i64 0,.int .i64 0,.int .i64 0,.int .i64 0,.int .u8 0,.int .i64 0]),11,96):=by kernel_rfl
def ndA (n:Nd):Value:=.agg (du n).toArray
def pB (v:Value) (w1:World) (ps:List aS) (pb en:Nat) (ts:List Tk) (ns:List Nd) (e:Ending) (w':World):Prop:=e=.returned v∧St w1 ps pb en ts ns w'
theorem aX (w1:World) (ps:List aS) (pb en:Nat) (ts:List Tk) (ns:List Nd) (w:World) (h:St w1 ps pb en ts ns w) :
  Calls prog 64 #[.pointer (some ⟨pb,0,none⟩)] w fun e w'=>e=.returned (tkA (hdS en ts))∧Below w.heap.size w w':=by
 obtain ⟨-,-,la,c,ov,hT,hO⟩:=h
 have F0:=hO.ok.sees
 simp only [sees,af,aa,Nat.reduceAdd] at F0
 obtain ⟨⟨⟨hp0,-⟩,p0,p1,p2,-⟩,-⟩:=F0
 cases ts with
 | nil =>
  have HP:=Lib.hid ((Ok.start w).add (ae pb 0 [.slice la 0 c,.int .i64 (en:Int),ov]) ⟨hp0,p0,p1,p2,trivial⟩)
  clear hO hT p0 p1 p2 hp0
  go_enter func64,ntmps64
  go_upto_region 1 with fail
  have H1:=Lib.hid (HP.out.var w.heap.size 97 [.int .u8 0,.int .i64 0,.string ⟨#[]⟩,.int .i64 0,.int .i64 0,.int .i64 0,.int .i64 0,.int .i64 0] rfl)
  clear HP
  generalize (w.alloc (.cells #[.int .u8 0,.int .i64 0,.string ⟨#[]⟩,.int .i64 0,.int .i64 0,.int .i64 0,.int .i64 0,.int .i64 0] 97))=W2 at H1 ⊢
  have F3:=sE H1
  go_wp2_with fail
  have hK:=H1.out.get (af (w.heap.size) 97 [.int .u8 0,.int .i64 0,.string ⟨#[]⟩,.int .i64 0,.int .i64 0,.int .i64 0,.int .i64 0,.int .i64 0]) (by simp)
  have hB:=H1.out.bel
  have hE:=(((((((((show Blk W2 (w.heap.size) 97 _ from hK).set_ 0 (.int .u8 0)).set_ 1 (.int .i64 0)).set_ 2 (.string ⟨#[]⟩)).set_ 3 (.int .i64 0)).set_ 4 (.int .i64 0)).set_ 5 (.int .i64 0)).set_ 6 (.int .i64 0)).set_ 7 (.int .i64 (en:Int)))
  refine bodyPost_ret (v:=.agg #[.int .u8 0,.int .i64 0,.string ⟨#[]⟩,.int .i64 0,.int .i64 0,.int .i64 0,.int .i64 0,.int .i64 (en:Int)]) (by simp [results,results64,go_sem,hE.cell]) rfl ⟨rfl,(sC (sC (sC (sC (sC (sC (sC (sC hB _) _) _) _) _) _) _) _)⟩
 | cons t ts =>
  obtain ⟨tk,tn,tt,⟨t1,t2,t3,t4⟩,ta⟩:=t
  obtain ⟨b,o,rfl,hb,hc⟩:=hT.at_ (by simp)
  have hbl:=hO.ok.bel
  have hbw:b<w.heap.size:=Nat.lt_of_lt_of_le hb hbl.size
  have hcw:ag w b o 0 (bN ⟨tk,tn,tt,⟨t1,t2,t3,t4⟩,ta⟩):=by
   have key:∀ j v,(bN ⟨tk,tn,tt,⟨t1,t2,t3,t4⟩,ta⟩)[j]?=some v→w.cell? ⟨b,o+j,none⟩=some v:=by
    intro j v hj
    have h9:=hc 0 _ rfl j v hj
    rw [Nat.zero_mul,Nat.zero_add] at h9
    exact (hbl.cell hb).trans h9
   exact ⟨key 0 _ rfl,key 1 _ rfl,key 2 _ rfl,key 3 _ rfl,key 4 _ rfl,key 5 _ rfl,key 6 _ rfl,key 7 _ rfl,trivial⟩
  have HP:=Lib.hid (((Ok.start w).add (ae pb 0 [.slice (some ⟨b,o,none⟩) (ts.length+1) c,.int .i64 (en:Int),ov]) ⟨hp0,p0,p1,p2,trivial⟩).add (ae b o (bN ⟨tk,tn,tt,⟨t1,t2,t3,t4⟩,ta⟩)) ⟨hbw,hcw⟩)
  clear hO hT p0 p1 p2 hp0 hc hcw hbw hb hbl
  have HP2:Hid (Ok w [ae b o [.int .u8 tk,.int .i64 tn,.string ⟨tt.toArray⟩,.int .i64 t1,.int .i64 t2,.int .i64 t3,.int .i64 t4,.int .i64 ta],ae pb 0 [.slice (some ⟨b,o,none⟩) (ts.length+1) c,.int .i64 (en:Int),ov]] w):=HP
  clear HP
  go_enter func64,ntmps64
  go_upto_region 1 with fail
  have H1:=Lib.hid (HP2.out.var w.heap.size 97 [.int .u8 0,.int .i64 0,.string ⟨#[]⟩,.int .i64 0,.int .i64 0,.int .i64 0,.int .i64 0,.int .i64 0] rfl)
  clear HP2
  generalize (w.alloc (.cells #[.int .u8 0,.int .i64 0,.string ⟨#[]⟩,.int .i64 0,.int .i64 0,.int .i64 0,.int .i64 0,.int .i64 0] 97))=W2 at H1 ⊢
  have F3:=sE H1
  have hne:¬ ((ts.length:Int)+1=0):=by omega
  go_wp2_with fail
  have hK:=H1.out.get (af (w.heap.size) 97 [.int .u8 0,.int .i64 0,.string ⟨#[]⟩,.int .i64 0,.int .i64 0,.int .i64 0,.int .i64 0,.int .i64 0]) (by simp)
  have hB:=H1.out.bel
  have hE:=(((((((((show Blk W2 (w.heap.size) 97 _ from hK).set_ 0 (.int .u8 tk)).set_ 1 (.int .i64 tn)).set_ 2 (.string ⟨tt.toArray⟩)).set_ 3 (.int .i64 t1)).set_ 4 (.int .i64 t2)).set_ 5 (.int .i64 t3)).set_ 6 (.int .i64 t4)).set_ 7 (.int .i64 ta))
  refine bodyPost_ret (v:=.agg #[.int .u8 tk,.int .i64 tn,.string ⟨tt.toArray⟩,.int .i64 t1,.int .i64 t2,.int .i64 t3,.int .i64 t4,.int .i64 ta]) (by simp [results,results64,go_sem,hE.cell]) rfl ⟨rfl,(sC (sC (sC (sC (sC (sC (sC (sC hB _) _) _) _) _) _) _) _)⟩
theorem bF (w1:World) (ps:List aS) (pb en:Nat) (t:Tk) (ts:List Tk) (ns:List Nd) (w:World) (h:St w1 ps pb en (t::ts) ns w) :
  Calls prog 169 #[.pointer (some ⟨pb,0,none⟩)] w (pB (.tuple #[]) w1 ps pb en ts ns):=by
 obtain ⟨h1,h2,la,c,ov,hT,hO⟩:=h
 have F0:=hO.ok.sees
 simp only [sees,af,aa,Nat.reduceAdd] at F0
 obtain ⟨⟨⟨hp0,hpf⟩,p0,p1,p2,-⟩,-⟩:=F0
 obtain ⟨b,o,rfl,hb,hc⟩:=hT.at_ (by simp)
 have hle:=hT.le
 have hcap:=hT.cap
 simp only [List.length_cons] at hle p0
 have HO:=Lib.hid hO
 have HT:=keep hT
 have H2:=keep h2
 clear hO hT h2 hc
 by_cases hc1:c=1
 ·subst hc1
  obtain rfl:ts=[]:=List.length_eq_zero_iff.1 (by omega)
  go_enter func169,ntmps169
  go_wp2_with fail
  first
   | go_end0
   | refine bodyPost_ret (results_none rfl _ _ _) rfl ?_
  exact ⟨rfl,h1,H2.out,_,0,ov,gI.last _ _,HO.out.set_ (i:=0) h1 H2.out⟩
 have hc2:1<c:=by omega
 have hc3:¬ 1=c:=by omega
 have HN:=keep (gI.next HT.out)
 clear hc1
 go_enter func169,ntmps169
 go_wp2_with fail
 first
  | go_end0
  | refine bodyPost_ret (results_none rfl _ _ _) rfl ?_
 exact ⟨rfl,h1,H2.out,_,c - 1,ov,HN.out,HO.out.set_ (i:=0) h1 H2.out⟩
