/- Plain: the nodes of an accepted list of tokens are such as a formula may hold. The reference's fits. -/
import Derived.Test.YtdplcdhpnmcdjaaGreatDoorFParK
import Derived.Test.YtdplcdhpnmcdjaaGreatDoorFLexP
import Derived.Test.YtdplcdhpnmcdjaaGreatDoorFTreA
import Derived.Test.YtdplcdhpnmcdjaaGreatDoorFParE
import Derived.Test.YtdplcdhpnmcdjaaGreatDoorFTg
namespace Go.Proofs.YtdplcdhpnmcdjaaGreatDoor
open Go.RowKit
theorem nm {t:Tk} {n:Int} {x:List UInt8} {r:R4} (h:dB { t with num:=n,text:=x,r:=r }=true):n=0∧x=[]∧r=R4.zero:=by
 obtain ⟨a,b,c,d⟩:=r
 simp only [dB,Bool.and_eq_true,decide_eq_true_eq,List.isEmpty_iff] at h
 obtain ⟨⟨h1,h2⟩,h3,h4,h5,h6⟩:=h
 subst h1 h2 h3 h4 h5 h6
 exact ⟨rfl,rfl,rfl⟩
theorem ys {t:Tk} (h:okT t=true):1≤t.kind∧t.kind≤11:=by
 unfold okT at h
 repeat' split at h
 all_goals first | omega | (simp only [Bool.and_eq_true,decide_eq_true_eq] at h; omega)
theorem AF {t:Tk} (h:okT t=true) (h1:1≤t.kind) (h4:t.kind≤4):aJ (fx t):=by
 obtain ⟨k,n,x,r,a⟩:=t
 simp only [] at h1 h4
 have hk:k=1∨k=2∨k=3∨k=4:=by omega
 unfold okT at h
 rcases hk with rfl | rfl | rfl | rfl
 ·simp only [if_true,Bool.and_eq_true,decide_eq_true_eq] at h
  obtain ⟨h2,h3⟩:=h
  obtain ⟨-,rfl,-⟩:=nm (t:=⟨1,n,x,r,a⟩) h3
  exact .inl ⟨1,n,[],rfl,.inl ⟨rfl,h2,rfl⟩⟩
 ·simp only [Nat.reduceEqDiff,if_false,if_true,Bool.and_eq_true,decide_eq_true_eq] at h
  obtain ⟨⟨⟨h2,h3⟩,-⟩,h5⟩:=h
  exact .inl ⟨3,0,x,rfl,.inr (.inr (.inl ⟨rfl,rfl,h3,h2⟩))⟩
 ·simp only [Nat.reduceEqDiff,if_false,if_true,Bool.and_eq_true,decide_eq_true_eq] at h
  obtain ⟨h2,h3⟩:=h
  obtain ⟨-,rfl,-⟩:=nm (t:=⟨3,n,x,r,a⟩) h3
  exact .inl ⟨2,n,[],rfl,.inr (.inl ⟨rfl,h2,rfl⟩)⟩
 simp only [Nat.reduceEqDiff,if_false,if_true,Bool.and_eq_true,decide_eq_true_eq] at h
 obtain ⟨h2,h3⟩:=h
 obtain ⟨-,rfl,-⟩:=nm (t:=⟨4,n,x,r,a⟩) h3
 exact .inl ⟨4,n,[],rfl,.inr (.inr (.inr ⟨rfl,h2,rfl⟩))⟩
theorem AE {t:Tk} (h:okT t=true) (h5:t.kind=5):aJ (cJ t.r):=by
 obtain ⟨k,n,x,r,a⟩:=t
 simp only [] at h5
 subst h5
 simp only [okT,Nat.reduceEqDiff,if_false,if_true,Bool.and_eq_true,oA,decide_eq_true_eq] at h
 exact .inr (.inl ⟨r,rfl,h.1.1,h.1.2⟩)
theorem ox {t:Tk} (h:okT t=true) (h6:t.kind=6):aJ (aK t.r):=by
 obtain ⟨k,n,x,r,a⟩:=t
 simp only [] at h6
 subst h6
 simp only [okT,Nat.reduceEqDiff,if_false,if_true,Bool.and_eq_true,oA,Bool.not_eq_true',decide_eq_false_iff_not] at h
 exact .inr (.inr (.inl ⟨r,rfl,h.1.1,h.1.2⟩))
theorem Bq {t:Tk} (h:okT t=true) (h8:t.kind=8):1≤t.num∧t.num≤13:=by
 obtain ⟨k,n,x,r,a⟩:=t
 simp only [] at h8
 subst h8
 simp only [okT,Nat.reduceEqDiff,if_false,if_true,Bool.and_eq_true,decide_eq_true_eq] at h
 exact h.1
def okM:Md→Prop
 | .ops k=>k≤4
 | _=>True
theorem Pk.sub {m:Md} {ts u:List Tk} {ns:List Nd} {n:Nat} (h:Pk m ts u ns n):∀ t∈u,t∈ts:=by
 obtain ⟨c,rfl,_⟩:=h.soft
 intro t ht
 simp [ht]
theorem jK {ns:List Nd} {x:Nd} (h:∀ y∈ns,aJ y) (hx:aJ x):∀ y∈ns++[x],aJ y:=by
 intro y hy
 rcases List.mem_append.1 hy with hy | hy
 ·exact h y hy
 simp at hy; subst hy; exact hx
theorem gB {ns ms:List Nd} (h:∀ y∈ns,aJ y) (g:∀ y∈ms,aJ y):∀ y∈ns++ms,aJ y:=by
 intro y hy
 rcases List.mem_append.1 hy with hy | hy
 ·exact h y hy
 exact g y hy
theorem ft {ms:List Nd} {x:Nd} (hx:aJ x) (g:∀ y∈ms,aJ y):∀ y∈x::ms,aJ y:=by
 intro y hy
 rcases List.mem_cons.1 hy with rfl | hy
 ·exact hx
 exact g y hy
theorem nZ {op:Int} (h1:1≤op) (h2:op≤12):aJ (aH op):=.inr (.inr (.inr (.inr (.inr (.inl ⟨op,rfl,h1,h2⟩)))))
theorem uB:aJ ci:=.inr (.inr (.inr (.inl rfl)))
theorem uC:aJ bR:=.inr (.inr (.inr (.inr (.inl rfl))))
theorem Pk.good {m:Md} {ts u:List Tk} {ns:List Nd} {n:Nat} (h:Pk m ts u ns n):okM m→(∀ t∈ts,okT t=true)→∀ x∈ns,aJ x:=by
 induction h with
 | lv5 _ _ ih=>intro _ hg; exact ih trivial hg
 | lv hk h _ ih1 ih2 =>
  intro _ hg
  exact gB (ih1 trivial hg) (ih2 (by simp only [okM]; omega) fun t ht=>hg t (h.sub t ht))
 | nil=>intro _ _; simp
 | stop=>intro _ _; simp
 | @op k t ts u v ns ms n m h8 hk h _ ih1 ih2 =>
  intro hm hg
  simp only [okM] at hm
  have ht:=Bq (hg t (by simp)) h8
  have h13:t.num≠13:=by
   intro e
   rw [e] at hk
   simp [aI] at hk
   omega
  exact gB (ih1 trivial fun t ht=>hg t (by simp [ht])) (ft (nZ ht.1 (by omega)) (ih2 hm fun t ht=>hg t (by simp [h.sub t ht])))
 | neg _ _ _ ih=>intro _ hg; exact jK (ih trivial fun t ht=>hg t (by simp [ht])) uB
 | bare _ _ _ ih=>intro _ hg; exact ih trivial hg
 | pow _ h _ _ _ ih1 ih2 =>
  intro _ hg
  exact gB (ih1 trivial hg) (jK (ih2 trivial fun t ht=>hg t (h.sub t (by simp [ht]))) (nZ (by decide) (by decide)))
 | pc _ ih =>
  intro _ hg
  refine gB (ih trivial hg) fun y hy => ?_
  rw [(List.mem_replicate.1 hy).2]
  exact uC
 | val h1 h4=>intro _ hg; exact ft (AF (hg _ (by simp)) h1 h4) (by simp)
 | ref h5=>intro _ hg; exact ft (AE (hg _ (by simp)) h5) (by simp)
 | par _ _ _ ih=>intro _ hg; exact ih trivial fun t ht=>hg t (by simp [ht])
 | @call t o c ts u ns n h7 hf ho h hc h1 h2 hd ih =>
  intro _ hg
  have:=uA t.text
  refine jK (ih trivial fun t ht=>hg t (by simp [ht])) (.inr (.inr (.inr (.inr (.inr (.inr ⟨_,n,rfl,by omega,this,h1,h2⟩))))))
 | argE _ _ _ ih=>intro _ hg; exact ih trivial hg
 | argC _ h _ _ ih1 ih2=>intro _ hg; exact gB (ih1 trivial hg) (ih2 trivial fun t ht=>hg t (h.sub t (by simp [ht])))
 | rngE h6=>intro _ hg; exact ft (ox (hg _ (by simp)) h6) (by simp)
 | rngC h6 _ _ _ ih=>intro _ hg; exact ft (ox (hg _ (by simp)) h6) (ih trivial fun t ht=>hg t (by simp [ht]))
theorem Lex.len {k:Nat} {u:List UInt8} {l:List Tk} {y:List UInt8} (h:Lex k u l y):l.length≤u.length:=by
 induction h with
 | nil=>simp
 | blank _ ih=>simp; omega
 | tok _ _ ih=>simp; omega
theorem iq {L:List UInt8} {ts:List Tk} {a:Int} (h:aZ L=(ts,a,0)):a=0∧L.length≤256∧(∀ b∈L,ay b=true)∧Lex 0 L ts []:=by
 unfold aZ at h
 split at h
 ·simp at h
 rename_i h256
 split at h
 ·simp at h
 rename_i hf
 split at h
 ·rename_i l hl
  simp only [Prod.mk.injEq,and_true] at h
  obtain ⟨rfl,rfl⟩:=h
  refine ⟨rfl,by omega,?_,(vT _ _ _ _ (Nat.le_refl _)).1 hl⟩
  intro b hb
  have:=List.findIdx?_eq_none_iff.1 hf b hb
  simpa using this
 simp at h
theorem gR {L:List UInt8} {ts:List Tk} {a:Int} (h:aZ L=(ts,a,0)):∀ t∈ts,okT t=true:=by
 obtain ⟨_,h1,h2,h3⟩:=iq h
 exact h3.ok (by simpa using h1) (by simpa using h2)
def mq (e:Nat):Rs→List Nd×Int×Int
 | .bad a c=>([],a,c)
 | .ok u ns _=>if hkS u≠0 then ([],(hdS e u).at_,4) else if dc ns≠0 then ([],0,dc ns) else (ns,0,0)
def vj (l:List UInt8) (ts:List Tk):Option Rs:=ai l.length (12 * ts.length+cd (.lv 1)) (.lv 1) ts
def bT (l:List UInt8):List Nd×Int×Int :=
 if (aZ l).2.2≠0 then ([],(aZ l).2.1,(aZ l).2.2)
 else match vj l (aZ l).1 with
  | none=>([],0,0)
  | some r=>mq l.length r
theorem nX {L:List UInt8} {ts:List Tk} {a e:Int} (h:aZ L=(ts,a,e)) (he:e≠0):bT L=([],a,e):=by
 unfold bT
 rw [h,if_pos he]
theorem rr {L:List UInt8} {ts:List Tk} {a:Int} (h:aZ L=(ts,a,0)):∃ r,vj L ts=some r∧bT L=mq L.length r:=by
 obtain ⟨r,hr⟩:=bX (e:=L.length) (12 * ts.length+cd (.lv 1)) (.lv 1) ts (Nat.le_refl _) (by rintro k ⟨⟩; omega) (by simp)
 refine ⟨r,hr,?_⟩
 unfold bT
 rw [h,if_neg (by simp)]
 simp only [vj,hr]
theorem uD {u:List Tk} (h:∀ t∈u,okT t=true):hkS u≠0↔u≠[]:=by
 cases u with
 | nil=>simp [hkS]
 | cons t u =>
  have:=ys (h t (by simp))
  simp only [hkS,ne_eq,reduceCtorEq,not_false_eq_true,iff_true]
  omega
set_option maxRecDepth 100000
set_option maxHeartbeats 4000000
open Go.RowKit Go.Proofs.Tryz
def qa (p:Nd) (i k:Nat):Bool:=if p.kind≠7 then decide (k≠3) else if 46≤p.fn then decide (k=3∨k=2) else (decide (k≠3) || bZ p.fn i)
theorem mE (p n:Nd) (i:Nat) (w:World) :
  Calls prog 194 #[ndA p,.int .i64 (i:Nat),ndA n] w fun e w'=>e=.returned (.bool (qa p i n.kind))∧Below w.heap.size w w':=by
 obtain ⟨pk,pvk,pvn,pvt,⟨p1,p2,p3,p4⟩,pop,pfn,pn⟩:=p
 obtain ⟨nk,nvk,nvn,nvt,⟨n1,n2,n3,n4⟩,nop,nfn,nn⟩:=n
 unfold ndA bj
 simp only []
 obtain ⟨R,hR⟩:=ex (qa ⟨pk,pvk,pvn,pvt,⟨p1,p2,p3,p4⟩,pop,pfn,pn⟩ i nk)
 rw [hR]
 unfold qa at hR
 simp only [] at hR
 have HR:=keep hR
 clear hR
 by_cases h7:pk≠7
 ·by_cases h3:nk=3
  ·have hR:=HR.out
   rw [if_pos h7,decide_eq_false (by omega)] at hR
   subst hR
   clear HR
   subst h3
   have e7:((pk:Int) != 7)=true:=by simp; omega
   have H1:=Lib.hid (((Ok.start w).alloc w.heap.size 39 [.int .u8 pk,.int .u8 pvk,.int .i64 pvn,.string ⟨pvt.toArray⟩,.int .i64 p1,.int .i64 p2,.int .i64 p3,.int .i64 p4,.int .i64 pop,.int .u8 pfn,.int .i64 (pn:Nat)] rfl).alloc (w.heap.size+1) 39 [.int .u8 3,.int .u8 nvk,.int .i64 nvn,.string ⟨nvt.toArray⟩,.int .i64 n1,.int .i64 n2,.int .i64 n3,.int .i64 n4,.int .i64 nop,.int .u8 nfn,.int .i64 (nn:Nat)] (by simp))
   go_enter func194,ntmps194
   go_wp2_with fail
   generalize ((w.alloc (.cells #[.int .u8 pk,.int .u8 pvk,.int .i64 pvn,.string ⟨pvt.toArray⟩,.int .i64 p1,.int .i64 p2,.int .i64 p3,.int .i64 p4,.int .i64 pop,.int .u8 pfn,.int .i64 (pn:Nat)] 39)).alloc (.cells #[.int .u8 3,.int .u8 nvk,.int .i64 nvn,.string ⟨nvt.toArray⟩,.int .i64 n1,.int .i64 n2,.int .i64 n3,.int .i64 n4,.int .i64 nop,.int .u8 nfn,.int .i64 (nn:Nat)] 39))=W2 at H1 ⊢
   go_ret
   exact ⟨by first | rfl | simp,H1.out.bel⟩
  have hR:=HR.out
  rw [if_pos h7,decide_eq_true h3] at hR
  subst hR
  clear HR
  have e7:((pk:Int) != 7)=true:=by simp; omega
  have e3:((nk:Int) != 3)=true:=by simp; omega
  have H1:=Lib.hid (((Ok.start w).alloc w.heap.size 39 [.int .u8 pk,.int .u8 pvk,.int .i64 pvn,.string ⟨pvt.toArray⟩,.int .i64 p1,.int .i64 p2,.int .i64 p3,.int .i64 p4,.int .i64 pop,.int .u8 pfn,.int .i64 (pn:Nat)] rfl).alloc (w.heap.size+1) 39 [.int .u8 nk,.int .u8 nvk,.int .i64 nvn,.string ⟨nvt.toArray⟩,.int .i64 n1,.int .i64 n2,.int .i64 n3,.int .i64 n4,.int .i64 nop,.int .u8 nfn,.int .i64 (nn:Nat)] (by simp))
  go_enter func194,ntmps194
  go_wp2_with fail
  generalize ((w.alloc (.cells #[.int .u8 pk,.int .u8 pvk,.int .i64 pvn,.string ⟨pvt.toArray⟩,.int .i64 p1,.int .i64 p2,.int .i64 p3,.int .i64 p4,.int .i64 pop,.int .u8 pfn,.int .i64 (pn:Nat)] 39)).alloc (.cells #[.int .u8 nk,.int .u8 nvk,.int .i64 nvn,.string ⟨nvt.toArray⟩,.int .i64 n1,.int .i64 n2,.int .i64 n3,.int .i64 n4,.int .i64 nop,.int .u8 nfn,.int .i64 (nn:Nat)] 39))=W2 at H1 ⊢
  go_ret
  exact ⟨by first | rfl | simp,H1.out.bel⟩
 by_cases h46:46≤pfn
 ·by_cases h3:nk=3
  ·have hR:=HR.out
   rw [if_neg h7,if_pos h46,decide_eq_true (.inl h3)] at hR
   subst hR
   clear HR
   obtain rfl:pk=7:=by omega
   subst h3
   have e46:(46:Int)≤(pfn:Int):=by omega
   have H1:=Lib.hid (((Ok.start w).alloc w.heap.size 39 [.int .u8 7,.int .u8 pvk,.int .i64 pvn,.string ⟨pvt.toArray⟩,.int .i64 p1,.int .i64 p2,.int .i64 p3,.int .i64 p4,.int .i64 pop,.int .u8 pfn,.int .i64 (pn:Nat)] rfl).alloc (w.heap.size+1) 39 [.int .u8 3,.int .u8 nvk,.int .i64 nvn,.string ⟨nvt.toArray⟩,.int .i64 n1,.int .i64 n2,.int .i64 n3,.int .i64 n4,.int .i64 nop,.int .u8 nfn,.int .i64 (nn:Nat)] (by simp))
   go_enter func194,ntmps194
   go_wp2_with fail
   generalize ((w.alloc (.cells #[.int .u8 7,.int .u8 pvk,.int .i64 pvn,.string ⟨pvt.toArray⟩,.int .i64 p1,.int .i64 p2,.int .i64 p3,.int .i64 p4,.int .i64 pop,.int .u8 pfn,.int .i64 (pn:Nat)] 39)).alloc (.cells #[.int .u8 3,.int .u8 nvk,.int .i64 nvn,.string ⟨nvt.toArray⟩,.int .i64 n1,.int .i64 n2,.int .i64 n3,.int .i64 n4,.int .i64 nop,.int .u8 nfn,.int .i64 (nn:Nat)] 39))=W2 at H1 ⊢
   go_ret
   exact ⟨by first | rfl | simp,H1.out.bel⟩
  by_cases h2:nk=2
  ·have hR:=HR.out
   rw [if_neg h7,if_pos h46,decide_eq_true (.inr h2)] at hR
   subst hR
   clear HR
   obtain rfl:pk=7:=by omega
   subst h2
   have e46:(46:Int)≤(pfn:Int):=by omega
   have H1:=Lib.hid (((Ok.start w).alloc w.heap.size 39 [.int .u8 7,.int .u8 pvk,.int .i64 pvn,.string ⟨pvt.toArray⟩,.int .i64 p1,.int .i64 p2,.int .i64 p3,.int .i64 p4,.int .i64 pop,.int .u8 pfn,.int .i64 (pn:Nat)] rfl).alloc (w.heap.size+1) 39 [.int .u8 2,.int .u8 nvk,.int .i64 nvn,.string ⟨nvt.toArray⟩,.int .i64 n1,.int .i64 n2,.int .i64 n3,.int .i64 n4,.int .i64 nop,.int .u8 nfn,.int .i64 (nn:Nat)] (by simp))
   go_enter func194,ntmps194
   go_wp2_with fail
   generalize ((w.alloc (.cells #[.int .u8 7,.int .u8 pvk,.int .i64 pvn,.string ⟨pvt.toArray⟩,.int .i64 p1,.int .i64 p2,.int .i64 p3,.int .i64 p4,.int .i64 pop,.int .u8 pfn,.int .i64 (pn:Nat)] 39)).alloc (.cells #[.int .u8 2,.int .u8 nvk,.int .i64 nvn,.string ⟨nvt.toArray⟩,.int .i64 n1,.int .i64 n2,.int .i64 n3,.int .i64 n4,.int .i64 nop,.int .u8 nfn,.int .i64 (nn:Nat)] 39))=W2 at H1 ⊢
   go_ret
   exact ⟨by first | rfl | simp,H1.out.bel⟩
  have hR:=HR.out
  rw [if_neg h7,if_pos h46,decide_eq_false (by omega)] at hR
  subst hR
  clear HR
  obtain rfl:pk=7:=by omega
  have e46:(46:Int)≤(pfn:Int):=by omega
  have e3:((nk:Int) == 3)=false:=by simp; omega
  have e2:((nk:Int) == 2)=false:=by simp; omega
  have H1:=Lib.hid (((Ok.start w).alloc w.heap.size 39 [.int .u8 7,.int .u8 pvk,.int .i64 pvn,.string ⟨pvt.toArray⟩,.int .i64 p1,.int .i64 p2,.int .i64 p3,.int .i64 p4,.int .i64 pop,.int .u8 pfn,.int .i64 (pn:Nat)] rfl).alloc (w.heap.size+1) 39 [.int .u8 nk,.int .u8 nvk,.int .i64 nvn,.string ⟨nvt.toArray⟩,.int .i64 n1,.int .i64 n2,.int .i64 n3,.int .i64 n4,.int .i64 nop,.int .u8 nfn,.int .i64 (nn:Nat)] (by simp))
  go_enter func194,ntmps194
  go_wp2_with fail
  generalize ((w.alloc (.cells #[.int .u8 7,.int .u8 pvk,.int .i64 pvn,.string ⟨pvt.toArray⟩,.int .i64 p1,.int .i64 p2,.int .i64 p3,.int .i64 p4,.int .i64 pop,.int .u8 pfn,.int .i64 (pn:Nat)] 39)).alloc (.cells #[.int .u8 nk,.int .u8 nvk,.int .i64 nvn,.string ⟨nvt.toArray⟩,.int .i64 n1,.int .i64 n2,.int .i64 n3,.int .i64 n4,.int .i64 nop,.int .u8 nfn,.int .i64 (nn:Nat)] 39))=W2 at H1 ⊢
  go_ret
  exact ⟨by first | rfl | simp,H1.out.bel⟩
 by_cases h3:nk=3
 ·have hR:=HR.out
  rw [if_neg h7,if_neg h46,decide_eq_false (by omega),Bool.false_or] at hR
  subst hR
  clear HR
  obtain rfl:pk=7:=by omega
  subst h3
  have e46:¬ (46:Int)≤(pfn:Int):=by omega
  have H1:=Lib.hid (((Ok.start w).alloc w.heap.size 39 [.int .u8 7,.int .u8 pvk,.int .i64 pvn,.string ⟨pvt.toArray⟩,.int .i64 p1,.int .i64 p2,.int .i64 p3,.int .i64 p4,.int .i64 pop,.int .u8 pfn,.int .i64 (pn:Nat)] rfl).alloc (w.heap.size+1) 39 [.int .u8 3,.int .u8 nvk,.int .i64 nvn,.string ⟨nvt.toArray⟩,.int .i64 n1,.int .i64 n2,.int .i64 n3,.int .i64 n4,.int .i64 nop,.int .u8 nfn,.int .i64 (nn:Nat)] (by simp))
  go_enter func194,ntmps194
  go_wp2_with fail
  generalize ((w.alloc (.cells #[.int .u8 7,.int .u8 pvk,.int .i64 pvn,.string ⟨pvt.toArray⟩,.int .i64 p1,.int .i64 p2,.int .i64 p3,.int .i64 p4,.int .i64 pop,.int .u8 pfn,.int .i64 (pn:Nat)] 39)).alloc (.cells #[.int .u8 3,.int .u8 nvk,.int .i64 nvn,.string ⟨nvt.toArray⟩,.int .i64 n1,.int .i64 n2,.int .i64 n3,.int .i64 n4,.int .i64 nop,.int .u8 nfn,.int .i64 (nn:Nat)] 39))=W2 at H1 ⊢
  refine (yE pfn i _).mono ?_
  rintro e w5 ⟨rfl,hw⟩
  obtain rfl:W2=w5:=hw.symm
  have F3:=sE H1
  go_wp2_with fail
  go_ret
  exact ⟨by first | rfl | simp,H1.out.bel⟩
 have hR:=HR.out
 rw [if_neg h7,if_neg h46,decide_eq_true h3,Bool.true_or] at hR
 subst hR
 clear HR
 obtain rfl:pk=7:=by omega
 have e46:¬ (46:Int)≤(pfn:Int):=by omega
 have e3:((nk:Int) != 3)=true:=by simp; omega
 have H1:=Lib.hid (((Ok.start w).alloc w.heap.size 39 [.int .u8 7,.int .u8 pvk,.int .i64 pvn,.string ⟨pvt.toArray⟩,.int .i64 p1,.int .i64 p2,.int .i64 p3,.int .i64 p4,.int .i64 pop,.int .u8 pfn,.int .i64 (pn:Nat)] rfl).alloc (w.heap.size+1) 39 [.int .u8 nk,.int .u8 nvk,.int .i64 nvn,.string ⟨nvt.toArray⟩,.int .i64 n1,.int .i64 n2,.int .i64 n3,.int .i64 n4,.int .i64 nop,.int .u8 nfn,.int .i64 (nn:Nat)] (by simp))
 go_enter func194,ntmps194
 go_wp2_with fail
 generalize ((w.alloc (.cells #[.int .u8 7,.int .u8 pvk,.int .i64 pvn,.string ⟨pvt.toArray⟩,.int .i64 p1,.int .i64 p2,.int .i64 p3,.int .i64 p4,.int .i64 pop,.int .u8 pfn,.int .i64 (pn:Nat)] 39)).alloc (.cells #[.int .u8 nk,.int .u8 nvk,.int .i64 nvn,.string ⟨nvt.toArray⟩,.int .i64 n1,.int .i64 n2,.int .i64 n3,.int .i64 n4,.int .i64 nop,.int .u8 nfn,.int .i64 (nn:Nat)] 39))=W2 at H1 ⊢
 go_ret
 exact ⟨by first | rfl | simp,H1.out.bel⟩
