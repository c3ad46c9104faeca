/- Plain: the nodes of an accepted list of tokens are such as a formula may hold. The reference's fits. Plain: a formula is parsed, or has its fault at one of its bytes, or at its end. No program stands here. Plain: values and slices of flat types that were handed in: their cells. No program stands here. Towards tree.walk: rows of parts, steps, tree.nothing. -/
import Derived.Test.YthdmpajkacmkdaaGreatDoorGParK
import Derived.Test.YthdmpajkacmkdaaGreatDoorGLexP
import Derived.Test.YthdmpajkacmkdaaGreatDoorGTreA
import Derived.Test.YthdmpajkacmkdaaGreatDoorGParE
import Derived.Test.YthdmpajkacmkdaaGreatDoorGTg
import Derived.Test.YthdmpajkacmkdaaGreatDoorGEqV
import Derived.Deep.Slices
import Derived.ChangeArms
import Derived.IntWalk
namespace Go.Proofs.YthdmpajkacmkdaaGreatDoor
open Go.RowKit
theorem nO {t:Tk} {n:Int} {x:List UInt8} {r:R4} (h:dD { t with num:=n,text:=x,r:=r }=true):n=0∧x=[]∧r=R4.zero:=by
 obtain ⟨a,b,c,d⟩:=r
 simp only [dD,Bool.and_eq_true,decide_eq_true_eq,List.isEmpty_iff] at h
 obtain ⟨⟨h1,h2⟩,h3,h4,h5,h6⟩:=h
 subst h1 h2 h3 h4 h5 h6
 exact ⟨rfl,rfl,rfl⟩
theorem yO {t:Tk} (h:okT t=true):1≤t.kind∧t.kind≤11:=by
 unfold okT at h
 repeat' split at h
 all_goals first | omega | (simp only [Bool.and_eq_true,decide_eq_true_eq] at h; omega)
theorem A7 {t:Tk} (h:okT t=true) (h1:1≤t.kind) (h4:t.kind≤4):aL (fF t):=by
 obtain ⟨k,n,x,r,a⟩:=t
 simp only [] at h1 h4
 have hk:k=1∨k=2∨k=3∨k=4:=by omega
 unfold okT at h
 rcases hk with rfl | rfl | rfl | rfl
 ·simp only [if_true,Bool.and_eq_true,decide_eq_true_eq] at h
  obtain ⟨h2,h3⟩:=h
  obtain ⟨-,rfl,-⟩:=nO (t:=⟨1,n,x,r,a⟩) h3
  exact .inl ⟨1,n,[],rfl,.inl ⟨rfl,h2,rfl⟩⟩
 ·simp only [Nat.reduceEqDiff,if_false,if_true,Bool.and_eq_true,decide_eq_true_eq] at h
  obtain ⟨⟨⟨h2,h3⟩,-⟩,h5⟩:=h
  exact .inl ⟨3,0,x,rfl,.inr (.inr (.inl ⟨rfl,rfl,h3,h2⟩))⟩
 ·simp only [Nat.reduceEqDiff,if_false,if_true,Bool.and_eq_true,decide_eq_true_eq] at h
  obtain ⟨h2,h3⟩:=h
  obtain ⟨-,rfl,-⟩:=nO (t:=⟨3,n,x,r,a⟩) h3
  exact .inl ⟨2,n,[],rfl,.inr (.inl ⟨rfl,h2,rfl⟩)⟩
 simp only [Nat.reduceEqDiff,if_false,if_true,Bool.and_eq_true,decide_eq_true_eq] at h
 obtain ⟨h2,h3⟩:=h
 obtain ⟨-,rfl,-⟩:=nO (t:=⟨4,n,x,r,a⟩) h3
 exact .inl ⟨4,n,[],rfl,.inr (.inr (.inr ⟨rfl,h2,rfl⟩))⟩
theorem A6 {t:Tk} (h:okT t=true) (h5:t.kind=5):aL (cL t.r):=by
 obtain ⟨k,n,x,r,a⟩:=t
 simp only [] at h5
 subst h5
 simp only [okT,Nat.reduceEqDiff,if_false,if_true,Bool.and_eq_true,oU,decide_eq_true_eq] at h
 exact .inr (.inl ⟨r,rfl,h.1.1,h.1.2⟩)
theorem oR {t:Tk} (h:okT t=true) (h6:t.kind=6):aL (aM t.r):=by
 obtain ⟨k,n,x,r,a⟩:=t
 simp only [] at h6
 subst h6
 simp only [okT,Nat.reduceEqDiff,if_false,if_true,Bool.and_eq_true,oU,Bool.not_eq_true',decide_eq_false_iff_not] at h
 exact .inr (.inr (.inl ⟨r,rfl,h.1.1,h.1.2⟩))
theorem BR {t:Tk} (h:okT t=true) (h8:t.kind=8):1≤t.num∧t.num≤13:=by
 obtain ⟨k,n,x,r,a⟩:=t
 simp only [] at h8
 subst h8
 simp only [okT,Nat.reduceEqDiff,if_false,if_true,Bool.and_eq_true,decide_eq_true_eq] at h
 exact h.1
def okM:Md→Prop
 | .ops k=>k≤4
 | _=>True
theorem Pk.sub {m:Md} {ts u:List Tk} {ns:List Nd} {n:Nat} (h:Pk m ts u ns n):∀ t∈u,t∈ts:=by
 obtain ⟨c,rfl,_⟩:=h.soft
 intro t ht
 simp [ht]
theorem j5 {ns:List Nd} {x:Nd} (h:∀ y∈ns,aL y) (hx:aL x):∀ y∈ns++[x],aL y:=by
 intro y hy
 rcases List.mem_append.1 hy with hy | hy
 ·exact h y hy
 simp at hy; subst hy; exact hx
theorem gM {ns ms:List Nd} (h:∀ y∈ns,aL y) (g:∀ y∈ms,aL y):∀ y∈ns++ms,aL y:=by
 intro y hy
 rcases List.mem_append.1 hy with hy | hy
 ·exact h y hy
 exact g y hy
theorem fC {ms:List Nd} {x:Nd} (hx:aL x) (g:∀ y∈ms,aL y):∀ y∈x::ms,aL y:=by
 intro y hy
 rcases List.mem_cons.1 hy with rfl | hy
 ·exact hx
 exact g y hy
theorem oE {op:Int} (h1:1≤op) (h2:op≤12):aL (aI op):=.inr (.inr (.inr (.inr (.inr (.inl ⟨op,rfl,h1,h2⟩)))))
theorem uW:aL ck:=.inr (.inr (.inr (.inl rfl)))
theorem uX:aL bS:=.inr (.inr (.inr (.inr (.inl rfl))))
theorem Pk.good {m:Md} {ts u:List Tk} {ns:List Nd} {n:Nat} (h:Pk m ts u ns n):okM m→(∀ t∈ts,okT t=true)→∀ x∈ns,aL x:=by
 induction h with
 | lv5 _ _ ih=>intro _ hg; exact ih trivial hg
 | lv hk h _ ih1 ih2 =>
  intro _ hg
  exact gM (ih1 trivial hg) (ih2 (by simp only [okM]; omega) fun t ht=>hg t (h.sub t ht))
 | nil=>intro _ _; simp
 | stop=>intro _ _; simp
 | @op k t ts u v ns ms n m h8 hk h _ ih1 ih2 =>
  intro hm hg
  simp only [okM] at hm
  have ht:=BR (hg t (by simp)) h8
  have h13:t.num≠13:=by
   intro e
   rw [e] at hk
   simp [aJ] at hk
   omega
  exact gM (ih1 trivial fun t ht=>hg t (by simp [ht])) (fC (oE ht.1 (by omega)) (ih2 hm fun t ht=>hg t (by simp [h.sub t ht])))
 | neg _ _ _ ih=>intro _ hg; exact j5 (ih trivial fun t ht=>hg t (by simp [ht])) uW
 | bare _ _ _ ih=>intro _ hg; exact ih trivial hg
 | pow _ h _ _ _ ih1 ih2 =>
  intro _ hg
  exact gM (ih1 trivial hg) (j5 (ih2 trivial fun t ht=>hg t (h.sub t (by simp [ht]))) (oE (by decide) (by decide)))
 | pc _ ih =>
  intro _ hg
  refine gM (ih trivial hg) fun y hy => ?_
  rw [(List.mem_replicate.1 hy).2]
  exact uX
 | val h1 h4=>intro _ hg; exact fC (A7 (hg _ (by simp)) h1 h4) (by simp)
 | ref h5=>intro _ hg; exact fC (A6 (hg _ (by simp)) h5) (by simp)
 | par _ _ _ ih=>intro _ hg; exact ih trivial fun t ht=>hg t (by simp [ht])
 | @call t o c ts u ns n h7 hf ho h hc h1 h2 hd ih =>
  intro _ hg
  have:=uV t.text
  refine j5 (ih trivial fun t ht=>hg t (by simp [ht])) (.inr (.inr (.inr (.inr (.inr (.inr ⟨_,n,rfl,by omega,this,h1,h2⟩))))))
 | argE _ _ _ ih=>intro _ hg; exact ih trivial hg
 | argC _ h _ _ ih1 ih2=>intro _ hg; exact gM (ih1 trivial hg) (ih2 trivial fun t ht=>hg t (h.sub t (by simp [ht])))
 | rngE h6=>intro _ hg; exact fC (oR (hg _ (by simp)) h6) (by simp)
 | rngC h6 _ _ _ ih=>intro _ hg; exact fC (oR (hg _ (by simp)) h6) (ih trivial fun t ht=>hg t (by simp [ht]))
theorem Lex.len {k:Nat} {u:List UInt8} {l:List Tk} {y:List UInt8} (h:Lex k u l y):l.length≤u.length:=by
 induction h with
 | nil=>simp
 | blank _ ih=>simp; omega
 | tok _ _ ih=>simp; omega
theorem iH {L:List UInt8} {ts:List Tk} {a:Int} (h:ba L=(ts,a,0)):a=0∧L.length≤256∧(∀ b∈L,aB b=true)∧Lex 0 L ts []:=by
 unfold ba at h
 split at h
 ·simp at h
 rename_i h256
 split at h
 ·simp at h
 rename_i hf
 split at h
 ·rename_i l hl
  simp only [Prod.mk.injEq,and_true] at h
  obtain ⟨rfl,rfl⟩:=h
  refine ⟨rfl,by omega,?_,(wD _ _ _ _ (Nat.le_refl _)).1 hl⟩
  intro b hb
  have:=List.findIdx?_eq_none_iff.1 hf b hb
  simpa using this
 simp at h
theorem ie {L:List UInt8} {ts:List Tk} {a:Int} (h:ba L=(ts,a,0)):∀ t∈ts,okT t=true:=by
 obtain ⟨_,h1,h2,h3⟩:=iH h
 exact h3.ok (by simpa using h1) (by simpa using h2)
def mO (e:Nat):Rs→List Nd×Int×Int
 | .bad a c=>([],a,c)
 | .ok u ns _=>if hkS u≠0 then ([],(hdS e u).at_,4) else if de ns≠0 then ([],0,de ns) else (ns,0,0)
def vL (l:List UInt8) (ts:List Tk):Option Rs:=aj l.length (12 * ts.length+cf (.lv 1)) (.lv 1) ts
def bU (l:List UInt8):List Nd×Int×Int :=
 if (ba l).2.2≠0 then ([],(ba l).2.1,(ba l).2.2)
 else match vL l (ba l).1 with
  | none=>([],0,0)
  | some r=>mO l.length r
theorem oC {L:List UInt8} {ts:List Tk} {a e:Int} (h:ba L=(ts,a,e)) (he:e≠0):bU L=([],a,e):=by
 unfold bU
 rw [h,if_pos he]
theorem rQ {L:List UInt8} {ts:List Tk} {a:Int} (h:ba L=(ts,a,0)):∃ r,vL L ts=some r∧bU L=mO L.length r:=by
 obtain ⟨r,hr⟩:=bY (e:=L.length) (12 * ts.length+cf (.lv 1)) (.lv 1) ts (Nat.le_refl _) (by rintro k ⟨⟩; omega) (by simp)
 refine ⟨r,hr,?_⟩
 unfold bU
 rw [h,if_neg (by simp)]
 simp only [vL,hr]
theorem uY {u:List Tk} (h:∀ t∈u,okT t=true):hkS u≠0↔u≠[]:=by
 cases u with
 | nil=>simp [hkS]
 | cons t u =>
  have:=yO (h t (by simp))
  simp only [hkS,ne_eq,reduceCtorEq,not_false_eq_true,iff_true]
  omega
set_option maxRecDepth 100000
set_option maxHeartbeats 4000000
open Go.RowKit Go.Proofs.Tryz
def qz (p:Nd) (i k:Nat):Bool:=if p.kind≠7 then decide (k≠3) else if 46≤p.fn then decide (k=3∨k=2) else (decide (k≠3) || b8 p.fn i)
theorem m6 (p n:Nd) (i:Nat) (w:World) :
  Calls prog 159 #[ndA p,.int .i64 (i:Nat),ndA n] w fun e w'=>e=.returned (.bool (qz p i n.kind))∧Below w.heap.size w w':=by
 obtain ⟨pk,pvk,pvn,pvt,⟨p1,p2,p3,p4⟩,pop,pfn,pn⟩:=p
 obtain ⟨nk,nvk,nvn,nvt,⟨n1,n2,n3,n4⟩,nop,nfn,nn⟩:=n
 unfold ndA bj
 simp only []
 obtain ⟨R,hR⟩:=ex (qz ⟨pk,pvk,pvn,pvt,⟨p1,p2,p3,p4⟩,pop,pfn,pn⟩ i nk)
 rw [hR]
 unfold qz at hR
 simp only [] at hR
 have HR:=keep hR
 clear hR
 by_cases h7:pk≠7
 ·by_cases h3:nk=3
  ·have hR:=HR.out
   rw [if_pos h7,decide_eq_false (by omega)] at hR
   subst hR
   clear HR
   subst h3
   have e7:((pk:Int) != 7)=true:=by simp; omega
   have H1:=Lib.hid (((Ok.start w).alloc w.heap.size 27 [.int .u8 pk,.int .u8 pvk,.int .i64 pvn,.string ⟨pvt.toArray⟩,.int .i64 p1,.int .i64 p2,.int .i64 p3,.int .i64 p4,.int .i64 pop,.int .u8 pfn,.int .i64 (pn:Nat)] rfl).alloc (w.heap.size+1) 27 [.int .u8 3,.int .u8 nvk,.int .i64 nvn,.string ⟨nvt.toArray⟩,.int .i64 n1,.int .i64 n2,.int .i64 n3,.int .i64 n4,.int .i64 nop,.int .u8 nfn,.int .i64 (nn:Nat)] (by simp))
   go_enter func159,ntmps159
   go_wp2_with fail
   generalize ((w.alloc (.cells #[.int .u8 pk,.int .u8 pvk,.int .i64 pvn,.string ⟨pvt.toArray⟩,.int .i64 p1,.int .i64 p2,.int .i64 p3,.int .i64 p4,.int .i64 pop,.int .u8 pfn,.int .i64 (pn:Nat)] 27)).alloc (.cells #[.int .u8 3,.int .u8 nvk,.int .i64 nvn,.string ⟨nvt.toArray⟩,.int .i64 n1,.int .i64 n2,.int .i64 n3,.int .i64 n4,.int .i64 nop,.int .u8 nfn,.int .i64 (nn:Nat)] 27))=W2 at H1 ⊢
   go_ret
   exact ⟨by first | rfl | simp,H1.out.bel⟩
  have hR:=HR.out
  rw [if_pos h7,decide_eq_true h3] at hR
  subst hR
  clear HR
  have e7:((pk:Int) != 7)=true:=by simp; omega
  have e3:((nk:Int) != 3)=true:=by simp; omega
  have H1:=Lib.hid (((Ok.start w).alloc w.heap.size 27 [.int .u8 pk,.int .u8 pvk,.int .i64 pvn,.string ⟨pvt.toArray⟩,.int .i64 p1,.int .i64 p2,.int .i64 p3,.int .i64 p4,.int .i64 pop,.int .u8 pfn,.int .i64 (pn:Nat)] rfl).alloc (w.heap.size+1) 27 [.int .u8 nk,.int .u8 nvk,.int .i64 nvn,.string ⟨nvt.toArray⟩,.int .i64 n1,.int .i64 n2,.int .i64 n3,.int .i64 n4,.int .i64 nop,.int .u8 nfn,.int .i64 (nn:Nat)] (by simp))
  go_enter func159,ntmps159
  go_wp2_with fail
  generalize ((w.alloc (.cells #[.int .u8 pk,.int .u8 pvk,.int .i64 pvn,.string ⟨pvt.toArray⟩,.int .i64 p1,.int .i64 p2,.int .i64 p3,.int .i64 p4,.int .i64 pop,.int .u8 pfn,.int .i64 (pn:Nat)] 27)).alloc (.cells #[.int .u8 nk,.int .u8 nvk,.int .i64 nvn,.string ⟨nvt.toArray⟩,.int .i64 n1,.int .i64 n2,.int .i64 n3,.int .i64 n4,.int .i64 nop,.int .u8 nfn,.int .i64 (nn:Nat)] 27))=W2 at H1 ⊢
  go_ret
  exact ⟨by first | rfl | simp,H1.out.bel⟩
 by_cases h46:46≤pfn
 ·by_cases h3:nk=3
  ·have hR:=HR.out
   rw [if_neg h7,if_pos h46,decide_eq_true (.inl h3)] at hR
   subst hR
   clear HR
   obtain rfl:pk=7:=by omega
   subst h3
   have e46:(46:Int)≤(pfn:Int):=by omega
   have H1:=Lib.hid (((Ok.start w).alloc w.heap.size 27 [.int .u8 7,.int .u8 pvk,.int .i64 pvn,.string ⟨pvt.toArray⟩,.int .i64 p1,.int .i64 p2,.int .i64 p3,.int .i64 p4,.int .i64 pop,.int .u8 pfn,.int .i64 (pn:Nat)] rfl).alloc (w.heap.size+1) 27 [.int .u8 3,.int .u8 nvk,.int .i64 nvn,.string ⟨nvt.toArray⟩,.int .i64 n1,.int .i64 n2,.int .i64 n3,.int .i64 n4,.int .i64 nop,.int .u8 nfn,.int .i64 (nn:Nat)] (by simp))
   go_enter func159,ntmps159
   go_wp2_with fail
   generalize ((w.alloc (.cells #[.int .u8 7,.int .u8 pvk,.int .i64 pvn,.string ⟨pvt.toArray⟩,.int .i64 p1,.int .i64 p2,.int .i64 p3,.int .i64 p4,.int .i64 pop,.int .u8 pfn,.int .i64 (pn:Nat)] 27)).alloc (.cells #[.int .u8 3,.int .u8 nvk,.int .i64 nvn,.string ⟨nvt.toArray⟩,.int .i64 n1,.int .i64 n2,.int .i64 n3,.int .i64 n4,.int .i64 nop,.int .u8 nfn,.int .i64 (nn:Nat)] 27))=W2 at H1 ⊢
   go_ret
   exact ⟨by first | rfl | simp,H1.out.bel⟩
  by_cases h2:nk=2
  ·have hR:=HR.out
   rw [if_neg h7,if_pos h46,decide_eq_true (.inr h2)] at hR
   subst hR
   clear HR
   obtain rfl:pk=7:=by omega
   subst h2
   have e46:(46:Int)≤(pfn:Int):=by omega
   have H1:=Lib.hid (((Ok.start w).alloc w.heap.size 27 [.int .u8 7,.int .u8 pvk,.int .i64 pvn,.string ⟨pvt.toArray⟩,.int .i64 p1,.int .i64 p2,.int .i64 p3,.int .i64 p4,.int .i64 pop,.int .u8 pfn,.int .i64 (pn:Nat)] rfl).alloc (w.heap.size+1) 27 [.int .u8 2,.int .u8 nvk,.int .i64 nvn,.string ⟨nvt.toArray⟩,.int .i64 n1,.int .i64 n2,.int .i64 n3,.int .i64 n4,.int .i64 nop,.int .u8 nfn,.int .i64 (nn:Nat)] (by simp))
   go_enter func159,ntmps159
   go_wp2_with fail
   generalize ((w.alloc (.cells #[.int .u8 7,.int .u8 pvk,.int .i64 pvn,.string ⟨pvt.toArray⟩,.int .i64 p1,.int .i64 p2,.int .i64 p3,.int .i64 p4,.int .i64 pop,.int .u8 pfn,.int .i64 (pn:Nat)] 27)).alloc (.cells #[.int .u8 2,.int .u8 nvk,.int .i64 nvn,.string ⟨nvt.toArray⟩,.int .i64 n1,.int .i64 n2,.int .i64 n3,.int .i64 n4,.int .i64 nop,.int .u8 nfn,.int .i64 (nn:Nat)] 27))=W2 at H1 ⊢
   go_ret
   exact ⟨by first | rfl | simp,H1.out.bel⟩
  have hR:=HR.out
  rw [if_neg h7,if_pos h46,decide_eq_false (by omega)] at hR
  subst hR
  clear HR
  obtain rfl:pk=7:=by omega
  have e46:(46:Int)≤(pfn:Int):=by omega
  have e3:((nk:Int) == 3)=false:=by simp; omega
  have e2:((nk:Int) == 2)=false:=by simp; omega
  have H1:=Lib.hid (((Ok.start w).alloc w.heap.size 27 [.int .u8 7,.int .u8 pvk,.int .i64 pvn,.string ⟨pvt.toArray⟩,.int .i64 p1,.int .i64 p2,.int .i64 p3,.int .i64 p4,.int .i64 pop,.int .u8 pfn,.int .i64 (pn:Nat)] rfl).alloc (w.heap.size+1) 27 [.int .u8 nk,.int .u8 nvk,.int .i64 nvn,.string ⟨nvt.toArray⟩,.int .i64 n1,.int .i64 n2,.int .i64 n3,.int .i64 n4,.int .i64 nop,.int .u8 nfn,.int .i64 (nn:Nat)] (by simp))
  go_enter func159,ntmps159
  go_wp2_with fail
  generalize ((w.alloc (.cells #[.int .u8 7,.int .u8 pvk,.int .i64 pvn,.string ⟨pvt.toArray⟩,.int .i64 p1,.int .i64 p2,.int .i64 p3,.int .i64 p4,.int .i64 pop,.int .u8 pfn,.int .i64 (pn:Nat)] 27)).alloc (.cells #[.int .u8 nk,.int .u8 nvk,.int .i64 nvn,.string ⟨nvt.toArray⟩,.int .i64 n1,.int .i64 n2,.int .i64 n3,.int .i64 n4,.int .i64 nop,.int .u8 nfn,.int .i64 (nn:Nat)] 27))=W2 at H1 ⊢
  go_ret
  exact ⟨by first | rfl | simp,H1.out.bel⟩
 by_cases h3:nk=3
 ·have hR:=HR.out
  rw [if_neg h7,if_neg h46,decide_eq_false (by omega),Bool.false_or] at hR
  subst hR
  clear HR
  obtain rfl:pk=7:=by omega
  subst h3
  have e46:¬ (46:Int)≤(pfn:Int):=by omega
  have H1:=Lib.hid (((Ok.start w).alloc w.heap.size 27 [.int .u8 7,.int .u8 pvk,.int .i64 pvn,.string ⟨pvt.toArray⟩,.int .i64 p1,.int .i64 p2,.int .i64 p3,.int .i64 p4,.int .i64 pop,.int .u8 pfn,.int .i64 (pn:Nat)] rfl).alloc (w.heap.size+1) 27 [.int .u8 3,.int .u8 nvk,.int .i64 nvn,.string ⟨nvt.toArray⟩,.int .i64 n1,.int .i64 n2,.int .i64 n3,.int .i64 n4,.int .i64 nop,.int .u8 nfn,.int .i64 (nn:Nat)] (by simp))
  go_enter func159,ntmps159
  go_wp2_with fail
  generalize ((w.alloc (.cells #[.int .u8 7,.int .u8 pvk,.int .i64 pvn,.string ⟨pvt.toArray⟩,.int .i64 p1,.int .i64 p2,.int .i64 p3,.int .i64 p4,.int .i64 pop,.int .u8 pfn,.int .i64 (pn:Nat)] 27)).alloc (.cells #[.int .u8 3,.int .u8 nvk,.int .i64 nvn,.string ⟨nvt.toArray⟩,.int .i64 n1,.int .i64 n2,.int .i64 n3,.int .i64 n4,.int .i64 nop,.int .u8 nfn,.int .i64 (nn:Nat)] 27))=W2 at H1 ⊢
  refine (y9 pfn i _).mono ?_
  rintro e w5 ⟨rfl,hw⟩
  obtain rfl:W2=w5:=hw.symm
  have F3:=sE H1
  go_wp2_with fail
  go_ret
  exact ⟨by first | rfl | simp,H1.out.bel⟩
 have hR:=HR.out
 rw [if_neg h7,if_neg h46,decide_eq_true h3,Bool.true_or] at hR
 subst hR
 clear HR
 obtain rfl:pk=7:=by omega
 have e46:¬ (46:Int)≤(pfn:Int):=by omega
 have e3:((nk:Int) != 3)=true:=by simp; omega
 have H1:=Lib.hid (((Ok.start w).alloc w.heap.size 27 [.int .u8 7,.int .u8 pvk,.int .i64 pvn,.string ⟨pvt.toArray⟩,.int .i64 p1,.int .i64 p2,.int .i64 p3,.int .i64 p4,.int .i64 pop,.int .u8 pfn,.int .i64 (pn:Nat)] rfl).alloc (w.heap.size+1) 27 [.int .u8 nk,.int .u8 nvk,.int .i64 nvn,.string ⟨nvt.toArray⟩,.int .i64 n1,.int .i64 n2,.int .i64 n3,.int .i64 n4,.int .i64 nop,.int .u8 nfn,.int .i64 (nn:Nat)] (by simp))
 go_enter func159,ntmps159
 go_wp2_with fail
 generalize ((w.alloc (.cells #[.int .u8 7,.int .u8 pvk,.int .i64 pvn,.string ⟨pvt.toArray⟩,.int .i64 p1,.int .i64 p2,.int .i64 p3,.int .i64 p4,.int .i64 pop,.int .u8 pfn,.int .i64 (pn:Nat)] 27)).alloc (.cells #[.int .u8 nk,.int .u8 nvk,.int .i64 nvn,.string ⟨nvt.toArray⟩,.int .i64 n1,.int .i64 n2,.int .i64 n3,.int .i64 n4,.int .i64 nop,.int .u8 nfn,.int .i64 (nn:Nat)] 27))=W2 at H1 ⊢
 go_ret
 exact ⟨by first | rfl | simp,H1.out.bel⟩
theorem mj:∀ (f k:Nat) (s:List UInt8) (i:Nat),cq f k s=.error i→k≤i∧i<k+s.length
 | 0,_,_,_,h=>by simp [cq] at h
 | _+1,_,[],_,h=>by simp [cq] at h
 | f+1,k,b::r,i,h=>by
  rw [cq] at h
  split at h
  ·have:=mj f _ _ _ h
   simp only [List.length_cons]
   omega
  split at h
  ·simp only [Except.error.injEq] at h
   subst h
   simp
  rename_i t n ht
  have hn:=ic ht
  cases hr:cq f (k+n) ((b::r).drop n) with
  | error j =>
   rw [hr] at h
   simp only [Except.map,Except.error.injEq] at h
   subst h
   have:=mj f _ _ _ hr
   rw [List.length_drop] at this
   omega
  | ok l=>rw [hr] at h; simp [Except.map] at h
theorem nZ (L:List UInt8):(∃ a e,ba L=([],a,e)∧e≠0∧0≤a∧a≤L.length)∨∃ ts,ba L=(ts,0,0):=by
 unfold ba
 split
 ·exact .inl ⟨0,5,rfl,by decide,by omega,by omega⟩
 split
 ·rename_i i hf
  have hi:=(List.findIdx?_eq_some_iff_getElem.1 hf).1
  exact .inl ⟨i,4,rfl,by decide,by omega,by omega⟩
 split
 ·exact .inr ⟨_,rfl⟩
 rename_i i ht
 have:=mj _ _ _ _ ht
 exact .inl ⟨i,4,rfl,by decide,by omega,by omega⟩
theorem r8 {L:List UInt8} {ts us:List Tk} {a:Nat} (h:Lex 0 L ts []) (hl:sI L.length us a) (hs:∀ t∈us,t∈ts):a≤L.length:=by
 rcases hl with rfl | ⟨t,ht,rfl⟩
 ·exact Nat.le_refl _
 obtain ⟨i,hi⟩:=List.getElem?_of_mem (hs t ht)
 exact Nat.le_of_lt (xJ h i t hi).1
theorem qA (L:List UInt8):(∃ a e,bU L=([],a,e)∧e≠0∧0≤a∧a≤L.length) ∨
  ∃ ts ns n,bU L=(ns,0,0)∧ba L=(ts,0,0)∧Pk (.lv 1) ts [] ns n∧de ns=0:=by
 rcases nZ L with ⟨a,e,h,he,h1,h2⟩ | ⟨ts,h⟩
 ·exact .inl ⟨a,e,oC h he,he,h1,h2⟩
 obtain ⟨r,hr,hf⟩:=rQ h
 obtain ⟨_,h256,hpl,hlex⟩:=iH h
 rw [hf]
 unfold vL at hr
 cases r with
 | bad a c =>
  obtain ⟨hl,hc⟩:=cN _ _ _ _ _ hr
  refine .inl ⟨a,c,rfl,?_,by omega,?_⟩
  ·rcases hc with rfl | rfl | rfl <;> decide
  have:=r8 hlex hl (fun _ h=>h)
  omega
 | ok u ns n =>
  have hp:=cy _ _ _ _ _ _ hr
  simp only [mO]
  by_cases hu:hkS u=0
  ·have hu2:u=[]:=Classical.byContradiction fun e=>absurd hu ((uY fun t ht=>ie h t (hp.sub t ht)).2 e)
   subst hu2
   rw [if_neg (by simp [hkS])]
   by_cases hc:de ns=0
   ·rw [if_neg (by rw [hc]; decide)]
    exact .inr ⟨ts,ns,n,rfl,h,hp,hc⟩
   rw [if_pos hc]
   exact .inl ⟨0,de ns,rfl,hc,by omega,by omega⟩
  rw [if_pos hu]
  refine .inl ⟨_,4,rfl,by decide,by omega,?_⟩
  have:=r8 hlex (jx u) hp.sub
  omega
inductive Lf
 | int (k:IntKind)
 | str
 | bool
def Lf.ok:Lf→Value→Prop
 | .int k,v=>∃ n,v=.int k n∧(Lit.int k n).wf=true
 | .str,v=>∃ s:ByteArray,v=.string s∧s.size≤maxLen
 | .bool,v=>∃ b,v=.bool b
def OkL:List Lf→List Value→Prop
 | [],[]=>True
 | l::ls,v::vs=>l.ok v∧OkL ls vs
 | _,_=>False
theorem OkL.app:∀ {a b:List Lf} {u v:List Value},OkL a u→OkL b v→OkL (a++b) (u++v)
 | [],_,[],_,_,h=>h
 | _::_,_,_::_,_,⟨h1,h2⟩,h=>⟨h1,OkL.app h2 h⟩
theorem OkL.len:∀ {a:List Lf} {u:List Value},OkL a u→u.length=a.length
 | [],[],_=>rfl
 | _::_,_::_,⟨_,h⟩=>by rw [List.length_cons,List.length_cons,OkL.len h]
def BQ:Nat→List (Field×List Lf)→Prop
 | _,[]=>True
 | n,p::ps=>p.1.offset=n∧BQ (n+p.2.length) ps
inductive Flat (P:Program):TypeId→List Lf→Prop
 | int {t:TypeId} {k:IntKind} (h:P.underlying t=some (.int k)):Flat P t [.int k]
 | str {t:TypeId} (h:P.underlying t=some .string):Flat P t [.str]
 | bool {t:TypeId} (h:P.underlying t=some .bool):Flat P t [.bool]
 | struct {t : TypeId} {fs : Array Field} (ps : List (Field × List Lf)) (h : P.underlying t = some (.struct fs)) (hp : ps.map (·.1) = fs.toList) (ho : BQ 0 ps) (hf : ∀ p ∈ ps,Flat P p.1.type p.2) (hc : ∀ p ∈ ps,P.cellsOf p.1.type = p.2.length)
   (hn:P.cellsOf t=(ps.flatMap (·.2)).length):Flat P t (ps.flatMap (·.2))
def wP (P:Program):List Field→List (List Lf)→Prop
 | [],[]=>True
 | f::fs,l::ls=>(Flat P f.type l∧P.cellsOf f.type=l.length)∧wP P fs ls
 | _,_=>False
theorem wP.zip {P:Program}:∀ {fs:List Field} {ls:List (List Lf)},wP P fs ls→(fs.zip ls).map (·.1)=fs∧(∀ p∈fs.zip ls,Flat P p.1.type p.2∧P.cellsOf p.1.type=p.2.length)∧(fs.zip ls).flatMap (·.2)=ls.flatten
 | [],[],_=>⟨rfl,(fun p hp=>by cases hp),rfl⟩
 | f::fs,l::ls,⟨h1,h2⟩=>by
  obtain ⟨a,b,c⟩:=wP.zip h2
  refine ⟨by rw [List.zip_cons_cons,List.map_cons,a],fun p hp => ?_,by rw [List.zip_cons_cons,List.flatMap_cons,c,List.flatten_cons]⟩
  rw [List.zip_cons_cons] at hp
  rcases List.mem_cons.1 hp with rfl | hp
  ·exact h1
  exact b p hp
theorem tp:(prog.info? 153).map (fun i=>(i.zero,i.size,i.bytes))=some (some (.agg #[.int .i64 0,.int .i64 0,.bool false]),3,24):=by kernel_rfl
theorem ix:(prog.info? 3).map (fun i=>(i.zero,i.size,i.bytes))=some (some (.int .i64 0),1,8):=by kernel_rfl
theorem gU {w:World} {base:Nat} {e:TypeId} {s n cap g k:Nat} {xs:List Value} (h:w.ownsRow base e s (.slice (some ⟨g,0,none⟩) n cap) n xs) (hk:k≤n):w.ownsRow base e s (.slice (some ⟨g,0,none⟩) k cap) k (xs.take (k * s)):=by
 obtain ⟨hl,h2⟩:=h
 rcases h2 with ⟨h3,_⟩ | ⟨g',cap',cur,h3,h4,h5,h6,h7,h8,h9⟩
 ·cases h3
 simp only [Value.slice.injEq,Option.some.injEq,Addr.mk.injEq,true_and,and_true] at h3
 obtain ⟨rfl,rfl⟩:=h3
 have hks:k * s≤n * s:=Nat.mul_le_mul_right s hk
 refine ⟨by rw [List.length_take,hl]; omega,.inr ⟨g,cap,cur,rfl,h4,h5,by omega,h7,h8,?_⟩⟩
 rw [← h9,List.take_take]
 congr 1
 omega
theorem kT (l:List Pt):(ap l).length=l.length * 3:=by
 induction l with
 | nil=>rfl
 | cons n l ih=>simp only [ap,List.flatMap_cons,List.length_append,List.length_cons] at ih ⊢; rw [ih]; simp [fK]; omega
theorem jG (l:List Pt) (k:Nat) (h:k≤l.length):(ap l).take (k * 3)=ap (l.take k):=by
 conv=>lhs; rw [← List.take_append_drop k l]
 unfold ap
 rw [List.flatMap_append]
 have h2:=kT (l.take k)
 unfold ap at h2
 rw [List.length_take,Nat.min_eq_left h] at h2
 rw [← h2,List.take_left]
theorem nS (l:List Pt) (p:Pt):ap (l++[p])=ap l++fK p:=by simp [ap]
theorem qT (l:List Pt) (i:Nat) (p:Pt) (h:l[i]?=some p) (j:Nat) (v:Value) (hj:(fK p)[j]?=some v):(ap l)[i * 3+j]?=some v:=by
 obtain ⟨hi,rfl⟩:=List.getElem?_eq_some_iff.1 h
 have h1:ap l=ap (l.take i)++(fK l[i]++ap (l.drop (i+1))):=by
  have e:l=l.take i++l[i]::l.drop (i+1):=by rw [← List.drop_eq_getElem_cons hi,List.take_append_drop]
  unfold ap
  conv=>lhs; rw [e]
  rw [List.flatMap_append,List.flatMap_cons]
 have h2:=kT (l.take i)
 rw [List.length_take,Nat.min_eq_left (by omega)] at h2
 have hj3:j<3:=by
  have:=(List.getElem?_eq_some_iff.1 hj).1
  simpa [fK] using this
 rw [h1,List.getElem?_append_right (by omega),h2,Nat.add_sub_cancel_left,List.getElem?_append_left (by simpa [fK] using hj3)]
 exact hj
def Aa (sv:Value) (n:Nat):Prop:=(sv=.slice none 0 0∧n=0)∨∃ g cap,sv=.slice (some ⟨g,0,none⟩) n cap∧0<n∧n≤cap∧cap≤maxLen
def Wlk (t:List Nd) (i:Nat) (st:List Pt):Prop:=cQ t 0 t []=cQ t i (t.drop i) st∧∀ p∈st,p.root<i∧p.depth≤32
theorem Wlk.bad {t:List Nd} {i:Nat} {st:List Pt} {e:Int} (h:Wlk t i st) (hi:i<t.length) (hs:stepW t st i t[i]=.error e):lk t=e:=by
 obtain ⟨h1,_⟩:=h
 unfold lk
 rw [h1,List.drop_eq_getElem_cons hi,cQ,hs]
theorem Wlk.next {t:List Nd} {i:Nat} {st st2:List Pt} (h:Wlk t i st) (hi:i<t.length) (hs:stepW t st i t[i]=.ok st2):Wlk t (i+1) st2:=by
 obtain ⟨h1,h2⟩:=h
 refine ⟨by rw [h1,List.drop_eq_getElem_cons hi,cQ,hs],?_⟩
 unfold stepW at hs
 split at hs
 ·cases hs
 split at hs
 ·cases hs
 split at hs
 ·cases hs
 rename_i h32
 cases hs
 intro p hp
 rcases List.mem_append.1 hp with hp | hp
 ·have:=h2 p (List.mem_of_mem_take hp)
  omega
 simp at hp
 subst hp
 exact ⟨by simp,by simp only []; omega⟩
theorem nf {w:World} {base g m cap:Nat} {st:List Pt} (h:w.ownsRow base 153 3 (.slice (some ⟨g,0,none⟩) m cap) m (ap st)) (d:Nat):ax w (some ⟨g,d * 3,none⟩) 3 ((st.drop d).map fK):=by
 intro _
 have hc:=@World.ownsRow.cells _ _ _ _ _ _ _ h
 refine ⟨g,d * 3,rfl,(h.lt g rfl).2,fun i r hi j v hj => ?_⟩
 rw [List.getElem?_map,List.getElem?_drop] at hi
 cases hp:st[d+i]? with
 | none=>rw [hp] at hi; simp at hi
 | some p =>
  rw [hp] at hi
  simp at hi
  subst hi
  have h9:=hc rfl ((d+i) * 3+j) v (qT st (d+i) p hp j v hj)
  rw [show (⟨g,0,none⟩:Addr).add ((d+i) * 3+j)=⟨g,d * 3+(i * 3+j),none⟩ by unfold Addr.add; split <;> simp_all <;> omega] at h9
  exact h9
theorem pE (w:World) (a:Option Addr) (s:Nat):ax w a s (([]:List Pt).map fK):=fun h=>absurd rfl h
theorem it {n:Nd} (h:aL n) (h7:n.kind=7):1≤n.fn∧n.fn≤50:=by
 rcases h with ⟨vk,vn,vt,rfl,hv⟩ | ⟨r,rfl,_⟩ | ⟨r,rfl,_⟩ | rfl | rfl | ⟨op,rfl,_⟩ | ⟨fn,k,rfl,h1,h2,_⟩
 ·simp at h7
 ·simp [cL] at h7
 ·simp [aM] at h7
 ·simp [ck] at h7
 ·simp [bS] at h7
 ·simp [aI] at h7
 exact ⟨h1,h2⟩
section
variable {t:List Nd} {st:List Pt} {i k d:Nat} {n:Nd}
theorem dX (hk:am n=k) (h:st.length<k):stepW t st i n=.error 4:=by unfold stepW; rw [hk,if_pos h]
theorem eV (hk:am n=k) (h:¬ st.length<k) (hd:st.length - k=d) (hf:br t n 0 (st.drop d)=false):stepW t st i n=.error 4:=by unfold stepW; rw [hk,if_neg h,hd,if_pos hf]
theorem dW (hk:am n=k) (h:¬ st.length<k) (hd:st.length - k=d) (hf:br t n 0 (st.drop d)=true) (h32:32<aX (st.drop d)):stepW t st i n=.error 9:=by
 unfold stepW; rw [hk,if_neg h,hd,if_neg (by rw [hf]; decide),if_pos h32]
theorem step_ok (hk:am n=k) (h:¬ st.length<k) (hd:st.length - k=d) (hf:br t n 0 (st.drop d)=true) (h32:¬ 32<aX (st.drop d)):stepW t st i n=.ok (st.take d++[⟨i,aX (st.drop d),decide (n.kind=3)⟩]):=by
 unfold stepW; rw [hk,if_neg h,hd,if_neg (by rw [hf]; decide),if_neg h32]
end
theorem rj {w:World} {base g n cap:Nat} {e:TypeId} {xs:List Value} (h:w.ownsRow base e 3 (.slice (some ⟨g,0,none⟩) n cap) n xs) (hn:0<n):Aa (.slice (some ⟨g,0,none⟩) n cap) n:=by
 rcases h.2 with ⟨h3,_⟩ | ⟨g',cap',cur,h3,h4,h5,h6,h7,h8,h9⟩
 ·cases h3
 simp only [Value.slice.injEq,Option.some.injEq,Addr.mk.injEq,true_and,and_true] at h3
 have hcap:cap'=cap:=h3.2.symm
 refine Or.inr (Exists.intro g (Exists.intro cap (And.intro rfl (And.intro hn (And.intro ?_ ?_)))))
 ·rw [← hcap]; exact h6
 rw [← hcap]; exact h7
theorem CK (x:Nat):((x:Int) == 3)=decide (x=3):=by rw [Bool.eq_iff_iff]; simp; omega
theorem mf {w0 w:World} {ps:List aZ} {g cap d:Nat} {xs:List Value} {l:List Pt} {p:Pt} (h:ai w0 ps 153 3 (.slice (some ⟨g,0,none⟩) (d+1) cap) (d+1) xs w) (hl:l.length=d):Aa (.slice (some ⟨g,0,none⟩) (d+1) cap) (l++[p]).length:=by
 rw [List.length_append,hl]
 exact rj h.own (by simp)
theorem jY (l:List Pt) (p:Pt):aX (l++[p])=max (aX l) (p.depth+1):=by simp [aX]
theorem oe (i d:Int) (v:Value) (w:World) :
  Calls prog 40 #[.int .i64 i,v,.int .i64 d] w fun e w'=>e=.returned (.tuple #[])∧w'=w:=by
 go_enter func40,ntmps40
 go_wp2_with fail
 first
  | go_end0
  | refine bodyPost_ret (results_none rfl _ _ _) rfl ?_
 exact ⟨rfl,rfl⟩
