/- Plain: the nodes of an accepted list of tokens are such as a formula may hold. Contracts of tree.below and tree.fits. -/
import Derived.Test.YtfffihcadhfplaaGreatDoorQParK
import Derived.Test.YtfffihcadhfplaaGreatDoorQLexP
import Derived.Test.YtfffihcadhfplaaGreatDoorQTreA
namespace Go.Proofs.YtfffihcadhfplaaGreatDoor
open Go.RowKit
theorem ok_bare {t:Tk} {n:Int} {x:List UInt8} {r:R4} (h:bareB { t with num:=n,text:=x,r:=r }=true):n=0∧x=[]∧r=R4.zero:=by
 obtain ⟨a,b,c,d⟩:=r
 simp only [bareB,Bool.and_eq_true,decide_eq_true_eq,List.isEmpty_iff] at h
 obtain ⟨⟨h1,h2⟩,h3,h4,h5,h6⟩:=h
 subst h1 h2 h3 h4 h5 h6
 exact ⟨rfl,rfl,rfl⟩
theorem ok_kind {t:Tk} (h:okT t=true):1≤t.kind∧t.kind≤11:=by
 unfold okT at h
 repeat' split at h
 all_goals first | omega | (simp only [Bool.and_eq_true,decide_eq_true_eq] at h; omega)
theorem ok_val {t:Tk} (h:okT t=true) (h1:1≤t.kind) (h4:t.kind≤4):goodNd (ndVal t):=by
 obtain ⟨k,n,x,r,a⟩:=t
 simp only [] at h1 h4
 have hk:k=1∨k=2∨k=3∨k=4:=by omega
 unfold okT at h
 rcases hk with rfl | rfl | rfl | rfl
 ·simp only [if_true,Bool.and_eq_true,decide_eq_true_eq] at h
  obtain ⟨h2,h3⟩:=h
  obtain ⟨-,rfl,-⟩:=ok_bare (t:=⟨1,n,x,r,a⟩) h3
  exact .inl ⟨1,n,[],rfl,.inl ⟨rfl,h2,rfl⟩⟩
 ·simp only [Nat.reduceEqDiff,if_false,if_true,Bool.and_eq_true,decide_eq_true_eq] at h
  obtain ⟨⟨⟨h2,h3⟩,-⟩,h5⟩:=h
  exact .inl ⟨3,0,x,rfl,.inr (.inr (.inl ⟨rfl,rfl,h3,h2⟩))⟩
 ·simp only [Nat.reduceEqDiff,if_false,if_true,Bool.and_eq_true,decide_eq_true_eq] at h
  obtain ⟨h2,h3⟩:=h
  obtain ⟨-,rfl,-⟩:=ok_bare (t:=⟨3,n,x,r,a⟩) h3
  exact .inl ⟨2,n,[],rfl,.inr (.inl ⟨rfl,h2,rfl⟩)⟩
 ·simp only [Nat.reduceEqDiff,if_false,if_true,Bool.and_eq_true,decide_eq_true_eq] at h
  obtain ⟨h2,h3⟩:=h
  obtain ⟨-,rfl,-⟩:=ok_bare (t:=⟨4,n,x,r,a⟩) h3
  exact .inl ⟨4,n,[],rfl,.inr (.inr (.inr ⟨rfl,h2,rfl⟩))⟩
theorem ok_ref {t:Tk} (h:okT t=true) (h5:t.kind=5):goodNd (ndRef t.r):=by
 obtain ⟨k,n,x,r,a⟩:=t
 simp only [] at h5
 subst h5
 simp only [okT,Nat.reduceEqDiff,if_false,if_true,Bool.and_eq_true,oneB,decide_eq_true_eq] at h
 exact .inr (.inl ⟨r,rfl,h.1.1,h.1.2⟩)
theorem ok_range {t:Tk} (h:okT t=true) (h6:t.kind=6):goodNd (ndRange t.r):=by
 obtain ⟨k,n,x,r,a⟩:=t
 simp only [] at h6
 subst h6
 simp only [okT,Nat.reduceEqDiff,if_false,if_true,Bool.and_eq_true,oneB,Bool.not_eq_true',decide_eq_false_iff_not] at h
 exact .inr (.inr (.inl ⟨r,rfl,h.1.1,h.1.2⟩))
theorem ok_op {t:Tk} (h:okT t=true) (h8:t.kind=8):1≤t.num∧t.num≤13:=by
 obtain ⟨k,n,x,r,a⟩:=t
 simp only [] at h8
 subst h8
 simp only [okT,Nat.reduceEqDiff,if_false,if_true,Bool.and_eq_true,decide_eq_true_eq] at h
 exact h.1
def okM:Md→Prop
 | .ops k=>k≤4
 | _=>True
theorem Pk.sub {m:Md} {ts u:List Tk} {ns:List Nd} {n:Nat} (h:Pk m ts u ns n):∀ t∈u,t∈ts:=by
 obtain ⟨c,rfl,_⟩:=h.soft
 intro t ht
 simp [ht]
theorem good_snoc {ns:List Nd} {x:Nd} (h:∀ y∈ns,goodNd y) (hx:goodNd x):∀ y∈ns++[x],goodNd y:=by
 intro y hy
 rcases List.mem_append.1 hy with hy | hy
 ·exact h y hy
 ·simp at hy; subst hy; exact hx
theorem good_app {ns ms:List Nd} (h:∀ y∈ns,goodNd y) (g:∀ y∈ms,goodNd y):∀ y∈ns++ms,goodNd y:=by
 intro y hy
 rcases List.mem_append.1 hy with hy | hy
 ·exact h y hy
 ·exact g y hy
theorem good_cons {ms:List Nd} {x:Nd} (hx:goodNd x) (g:∀ y∈ms,goodNd y):∀ y∈x::ms,goodNd y:=by
 intro y hy
 rcases List.mem_cons.1 hy with rfl | hy
 ·exact hx
 ·exact g y hy
theorem good_bin {op:Int} (h1:1≤op) (h2:op≤12):goodNd (ndBin op):=.inr (.inr (.inr (.inr (.inr (.inl ⟨op,rfl,h1,h2⟩)))))
theorem good_neg:goodNd ndNeg:=.inr (.inr (.inr (.inl rfl)))
theorem good_pct:goodNd ndPct:=.inr (.inr (.inr (.inr (.inl rfl))))
theorem Pk.good {m:Md} {ts u:List Tk} {ns:List Nd} {n:Nat} (h:Pk m ts u ns n):okM m→(∀ t∈ts,okT t=true)→∀ x∈ns,goodNd x:=by
 induction h with
 | lv5 _ _ ih=>intro _ hg; exact ih trivial hg
 | lv hk h _ ih1 ih2 =>
  intro _ hg
  exact good_app (ih1 trivial hg) (ih2 (by simp only [okM]; omega) fun t ht=>hg t (h.sub t ht))
 | nil=>intro _ _; simp
 | stop=>intro _ _; simp
 | @op k t ts u v ns ms n m h8 hk h _ ih1 ih2 =>
  intro hm hg
  simp only [okM] at hm
  have ht:=ok_op (hg t (by simp)) h8
  have h13:t.num≠13:=by
   intro e
   rw [e] at hk
   simp [bindS] at hk
   omega
  exact good_app (ih1 trivial fun t ht=>hg t (by simp [ht])) (good_cons (good_bin ht.1 (by omega)) (ih2 hm fun t ht=>hg t (by simp [h.sub t ht])))
 | neg _ _ _ ih=>intro _ hg; exact good_snoc (ih trivial fun t ht=>hg t (by simp [ht])) good_neg
 | bare _ _ _ ih=>intro _ hg; exact ih trivial hg
 | pow _ h _ _ _ ih1 ih2 =>
  intro _ hg
  exact good_app (ih1 trivial hg) (good_snoc (ih2 trivial fun t ht=>hg t (h.sub t (by simp [ht]))) (good_bin (by decide) (by decide)))
 | pc _ ih =>
  intro _ hg
  refine good_app (ih trivial hg) fun y hy => ?_
  rw [(List.mem_replicate.1 hy).2]
  exact good_pct
 | val h1 h4=>intro _ hg; exact good_cons (ok_val (hg _ (by simp)) h1 h4) (by simp)
 | ref h5=>intro _ hg; exact good_cons (ok_ref (hg _ (by simp)) h5) (by simp)
 | par _ _ _ ih=>intro _ hg; exact ih trivial fun t ht=>hg t (by simp [ht])
 | @call t o c ts u ns n h7 hf ho h hc h1 h2 hd ih =>
  intro _ hg
  have:=fn_le t.text
  refine good_snoc (ih trivial fun t ht=>hg t (by simp [ht])) (.inr (.inr (.inr (.inr (.inr (.inr ⟨_,n,rfl,by omega,this,h1,h2⟩))))))
 | argE _ _ _ ih=>intro _ hg; exact ih trivial hg
 | argC _ h _ _ ih1 ih2=>intro _ hg; exact good_app (ih1 trivial hg) (ih2 trivial fun t ht=>hg t (h.sub t (by simp [ht])))
 | rngE h6=>intro _ hg; exact good_cons (ok_range (hg _ (by simp)) h6) (by simp)
 | rngC h6 _ _ _ ih=>intro _ hg; exact good_cons (ok_range (hg _ (by simp)) h6) (ih trivial fun t ht=>hg t (by simp [ht]))
theorem Lex.len {k:Nat} {u:List UInt8} {l:List Tk} {y:List UInt8} (h:Lex k u l y):l.length≤u.length:=by
 induction h with
 | nil=>simp
 | blank _ ih=>simp; omega
 | tok _ _ ih=>simp; omega
theorem tokens_ok {L:List UInt8} {ts:List Tk} {a:Int} (h:tokensS L=(ts,a,0)):a=0∧L.length≤256∧(∀ b∈L,plainB b=true)∧Lex 0 L ts []:=by
 unfold tokensS at h
 split at h
 ·simp at h
 ·rename_i h256
  split at h
  ·simp at h
  ·rename_i hf
   split at h
   ·rename_i l hl
    simp only [Prod.mk.injEq,and_true] at h
    obtain ⟨rfl,rfl⟩:=h
    refine ⟨rfl,by omega,?_,(toks_lex _ _ _ _ (Nat.le_refl _)).1 hl⟩
    intro b hb
    have:=List.findIdx?_eq_none_iff.1 hf b hb
    simpa using this
   ·simp at h
theorem tokens_good {L:List UInt8} {ts:List Tk} {a:Int} (h:tokensS L=(ts,a,0)):∀ t∈ts,okT t=true:=by
 obtain ⟨_,h1,h2,h3⟩:=tokens_ok h
 exact h3.ok (by simpa using h1) (by simpa using h2)
def formR (e:Nat):Rs→List Nd×Int×Int
 | .bad a c=>([],a,c)
 | .ok u ns _=>if hkS u≠0 then ([],(hdS e u).at_,4) else if checkS ns≠0 then ([],0,checkS ns) else (ns,0,0)
def parT (l:List UInt8) (ts:List Tk):Option Rs:=parF l.length (12 * ts.length+needM (.lv 1)) (.lv 1) ts
def formS (l:List UInt8):List Nd×Int×Int :=
 if (tokensS l).2.2≠0 then ([],(tokensS l).2.1,(tokensS l).2.2)
 else match parT l (tokensS l).1 with
  | none=>([],0,0)
  | some r=>formR l.length r
theorem form_lex {L:List UInt8} {ts:List Tk} {a e:Int} (h:tokensS L=(ts,a,e)) (he:e≠0):formS L=([],a,e):=by
 unfold formS
 rw [h,if_pos he]
theorem form_of {L:List UInt8} {ts:List Tk} {a:Int} (h:tokensS L=(ts,a,0)):∃ r,parT L ts=some r∧formS L=formR L.length r:=by
 obtain ⟨r,hr⟩:=par_some (e:=L.length) (12 * ts.length+needM (.lv 1)) (.lv 1) ts (Nat.le_refl _) (by rintro k ⟨⟩; omega) (by simp)
 refine ⟨r,hr,?_⟩
 unfold formS
 rw [h,if_neg (by simp)]
 simp only [parT,hr]
theorem hk_pos {u:List Tk} (h:∀ t∈u,okT t=true):hkS u≠0↔u≠[]:=by
 cases u with
 | nil=>simp [hkS]
 | cons t u =>
  have:=ok_kind (h t (by simp))
  simp only [hkS,ne_eq,reduceCtorEq,not_false_eq_true,iff_true]
  omega
set_option maxRecDepth 100000
set_option maxHeartbeats 4000000
def RowsAt (w:World) (a:Option Addr) (s:Nat) (l:List (List Value)):Prop :=
 l≠[]→∃ b o,a=some ⟨b,o,none⟩∧b<w.heap.size∧∀ i r,l[i]?=some r→∀ j v,r[j]?=some v→w.cell? ⟨b,o+(i * s+j),none⟩=some v
theorem RowsAt.below {w w':World} {a:Option Addr} {s:Nat} {l:List (List Value)} (h:RowsAt w a s l) (hb:Below w.heap.size w w'):RowsAt w' a s l:=by
 intro hl
 obtain ⟨b,o,e,h1,h2⟩:=h hl
 exact ⟨b,o,e,Nat.lt_of_lt_of_le h1 hb.size,fun i r hi j v hj=>(hb.cell h1).trans (h2 i r hi j v hj)⟩
def ptRow (p:Pt):List Value:=[.int .i64 (p.root:Nat),.int .i64 (p.depth:Nat),.bool p.wide]
def ptCells (l:List Pt):List Value:=l.flatMap ptRow
theorem below_cases (n:Nd):(n.kind=4∧belowS n=1)∨(n.kind=5∧belowS n=1)∨(n.kind=6∧belowS n=2)∨(n.kind=7∧belowS n=n.n)∨(n.kind≠4∧n.kind≠5∧n.kind≠6∧n.kind≠7∧belowS n=0):=by
 unfold belowS
 by_cases h4:n.kind=4
 ·exact .inl ⟨h4,if_pos (.inl h4)⟩
 ·by_cases h5:n.kind=5
  ·exact .inr (.inl ⟨h5,if_pos (.inr h5)⟩)
  ·rw [if_neg (by omega)]
   by_cases h6:n.kind=6
   ·exact .inr (.inr (.inl ⟨h6,if_pos h6⟩))
   ·rw [if_neg h6]
    by_cases h7:n.kind=7
    ·exact .inr (.inr (.inr (.inl ⟨h7,if_pos h7⟩)))
    ·exact .inr (.inr (.inr (.inr ⟨h4,h5,h6,h7,if_neg h7⟩)))
theorem tree_below (n:Nd) (w:World) :
  Calls Tryz.prog 136 #[ndA n] w fun e w'=>e=.returned (.int .i64 (belowS n:Nat))∧Below w.heap.size w w':=by
 have hc:=below_cases n
 obtain ⟨nk,vk,vn,vt,⟨r1,r2,r3,r4⟩,op,fn,nn⟩:=n
 obtain ⟨k,hk⟩:∃ k,belowS ⟨nk,vk,vn,vt,⟨r1,r2,r3,r4⟩,op,fn,nn⟩=k:=⟨_,rfl⟩
 rw [hk] at hc ⊢
 clear hk
 simp only [] at hc
 unfold ndA ndRow
 simp only []
 have H1:=Lib.hid ((Ok.start w).alloc w.heap.size 96 [.int .u8 nk,.int .u8 vk,.int .i64 vn,.string ⟨vt.toArray⟩,.int .i64 r1,.int .i64 r2,.int .i64 r3,.int .i64 r4,.int .i64 op,.int .u8 fn,.int .i64 nn] rfl)
 rcases hc with ⟨rfl,rfl⟩ | ⟨rfl,rfl⟩ | ⟨rfl,rfl⟩ | ⟨rfl,rfl⟩ | ⟨a4,a5,a6,a7,rfl⟩
 ·go_enter Tryz.func136,Tryz.ntmps136
  go_wp2_with fail
  go_ret
  exact ⟨rfl,H1.out.bel⟩
 ·go_enter Tryz.func136,Tryz.ntmps136
  go_wp2_with fail
  go_ret
  exact ⟨rfl,H1.out.bel⟩
 ·go_enter Tryz.func136,Tryz.ntmps136
  go_wp2_with fail
  go_ret
  exact ⟨rfl,H1.out.bel⟩
 ·go_enter Tryz.func136,Tryz.ntmps136
  go_wp2_with fail
  go_ret
  exact ⟨rfl,H1.out.bel⟩
 ·have b4:((nk:Int) == 4)=false:=by simp; omega
  have b5:((nk:Int) == 5)=false:=by simp; omega
  have b6:((nk:Int) == 6)=false:=by simp; omega
  have b7:((nk:Int) == 7)=false:=by simp; omega
  clear a4 a5 a6 a7
  go_enter Tryz.func136,Tryz.ntmps136
  go_wp2_with fail
  go_ret
  exact ⟨rfl,H1.out.bel⟩
theorem fits_drop (t:List Nd) (n:Nd) (l:List Pt) (i:Nat) (h:i<l.length):fitsF t n i (l.drop i)=(fit1 t n i l[i] && fitsF t n (i+1) (l.drop (i+1))):=by
 rw [List.drop_eq_getElem_cons h]
 rfl
theorem tree_fitsG (ts:List (List Value)) (t:List Nd) (n:Nd) (l:List Pt) (ta la:Option Addr) (tc lc:Nat) (w:World) (hts:ts.length=t.length) (hkd:∀ (i:Nat) (q:Nd),t[i]?=some q→∃ r:List Value,ts[i]?=some r∧r[0]?=some (.int .u8 (q.kind:Nat))) (ht:RowsAt w ta 11 ts) (hl:RowsAt w la 3 (l.map ptRow)) (_htl:t.length≤1000) (hll:l.length≤1000) (hroot:∀ p∈l,p.root<t.length) (hfn:n.kind=7→1≤n.fn∧n.fn≤50) :
  Calls Tryz.prog 137 #[.slice ta t.length tc,ndA n,.slice la l.length lc] w fun e w'=>e=.returned (.bool (fitsF t n 0 l))∧Below w.heap.size w w':=by
 have HR:=keep hroot
 have HT:=keep ht
 have HTS:=keep hts
 have HKD:=keep hkd
 clear hts hkd
 have HLR:=keep hl
 have HFN:=keep hfn
 clear hroot ht hl hfn
 obtain ⟨tl,htl2⟩:∃ tl,t.length=tl:=⟨_,rfl⟩
 obtain ⟨ll,hll2⟩:∃ ll,l.length=ll:=⟨_,rfl⟩
 rw [htl2]
 rw [hll2] at hll ⊢
 have HTL:=keep htl2
 have HLL:=keep hll2
 clear htl2 hll2
 obtain ⟨nd,hnd⟩:∃ nd,n=nd:=⟨_,rfl⟩
 have HND:=keep hnd
 obtain ⟨nk,vk,vn,vt,⟨r1,r2,r3,r4⟩,op,fn,nn⟩:=n
 clear hnd
 have HN:=keep (show ndA ⟨nk,vk,vn,vt,⟨r1,r2,r3,r4⟩,op,fn,nn⟩=.agg #[.int .u8 nk,.int .u8 vk,.int .i64 vn,.string ⟨vt.toArray⟩,.int .i64 r1,.int .i64 r2,.int .i64 r3,.int .i64 r4,.int .i64 op,.int .u8 fn,.int .i64 nn] from rfl)
 unfold ndA ndRow
 simp only []
 obtain ⟨FF,hFF⟩:∃ FF:Nat→List Pt→Bool,FF=fitsF t ⟨nk,vk,vn,vt,⟨r1,r2,r3,r4⟩,op,fn,nn⟩:=⟨_,rfl⟩
 have HFF:=keep hFF
 rw [← hFF]
 clear hFF
 simp only [] at HFN
 have H1:=Lib.hid ((Ok.start w).alloc w.heap.size 96 [.int .u8 nk,.int .u8 vk,.int .i64 vn,.string ⟨vt.toArray⟩,.int .i64 r1,.int .i64 r2,.int .i64 r3,.int .i64 r4,.int .i64 op,.int .u8 fn,.int .i64 nn] rfl)
 obtain ⟨V,hV⟩:∃ V,FF 0 l=V:=⟨_,rfl⟩
 rw [hV]
 have HV:=keep hV
 clear hV
 go_enter Tryz.func137,Tryz.ntmps137
 go_wp2_with fail
 generalize (w.alloc (.cells #[.int .u8 nk,.int .u8 vk,.int .i64 vn,.string ⟨vt.toArray⟩,.int .i64 r1,.int .i64 r2,.int .i64 r3,.int .i64 r4,.int .i64 op,.int .u8 fn,.int .i64 nn] 96))=W2 at H1 ⊢
 go_loopw [13] (fun iv wr=>∃ i:Nat,i≤ll∧iv=.int .i64 (i:Int)∧Keep (FF i (l.drop i)=V)∧Hid (Ok w [kBlk (w.heap.size) 96 [.int .u8 nk,.int .u8 vk,.int .i64 vn,.string ⟨vt.toArray⟩,.int .i64 r1,.int .i64 r2,.int .i64 r3,.int .i64 r4,.int .i64 op,.int .u8 fn,.int .i64 nn]] wr)) (fun iv _=>ll - (intOf iv).toNat)
 case atStart=>exact ⟨0,Nat.zero_le _,rfl,HV,H1⟩
 case round =>
  clear H1 HV
  obtain ⟨i,hi,rfl,HK,HW⟩:=hrel
  obtain ⟨wp,rfl⟩:∃ wp:World,wp=wr:=⟨_,rfl⟩
  by_cases hlt:(i:Int)<ll
  ·have hil:i<l.length:=by rw [HLL.out]; omega
   have HIL:=keep hil
   have hstep:=HK.out
   rw [HFF.out,fits_drop _ _ _ _ hil,← HFF.out] at hstep
   obtain ⟨p,hp⟩:∃ p,l[i]=p:=⟨_,rfl⟩
   rw [hp] at hstep
   have hpm:p∈l:=by rw [← hp]; exact List.getElem_mem _
   have hroot:=HR.out p hpm
   obtain ⟨lb,lo,hla,hlb,hlcell⟩:=HLR.out (by intro e; have h9:=congrArg List.length e; rw [List.length_map] at h9; simp only [List.length_nil] at h9; omega)
   have hlc:=hlcell i (ptRow p) (by rw [List.getElem?_map,List.getElem?_eq_getElem hil,hp]; rfl)
   obtain ⟨tb,tz,hta,htb,htcell⟩:=HT.out (by intro e; have h9:=congrArg List.length e; rw [HTS.out] at h9; simp only [List.length_nil] at h9; omega)
   obtain ⟨q,hq⟩:∃ q,t[p.root]=q:=⟨_,rfl⟩
   obtain ⟨rq,hrq,hrq0⟩:=HKD.out p.root q (by rw [List.getElem?_eq_getElem hroot,hq])
   have htc:=htcell p.root rq hrq 0 (.int .u8 (q.kind:Nat)) hrq0
   have hkat:kindAt t p.root=q.kind:=by unfold kindAt; rw [List.getElem?_eq_getElem hroot,hq]; rfl
   subst hla hta
   obtain ⟨pr,pd,pw⟩:=p
   simp only [] at htc hkat hroot
   have hbel:=HW.out.bel
   have hl0:=(hbel.cell hlb).trans (hlc 0 (.int .i64 (pr:Nat)) rfl)
   have hl1:=(hbel.cell hlb).trans (hlc 1 (.int .i64 (pd:Nat)) rfl)
   have hl2:=(hbel.cell hlb).trans (hlc 2 (.bool pw) rfl)
   have ht0:=(hbel.cell htb).trans htc
   simp only [Nat.add_zero] at hl0 ht0
   have hlbw:lb<wp.heap.size:=Nat.lt_of_lt_of_le hlb hbel.size
   have htbw:tb<wp.heap.size:=Nat.lt_of_lt_of_le htb hbel.size
   have hprt:(pr:Int)<tl:=by have:=HTL.out; omega
   obtain ⟨kq,hkq⟩:∃ kq,q.kind=kq:=⟨_,rfl⟩
   rw [hkq] at ht0 hkat
   have HST:=keep hstep
   have HKAT:=keep hkat
   have H1:=Lib.hid (((HW.out.add (kCells lb (lo+i * 3) [.int .i64 (pr:Nat),.int .i64 (pd:Nat),.bool pw]) ⟨hlbw,by simpa [cellsFrom] using hl0,by simpa [cellsFrom,Nat.add_assoc] using hl1,by simpa [cellsFrom,Nat.add_assoc] using hl2,trivial⟩).add (kCells tb (tz+pr * 11) [.int .u8 (kq:Nat)]) ⟨htbw,by simpa [cellsFrom] using ht0,trivial⟩))
   clear hil hstep hp hpm hlcell hlc htcell hq htc hkat hbel hl0 hl1 hl2 ht0 hlbw htbw hlb htb hkq HW
   have F3:=H1.out.sees
   simp only [sees,kBlk,kCells,cellsFrom,Nat.add_zero,cellsAt,Nat.reduceAdd] at F3
   obtain ⟨⟨z0,c00,-⟩,⟨z1,c10,c11,c12,-⟩,⟨z2,c20,c21,c22,c23,c24,c25,c26,c27,c28,c29,c2a,-⟩,-⟩:=F3
   go_upto_region 4 with fail
   clear z0 c00 z1 c10 c11 c12 z2 c20 c21 c22 c23 c24 c25 c26 c27 c28 c29 c2a
   have H4:=Lib.hid (H1.out.alloc wp.heap.size 176 [.int .i64 (pr:Nat),.int .i64 (pd:Nat),.bool pw] rfl)
   clear H1
   generalize (wp.alloc (.cells #[.int .i64 (pr:Nat),.int .i64 (pd:Nat),.bool pw] 176))=W5 at H4 ⊢
   have F6:=H4.out.sees
   simp only [sees,kBlk,kCells,cellsFrom,Nat.add_zero,cellsAt,Nat.reduceAdd] at F6
   obtain ⟨⟨z0,c00,c01,c02,-⟩,⟨z1,c10,-⟩,⟨z2,c20,c21,c22,-⟩,⟨z3,c30,c31,c32,c33,c34,c35,c36,c37,c38,c39,c3a,-⟩,-⟩:=F6
   by_cases h7:nk=7
   ·have h7b:((nk:Int) == 7)=true:=by rw [h7]; rfl
    have hfn:=HFN.out h7
    obtain ⟨hf1,hf2⟩:=hfn
    obtain ⟨wi,hwi⟩:∃ wi,wideS fn i=wi:=⟨_,rfl⟩
    have HWI:=keep hwi
    clear hwi
    obtain ⟨rl,hrl⟩:∃ rl,decide (46≤fn∧fn≤50)=rl:=⟨_,rfl⟩
    have HRL:=keep hrl
    clear hrl
    have HV7:=keep (show fit1 t ⟨nk,vk,vn,vt,⟨r1,r2,r3,r4⟩,op,fn,nn⟩ i ⟨pr,pd,pw⟩=(!(pw && !wi) && !(rl && decide (kq≠2∧kq≠3))) by unfold fit1 isCall relS; simp only [h7,HWI.out,HRL.out,HKAT.out,decide_true,Bool.true_and])
    clear h7
    go_wp2_with fail
    refine (tree_Wide fn i _ hf1 hf2).mono ?_
    rintro e w9 ⟨rfl,hw⟩
    obtain rfl:W5=w9:=hw.symm
    rw [HWI.out]
    cases hpw:(pw && !wi)
    ·have hpw2:pw=false∨wi=true:=by cases pw <;> cases wi <;> simp at hpw ⊢
     rcases hpw2 with rfl | rfl
     ·clear hpw
      go_wp2_with fail
      refine (tree_released fn _).mono ?_
      rintro e w10 ⟨rfl,hw⟩
      obtain rfl:W5=w10:=hw.symm
      rw [HRL.out]
      cases rl
      ·go_wp2_with fail
       go_roundw
       case rel=>exact ⟨i+1,by omega,by go_num,keep (by have h9:=HST.out; rw [show fit1 t _ i _=true by rw [HV7.out]; simp,Bool.true_and] at h9; exact h9),H4.out.drop _ (by simp)⟩
       case measure=>simp [intOf]; omega
      ·by_cases k2:kq=2
       ·have k2b:((kq:Int) != 2)=false:=by rw [k2]; rfl
        have KK:=keep k2
        clear k2
        go_wp2_with fail
        go_roundw
        case rel=>exact ⟨i+1,by omega,by go_num,keep (by have h9:=HST.out; rw [show fit1 t _ i _=true by rw [HV7.out]; simp [KK.out],Bool.true_and] at h9; exact h9),H4.out.drop _ (by simp)⟩
        case measure=>simp [intOf]; omega
       ·have k2b:((kq:Int) != 2)=true:=by simp; omega
        by_cases k3:kq=3
        ·have k3b:((kq:Int) != 3)=false:=by rw [k3]; rfl
         have KK:=keep k3
         clear k3 k2
         go_wp2_with fail
         go_roundw
         case rel=>exact ⟨i+1,by omega,by go_num,keep (by have h9:=HST.out; rw [show fit1 t _ i _=true by rw [HV7.out]; simp [KK.out],Bool.true_and] at h9; exact h9),H4.out.drop _ (by simp)⟩
         case measure=>simp [intOf]; omega
        ·have k3b:((kq:Int) != 3)=true:=by simp; omega
         have KK:=keep (And.intro k2 k3)
         clear k2 k3
         go_wp2_with fail
         go_ret
         exact ⟨by have h9:=HST.out; rw [show fit1 t _ i _=false by rw [HV7.out]; simp [KK.out.1,KK.out.2],Bool.false_and] at h9; rw [← h9]; rfl,H4.out.bel⟩
     ·clear hpw
      cases pw
      ·go_wp2_with fail
       refine (tree_released fn _).mono ?_
       rintro e w10 ⟨rfl,hw⟩
       obtain rfl:W5=w10:=hw.symm
       rw [HRL.out]
       cases rl
       ·go_wp2_with fail
        go_roundw
        case rel=>exact ⟨i+1,by omega,by go_num,keep (by have h9:=HST.out; rw [show fit1 t _ i _=true by rw [HV7.out]; simp,Bool.true_and] at h9; exact h9),H4.out.drop _ (by simp)⟩
        case measure=>simp [intOf]; omega
       ·by_cases k2:kq=2
        ·have k2b:((kq:Int) != 2)=false:=by rw [k2]; rfl
         have KK:=keep k2
         clear k2
         go_wp2_with fail
         go_roundw
         case rel=>exact ⟨i+1,by omega,by go_num,keep (by have h9:=HST.out; rw [show fit1 t _ i _=true by rw [HV7.out]; simp [KK.out],Bool.true_and] at h9; exact h9),H4.out.drop _ (by simp)⟩
         case measure=>simp [intOf]; omega
        ·have k2b:((kq:Int) != 2)=true:=by simp; omega
         by_cases k3:kq=3
         ·have k3b:((kq:Int) != 3)=false:=by rw [k3]; rfl
          have KK:=keep k3
          clear k3 k2
          go_wp2_with fail
          go_roundw
          case rel=>exact ⟨i+1,by omega,by go_num,keep (by have h9:=HST.out; rw [show fit1 t _ i _=true by rw [HV7.out]; simp [KK.out],Bool.true_and] at h9; exact h9),H4.out.drop _ (by simp)⟩
          case measure=>simp [intOf]; omega
         ·have k3b:((kq:Int) != 3)=true:=by simp; omega
          have KK:=keep (And.intro k2 k3)
          clear k2 k3
          go_wp2_with fail
          go_ret
          exact ⟨by have h9:=HST.out; rw [show fit1 t _ i _=false by rw [HV7.out]; simp [KK.out.1,KK.out.2],Bool.false_and] at h9; rw [← h9]; rfl,H4.out.bel⟩
      ·go_wp2_with fail
       refine (tree_released fn _).mono ?_
       rintro e w10 ⟨rfl,hw⟩
       obtain rfl:W5=w10:=hw.symm
       rw [HRL.out]
       cases rl
       ·go_wp2_with fail
        go_roundw
        case rel=>exact ⟨i+1,by omega,by go_num,keep (by have h9:=HST.out; rw [show fit1 t _ i _=true by rw [HV7.out]; simp,Bool.true_and] at h9; exact h9),H4.out.drop _ (by simp)⟩
        case measure=>simp [intOf]; omega
       ·by_cases k2:kq=2
        ·have k2b:((kq:Int) != 2)=false:=by rw [k2]; rfl
         have KK:=keep k2
         clear k2
         go_wp2_with fail
         go_roundw
         case rel=>exact ⟨i+1,by omega,by go_num,keep (by have h9:=HST.out; rw [show fit1 t _ i _=true by rw [HV7.out]; simp [KK.out],Bool.true_and] at h9; exact h9),H4.out.drop _ (by simp)⟩
         case measure=>simp [intOf]; omega
        ·have k2b:((kq:Int) != 2)=true:=by simp; omega
         by_cases k3:kq=3
         ·have k3b:((kq:Int) != 3)=false:=by rw [k3]; rfl
          have KK:=keep k3
          clear k3 k2
          go_wp2_with fail
          go_roundw
          case rel=>exact ⟨i+1,by omega,by go_num,keep (by have h9:=HST.out; rw [show fit1 t _ i _=true by rw [HV7.out]; simp [KK.out],Bool.true_and] at h9; exact h9),H4.out.drop _ (by simp)⟩
          case measure=>simp [intOf]; omega
         ·have k3b:((kq:Int) != 3)=true:=by simp; omega
          have KK:=keep (And.intro k2 k3)
          clear k2 k3
          go_wp2_with fail
          go_ret
          exact ⟨by have h9:=HST.out; rw [show fit1 t _ i _=false by rw [HV7.out]; simp [KK.out.1,KK.out.2],Bool.false_and] at h9; rw [← h9]; rfl,H4.out.bel⟩
    ·have hpw2:pw=true∧wi=false:=by cases pw <;> cases wi <;> simp at hpw ⊢
     obtain ⟨rfl,rfl⟩:=hpw2
     clear hpw
     go_wp2_with fail
     go_ret
     exact ⟨by have h9:=HST.out; rw [show fit1 t _ i _=false by rw [HV7.out]; simp,Bool.false_and] at h9; rw [← h9]; rfl,H4.out.bel⟩
   ·have h7b:((nk:Int) == 7)=false:=by simp; omega
    have HV7:=keep (show fit1 t ⟨nk,vk,vn,vt,⟨r1,r2,r3,r4⟩,op,fn,nn⟩ i ⟨pr,pd,pw⟩=!pw by unfold fit1 isCall; simp [h7])
    clear h7
    cases pw
    ·go_wp2_with fail
     go_roundw
     case rel=>exact ⟨i+1,by omega,by go_num,keep (by have h9:=HST.out; rw [show fit1 t _ i _=true by rw [HV7.out]; rfl,Bool.true_and] at h9; exact h9),H4.out.drop _ (by simp)⟩
     case measure=>simp [intOf]; omega
    ·go_wp2_with fail
     go_ret
     exact ⟨by have h9:=HST.out; rw [show fit1 t _ i _=false by rw [HV7.out]; rfl,Bool.false_and] at h9; rw [← h9]; rfl,H4.out.bel⟩
  ·obtain rfl:i=ll:=by omega
   have hend:=HK.out
   rw [HFF.out,List.drop_of_length_le (by rw [HLL.out]; exact Nat.le_refl _)] at hend
   have HE:=keep (show V=true from hend.symm)
   clear hend
   go_wp2_with fail
   go_ret
   exact ⟨by rw [HE.out]; rfl,HW.out.bel⟩
