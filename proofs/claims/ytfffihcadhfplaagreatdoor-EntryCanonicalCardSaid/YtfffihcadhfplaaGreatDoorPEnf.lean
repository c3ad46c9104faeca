/- The kit's EqualTree in general, EqualStrings and CopyTree; the statements' Few. Plain: the canonical text of a tree is no longer than the tokens that it was parsed from. No program stands here. entry.Constant at any value; bounds of what an input means. Plain: the input of a value means the value; what an input means is the value of a cell. No program stands here. -/
import Derived.Test.YtfffihcadhfplaaGreatDoorPNdG
import Derived.Test.YtfffihcadhfplaaGreatDoorPIterV
import Derived.Test.YtfffihcadhfplaaGreatDoorPTxv
import Derived.Test.YtfffihcadhfplaaGreatDoorPForB
import Derived.Test.YtfffihcadhfplaaGreatDoorPShc
import Derived.Test.YtfffihcadhfplaaGreatDoorPEnd
import Derived.Test.YtfffihcadhfplaaGreatDoorPShO
namespace Go.Proofs.YtfffihcadhfplaaGreatDoor
set_option maxRecDepth 100000
set_option maxHeartbeats 4000000
open Go.RowKit
attribute [local go_sem high] eq_node
open Classical in
noncomputable def eqA (t u:List NdA):Bool:=decide (t=u)
open Classical in
theorem eqA_yes (t:List NdA):eqA t t=true:=decide_eq_true rfl
open Classical in
theorem eqA_no {t u:List NdA} (h:t≠u):eqA t u=false:=decide_eq_false h
open Classical in
theorem eqA_iff (t u:List NdA):eqA t u=true↔t=u:=decide_eq_true_iff
theorem cells_below {w0 w:World} {b o:Nat} {l:List Value} (hb:Below w0.heap.size w0 w) (hlt:b<w0.heap.size) (h:∀ j v,l[j]?=some v→w0.cell? ⟨b,o+j,none⟩=some v):b<w.heap.size∧cellsFrom w b o 0 l :=
 ⟨Nat.lt_of_lt_of_le hlt hb.size,cells_of l fun j v hj=>(hb.cell hlt).trans (h j v hj)⟩
theorem rows_at {w:World} {a:Option Addr} {s:Nat} {l:List (List Value)} (h:RowsAt w a s l) {i:Nat} {r:List Value} (hi:l[i]?=some r):∃ b o,a=some ⟨b,o,none⟩∧b<w.heap.size∧∀ j v,r[j]?=some v→w.cell? ⟨b,o+i * s+j,none⟩=some v:=by
 obtain ⟨b,o,h1,h2,h3⟩:=h (by intro e; rw [e] at hi; cases hi)
 exact ⟨b,o,h1,h2,fun j v hj=>by rw [Nat.add_assoc]; exact h3 i r hi j v hj⟩
theorem equal_treeA (t u:List NdA) (a b:Option Addr) (c d:Nat) (w:World) (ht:t.length≤1000) (hu:u.length≤1000) (ha:RowsAt w a 11 (t.map aRow)) (hb:RowsAt w b 11 (u.map aRow)) :
  Calls Tryz.prog 29 #[.slice a t.length c,.slice b u.length d] w fun e w'=>e=.returned (.bool (eqA t u))∧Below w.heap.size w w':=by
 have HA:=keep ha
 have HB:=keep hb
 clear ha hb
 obtain ⟨V,hV⟩:∃ V,eqA t u=V:=⟨_,rfl⟩
 rw [hV]
 have HV:=keep hV
 clear hV
 obtain ⟨n,hn⟩:∃ n,t.length=n:=⟨_,rfl⟩
 obtain ⟨m,hm⟩:∃ m,u.length=m:=⟨_,rfl⟩
 rw [hn,hm]
 have HN:=keep hn
 have HM:=keep hm
 rw [hn] at ht
 rw [hm] at hu
 clear hn hm
 by_cases hnm:n=m
 rotate_left
 ·have hne:((n:Int) != (m:Int))=true:=by simp; omega
  have HE:=keep (show V=false from HV.out.symm.trans (eqA_no (by rintro rfl; exact hnm (HN.out.symm.trans HM.out))))
  clear hnm
  go_enter Tryz.func29,Tryz.ntmps29
  go_wp2_with fail
  go_ret
  exact ⟨by rw [HE.out]; rfl,Below.refl _ _⟩
 subst hnm
 go_enter Tryz.func29,Tryz.ntmps29
 go_wp2_with fail
 go_loopw [5] (fun i wr=>∃ k:Nat,k≤n∧i=.int .i64 (k:Int)∧Keep (t.take k=u.take k)∧Hid (Below w.heap.size w wr)) (fun i _=>n - (intOf i).toNat)
 case atStart=>exact ⟨0,Nat.zero_le _,rfl,keep rfl,Below.refl _ _⟩
 case round =>
  obtain ⟨k,hk,rfl,HEQ,H2⟩:=hrel
  obtain ⟨wp,rfl⟩:∃ wp:World,wp=wr:=⟨_,rfl⟩
  by_cases hlt:(k:Int)<n
  ·have hil:k<t.length:=by rw [HN.out]; omega
   have hil2:k<u.length:=by rw [HM.out]; omega
   obtain ⟨x,hx⟩:∃ x,t[k]=x:=⟨_,rfl⟩
   obtain ⟨y,hy⟩:∃ y,u[k]=y:=⟨_,rfl⟩
   have HST:=keep (show x=y→t.take (k+1)=u.take (k+1) from fun e=>by rw [List.take_succ_eq_append_getElem hil,List.take_succ_eq_append_getElem hil2,HEQ.out,hx,hy,e])
   have HNE:=keep (show x≠y→V=false from fun e=>HV.out.symm.trans (eqA_no (by rintro rfl; exact e (hx.symm.trans hy))))
   obtain ⟨b1,o1,ha1,hB1,hc1⟩:=rows_at HA.out (i:=k) (r:=aRow x) (by rw [List.getElem?_map,List.getElem?_eq_getElem hil,hx]; rfl)
   obtain ⟨b2,o2,hb2,hB2,hc2⟩:=rows_at HB.out (i:=k) (r:=aRow y) (by rw [List.getElem?_map,List.getElem?_eq_getElem hil2,hy]; rfl)
   subst ha1 hb2
   have q1:=cells_below H2.out hB1 hc1
   have q2:=cells_below H2.out hB2 hc2
   clear hil hil2 hx hy hc1 hc2
   obtain ⟨xk,xvk,xvn,xvt,⟨xr1,xr2,xr3,xr4⟩,xop,xfn,xn⟩:=x
   obtain ⟨yk,yvk,yvn,yvt,⟨yr1,yr2,yr3,yr4⟩,yop,yfn,yn⟩:=y
   obtain ⟨q,hq⟩:∃ q,eq11 xk xvk xvn xr1 xr2 xr3 xr4 xop xfn xn yk yvk yvn yr1 yr2 yr3 yr4 yop yfn yn xvt yvt=q:=⟨_,rfl⟩
   have HQ:=keep hq
   have H3:Hid (Ok w [kCells b1 (o1+k * 11) [.int .u8 xk,.int .u8 xvk,.int .i64 xvn,.string ⟨xvt.toArray⟩,.int .i64 xr1,.int .i64 xr2,.int .i64 xr3,.int .i64 xr4,.int .i64 xop,.int .u8 xfn,.int .i64 xn],kCells b2 (o2+k * 11) [.int .u8 yk,.int .u8 yvk,.int .i64 yvn,.string ⟨yvt.toArray⟩,.int .i64 yr1,.int .i64 yr2,.int .i64 yr3,.int .i64 yr4,.int .i64 yop,.int .u8 yfn,.int .i64 yn]] wp):=Lib.hid (((⟨H2.out,fun _ h=>absurd h (by simp)⟩:Ok w [] wp).add (kCells b2 (o2+k * 11) [.int .u8 yk,.int .u8 yvk,.int .i64 yvn,.string ⟨yvt.toArray⟩,.int .i64 yr1,.int .i64 yr2,.int .i64 yr3,.int .i64 yr4,.int .i64 yop,.int .u8 yfn,.int .i64 yn]) q2).add (kCells b1 (o1+k * 11) [.int .u8 xk,.int .u8 xvk,.int .i64 xvn,.string ⟨xvt.toArray⟩,.int .i64 xr1,.int .i64 xr2,.int .i64 xr3,.int .i64 xr4,.int .i64 xop,.int .u8 xfn,.int .i64 xn]) q1)
   clear H2 q1 q2
   cases q
   ·have HE:=keep (HNE.out fun e=>by
     injection e with e1 e2 e3 e4 e5 e6 e7 e8
     injection e5 with f1 f2 f3 f4
     have:=(eq11_iff xk xvk xvn xr1 xr2 xr3 xr4 xop xfn xn yk yvk yvn yr1 yr2 yr3 yr4 yop yfn yn xvt yvt).2 ⟨by omega,by omega,e3,e4,f1,f2,f3,f4,e6,by omega,e8⟩
     rw [HQ.out] at this; cases this)
    go_upto_region 6 with fail
    refine wp_region_held_drew (S:=fun W=>Ok w [kCells b1 (o1+k * 11) [.int .u8 xk,.int .u8 xvk,.int .i64 xvn,.string ⟨xvt.toArray⟩,.int .i64 xr1,.int .i64 xr2,.int .i64 xr3,.int .i64 xr4,.int .i64 xop,.int .u8 xfn,.int .i64 xn],kCells b2 (o2+k * 11) [.int .u8 yk,.int .u8 yvk,.int .i64 yvn,.string ⟨yvt.toArray⟩,.int .i64 yr1,.int .i64 yr2,.int .i64 yr3,.int .i64 yr4,.int .i64 yop,.int .u8 yfn,.int .i64 yn]] W) (by kernel_rfl) H3.out.drew (fun hHeld => ?_)
    refine wt3 (i:=0) rfl (by assumption) ?_
    refine wt3 (i:=1) rfl (by assumption) ?_
    refine wt3 (i:=2) rfl (by assumption) ?_
    refine wt3 (i:=3) rfl (by assumption) ?_
    refine wt3 (i:=4) rfl (by assumption) ?_
    refine wt3 (i:=5) rfl (by assumption) ?_
    refine wt3 (i:=6) rfl (by assumption) ?_
    refine wt3 (i:=7) rfl (by assumption) ?_
    refine wt3 (i:=8) rfl (by assumption) ?_
    refine wpAnyH_done (by kernel_rfl) ?_ _
    clear H3
    have H2:=Lib.hid hHeld
    clear hHeld
    go_wp2_with fail
    go_ret
    exact ⟨by rw [HE.out]; rfl,H2.out.bel⟩
   ·have HEE:=keep (HST.out (by
     obtain ⟨e1,e2,e3,e4,f1,f2,f3,f4,e6,e7,e8⟩:=(eq11_iff ..).1 HQ.out
     have e1:xk=yk:=by omega
     have e2:xvk=yvk:=by omega
     have e7:xfn=yfn:=by omega
     rw [e1,e2,e3,e4,f1,f2,f3,f4,e6,e7,e8]))
    go_upto_region 6 with fail
    refine wp_region_held_drew (S:=fun W=>Ok w [kCells b1 (o1+k * 11) [.int .u8 xk,.int .u8 xvk,.int .i64 xvn,.string ⟨xvt.toArray⟩,.int .i64 xr1,.int .i64 xr2,.int .i64 xr3,.int .i64 xr4,.int .i64 xop,.int .u8 xfn,.int .i64 xn],kCells b2 (o2+k * 11) [.int .u8 yk,.int .u8 yvk,.int .i64 yvn,.string ⟨yvt.toArray⟩,.int .i64 yr1,.int .i64 yr2,.int .i64 yr3,.int .i64 yr4,.int .i64 yop,.int .u8 yfn,.int .i64 yn]] W) (by kernel_rfl) H3.out.drew (fun hHeld => ?_)
    refine wt3 (i:=0) rfl (by assumption) ?_
    refine wt3 (i:=1) rfl (by assumption) ?_
    refine wt3 (i:=2) rfl (by assumption) ?_
    refine wt3 (i:=3) rfl (by assumption) ?_
    refine wt3 (i:=4) rfl (by assumption) ?_
    refine wt3 (i:=5) rfl (by assumption) ?_
    refine wt3 (i:=6) rfl (by assumption) ?_
    refine wt3 (i:=7) rfl (by assumption) ?_
    refine wt3 (i:=8) rfl (by assumption) ?_
    refine wpAnyH_done (by kernel_rfl) ?_ _
    clear H3
    have H2:=Lib.hid hHeld
    clear hHeld
    go_wp2_with fail
    go_roundw
    case rel=>exact ⟨k+1,by omega,by go_num,HEE,H2.out.bel⟩
    case measure=>simp [intOf]; omega
  ·obtain rfl:n=k:=by omega
   have HE:=keep (show V=true by
    have h9:=HEQ.out
    rw [List.take_of_length_le (by rw [HN.out]; exact Nat.le_refl _),List.take_of_length_le (by rw [HM.out]; exact Nat.le_refl _)] at h9
    rw [← HV.out,h9]; exact eqA_yes _)
   go_wp2_with fail
   go_ret
   exact ⟨by rw [HE.out]; rfl,H2.out⟩
def wtN (ts:List Tk):Nat:=(txT ts).length
theorem wt_cons (t:Tk) (ts:List Tk):wtN (t::ts)=(tkT t).length+wtN ts:=by unfold wtN; rw [txT_cons,List.length_append]
theorem wt_app (a b:List Tk):wtN (a++b)=wtN a+wtN b:=by unfold wtN txT; rw [List.flatMap_append,List.length_append]
theorem wt_one (t:Tk):wtN [t]=(tkT t).length:=by rw [wt_cons]; rfl
theorem wt_nil:wtN []=0:=rfl
theorem wt_pr (l:Nat) (e:En):wtN (prO l e)=wtN e.ts+if l≤e.s then 0 else 2:=by
 unfold prO
 by_cases h:l≤e.s
 ·rw [if_pos h,if_pos h]; rfl
 ·rw [if_neg h,if_neg h,wt_cons,wt_app,wt_one]
  show 1+(wtN e.ts+1)=_
  omega
theorem wt_mono {l k:Nat} (h:l≤k) (e:En):wtN (prO l e)≤wtN (prO k e):=by
 rw [wt_pr,wt_pr]
 split <;> split <;> omega
theorem wt_low (l:Nat) (e:En):wtN e.ts≤wtN (prO l e):=by rw [wt_pr]; omega
theorem wt_high (l k:Nat) (e:En):wtN (prO l e)≤wtN (prO k e)+2:=by
 rw [wt_pr,wt_pr]
 split <;> split <;> omega
theorem wt_at (l:Nat) (ts:List Tk) (s:Nat) (h:l≤s):wtN (prO l ⟨ts,s⟩)=wtN ts:=by rw [wt_pr,if_pos h]; rfl
theorem tk_op {t:Tk} (h:t.kind=8):tkT t=opText t.num:=by unfold tkT; simp [h]
theorem tk_7 {t:Tk} (h:t.kind=7):tkT t=t.text:=by unfold tkT; simp [h]
theorem tk_5 {t:Tk} (h:t.kind=5):tkT t=rngT t.r:=by unfold tkT; simp [h]
theorem tk_6 {t:Tk} (h:t.kind=6):tkT t=rngT t.r:=by unfold tkT; simp [h]
theorem tk_9 {t:Tk} (h:t.kind=9):tkT t=[40]:=by unfold tkT; simp [h]
theorem tk_10 {t:Tk} (h:t.kind=10):tkT t=[41]:=by unfold tkT; simp [h]
theorem tk_11 {t:Tk} (h:t.kind=11):tkT t=[44]:=by unfold tkT; simp [h]
theorem tk_val {t:Tk} (h1:1≤t.kind) (h4:t.kind≤4):tkT (tkV (ndVal t))=tkT t:=by
 have g:t.kind=1∨t.kind=2∨t.kind=3∨t.kind=4:=by omega
 rcases g with g | g | g | g <;> simp [tkT,tkV,ndVal,g]
theorem wt_pct:∀ u:List Tk,wtN (pctS u).1+(pctS u).2=wtN u
 | []=>rfl
 | t::u=>by
  rw [pctS]
  split
  next h =>
   have e:tkT t=[37]:=by rw [tk_op h.1,h.2]; rfl
   rw [wt_cons,e]
   show wtN (pctS u).1+((pctS u).2+1)=1+_
   rw [← wt_pct u]; omega
  ·rfl
theorem wt_bin (k:Nat) (op:Int) (x y:En) (hk:bindS op=k) (h4:k≤4):wtN (prO k (comE (ndBin op) [x,y]))=wtN (prO k x)+((opText op).length+wtN (prO (k+1) y)):=by
 have h5:op≠5:=by rintro rfl; exact absurd hk (by rw [show bindS 5=6 from rfl]; omega)
 have e:comE (ndBin op) [x,y]=⟨prO k x++tkO op::prO (k+1) y,k⟩:=by
  rw [← hk]
  exact if_neg h5
 rw [e,wt_at _ _ _ (Nat.le_refl _),wt_app,wt_cons,tk_op (t:=tkO op) rfl]
 rfl
def WtM (m:Md) (ts u:List Tk) (ns:List Nd) (n:Nat):Prop:=match m with
 | .ops k=>∀ x:En,∃ y:En,(∀ es,comW ns (es++[x])=es++[y])∧wtN (prO k y)+wtN u≤wtN ts+wtN (prO k x)
 | .args _ i=>∃ xs:List En,xs≠[]∧i+xs.length=n∧(∀ es,comW ns es=es++xs)∧wtN (arJ xs)+wtN u≤wtN ts
 | m=>∃ e:En,(∀ es,comW ns es=es++[e])∧wtN (prO (lvM m) e)+wtN u≤wtN ts
theorem wpct_run:∀ (j:Nat) (e:En),∃ e2:En,(∀ es,comW (List.replicate j ndPct) (es++[e])=es++[e2])∧wtN (prO 7 e2)≤wtN (prO 7 e)+j
 | 0,e=>⟨e,fun _=>rfl,Nat.le_refl _⟩
 | j+1,e=>by
  obtain ⟨e2,h1,h2⟩:=wpct_run j (comE ndPct [e])
  refine ⟨e2,fun es => ?_,?_⟩
  ·rw [List.replicate_succ]
   show comW ([ndPct]++List.replicate j ndPct) (es++[e])=_
   rw [comW_app,comW_1 ndPct rfl,h1]
  ·have:wtN (prO 7 (comE ndPct [e]))=wtN (prO 7 e)+1:=by
    show wtN (prO 7 ⟨prO 7 e++[tkO 13],7⟩)=_
    rw [wt_at _ _ _ (Nat.le_refl _),wt_app,wt_one]
    rfl
   omega
theorem name_of {t:List UInt8} (h:fnS t≠0):nameF (fnS t)=t:=by
 unfold fnS at h ⊢
 cases hf:fnNames.findIdx? (· == t) with
 | none=>rw [hf] at h; exact absurd rfl h
 | some i =>
  obtain ⟨hi,he,-⟩:=List.findIdx?_eq_some_iff_getElem.1 hf
  show (fnNames[i+1 - 1]?).getD []=t
  rw [Nat.add_sub_cancel,List.getElem?_eq_getElem hi]
  simpa using he
theorem wt_all {m:Md} {ts u:List Tk} {ns:List Nd} {n:Nat} (h:Pk m ts u ns n):okK m→WtM m ts u ns n:=by
 induction h with
 | @lv5 k ts u ns n hk h ih =>
  intro _
  obtain ⟨e,h1,h2⟩:=ih trivial
  refine ⟨e,h1,?_⟩
  show wtN (prO (min k 5) e)+_≤_
  rw [Nat.min_eq_right hk]; exact h2
 | @lv k ts u v ns ms n m hk h g ih ig =>
  intro h0
  have h0:1≤k:=h0
  obtain ⟨e,h1,h2⟩:=ih (by show 1≤k+1; omega)
  obtain ⟨y,g1,g2⟩:=ig ⟨h0,by omega⟩ e
  refine ⟨y,fun es=>by rw [comW_app,h1,g1],?_⟩
  have h2:wtN (prO (min (k+1) 5) e)+wtN u≤wtN ts:=h2
  rw [Nat.min_eq_left (by omega)] at h2
  show wtN (prO (min k 5) y)+_≤_
  rw [Nat.min_eq_left (by omega)]
  have:=wt_mono (show k≤k+1 by omega) e
  omega
 | nil=>intro _ x; exact ⟨x,fun _=>rfl,by rw [wt_nil]; omega⟩
 | stop hk=>intro _ x; exact ⟨x,fun _=>rfl,by omega⟩
 | @op k t ts u v ns ms n m h8 hk h g ih ig =>
  intro h0 x
  obtain ⟨e,h1,h2⟩:=ih (by show 1≤k+1; omega)
  obtain ⟨y,g1,g2⟩:=ig h0 (comE (ndBin t.num) [x,e])
  have h2:wtN (prO (min (k+1) 5) e)+wtN u≤wtN ts:=h2
  have h4:=h0.2
  rw [Nat.min_eq_left (by omega)] at h2
  refine ⟨y,fun es => ?_,?_⟩
  ·rw [comW_app,h1]
   show comW ([ndBin t.num]++ms) _=_
   rw [comW_app,comW_2 (ndBin t.num) rfl,g1]
  ·rw [wt_bin k t.num x e hk h4] at g2
   rw [wt_cons,tk_op h8]
   omega
 | @neg t ts u ns n h8 h2 h ih =>
  intro _
  obtain ⟨e,h1,g⟩:=ih trivial
  refine ⟨comE ndNeg [e],fun es=>by rw [comW_app,h1,comW_1 ndNeg rfl],?_⟩
  have g:wtN (prO 5 e)+wtN u≤wtN ts:=g
  show wtN (prO 5 ⟨tkO 2::prO 5 e,5⟩)+_≤_
  rw [wt_at _ _ _ (Nat.le_refl _),wt_cons,wt_cons,tk_op h8,h2,tk_op (t:=tkO 2) rfl]
  show (opText 2).length+_+_≤_
  omega
 | bare hn h h5 ih =>
  intro _
  obtain ⟨e,h1,g⟩:=ih trivial
  refine ⟨e,h1,?_⟩
  have:=wt_mono (show 5≤7 by decide) e
  have g:wtN (prO 7 e)+_≤_:=g
  show wtN (prO 5 e)+_≤_
  omega
 | @pow t ts u v ns ms n m hn h h8 h5 g ih ig =>
  intro _
  obtain ⟨e1,h1,q1⟩:=ih trivial
  obtain ⟨e2,h2,q2⟩:=ig trivial
  have q1:wtN (prO 7 e1)+wtN (t::u)≤wtN ts:=q1
  have q2:wtN (prO 5 e2)+wtN v≤wtN u:=q2
  rw [wt_cons,tk_op h8,h5] at q1
  refine ⟨comE (ndBin 5) [e1,e2],fun es=>by rw [comW_app,h1,comW_app,h2,comW_2 (ndBin 5) rfl],?_⟩
  show wtN (prO 5 ⟨prO 7 e1++tkO 5::prO 5 e2,6⟩)+_≤_
  rw [wt_at _ _ _ (show 5≤6 by decide),wt_app,wt_cons,tk_op (t:=tkO 5) rfl]
  show _+((opText 5).length+_)+_≤_
  omega
 | @pc ts u ns n h ih =>
  intro _
  obtain ⟨e,h1,g⟩:=ih trivial
  obtain ⟨e2,g1,g2⟩:=wpct_run (pctS u).2 e
  refine ⟨e2,fun es=>by rw [comW_app,h1,g1],?_⟩
  have:=wt_mono (show 7≤8 by decide) e
  have g:wtN (prO 8 e)+_≤_:=g
  show wtN (prO 7 e2)+_≤_
  have:=wt_pct u
  omega
 | @val t ts h1 h4 =>
  intro _
  refine ⟨comE (ndVal t) [],fun es=>comW_0 (ndVal t) rfl es,?_⟩
  show wtN (prO 8 ⟨[tkV (ndVal t)],8⟩)+_≤_
  rw [wt_at _ _ _ (Nat.le_refl _),wt_one,tk_val h1 h4,wt_cons]
  exact Nat.le_refl _
 | @ref t ts h5 =>
  intro _
  refine ⟨comE (ndRef t.r) [],fun es=>comW_0 (ndRef t.r) rfl es,?_⟩
  show wtN (prO 8 ⟨[⟨5,0,[],t.r,0⟩],8⟩)+_≤_
  rw [wt_at _ _ _ (Nat.le_refl _),wt_one,wt_cons,tk_5 h5,tk_5 (t:=⟨5,0,[],t.r,0⟩) rfl]
  exact Nat.le_refl _
 | @par t c ts u ns n h9 h hc ih =>
  intro _
  obtain ⟨e,h1,g⟩:=ih (Nat.le_refl 1)
  refine ⟨e,h1,?_⟩
  have g:wtN (prO 1 e)+wtN (c::u)≤wtN ts:=g
  rw [wt_cons,tk_10 hc] at g
  have:=wt_high 8 1 e
  show wtN (prO 8 e)+_≤_
  rw [wt_cons,tk_9 h9]
  simp only [List.length_cons,List.length_nil] at g ⊢
  omega
 | @call t o c ts u ns n h7 hf ho h hc h1 h2 hd ih =>
  intro _
  obtain ⟨xs,hx,hl,g1,g2⟩:=ih trivial
  rw [wt_cons,tk_10 hc] at g2
  refine ⟨comE (ndCall (fnS t.text) n) xs,fun es=>by rw [comW_app,g1,comW_n _ _ _ (by show n=xs.length; omega)],?_⟩
  show wtN (prO 8 ⟨tkN (fnS t.text)::tkL::(arJ xs++[tkR]),8⟩)+_≤_
  rw [wt_at _ _ _ (Nat.le_refl _),wt_cons,wt_cons,wt_app,wt_one,wt_cons,wt_cons,tk_7 h7,tk_9 ho,tk_7 (t:=tkN (fnS t.text)) rfl,tk_9 (t:=tkL) rfl,tk_10 (t:=tkR) rfl]
  show (nameF (fnS t.text)).length+_+_≤_
  rw [name_of hf]
  simp only [List.length_cons,List.length_nil] at g2 ⊢
  omega
 | @argE fn i ts u ns n h6 h hc ih =>
  intro _
  obtain ⟨e,h1,g⟩:=ih (Nat.le_refl 1)
  have g:wtN (prO 1 e)+wtN u≤wtN ts:=g
  have:=wt_low 1 e
  exact ⟨[e],by simp,rfl,h1,by show wtN e.ts+_≤_; omega⟩
 | @argC fn i c ts u v ns ms n m h6 h hc g ih ig =>
  intro _
  obtain ⟨e,h1,q⟩:=ih (Nat.le_refl 1)
  obtain ⟨xs,hx,hl,g1,g2⟩:=ig trivial
  have q:wtN (prO 1 e)+wtN (c::u)≤wtN ts:=q
  rw [wt_cons,tk_11 hc] at q
  have:=wt_low 1 e
  refine ⟨e::xs,by simp,by rw [List.length_cons]; omega,fun es=>by rw [comW_app,h1,g1]; simp,?_⟩
  cases xs with
  | nil=>exact absurd rfl hx
  | cons x xs =>
   show wtN (e.ts++tkC::arJ (x::xs))+_≤_
   rw [wt_app,wt_cons,tk_11 (t:=tkC) rfl]
   omega
 | @rngE fn i t ts h6 hw hc =>
  intro _
  refine ⟨[comE (ndRange t.r) []],by simp,rfl,fun es=>comW_0 (ndRange t.r) rfl es,?_⟩
  rw [wt_cons,tk_6 h6]
  show wtN [⟨6,0,[],t.r,0⟩]+_≤_
  rw [wt_one,tk_6 (t:=⟨6,0,[],t.r,0⟩) rfl]
  exact Nat.le_refl _
 | @rngC fn i t c u v ms m h6 hw hc g ig =>
  intro _
  obtain ⟨xs,hx,hl,g1,g2⟩:=ig trivial
  refine ⟨comE (ndRange t.r) []::xs,by simp,by rw [List.length_cons]; omega,fun es => ?_,?_⟩
  ·show comW ([ndRange t.r]++ms) es=_
   rw [comW_app,comW_0 (ndRange t.r) rfl,g1]; simp
  ·rw [wt_cons,wt_cons,tk_6 h6,tk_11 hc]
   cases xs with
   | nil=>exact absurd rfl hx
   | cons x xs =>
    show wtN ([⟨6,0,[],t.r,0⟩]++tkC::arJ (x::xs))+_≤_
    rw [wt_app,wt_one,wt_cons,tk_6 (t:=⟨6,0,[],t.r,0⟩) rfl,tk_11 (t:=tkC) rfl]
    show (rngT t.r).length+_+_≤_
    omega
theorem wt_least {t:List Nd} {ts:List Tk} {n:Nat} (hp:Pk (.lv 1) ts [] t n):∃ e:En,comW t []=[e]∧wtN e.ts≤wtN ts:=by
 obtain ⟨e,h1,h2⟩:=wt_all hp (Nat.le_refl 1)
 have g:wtN (prO 1 e)+0≤wtN ts:=h2
 have:=wt_low 1 e
 exact ⟨e,h1 [],by omega⟩
theorem chk_len {l:List UInt8} (h:checkT l=0):l.length≤256:=by
 unfold checkT at h
 split at h
 ·exact absurd h (by decide)
 ·omega
def VlIn (m:Nat) (v:Vl):Prop:=-9223372036854775808≤v.2.1∧v.2.1≤9223372036854775807∧v.2.2.length≤m
theorem trim_len (l:List UInt8) (c:UInt8):(Lib.trimPrefix l [c]).length≤l.length:=by
 obtain ⟨h1,h2⟩:=cut_eq (l:=l) (c:=c)
 by_cases h:l.head?=some c
 ·rw [h2 h,List.length_tail]; omega
 ·have:Lib.trimPrefix l [c]=l:=by
   unfold Lib.trimPrefix
   rw [h1,decide_eq_false h]; rfl
  rw [this]; exact Nat.le_refl _
theorem try_in (k:Nat) (l:List UInt8):VlIn l.length (tryS k l).1:=by
 have z:∀ (a:Nat) (n:Int) (b:Bool),-9223372036854775808≤n→n≤9223372036854775807→VlIn l.length ((a,n,([]:List UInt8)),b).1:=fun a n b h1 h2=>⟨h1,h2,Nat.zero_le _⟩
 have hd:=parD_range l
 have hc:=code_le l
 unfold tryS
 split
 ·exact z _ _ _ (by decide) (by decide)
 split
 ·exact ⟨(by decide:(-9223372036854775808:Int)≤0),(by decide:(0:Int)≤9223372036854775807),trim_len l 39⟩
 split
 ·split
  ·exact z _ _ _ (by decide) (by decide)
  split
  ·exact z _ _ _ (by decide) (by decide)
  ·exact z _ _ _ (by decide) (by decide)
 split
 ·split
  ·exact z _ _ _ (by decide) (by decide)
  ·exact z _ _ _ (by omega) (by omega)
 split
 ·exact z _ _ _ (by decide) (by decide)
 ·exact z _ _ _ (by omega) (by omega)
theorem constK_in (l:List UInt8):∀ n k,VlIn l.length (constK l n k)
 | 0,_=>⟨(by decide:(-9223372036854775808:Int)≤0),(by decide:(0:Int)≤9223372036854775807),Nat.le_refl _⟩
 | n+1,k=>by
  rw [constK]
  split
  ·exact try_in k l
  ·exact constK_in l n (k+1)
theorem mean_cases (l:List UInt8):(∃ a e,meanS l=(Mn.none,a,e)∧e≠0)∨(meanS l=(⟨false,constS l,[]⟩,0,0)∧l.length≤256∧l.all plainB=true∧l.head?≠some 61) ∨
  (∃ t,meanS l=(⟨true,(0,0,[]),t⟩,0,0)∧l.length≤256∧l.all plainB=true∧l.head?=some 61∧formS l.tail=(t,0,0)):=by
 by_cases h:256<l.length
 ·exact .inl ⟨_,_,mean_long h,by decide⟩
 by_cases h1:l.all plainB=true
 ·by_cases h2:l.head?=some 61
  ·by_cases h3:(formS l.tail).2.2=0
   ·refine .inr (.inr ⟨_,mean_form h h1 h2 h3,by omega,h1,h2,?_⟩)
    rcases form_cases l.tail with ⟨a,e,g,he,-⟩ | ⟨_,ns,_,g,-⟩
    ·rw [g] at h3; exact absurd h3 he
    ·rw [g]
   ·exact .inl ⟨_,_,mean_fault h h1 h2 h3,h3⟩
  ·exact .inr (.inl ⟨mean_const h h1 h2,by omega,h1,h2⟩)
 ·left
  unfold meanS
  rw [if_neg h]
  cases hf:l.findIdx? (fun b=>!plainB b) with
  | none=>exact absurd (plain_none.1 hf) h1
  | some i=>exact ⟨_,_,rfl,by decide⟩
theorem mean_range {l:List UInt8} {m:Mn} {a e:Int} (h:meanS l=(m,a,e)):VlIn 256 m.v:=by
 have z:VlIn 256 ((0,0,[]):Vl):=⟨(by decide:(-9223372036854775808:Int)≤0),(by decide:(0:Int)≤9223372036854775807),Nat.zero_le _⟩
 rcases mean_cases l with ⟨a',e',g,-⟩ | ⟨g,h2,-⟩ | ⟨t,g,-⟩
 ·rw [h] at g; cases g; exact z
 ·rw [h] at g
  cases g
  have:=constK_in l 5 0
  exact ⟨this.1,this.2.1,Nat.le_trans this.2.2 h2⟩
 ·rw [h] at g; cases g; exact z
theorem mean_tree {l:List UInt8} {m:Mn} {a e:Int} (h:meanS l=(m,a,e)) (hf:m.f=true):ASz (m.t.map Nd.any)∧formS l.tail=(m.t,0,0):=by
 rcases mean_cases l with ⟨a',e',g,-⟩ | ⟨g,-⟩ | ⟨t,g,-,-,-,h3⟩
 ·rw [h] at g; cases g; cases hf
 ·rw [h] at g; cases g; cases hf
 ·rw [h] at g
  cases g
  exact ⟨(form_good h3).2.2.1,h3⟩
theorem showF_len (t:List NdA):(showF t).1.length≤256:=by
 by_cases hc:checkA t=0
 ·by_cases h:256<(showT (t.map NdA.nd)).length
  ·rw [showF_long hc h]; exact Nat.zero_le _
  ·rw [showF_ok hc h]; show (showT _).length≤_; omega
 ·rw [showF_bad hc]; exact Nat.zero_le _
theorem eq_str {s t:ByteArray} (h:s.data.toList=t.data.toList):s=t:=by
 obtain ⟨⟨a⟩⟩:=s
 obtain ⟨⟨b⟩⟩:=t
 have h:a=b:=h
 rw [h]
theorem entry_Constant (k:Nat) (n:Int) (s:ByteArray) (hs:s.size≤4611686018427387904) (h1 : -9223372036854775808≤n) (h2:n≤9223372036854775807) (w:World) (hw:Words w) :
  Calls Tryz.prog 9 #[.agg #[.int .u8 (k:Nat),.int .i64 n,.string s]] w fun e w'=>e=.returned (.tuple #[.string ⟨(constC k n s.data.toList).1.toArray⟩,.int .i64 (constC k n s.data.toList).2])∧Below w.heap.size w w':=by
 by_cases hv:valE k n s.data.toList=0
 rotate_left
 ·rw [cst_bad (.inl hv)]
  exact cst_1 k n s _ (keep rfl) (Lib.hid hs) (by simpa using hv) w
 have hc:cellV k n s.data.toList:=Classical.byContradiction fun g=>by rw [valE_no g] at hv; exact absurd hv (by decide)
 by_cases h46:k=4∧n=6
 ·rw [cst_bad (.inr h46)]
  obtain ⟨rfl,rfl⟩:=h46
  have e:s=⟨#[]⟩:=by
   rcases hc with ⟨h,-⟩ | ⟨h,-⟩ | ⟨h,-⟩ | ⟨h,-⟩ | ⟨-,h,-⟩
   ·cases h
   ·cases h
   ·cases h
   ·cases h
   ·exact eq_str h
  subst e
  exact cst_2 (keep hv) w
 have hno:¬ (valE k n s.data.toList≠0∨(k=4∧n=6)):=by
  rintro (h | h)
  ·exact h hv
  ·exact h46 h
 have hq:eq3 (k:Nat) n 4 6 s.toList []=false:=by
  cases h:eq3 (k:Nat) n 4 6 s.toList [] with
  | false=>rfl
  | true =>
   obtain ⟨g1,g2,-⟩:=(eq3_iff ..).1 h
   exact absurd ⟨by omega,g2⟩ h46
 have hsh:=fun W hW=>val_Show k n s hs h1 h2 W hW hc
 by_cases hk:k=3
 ·subst hk
  have hn0:n=0:=by
   rcases hc with ⟨h,-⟩ | ⟨h,-⟩ | ⟨h,-⟩ | ⟨-,h,-⟩ | ⟨h,-⟩
   ·cases h
   ·cases h
   ·cases h
   ·exact h
   ·cases h
  subst hn0
  have hct:checkT s.data.toList=0:=by
   rcases hc with ⟨h,-⟩ | ⟨h,-⟩ | ⟨h,-⟩ | ⟨-,-,h⟩ | ⟨h,-⟩
   ·cases h
   ·cases h
   ·cases h
   ·exact h
   ·cases h
  have hl:=chk_len hct
  have hz:s.size≤256:=by rw [← size_l]; exact hl
  have hS:showV 3 0 s.data.toList=s.data.toList:=rfl
  rw [hS] at hsh
  have hSH:=keep hsh
  have hof:=fun W hW=>entry_Of s W hW
  unfold OfOut at hof
  obtain ⟨R,hR⟩:∃ R,meanS s.data.toList=R:=⟨_,rfl⟩
  rw [hR] at hof
  obtain ⟨m,at_,er⟩:=R
  have hmk:=mrkB_of hR
  obtain ⟨f,⟨a,n1,t1⟩,t⟩:=m
  dsimp only at hof hmk
  have HOF:=keep (fun W (hW:Words W)=>(hof W hW).mono (R':=fun e w'=>∃ ta tn tc,e=.returned (.tuple #[.agg #[.bool f,.int .u8 (a:Nat),.int .i64 n1,.string ⟨t1.toArray⟩,.slice ta tn tc],.int .i64 at_,.int .i64 er])∧Below W.heap.size W w') (by
   rintro e w' ⟨tv,rfl,g1,g2⟩
   obtain ⟨ta,tc,rfl⟩:=own_len g1
   exact ⟨ta,_,tc,rfl,g2⟩))
  have hsm:∀ {b:Bool},markB s.data.toList=b→markS 3 (showV 3 0 s.data.toList)=if b=true then 39::s.data.toList else s.data.toList:=by
   intro b hb
   unfold markS
   rw [hS,hb]
   cases b <;> simp
  have hRb:(⟨(39::s.data.toList).toArray⟩:ByteArray)=⟨#[39]⟩++s:=by
   apply eq_str
   simp [ByteArray.data_append]
  have hRs:(⟨#[39]⟩++s:ByteArray).size=s.data.toList.length+1:=by
   rw [ByteArray.size_append,size_l]
   show 1+_=_
   omega
  have yes:markB s.data.toList=true→(∀ R:ByteArray,Keep (R=⟨#[39]⟩++s)→((R.size:Int)>256→Calls Tryz.prog 9 #[.agg #[.int .u8 3,.int .i64 0,.string s]] w fun e w'=>e=.returned (.tuple #[.string ⟨#[]⟩,.int .i64 5])∧Below w.heap.size w w')∧(¬ (R.size:Int)>256→Calls Tryz.prog 9 #[.agg #[.int .u8 3,.int .i64 0,.string s]] w fun e w'=>e=.returned (.tuple #[.string R,.int .i64 0])∧Below w.heap.size w w')) →
    Calls Tryz.prog 9 #[.agg #[.int .u8 3,.int .i64 0,.string s]] w fun e w'=>e=.returned (.tuple #[.string ⟨(constC 3 0 s.data.toList).1.toArray⟩,.int .i64 (constC 3 0 s.data.toList).2])∧Below w.heap.size w w':=by
   intro hb h
   have hm:=hsm hb
   rw [if_pos rfl] at hm
   obtain ⟨g1,g2⟩:=h _ (keep rfl)
   rw [hRs] at g1 g2
   by_cases h256:256<(39::s.data.toList).length
   ·rw [cst_long hno (by rw [hm]; exact h256)]
    exact g1 (by rw [List.length_cons] at h256; omega)
   ·rw [cst_ok hno (by rw [hm]; exact h256),hm,hRb]
    exact g2 (by rw [List.length_cons] at h256; omega)
  by_cases her:er=0
  rotate_left
  ·have hb:markB s.data.toList=true:=by rw [hmk,decide_eq_true her]; rfl
   exact yes hb fun R hR2=>⟨fun hl=>cst_4el w s (keep hv) (Lib.hid hs) hq hSH (keep hw) f a n1 t1 at_ er HOF (by simpa using her) R hR2 hz hl,fun hl=>cst_4e w s (keep hv) (Lib.hid hs) hq hSH (keep hw) f a n1 t1 at_ er HOF (by simpa using her) R hR2 hz hl⟩
  cases f with
  | true =>
   have hb:markB s.data.toList=true:=by rw [hmk,decide_eq_false (by simp [her])]; rfl
   exact yes hb fun R hR2=>⟨fun hl=>cst_4fl w s (keep hv) (Lib.hid hs) hq hSH (keep hw) true a n1 t1 at_ er HOF her rfl R hR2 hz hl,fun hl=>cst_4f w s (keep hv) (Lib.hid hs) hq hSH (keep hw) true a n1 t1 at_ er HOF her rfl R hR2 hz hl⟩
  | false =>
   have hq2:eq3 (a:Nat) n1 3 0 t1 s.toList=decide (((a,n1,t1):Vl)=(3,0,s.data.toList)):=by
    rw [Bool.eq_iff_iff,eq3_iff,decide_eq_true_eq,toL]
    constructor
    ·rintro ⟨g1,g2,g3⟩
     have:a=3:=by omega
     rw [this,g2,g3]
    ·intro g
     cases g
     exact ⟨rfl,rfl,rfl⟩
   by_cases hvv:((a,n1,t1):Vl)=(3,0,s.data.toList)
   ·have hb:markB s.data.toList=false:=by rw [hmk,decide_eq_false (by simp [her]),decide_eq_true hvv]; rfl
    have hm:=hsm hb
    rw [if_neg (by decide)] at hm
    rw [cst_ok hno (by rw [hm]; omega),hm]
    exact cst_4n w s (keep hv) (Lib.hid hs) hq hSH (keep hw) false a n1 t1 at_ er HOF her rfl (by rw [hq2,decide_eq_true hvv]) (by omega)
   ·have hb:markB s.data.toList=true:=by rw [hmk,decide_eq_false (by simp [her]),decide_eq_false hvv]; rfl
    have hq3:eq3 (a:Nat) n1 3 0 t1 s.toList=false:=by rw [hq2,decide_eq_false hvv]
    exact yes hb fun R hR2=>⟨fun hl=>cst_4vl w s (keep hv) (Lib.hid hs) hq hSH (keep hw) false a n1 t1 at_ er HOF her rfl hq3 R hR2 hz hl,fun hl=>cst_4v w s (keep hv) (Lib.hid hs) hq hSH (keep hw) false a n1 t1 at_ er HOF her rfl hq3 R hR2 hz hl⟩
 ·have hm:markS k (showV k n s.data.toList)=showV k n s.data.toList:=by unfold markS; rw [if_neg fun g=>hk g.1]
  have hkb:((k:Int) == 3)=false:=by simp; omega
  obtain ⟨S,hS⟩:∃ S:ByteArray,⟨(showV k n s.data.toList).toArray⟩=S:=⟨_,rfl⟩
  have hSs:S.size=(showV k n s.data.toList).length:=by rw [← hS]; show (showV k n s.data.toList).toArray.size=_; rw [List.size_toArray]
  rw [hS] at hsh
  by_cases h256:256<(showV k n s.data.toList).length
  ·rw [cst_long hno (by rw [hm]; exact h256)]
   exact cst_3l w k n s (keep hv) (Lib.hid hs) hq hkb S (keep hsh) (keep hw) (by omega)
  ·rw [cst_ok hno (by rw [hm]; exact h256),hm,hS]
   exact cst_3s w k n s (keep hv) (Lib.hid hs) hq hkb S (keep hsh) (keep hw) (by omega)
open Go.Lib (decDigits)
theorem up_low {b:UInt8} (h:b.toNat≤57):upB b=b:=by
 unfold upB
 rw [if_neg (by omega)]
theorem const_num (n:Int) (h1 : -9223372036854775807≤n) (h2:n≤9223372036854775807):constS (decS n)=(1,n,[]):=by
 obtain ⟨b,r,e,g1,g2⟩:=decS_head n
 have hup:(decS n).map upB=b::r.map upB:=by rw [e,List.map_cons,up_low g2]
 have hc:codeS (decS n)=0:=code_no fun k k1 k7 g=>by
  have key:∀ k:Fin 8,1≤k.1→(allNames[k.1]?.getD []).head?=some 35:=by decide
  have h3:=key ⟨k,by omega⟩ k1
  rw [← g,hup] at h3
  have h3:b=35:=by simpa using h3
  rw [h3] at g1
  exact absurd g1 (by decide)
 have h4:=tryS_4 (decS n)
 rw [parD_dec n h1 h2,if_neg (show ¬ (0:Int)=3 by decide)] at h4
 rw [const_at (k:=4) (by decide) (fun j hj => ?_) (by rw [h4]; rfl),h4]
 obtain rfl | rfl | rfl | rfl:j=0∨j=1∨j=2∨j=3:=by omega
 ·show (decS n).isEmpty=false
  rw [e]; rfl
 ·show Lib.hasPrefix (decS n) [39]=false
  rw [cut_eq.1,e]
  refine decide_eq_false fun g => ?_
  have g:b=39:=by simpa using g
  rw [g] at g1; exact absurd g1 (by decide)
 ·rw [tryS_2,hup,if_neg,if_neg]
  ·intro g
   have g:b=70:=(List.cons.inj g).1
   rw [g] at g2; exact absurd g2 (by decide)
  ·intro g
   have g:b=84:=(List.cons.inj g).1
   rw [g] at g2; exact absurd g2 (by decide)
 ·rw [tryS_3,if_pos hc]
theorem cell_of {k:Nat} {n:Int} {t:List UInt8} (h:valE k n t=0):cellV k n t:=Classical.byContradiction fun g=>by rw [valE_no g] at h; exact absurd h (by decide)
theorem chk_plain {l:List UInt8} (h:checkT l=0):l.all plainB=true:=by
 unfold checkT at h
 split at h
 ·exact absurd h (by decide)
 ·split at h
  ·assumption
  ·exact absurd h (by decide)
theorem chk_of {l:List UInt8} (h:l.length≤256) (hp:l.all plainB=true):checkT l=0:=by
 unfold checkT
 rw [if_neg (by omega),if_pos hp]
theorem cst_means {k:Nat} {n:Int} {t c:List UInt8} (h1 : -9223372036854775808≤n) (h2:n≤9223372036854775807) (h:constC k n t=(c,0)):meanS c=(⟨false,(k,n,t),[]⟩,0,0)∧(c=showV k n t∨c=39::showV k n t)∧c.length≤256:=by
 have hno:¬ (valE k n t≠0∨(k=4∧n=6)):=by
  intro g
  rw [cst_bad g] at h
  exact absurd (Prod.mk.inj h).2 (by decide)
 have hl:¬ 256<(markS k (showV k n t)).length:=by
  intro g
  rw [cst_long hno g] at h
  exact absurd (Prod.mk.inj h).2 (by decide)
 rw [cst_ok hno hl] at h
 have hcm:=(Prod.mk.inj h).1
 have hv:valE k n t=0:=Classical.byContradiction fun g=>hno (.inl g)
 have hc:=cell_of hv
 have plain:markS k (showV k n t)=showV k n t→¬ 256<(showV k n t).length→(showV k n t).all plainB=true→(showV k n t).head?≠some 61→constS (showV k n t)=(k,n,t)→meanS c=(⟨false,(k,n,t),[]⟩,0,0)∧(c=showV k n t∨c=39::showV k n t)∧c.length≤256:=by
  intro e g1 g2 g3 g4
  rw [← hcm,e,mean_const g1 g2 g3,g4]
  exact ⟨rfl,.inl rfl,by omega⟩
 by_cases hk:k=3
 ·subst hk
  have hn0:n=0∧checkT t=0:=by
   rcases hc with ⟨h,-⟩ | ⟨h,-⟩ | ⟨h,-⟩ | ⟨-,h⟩ | ⟨h,-⟩
   ·cases h
   ·cases h
   ·cases h
   ·exact h
   ·cases h
  obtain ⟨rfl,hct⟩:=hn0
  have hs:showV 3 0 t=t:=rfl
  rw [hs] at hcm hl ⊢
  cases hb:markB t with
  | true =>
   have hm:markS 3 t=39::t:=by unfold markS; rw [if_pos ⟨rfl,hb⟩]
   rw [hm] at hcm hl
   rw [← hcm]
   refine ⟨?_,.inr rfl,by omega⟩
   rw [mean_const hl (by rw [List.all_cons,chk_plain hct]; rfl) (by simp)]
   have h3:(tryS 1 (39::t)).2=true:=by show Lib.hasPrefix (39::t) [39]=true; rw [cut_eq.1]; rfl
   rw [const_at (k:=1) (by decide) (fun j hj => by obtain rfl : j = 0:=by omega
                                                   rfl) h3]
   show ((⟨false,(3,0,Lib.trimPrefix (39::t) [39]),[]⟩:Mn),(0:Int),(0:Int))=_
   rw [cut_eq.2 rfl]; rfl
  | false =>
   have hm:markS 3 t=t:=by unfold markS; rw [if_neg fun g=>by rw [hb] at g; exact absurd g.2 (by decide)]
   rw [hm] at hcm hl
   rw [← hcm]
   refine ⟨?_,.inl rfl,by omega⟩
   unfold markB at hb
   rw [Bool.or_eq_false_iff,Bool.or_eq_false_iff,decide_eq_false_iff_not] at hb
   obtain ⟨b1,b2,b3⟩:=hb
   rcases mean_cases t with ⟨a,e,g,he⟩ | ⟨g,-⟩ | ⟨u,g,-⟩
   ·rw [g] at b1; exact absurd he b1
   ·rw [g] at b3 ⊢
    have b3:constS t=(3,0,t):=by simpa using b3
    rw [b3]
   ·rw [g] at b2; exact absurd (show true=false from b2) (by decide)
 ·have hm:markS k (showV k n t)=showV k n t:=by unfold markS; rw [if_neg fun g=>hk g.1]
  have hl2:=hl
  rw [hm] at hl2
  rcases hc with ⟨rfl,rfl,rfl⟩ | ⟨rfl,rfl,hn⟩ | ⟨rfl,rfl,rfl | rfl⟩ | ⟨g,-⟩ | ⟨rfl,rfl,h3,h6⟩
  ·exact plain hm hl2 rfl (by decide) rfl
  ·obtain ⟨b,r,e,g1,g2⟩:=decS_head n
   refine plain hm hl2 (decS_plain n) ?_ (const_num n (by omega) h2)
   show (decS n).head?≠_
   rw [e]
   intro g
   have g:b=61:=by simpa using g
   rw [g] at g2; exact absurd g2 (by decide)
  ·exact plain hm hl2 (by decide) (by decide) rfl
  ·exact plain hm hl2 (by decide) (by decide) rfl
  ·exact absurd g hk
  ·have h66:n≠6:=fun g=>hno (.inr ⟨rfl,g⟩)
   obtain rfl | rfl | rfl | rfl | rfl:n=1∨n=2∨n=3∨n=4∨n=5:=by omega
   all_goals exact plain hm hl2 (by decide) (by decide) (by kernel_rfl)
theorem try_cell {k:Nat} {l:List UInt8} (hc:checkT l=0) (h:(tryS k l).2=true):cellV (tryS k l).1.1 (tryS k l).1.2.1 (tryS k l).1.2.2∧(tryS k l).1≠(4,6,[]):=by
 have hd:=parD_range l
 have hl:=code_le l
 unfold tryS at h ⊢
 by_cases h0:k=0
 ·simp only [if_pos h0]
  exact ⟨.inl ⟨rfl,rfl,rfl⟩,by simp⟩
 simp only [if_neg h0] at h ⊢
 by_cases h1:k=1
 ·simp only [if_pos h1] at h ⊢
  rw [cut_eq.1,decide_eq_true_eq] at h
  refine ⟨.inr (.inr (.inr (.inl ⟨rfl,rfl,?_⟩))),by simp⟩
  rw [cut_eq.2 h]
  have h3:=chk_len hc
  have h4:=chk_plain hc
  refine chk_of (by rw [List.length_tail]; omega) ?_
  rw [List.all_eq_true] at h4 ⊢
  exact fun x hx=>h4 x (List.mem_of_mem_tail hx)
 simp only [if_neg h1] at h ⊢
 by_cases h2:k=2
 ·simp only [if_pos h2] at h ⊢
  by_cases g:l.map upB=trueB
  ·rw [if_pos g]
   exact ⟨.inr (.inr (.inl ⟨rfl,rfl,.inr rfl⟩)),by simp⟩
  ·rw [if_neg g] at h ⊢
   by_cases g:l.map upB=falseB
   ·rw [if_pos g]
    exact ⟨.inr (.inr (.inl ⟨rfl,rfl,.inl rfl⟩)),by simp⟩
   ·rw [if_neg g] at h
    exact absurd h (by decide)
 simp only [if_neg h2] at h ⊢
 by_cases h3:k=3
 ·simp only [if_pos h3] at h ⊢
  by_cases g:codeS l=0
  ·rw [if_pos g] at h
   exact absurd h (by decide)
  ·rw [if_neg g] at h ⊢
   have h:codeS l≤5:=of_decide_eq_true h
   refine ⟨.inr (.inr (.inr (.inr ⟨rfl,rfl,?_,?_⟩))),?_⟩
   ·show (1:Int)≤(codeS l:Int); omega
   ·show (codeS l:Int)≤6; omega
   ·intro g2
    have g2:((codeS l:Nat):Int)=6:=(Prod.mk.inj (Prod.mk.inj g2).2).1
    omega
 simp only [if_neg h3] at h ⊢
 by_cases g:(parD l).2=3
 ·rw [if_pos g]
  exact ⟨.inr (.inr (.inr (.inr ⟨rfl,rfl,by decide,by decide⟩))),by simp⟩
 ·rw [if_neg g]
  exact ⟨.inr (.inl ⟨rfl,rfl,by show (parD l).1≠_; omega⟩),by simp⟩
theorem constK_cell {l:List UInt8} (hc:checkT l=0):∀ n k,cellV (constK l n k).1 (constK l n k).2.1 (constK l n k).2.2∧constK l n k≠(4,6,[])
 | 0,_=>⟨.inr (.inr (.inr (.inl ⟨rfl,rfl,hc⟩))),by simp [constK]⟩
 | n+1,k=>by
  rw [constK]
  split
  ·rename_i h
   exact try_cell hc h
  ·exact constK_cell hc n (k+1)
