/- entry.Constant at any value; bounds of what an input means. Plain: the input of a value means the value; what an input means is the value of a cell. No program stands here. -/
import Derived.Test.YtfffihcadhfplaaGreatDoorQEnd
import Derived.Test.YtfffihcadhfplaaGreatDoorQTxv
import Derived.Test.YtfffihcadhfplaaGreatDoorQDcB
namespace Go.Proofs.YtfffihcadhfplaaGreatDoor
open Go.RowKit
theorem chk_len {l:List UInt8} (h:checkT l=0):l.length≤256:=by
 unfold checkT at h
 split at h
 ·exact absurd h (by decide)
 ·omega
def VlIn (m:Nat) (v:Vl):Prop:=-9223372036854775808≤v.2.1∧v.2.1≤9223372036854775807∧v.2.2.length≤m
theorem trim_len (l:List UInt8) (c:UInt8):(Lib.trimPrefix l [c]).length≤l.length:=by
 obtain ⟨h1,h2⟩:=cut_eq (l:=l) (c:=c)
 by_cases h:l.head?=some c
 ·rw [h2 h,List.length_tail]; omega
 ·have:Lib.trimPrefix l [c]=l:=by
   unfold Lib.trimPrefix
   rw [h1,decide_eq_false h]; rfl
  rw [this]; exact Nat.le_refl _
theorem try_in (k:Nat) (l:List UInt8):VlIn l.length (tryS k l).1:=by
 have z:∀ (a:Nat) (n:Int) (b:Bool),-9223372036854775808≤n→n≤9223372036854775807→VlIn l.length ((a,n,([]:List UInt8)),b).1:=fun a n b h1 h2=>⟨h1,h2,Nat.zero_le _⟩
 have hd:=parD_range l
 have hc:=code_le l
 unfold tryS
 split
 ·exact z _ _ _ (by decide) (by decide)
 split
 ·exact ⟨(by decide:(-9223372036854775808:Int)≤0),(by decide:(0:Int)≤9223372036854775807),trim_len l 39⟩
 split
 ·split
  ·exact z _ _ _ (by decide) (by decide)
  split
  ·exact z _ _ _ (by decide) (by decide)
  ·exact z _ _ _ (by decide) (by decide)
 split
 ·split
  ·exact z _ _ _ (by decide) (by decide)
  ·exact z _ _ _ (by omega) (by omega)
 split
 ·exact z _ _ _ (by decide) (by decide)
 ·exact z _ _ _ (by omega) (by omega)
theorem constK_in (l:List UInt8):∀ n k,VlIn l.length (constK l n k)
 | 0,_=>⟨(by decide:(-9223372036854775808:Int)≤0),(by decide:(0:Int)≤9223372036854775807),Nat.le_refl _⟩
 | n+1,k=>by
  rw [constK]
  split
  ·exact try_in k l
  ·exact constK_in l n (k+1)
theorem mean_cases (l:List UInt8):(∃ a e,meanS l=(Mn.none,a,e)∧e≠0)∨(meanS l=(⟨false,constS l,[]⟩,0,0)∧l.length≤256∧l.all plainB=true∧l.head?≠some 61) ∨
  (∃ t,meanS l=(⟨true,(0,0,[]),t⟩,0,0)∧l.length≤256∧l.all plainB=true∧l.head?=some 61∧formS l.tail=(t,0,0)):=by
 by_cases h:256<l.length
 ·exact .inl ⟨_,_,mean_long h,by decide⟩
 by_cases h1:l.all plainB=true
 ·by_cases h2:l.head?=some 61
  ·by_cases h3:(formS l.tail).2.2=0
   ·refine .inr (.inr ⟨_,mean_form h h1 h2 h3,by omega,h1,h2,?_⟩)
    rcases form_cases l.tail with ⟨a,e,g,he,-⟩ | ⟨_,ns,_,g,-⟩
    ·rw [g] at h3; exact absurd h3 he
    ·rw [g]
   ·exact .inl ⟨_,_,mean_fault h h1 h2 h3,h3⟩
  ·exact .inr (.inl ⟨mean_const h h1 h2,by omega,h1,h2⟩)
 ·left
  unfold meanS
  rw [if_neg h]
  cases hf:l.findIdx? (fun b=>!plainB b) with
  | none=>exact absurd (plain_none.1 hf) h1
  | some i=>exact ⟨_,_,rfl,by decide⟩
theorem mean_range {l:List UInt8} {m:Mn} {a e:Int} (h:meanS l=(m,a,e)):VlIn 256 m.v:=by
 have z:VlIn 256 ((0,0,[]):Vl):=⟨(by decide:(-9223372036854775808:Int)≤0),(by decide:(0:Int)≤9223372036854775807),Nat.zero_le _⟩
 rcases mean_cases l with ⟨a',e',g,-⟩ | ⟨g,h2,-⟩ | ⟨t,g,-⟩
 ·rw [h] at g; cases g; exact z
 ·rw [h] at g
  cases g
  have:=constK_in l 5 0
  exact ⟨this.1,this.2.1,Nat.le_trans this.2.2 h2⟩
 ·rw [h] at g; cases g; exact z
theorem mean_tree {l:List UInt8} {m:Mn} {a e:Int} (h:meanS l=(m,a,e)) (hf:m.f=true):ASz (m.t.map Nd.any)∧formS l.tail=(m.t,0,0):=by
 rcases mean_cases l with ⟨a',e',g,-⟩ | ⟨g,-⟩ | ⟨t,g,-,-,-,h3⟩
 ·rw [h] at g; cases g; cases hf
 ·rw [h] at g; cases g; cases hf
 ·rw [h] at g
  cases g
  exact ⟨(form_good h3).2.2.1,h3⟩
theorem showF_len (t:List NdA):(showF t).1.length≤256:=by
 by_cases hc:checkA t=0
 ·by_cases h:256<(showT (t.map NdA.nd)).length
  ·rw [showF_long hc h]; exact Nat.zero_le _
  ·rw [showF_ok hc h]; show (showT _).length≤_; omega
 ·rw [showF_bad hc]; exact Nat.zero_le _
theorem eq_str {s t:ByteArray} (h:s.data.toList=t.data.toList):s=t:=by
 obtain ⟨⟨a⟩⟩:=s
 obtain ⟨⟨b⟩⟩:=t
 have h:a=b:=h
 rw [h]
theorem entry_Constant (k:Nat) (n:Int) (s:ByteArray) (hs:s.size≤4611686018427387904) (h1 : -9223372036854775808≤n) (h2:n≤9223372036854775807) (w:World) (hw:Words w) :
  Calls Tryz.prog 9 #[.agg #[.int .u8 (k:Nat),.int .i64 n,.string s]] w fun e w'=>e=.returned (.tuple #[.string ⟨(constC k n s.data.toList).1.toArray⟩,.int .i64 (constC k n s.data.toList).2])∧Below w.heap.size w w':=by
 by_cases hv:valE k n s.data.toList=0
 rotate_left
 ·rw [cst_bad (.inl hv)]
  exact cst_1 k n s _ (keep rfl) (Lib.hid hs) (by simpa using hv) w
 have hc:cellV k n s.data.toList:=Classical.byContradiction fun g=>by rw [valE_no g] at hv; exact absurd hv (by decide)
 by_cases h46:k=4∧n=6
 ·rw [cst_bad (.inr h46)]
  obtain ⟨rfl,rfl⟩:=h46
  have e:s=⟨#[]⟩:=by
   rcases hc with ⟨h,-⟩ | ⟨h,-⟩ | ⟨h,-⟩ | ⟨h,-⟩ | ⟨-,h,-⟩
   ·cases h
   ·cases h
   ·cases h
   ·cases h
   ·exact eq_str h
  subst e
  exact cst_2 (keep hv) w
 have hno:¬ (valE k n s.data.toList≠0∨(k=4∧n=6)):=by
  rintro (h | h)
  ·exact h hv
  ·exact h46 h
 have hq:eq3 (k:Nat) n 4 6 s.toList []=false:=by
  cases h:eq3 (k:Nat) n 4 6 s.toList [] with
  | false=>rfl
  | true =>
   obtain ⟨g1,g2,-⟩:=(eq3_iff ..).1 h
   exact absurd ⟨by omega,g2⟩ h46
 have hsh:=fun W hW=>val_Show k n s hs h1 h2 W hW hc
 by_cases hk:k=3
 ·subst hk
  have hn0:n=0:=by
   rcases hc with ⟨h,-⟩ | ⟨h,-⟩ | ⟨h,-⟩ | ⟨-,h,-⟩ | ⟨h,-⟩
   ·cases h
   ·cases h
   ·cases h
   ·exact h
   ·cases h
  subst hn0
  have hct:checkT s.data.toList=0:=by
   rcases hc with ⟨h,-⟩ | ⟨h,-⟩ | ⟨h,-⟩ | ⟨-,-,h⟩ | ⟨h,-⟩
   ·cases h
   ·cases h
   ·cases h
   ·exact h
   ·cases h
  have hl:=chk_len hct
  have hz:s.size≤256:=by rw [← size_l]; exact hl
  have hS:showV 3 0 s.data.toList=s.data.toList:=rfl
  rw [hS] at hsh
  have hSH:=keep hsh
  have hof:=fun W hW=>entry_Of s W hW
  unfold OfOut at hof
  obtain ⟨R,hR⟩:∃ R,meanS s.data.toList=R:=⟨_,rfl⟩
  rw [hR] at hof
  obtain ⟨m,at_,er⟩:=R
  have hmk:=mrkB_of hR
  obtain ⟨f,⟨a,n1,t1⟩,t⟩:=m
  dsimp only at hof hmk
  have HOF:=keep (fun W (hW:Words W)=>(hof W hW).mono (R':=fun e w'=>∃ ta tn tc,e=.returned (.tuple #[.agg #[.bool f,.int .u8 (a:Nat),.int .i64 n1,.string ⟨t1.toArray⟩,.slice ta tn tc],.int .i64 at_,.int .i64 er])∧Below W.heap.size W w') (by
   rintro e w' ⟨tv,rfl,g1,g2⟩
   obtain ⟨ta,tc,rfl⟩:=own_len g1
   exact ⟨ta,_,tc,rfl,g2⟩))
  have hsm:∀ {b:Bool},markB s.data.toList=b→markS 3 (showV 3 0 s.data.toList)=if b=true then 39::s.data.toList else s.data.toList:=by
   intro b hb
   unfold markS
   rw [hS,hb]
   cases b <;> simp
  have hRb:(⟨(39::s.data.toList).toArray⟩:ByteArray)=⟨#[39]⟩++s:=by
   apply eq_str
   simp [ByteArray.data_append]
  have hRs:(⟨#[39]⟩++s:ByteArray).size=s.data.toList.length+1:=by
   rw [ByteArray.size_append,size_l]
   show 1+_=_
   omega
  have yes:markB s.data.toList=true→(∀ R:ByteArray,Keep (R=⟨#[39]⟩++s)→((R.size:Int)>256→Calls Tryz.prog 9 #[.agg #[.int .u8 3,.int .i64 0,.string s]] w fun e w'=>e=.returned (.tuple #[.string ⟨#[]⟩,.int .i64 5])∧Below w.heap.size w w')∧(¬ (R.size:Int)>256→Calls Tryz.prog 9 #[.agg #[.int .u8 3,.int .i64 0,.string s]] w fun e w'=>e=.returned (.tuple #[.string R,.int .i64 0])∧Below w.heap.size w w')) →
    Calls Tryz.prog 9 #[.agg #[.int .u8 3,.int .i64 0,.string s]] w fun e w'=>e=.returned (.tuple #[.string ⟨(constC 3 0 s.data.toList).1.toArray⟩,.int .i64 (constC 3 0 s.data.toList).2])∧Below w.heap.size w w':=by
   intro hb h
   have hm:=hsm hb
   rw [if_pos rfl] at hm
   obtain ⟨g1,g2⟩:=h _ (keep rfl)
   rw [hRs] at g1 g2
   by_cases h256:256<(39::s.data.toList).length
   ·rw [cst_long hno (by rw [hm]; exact h256)]
    exact g1 (by rw [List.length_cons] at h256; omega)
   ·rw [cst_ok hno (by rw [hm]; exact h256),hm,hRb]
    exact g2 (by rw [List.length_cons] at h256; omega)
  by_cases her:er=0
  rotate_left
  ·have hb:markB s.data.toList=true:=by rw [hmk,decide_eq_true her]; rfl
   exact yes hb fun R hR2=>⟨fun hl=>cst_4el w s (keep hv) (Lib.hid hs) hq hSH (keep hw) f a n1 t1 at_ er HOF (by simpa using her) R hR2 hz hl,fun hl=>cst_4e w s (keep hv) (Lib.hid hs) hq hSH (keep hw) f a n1 t1 at_ er HOF (by simpa using her) R hR2 hz hl⟩
  cases f with
  | true =>
   have hb:markB s.data.toList=true:=by rw [hmk,decide_eq_false (by simp [her])]; rfl
   exact yes hb fun R hR2=>⟨fun hl=>cst_4fl w s (keep hv) (Lib.hid hs) hq hSH (keep hw) true a n1 t1 at_ er HOF her rfl R hR2 hz hl,fun hl=>cst_4f w s (keep hv) (Lib.hid hs) hq hSH (keep hw) true a n1 t1 at_ er HOF her rfl R hR2 hz hl⟩
  | false =>
   have hq2:eq3 (a:Nat) n1 3 0 t1 s.toList=decide (((a,n1,t1):Vl)=(3,0,s.data.toList)):=by
    rw [Bool.eq_iff_iff,eq3_iff,decide_eq_true_eq,toL]
    constructor
    ·rintro ⟨g1,g2,g3⟩
     have:a=3:=by omega
     rw [this,g2,g3]
    ·intro g
     cases g
     exact ⟨rfl,rfl,rfl⟩
   by_cases hvv:((a,n1,t1):Vl)=(3,0,s.data.toList)
   ·have hb:markB s.data.toList=false:=by rw [hmk,decide_eq_false (by simp [her]),decide_eq_true hvv]; rfl
    have hm:=hsm hb
    rw [if_neg (by decide)] at hm
    rw [cst_ok hno (by rw [hm]; omega),hm]
    exact cst_4n w s (keep hv) (Lib.hid hs) hq hSH (keep hw) false a n1 t1 at_ er HOF her rfl (by rw [hq2,decide_eq_true hvv]) (by omega)
   ·have hb:markB s.data.toList=true:=by rw [hmk,decide_eq_false (by simp [her]),decide_eq_false hvv]; rfl
    have hq3:eq3 (a:Nat) n1 3 0 t1 s.toList=false:=by rw [hq2,decide_eq_false hvv]
    exact yes hb fun R hR2=>⟨fun hl=>cst_4vl w s (keep hv) (Lib.hid hs) hq hSH (keep hw) false a n1 t1 at_ er HOF her rfl hq3 R hR2 hz hl,fun hl=>cst_4v w s (keep hv) (Lib.hid hs) hq hSH (keep hw) false a n1 t1 at_ er HOF her rfl hq3 R hR2 hz hl⟩
 ·have hm:markS k (showV k n s.data.toList)=showV k n s.data.toList:=by unfold markS; rw [if_neg fun g=>hk g.1]
  have hkb:((k:Int) == 3)=false:=by simp; omega
  obtain ⟨S,hS⟩:∃ S:ByteArray,⟨(showV k n s.data.toList).toArray⟩=S:=⟨_,rfl⟩
  have hSs:S.size=(showV k n s.data.toList).length:=by rw [← hS]; show (showV k n s.data.toList).toArray.size=_; rw [List.size_toArray]
  rw [hS] at hsh
  by_cases h256:256<(showV k n s.data.toList).length
  ·rw [cst_long hno (by rw [hm]; exact h256)]
   exact cst_3l w k n s (keep hv) (Lib.hid hs) hq hkb S (keep hsh) (keep hw) (by omega)
  ·rw [cst_ok hno (by rw [hm]; exact h256),hm,hS]
   exact cst_3s w k n s (keep hv) (Lib.hid hs) hq hkb S (keep hsh) (keep hw) (by omega)
open Go.Lib (decDigits)
theorem up_low {b:UInt8} (h:b.toNat≤57):upB b=b:=by
 unfold upB
 rw [if_neg (by omega)]
theorem const_num (n:Int) (h1 : -9223372036854775807≤n) (h2:n≤9223372036854775807):constS (decS n)=(1,n,[]):=by
 obtain ⟨b,r,e,g1,g2⟩:=decS_head n
 have hup:(decS n).map upB=b::r.map upB:=by rw [e,List.map_cons,up_low g2]
 have hc:codeS (decS n)=0:=code_no fun k k1 k7 g=>by
  have key:∀ k:Fin 8,1≤k.1→(allNames[k.1]?.getD []).head?=some 35:=by decide
  have h3:=key ⟨k,by omega⟩ k1
  rw [← g,hup] at h3
  have h3:b=35:=by simpa using h3
  rw [h3] at g1
  exact absurd g1 (by decide)
 have h4:=tryS_4 (decS n)
 rw [parD_dec n h1 h2,if_neg (show ¬ (0:Int)=3 by decide)] at h4
 rw [const_at (k:=4) (by decide) (fun j hj => ?_) (by rw [h4]; rfl),h4]
 obtain rfl | rfl | rfl | rfl:j=0∨j=1∨j=2∨j=3:=by omega
 ·show (decS n).isEmpty=false
  rw [e]; rfl
 ·show Lib.hasPrefix (decS n) [39]=false
  rw [cut_eq.1,e]
  refine decide_eq_false fun g => ?_
  have g:b=39:=by simpa using g
  rw [g] at g1; exact absurd g1 (by decide)
 ·rw [tryS_2,hup,if_neg,if_neg]
  ·intro g
   have g:b=70:=(List.cons.inj g).1
   rw [g] at g2; exact absurd g2 (by decide)
  ·intro g
   have g:b=84:=(List.cons.inj g).1
   rw [g] at g2; exact absurd g2 (by decide)
 ·rw [tryS_3,if_pos hc]
theorem cell_of {k:Nat} {n:Int} {t:List UInt8} (h:valE k n t=0):cellV k n t:=Classical.byContradiction fun g=>by rw [valE_no g] at h; exact absurd h (by decide)
theorem chk_plain {l:List UInt8} (h:checkT l=0):l.all plainB=true:=by
 unfold checkT at h
 split at h
 ·exact absurd h (by decide)
 ·split at h
  ·assumption
  ·exact absurd h (by decide)
theorem chk_of {l:List UInt8} (h:l.length≤256) (hp:l.all plainB=true):checkT l=0:=by
 unfold checkT
 rw [if_neg (by omega),if_pos hp]
theorem show_len {k:Nat} {n:Int} {t:List UInt8} (h1 : -9223372036854775808≤n) (h2:n≤9223372036854775807) (hk:k≠3) (hc:cellV k n t):(showV k n t).length≤256:=by
 rcases hc with ⟨rfl,-,rfl⟩ | ⟨rfl,-⟩ | ⟨rfl,rfl,rfl | rfl⟩ | ⟨h,-⟩ | ⟨rfl,rfl,h3,h6⟩
 ·exact Nat.zero_le _
 ·exact Nat.le_trans (decS_len n h1 h2) (by decide)
 ·decide
 ·decide
 ·exact absurd h hk
 ·obtain rfl | rfl | rfl | rfl | rfl | rfl:n=1∨n=2∨n=3∨n=4∨n=5∨n=6:=by omega
  all_goals decide
theorem cst_err {k:Nat} {n:Int} {t c:List UInt8} {e:Int} (h1 : -9223372036854775808≤n) (h2:n≤9223372036854775807) (h:constC k n t=(c,e)) (he:e≠0) (hv:valE k n t=0) (hq:¬ (k=4∧n=6)):e=5∧k=3∧t.length=256:=by
 have hno:¬ (valE k n t≠0∨(k=4∧n=6)):=by
  rintro (g | g)
  ·exact g hv
  ·exact hq g
 have hc:=cell_of hv
 by_cases hl:256<(markS k (showV k n t)).length
 ·rw [cst_long hno hl] at h
  obtain ⟨-,rfl⟩:=Prod.mk.inj h
  by_cases hk:k=3
  ·subst hk
   have hct:checkT t=0:=by
    rcases hc with ⟨h,-⟩ | ⟨h,-⟩ | ⟨h,-⟩ | ⟨-,-,h⟩ | ⟨h,-⟩
    ·cases h
    ·cases h
    ·cases h
    ·exact h
    ·cases h
   have:=chk_len hct
   refine ⟨rfl,rfl,?_⟩
   have hs:showV 3 n t=t:=rfl
   rw [hs] at hl
   unfold markS at hl
   split at hl
   ·rw [List.length_cons] at hl; omega
   ·omega
  ·have:=show_len h1 h2 hk hc
   unfold markS at hl
   rw [if_neg fun g=>hk g.1] at hl
   omega
 ·rw [cst_ok hno hl] at h
  exact absurd (Prod.mk.inj h).2.symm he
theorem cst_means {k:Nat} {n:Int} {t c:List UInt8} (h1 : -9223372036854775808≤n) (h2:n≤9223372036854775807) (h:constC k n t=(c,0)):meanS c=(⟨false,(k,n,t),[]⟩,0,0)∧(c=showV k n t∨c=39::showV k n t)∧c.length≤256:=by
 have hno:¬ (valE k n t≠0∨(k=4∧n=6)):=by
  intro g
  rw [cst_bad g] at h
  exact absurd (Prod.mk.inj h).2 (by decide)
 have hl:¬ 256<(markS k (showV k n t)).length:=by
  intro g
  rw [cst_long hno g] at h
  exact absurd (Prod.mk.inj h).2 (by decide)
 rw [cst_ok hno hl] at h
 have hcm:=(Prod.mk.inj h).1
 have hv:valE k n t=0:=Classical.byContradiction fun g=>hno (.inl g)
 have hc:=cell_of hv
 have plain:markS k (showV k n t)=showV k n t→¬ 256<(showV k n t).length→(showV k n t).all plainB=true→(showV k n t).head?≠some 61→constS (showV k n t)=(k,n,t)→meanS c=(⟨false,(k,n,t),[]⟩,0,0)∧(c=showV k n t∨c=39::showV k n t)∧c.length≤256:=by
  intro e g1 g2 g3 g4
  rw [← hcm,e,mean_const g1 g2 g3,g4]
  exact ⟨rfl,.inl rfl,by omega⟩
 by_cases hk:k=3
 ·subst hk
  have hn0:n=0∧checkT t=0:=by
   rcases hc with ⟨h,-⟩ | ⟨h,-⟩ | ⟨h,-⟩ | ⟨-,h⟩ | ⟨h,-⟩
   ·cases h
   ·cases h
   ·cases h
   ·exact h
   ·cases h
  obtain ⟨rfl,hct⟩:=hn0
  have hs:showV 3 0 t=t:=rfl
  rw [hs] at hcm hl ⊢
  cases hb:markB t with
  | true =>
   have hm:markS 3 t=39::t:=by unfold markS; rw [if_pos ⟨rfl,hb⟩]
   rw [hm] at hcm hl
   rw [← hcm]
   refine ⟨?_,.inr rfl,by omega⟩
   rw [mean_const hl (by rw [List.all_cons,chk_plain hct]; rfl) (by simp)]
   have h3:(tryS 1 (39::t)).2=true:=by show Lib.hasPrefix (39::t) [39]=true; rw [cut_eq.1]; rfl
   rw [const_at (k:=1) (by decide) (fun j hj => by obtain rfl : j = 0:=by omega
                                                   rfl) h3]
   show ((⟨false,(3,0,Lib.trimPrefix (39::t) [39]),[]⟩:Mn),(0:Int),(0:Int))=_
   rw [cut_eq.2 rfl]; rfl
  | false =>
   have hm:markS 3 t=t:=by unfold markS; rw [if_neg fun g=>by rw [hb] at g; exact absurd g.2 (by decide)]
   rw [hm] at hcm hl
   rw [← hcm]
   refine ⟨?_,.inl rfl,by omega⟩
   unfold markB at hb
   rw [Bool.or_eq_false_iff,Bool.or_eq_false_iff,decide_eq_false_iff_not] at hb
   obtain ⟨b1,b2,b3⟩:=hb
   rcases mean_cases t with ⟨a,e,g,he⟩ | ⟨g,-⟩ | ⟨u,g,-⟩
   ·rw [g] at b1; exact absurd he b1
   ·rw [g] at b3 ⊢
    have b3:constS t=(3,0,t):=by simpa using b3
    rw [b3]
   ·rw [g] at b2; exact absurd (show true=false from b2) (by decide)
 ·have hm:markS k (showV k n t)=showV k n t:=by unfold markS; rw [if_neg fun g=>hk g.1]
  have hl2:=hl
  rw [hm] at hl2
  rcases hc with ⟨rfl,rfl,rfl⟩ | ⟨rfl,rfl,hn⟩ | ⟨rfl,rfl,rfl | rfl⟩ | ⟨g,-⟩ | ⟨rfl,rfl,h3,h6⟩
  ·exact plain hm hl2 rfl (by decide) rfl
  ·obtain ⟨b,r,e,g1,g2⟩:=decS_head n
   refine plain hm hl2 (decS_plain n) ?_ (const_num n (by omega) h2)
   show (decS n).head?≠_
   rw [e]
   intro g
   have g:b=61:=by simpa using g
   rw [g] at g2; exact absurd g2 (by decide)
  ·exact plain hm hl2 (by decide) (by decide) rfl
  ·exact plain hm hl2 (by decide) (by decide) rfl
  ·exact absurd g hk
  ·have h66:n≠6:=fun g=>hno (.inr ⟨rfl,g⟩)
   obtain rfl | rfl | rfl | rfl | rfl:n=1∨n=2∨n=3∨n=4∨n=5:=by omega
   all_goals exact plain hm hl2 (by decide) (by decide) (by kernel_rfl)
theorem try_cell {k:Nat} {l:List UInt8} (hc:checkT l=0) (h:(tryS k l).2=true):cellV (tryS k l).1.1 (tryS k l).1.2.1 (tryS k l).1.2.2∧(tryS k l).1≠(4,6,[]):=by
 have hd:=parD_range l
 have hl:=code_le l
 unfold tryS at h ⊢
 by_cases h0:k=0
 ·simp only [if_pos h0]
  exact ⟨.inl ⟨rfl,rfl,rfl⟩,by simp⟩
 simp only [if_neg h0] at h ⊢
 by_cases h1:k=1
 ·simp only [if_pos h1] at h ⊢
  rw [cut_eq.1,decide_eq_true_eq] at h
  refine ⟨.inr (.inr (.inr (.inl ⟨rfl,rfl,?_⟩))),by simp⟩
  rw [cut_eq.2 h]
  have h3:=chk_len hc
  have h4:=chk_plain hc
  refine chk_of (by rw [List.length_tail]; omega) ?_
  rw [List.all_eq_true] at h4 ⊢
  exact fun x hx=>h4 x (List.mem_of_mem_tail hx)
 simp only [if_neg h1] at h ⊢
 by_cases h2:k=2
 ·simp only [if_pos h2] at h ⊢
  by_cases g:l.map upB=trueB
  ·rw [if_pos g]
   exact ⟨.inr (.inr (.inl ⟨rfl,rfl,.inr rfl⟩)),by simp⟩
  ·rw [if_neg g] at h ⊢
   by_cases g:l.map upB=falseB
   ·rw [if_pos g]
    exact ⟨.inr (.inr (.inl ⟨rfl,rfl,.inl rfl⟩)),by simp⟩
   ·rw [if_neg g] at h
    exact absurd h (by decide)
 simp only [if_neg h2] at h ⊢
 by_cases h3:k=3
 ·simp only [if_pos h3] at h ⊢
  by_cases g:codeS l=0
  ·rw [if_pos g] at h
   exact absurd h (by decide)
  ·rw [if_neg g] at h ⊢
   have h:codeS l≤5:=of_decide_eq_true h
   refine ⟨.inr (.inr (.inr (.inr ⟨rfl,rfl,?_,?_⟩))),?_⟩
   ·show (1:Int)≤(codeS l:Int); omega
   ·show (codeS l:Int)≤6; omega
   ·intro g2
    have g2:((codeS l:Nat):Int)=6:=(Prod.mk.inj (Prod.mk.inj g2).2).1
    omega
 simp only [if_neg h3] at h ⊢
 by_cases g:(parD l).2=3
 ·rw [if_pos g]
  exact ⟨.inr (.inr (.inr (.inr ⟨rfl,rfl,by decide,by decide⟩))),by simp⟩
 ·rw [if_neg g]
  exact ⟨.inr (.inl ⟨rfl,rfl,by show (parD l).1≠_; omega⟩),by simp⟩
theorem constK_cell {l:List UInt8} (hc:checkT l=0):∀ n k,cellV (constK l n k).1 (constK l n k).2.1 (constK l n k).2.2∧constK l n k≠(4,6,[])
 | 0,_=>⟨.inr (.inr (.inr (.inl ⟨rfl,rfl,hc⟩))),by simp [constK]⟩
 | n+1,k=>by
  rw [constK]
  split
  ·rename_i h
   exact try_cell hc h
  ·exact constK_cell hc n (k+1)
theorem mean_back {l:List UInt8} {m:Mn} {a e:Int} (h:meanS l=(m,a,e)):m.v≠(4,6,[])∧(e=0→(m.f=true→m.v=(0,0,[])∧0<m.t.length∧l.head?=some 61)∧(m.f=false→valE m.v.1 m.v.2.1 m.v.2.2=0∧m.t=[])):=by
 rcases mean_cases l with ⟨a',e',g,he⟩ | ⟨g,h2,h3,-⟩ | ⟨t,g,-,-,h4,h5⟩
 ·rw [h] at g
  cases g
  exact ⟨by simp [Mn.none],fun g=>absurd g he⟩
 ·rw [h] at g
  cases g
  obtain ⟨g1,g2⟩:=constK_cell (chk_of h2 h3) 5 0
  exact ⟨g2,fun _=>⟨fun g=>(by cases g),fun _=>⟨valE_yes g1,rfl⟩⟩⟩
 ·rw [h] at g
  cases g
  refine ⟨by simp,fun _=>⟨fun _=>⟨rfl,?_,h4⟩,fun g=>by cases g⟩⟩
  obtain ⟨-,h6,-⟩:=form_good h5
  obtain ⟨-,-,h7,-⟩:=checkA_zero h6
  show 0<t.length
  cases t with
  | nil=>exact absurd rfl h7
  | cons=>simp
theorem eq_self3 (k n:Int) (s:List UInt8):eq3 k n k n s s=true:=(eq3_iff ..).2 ⟨rfl,rfl,rfl⟩
theorem of_plain {s:ByteArray} {f:Bool} {a:Nat} {n1:Int} {t1:List UInt8} {t:List Nd} {at_ er:Int} (h:meanS s.data.toList=(⟨f,(a,n1,t1),t⟩,at_,er)) (W:World) (hW:Words W) :
  Calls Tryz.prog 11 #[.string s] W fun e w'=>∃ ta tc,e=.returned (.tuple #[.agg #[.bool f,.int .u8 (a:Nat),.int .i64 n1,.string ⟨t1.toArray⟩,.slice ta t.length tc],.int .i64 at_,.int .i64 er])∧Below W.heap.size W w':=by
 have hof:=entry_Of s W hW
 unfold OfOut at hof
 rw [h] at hof
 refine hof.mono ?_
 rintro e w' ⟨tv,rfl,g1,g2⟩
 obtain ⟨ta,tc,rfl⟩:=own_len g1
 exact ⟨ta,tc,rfl,g2⟩
