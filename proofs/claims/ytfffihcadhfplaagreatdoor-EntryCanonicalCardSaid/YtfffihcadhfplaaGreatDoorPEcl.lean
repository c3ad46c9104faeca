/- entry.Canonical. Plain: tokens, numbers and ranges are no longer as canonical text than where they were read. No program stands here. -/
import Derived.Test.YtfffihcadhfplaaGreatDoorPEnf
import Derived.Test.YtfffihcadhfplaaGreatDoorPTxv
namespace Go.Proofs.YtfffihcadhfplaaGreatDoor
set_option maxRecDepth 100000
set_option maxHeartbeats 8000000
open Go.RowKit
noncomputable def canS (l:List UInt8):List UInt8×Int :=
 if (meanS l).2.2≠0 then ([],(meanS l).2.2)
 else if (meanS l).1.f=true then (if (showF ((meanS l).1.t.map Nd.any)).2≠0 then ([],(showF ((meanS l).1.t.map Nd.any)).2) else (61::(showF ((meanS l).1.t.map Nd.any)).1,0))
 else constC (meanS l).1.v.1 (meanS l).1.v.2.1 (meanS l).1.v.2.2
theorem can_err {l:List UInt8} {m:Mn} {a e:Int} (h:meanS l=(m,a,e)) (he:e≠0):canS l=([],e):=by unfold canS; rw [h,if_pos he]
theorem can_const {l:List UInt8} {m:Mn} {a:Int} (h:meanS l=(m,a,0)) (hf:m.f=false):canS l=constC m.v.1 m.v.2.1 m.v.2.2:=by unfold canS; rw [h,if_neg (by simp),if_neg (by show ¬ m.f=true; rw [hf]; decide)]
theorem can_bad {l:List UInt8} {m:Mn} {a:Int} (h:meanS l=(m,a,0)) (hf:m.f=true) (h2:(showF (m.t.map Nd.any)).2≠0):canS l=([],(showF (m.t.map Nd.any)).2):=by unfold canS; rw [h,if_neg (by simp)]; show (if m.f=true then _ else _)=_; rw [if_pos hf,if_pos h2]
theorem can_form {l:List UInt8} {m:Mn} {a:Int} (h:meanS l=(m,a,0)) (hf:m.f=true) (h2:(showF (m.t.map Nd.any)).2=0):canS l=(61::(showF (m.t.map Nd.any)).1,0):=by unfold canS; rw [h,if_neg (by simp)]; show (if m.f=true then _ else _)=_; rw [if_pos hf,if_neg (by rw [h2]; decide)]
theorem nds_own {w:World} {base:Nat} {v:Value} {t:List Nd} (h:w.ownsRow base 96 11 v t.length (ndCells t)):∃ a c,v=.slice a t.length c∧RowsAt w a 11 ((t.map Nd.any).map aRow):=by
 obtain ⟨a,c,h1,-,-,h4⟩:=rows_own ndRow (fun _=>rfl) h rfl
 exact ⟨a,c,h1,by rw [any_rows]; exact h4⟩
theorem can_1 (PT:Option Addr→World→Prop) (s R:ByteArray) (V:Int) (w:World) (f:Bool) (a:Nat) (n1:Int) (t1:List UInt8) (tl:Nat) (at_ er:Int) (HOF:Keep (Calls Tryz.prog 11 #[.string s] w fun e w'=>∃ ta tc,e=.returned (.tuple #[.agg #[.bool f,.int .u8 (a:Nat),.int .i64 n1,.string ⟨t1.toArray⟩,.slice ta tl tc],.int .i64 at_,.int .i64 er])∧PT ta w'∧Below w.heap.size w w')) (he:(er != 0)=true) (HV:Keep (R=⟨#[]⟩∧V=er)) :
  Calls Tryz.prog 12 #[.string s] w fun e w'=>e=.returned (.tuple #[.string R,.int .i64 V])∧Below w.heap.size w w':=by
 go_enter Tryz.func12,Tryz.ntmps12
 go_wp2_with fail
 refine HOF.out.mono ?_
 rintro e w1 ⟨ta,tc,rfl,hpt,hb2⟩
 have HPT:=keep hpt
 have H3:=Lib.hid ((Ok.start w).below hb2)
 have HB0:=Lib.hid hb2
 clear hb2 hpt
 go_upto_region 2 with fail
 have H4:=Lib.hid (H3.out.var w1.heap.size 31 [.bool f,.int .u8 (a:Nat),.int .i64 n1,.string ⟨t1.toArray⟩,.slice ta tl tc] rfl)
 clear H3
 generalize (w1.alloc (.cells #[.bool f,.int .u8 (a:Nat),.int .i64 n1,.string ⟨t1.toArray⟩,.slice ta tl tc] 31))=W5 at H4 ⊢
 have F6:=H4.out.sees
 simp only [sees,kVar,cellsAt,Nat.reduceAdd] at F6
 obtain ⟨⟨⟨z0,fz0⟩,c00,c01,c02,c03,c04,-⟩,-⟩:=F6
 go_wp2_with fail
 exact bodyPost_ret (v:=.tuple #[.string ⟨#[]⟩,.int .i64 er]) (by simp [results,Tryz.results12,go_sem]) rfl ⟨by rw [HV.out.1,HV.out.2],H4.out.bel⟩
theorem can_2 (PT:Option Addr→World→Prop) (s R:ByteArray) (V:Int) (w:World) (f:Bool) (a:Nat) (n1:Int) (t1:List UInt8) (tl:Nat) (at_ er:Int) (HOF:Keep (Calls Tryz.prog 11 #[.string s] w fun e w'=>∃ ta tc,e=.returned (.tuple #[.agg #[.bool f,.int .u8 (a:Nat),.int .i64 n1,.string ⟨t1.toArray⟩,.slice ta tl tc],.int .i64 at_,.int .i64 er])∧PT ta w'∧Below w.heap.size w w')) (he:er=0) (hf:f=false) (HC:Keep (∀ W,Below w.heap.size w W→Calls Tryz.prog 9 #[.agg #[.int .u8 (a:Nat),.int .i64 n1,.string ⟨t1.toArray⟩]] W fun e w'=>e=.returned (.tuple #[.string R,.int .i64 V])∧Below W.heap.size W w')) :
  Calls Tryz.prog 12 #[.string s] w fun e w'=>e=.returned (.tuple #[.string R,.int .i64 V])∧Below w.heap.size w w':=by
 subst he hf
 go_enter Tryz.func12,Tryz.ntmps12
 go_wp2_with fail
 refine HOF.out.mono ?_
 rintro e w1 ⟨ta,tc,rfl,hpt,hb2⟩
 have HPT:=keep hpt
 have H3:=Lib.hid ((Ok.start w).below hb2)
 have HB0:=Lib.hid hb2
 clear hb2 hpt
 go_upto_region 2 with fail
 have H4:=Lib.hid (H3.out.var w1.heap.size 31 [.bool false,.int .u8 (a:Nat),.int .i64 n1,.string ⟨t1.toArray⟩,.slice ta tl tc] rfl)
 clear H3
 generalize (w1.alloc (.cells #[.bool false,.int .u8 (a:Nat),.int .i64 n1,.string ⟨t1.toArray⟩,.slice ta tl tc] 31))=W5 at H4 ⊢
 have F6:=H4.out.sees
 simp only [sees,kVar,cellsAt,Nat.reduceAdd] at F6
 obtain ⟨⟨⟨z0,fz0⟩,c00,c01,c02,c03,c04,-⟩,-⟩:=F6
 go_wp2_with fail
 refine (HC.out _ H4.out.bel).mono ?_
 rintro e w7 ⟨rfl,hb8⟩
 clear z0 fz0 c00 c01 c02 c03 c04
 have H9:=Lib.hid (H4.out.below hb8)
 clear hb8 H4
 have F10:=H9.out.sees
 simp only [sees,kVar,cellsAt,Nat.reduceAdd] at F10
 obtain ⟨⟨⟨z0,fz0⟩,c00,c01,c02,c03,c04,-⟩,-⟩:=F10
 go_wp2_with fail
 exact bodyPost_ret (v:=.tuple #[.string R,.int .i64 V]) (by simp [results,Tryz.results12,go_sem]) rfl ⟨rfl,H9.out.bel⟩
theorem can_3 (PT:Option Addr→World→Prop) (s R:ByteArray) (V:Int) (w:World) (f:Bool) (a:Nat) (n1:Int) (t1:List UInt8) (tl:Nat) (at_ er:Int) (HOF:Keep (Calls Tryz.prog 11 #[.string s] w fun e w'=>∃ ta tc,e=.returned (.tuple #[.agg #[.bool f,.int .u8 (a:Nat),.int .i64 n1,.string ⟨t1.toArray⟩,.slice ta tl tc],.int .i64 at_,.int .i64 er])∧PT ta w'∧Below w.heap.size w w')) (he:er=0) (hf:f=true) (X:ByteArray) (g:Int) (HC:Keep (∀ ta tc W1 W,PT ta W1→Below w.heap.size w W1→Below W1.heap.size W1 W→Calls Tryz.prog 28 #[.slice ta tl tc] W fun e w'=>e=.returned (.tuple #[.string X,.int .i64 g])∧Below W.heap.size W w')) (hg:(g != 0)=true) (HV:Keep (R=⟨#[]⟩∧V=g)) :
  Calls Tryz.prog 12 #[.string s] w fun e w'=>e=.returned (.tuple #[.string R,.int .i64 V])∧Below w.heap.size w w':=by
 subst he hf
 go_enter Tryz.func12,Tryz.ntmps12
 go_wp2_with fail
 refine HOF.out.mono ?_
 rintro e w1 ⟨ta,tc,rfl,hpt,hb2⟩
 have HPT:=keep hpt
 have H3:=Lib.hid ((Ok.start w).below hb2)
 have HB0:=Lib.hid hb2
 clear hb2 hpt
 go_upto_region 2 with fail
 have HBW:=Lib.hid ((Below.refl w1.heap.size w1).alloc (Nat.le_refl _) (.cells #[.bool true,.int .u8 (a:Nat),.int .i64 n1,.string ⟨t1.toArray⟩,.slice ta tl tc] 31))
 have H4:=Lib.hid (H3.out.var w1.heap.size 31 [.bool true,.int .u8 (a:Nat),.int .i64 n1,.string ⟨t1.toArray⟩,.slice ta tl tc] rfl)
 clear H3
 generalize (w1.alloc (.cells #[.bool true,.int .u8 (a:Nat),.int .i64 n1,.string ⟨t1.toArray⟩,.slice ta tl tc] 31))=W5 at H4 HBW ⊢
 have F6:=H4.out.sees
 simp only [sees,kVar,cellsAt,Nat.reduceAdd] at F6
 obtain ⟨⟨⟨z0,fz0⟩,c00,c01,c02,c03,c04,-⟩,-⟩:=F6
 go_wp2_with fail
 refine (HC.out ta tc _ _ HPT.out HB0.out HBW.out).mono ?_
 rintro e w7 ⟨rfl,hb8⟩
 clear z0 fz0 c00 c01 c02 c03 c04
 have H9:=Lib.hid (H4.out.below hb8)
 clear hb8 H4
 have F10:=H9.out.sees
 simp only [sees,kVar,cellsAt,Nat.reduceAdd] at F10
 obtain ⟨⟨⟨z0,fz0⟩,c00,c01,c02,c03,c04,-⟩,-⟩:=F10
 go_wp2_with fail
 exact bodyPost_ret (v:=.tuple #[.string ⟨#[]⟩,.int .i64 g]) (by simp [results,Tryz.results12,go_sem]) rfl ⟨by rw [HV.out.1,HV.out.2],H9.out.bel⟩
theorem can_4 (PT:Option Addr→World→Prop) (s R:ByteArray) (V:Int) (w:World) (f:Bool) (a:Nat) (n1:Int) (t1:List UInt8) (tl:Nat) (at_ er:Int) (HOF:Keep (Calls Tryz.prog 11 #[.string s] w fun e w'=>∃ ta tc,e=.returned (.tuple #[.agg #[.bool f,.int .u8 (a:Nat),.int .i64 n1,.string ⟨t1.toArray⟩,.slice ta tl tc],.int .i64 at_,.int .i64 er])∧PT ta w'∧Below w.heap.size w w')) (he:er=0) (hf:f=true) (X:ByteArray) (g:Int) (HC:Keep (∀ ta tc W1 W,PT ta W1→Below w.heap.size w W1→Below W1.heap.size W1 W→Calls Tryz.prog 28 #[.slice ta tl tc] W fun e w'=>e=.returned (.tuple #[.string X,.int .i64 g])∧Below W.heap.size W w')) (hg:g=0) (hz:X.size≤1000) (HV:Keep (R=⟨#[61]⟩++X∧V=0)) :
  Calls Tryz.prog 12 #[.string s] w fun e w'=>e=.returned (.tuple #[.string R,.int .i64 V])∧Below w.heap.size w w':=by
 subst he hf hg
 have z61:(⟨#[61]⟩:ByteArray).size=1:=rfl
 go_enter Tryz.func12,Tryz.ntmps12
 go_wp2_with fail
 refine HOF.out.mono ?_
 rintro e w1 ⟨ta,tc,rfl,hpt,hb2⟩
 have HPT:=keep hpt
 have H3:=Lib.hid ((Ok.start w).below hb2)
 have HB0:=Lib.hid hb2
 clear hb2 hpt
 go_upto_region 2 with fail
 have HBW:=Lib.hid ((Below.refl w1.heap.size w1).alloc (Nat.le_refl _) (.cells #[.bool true,.int .u8 (a:Nat),.int .i64 n1,.string ⟨t1.toArray⟩,.slice ta tl tc] 31))
 have H4:=Lib.hid (H3.out.var w1.heap.size 31 [.bool true,.int .u8 (a:Nat),.int .i64 n1,.string ⟨t1.toArray⟩,.slice ta tl tc] rfl)
 clear H3
 generalize (w1.alloc (.cells #[.bool true,.int .u8 (a:Nat),.int .i64 n1,.string ⟨t1.toArray⟩,.slice ta tl tc] 31))=W5 at H4 HBW ⊢
 have F6:=H4.out.sees
 simp only [sees,kVar,cellsAt,Nat.reduceAdd] at F6
 obtain ⟨⟨⟨z0,fz0⟩,c00,c01,c02,c03,c04,-⟩,-⟩:=F6
 go_wp2_with fail
 refine (HC.out ta tc _ _ HPT.out HB0.out HBW.out).mono ?_
 rintro e w7 ⟨rfl,hb8⟩
 clear z0 fz0 c00 c01 c02 c03 c04
 have H9:=Lib.hid (H4.out.below hb8)
 clear hb8 H4
 have F10:=H9.out.sees
 simp only [sees,kVar,cellsAt,Nat.reduceAdd] at F10
 obtain ⟨⟨⟨z0,fz0⟩,c00,c01,c02,c03,c04,-⟩,-⟩:=F10
 go_wp2_with fail
 exact bodyPost_ret (v:=.tuple #[.string (⟨#[61]⟩++X),.int .i64 0]) (by simp [results,Tryz.results12,go_sem]) rfl ⟨by rw [HV.out.1,HV.out.2],H9.out.bel⟩
theorem entry_Canonical (s:ByteArray) (w:World) (he:WEnv w) :
  Calls Tryz.prog 12 #[.string s] w fun e w'=>e=.returned (.tuple #[.string ⟨(canS s.data.toList).1.toArray⟩,.int .i64 (canS s.data.toList).2])∧Below w.heap.size w w':=by
 have hof:=entry_Of s w he.1
 unfold OfOut at hof
 obtain ⟨R,hR⟩:∃ R,meanS s.data.toList=R:=⟨_,rfl⟩
 rw [hR] at hof
 obtain ⟨m,at_,er⟩:=R
 dsimp only at hof
 have hrg:=mean_range hR
 obtain ⟨f,⟨a,n1,t1⟩,t⟩:=m
 have HOF:Keep (Calls Tryz.prog 11 #[.string s] w fun e w'=>∃ ta tc,e=.returned (.tuple #[.agg #[.bool f,.int .u8 (a:Nat),.int .i64 n1,.string ⟨t1.toArray⟩,.slice ta t.length tc],.int .i64 at_,.int .i64 er])∧RowsAt w' ta 11 ((t.map Nd.any).map aRow)∧Below w.heap.size w w'):=keep (hof.mono (by
  rintro e w' ⟨tv,rfl,h1,h2⟩
  obtain ⟨ta,tc,rfl,h3⟩:=nds_own h1
  exact ⟨ta,tc,rfl,h3,h2⟩))
 by_cases h0:er=0
 rotate_left
 ·rw [can_err hR h0]
  exact can_1 (fun ta w'=>RowsAt w' ta 11 ((t.map Nd.any).map aRow)) s _ _ w f a n1 t1 t.length at_ er HOF (by simpa using h0) (keep ⟨rfl,rfl⟩)
 subst h0
 cases f with
 | false =>
  have hc:=can_const hR rfl
  rw [hc]
  refine can_2 (fun ta w'=>RowsAt w' ta 11 ((t.map Nd.any).map aRow)) s _ _ w false a n1 t1 t.length at_ 0 HOF rfl rfl (keep fun W hb => ?_)
  exact entry_Constant a n1 ⟨t1.toArray⟩ (by show t1.toArray.size≤_; rw [List.size_toArray]; have h9:t1.length≤256:=hrg.2.2; omega) hrg.1 hrg.2.1 W (he.below hb).1
 | true =>
  obtain ⟨hsz,hft⟩:=mean_tree hR rfl
  have HSF:=keep fun (ta:Option Addr) (tc:Nat) (W1 W:World) (h1:RowsAt W1 ta 11 ((t.map Nd.any).map aRow)) (h2:Below w.heap.size w W1) (h3:Below W1.heap.size W1 W)=>by
   have h9:=show_Formula (t.map Nd.any) ta tc W hsz ⟨h1.below h3,(he.below h2).below h3⟩
   rw [List.length_map] at h9
   exact h9
  by_cases hg:(showF (t.map Nd.any)).2=0
  ·rw [can_form hR rfl hg]
   rw [hg] at HSF
   refine can_4 (fun ta w'=>RowsAt w' ta 11 ((t.map Nd.any).map aRow)) s _ _ w true a n1 t1 t.length at_ 0 HOF rfl rfl _ _ HSF rfl ?_ (keep ⟨?_,rfl⟩)
   ·show (showF (t.map Nd.any)).1.toArray.size≤_
    rw [List.size_toArray]
    have:=showF_len (t.map Nd.any)
    omega
   ·show (⟨_⟩:ByteArray)=(⟨[61].toArray⟩:ByteArray)++⟨_⟩
    rw [bytes_append]
    rfl
  ·rw [can_bad hR rfl hg]
   exact can_3 (fun ta w'=>RowsAt w' ta 11 ((t.map Nd.any).map aRow)) s _ _ w true a n1 t1 t.length at_ 0 HOF rfl rfl _ _ HSF (by simpa using hg) (keep ⟨rfl,rfl⟩)
open Go.Lib (decDigits)
theorem fold_add (b:List UInt8):∀ acc:Nat,b.foldl (fun n b=>10 * n+(b.toNat - 48)) acc=acc * 10 ^ b.length+valD b:=by
 unfold valD
 induction b with
 | nil=>intro acc; simp
 | cons x b ih =>
  intro acc
  rw [List.foldl_cons,List.foldl_cons,ih,ih (10 * 0+(x.toNat - 48)),List.length_cons,Nat.pow_succ,Nat.add_mul,Nat.mul_comm 10 acc,Nat.mul_assoc,Nat.mul_comm 10 (10 ^ b.length),Nat.mul_zero,Nat.zero_add,Nat.add_assoc]
theorem valD_app (a b:List UInt8):valD (a++b)=valD a * 10 ^ b.length+valD b:=by
 conv=>lhs; unfold valD
 rw [List.foldl_append,fold_add b]
 rfl
theorem valD_lt {w:List UInt8} (h:∀ b∈w,isDig b=true):valD w<10 ^ w.length:=by
 induction w with
 | nil=>decide
 | cons x w ih =>
  have hx:=of_decide_eq_true (h x (by simp))
  have hw:=ih fun b hb=>h b (by simp [hb])
  have e:valD (x::w)=(x.toNat - 48) * 10 ^ w.length+valD w:=by
   rw [show x::w=[x]++w from rfl,valD_app]
   congr 2
   show 10 * 0+(x.toNat - 48)=_
   omega
  rw [e,List.length_cons,Nat.pow_succ]
  have h9:(x.toNat - 48) * 10 ^ w.length≤9 * 10 ^ w.length:=Nat.mul_le_mul_right _ (by omega)
  omega
theorem digs_len:∀ (k m:Nat),m<10 ^ (k+1)→(decDigits m).length≤k+1
 | 0,m,h=>by rw [decDigits,dif_pos (by simpa using h)]; simp
 | k+1,m,h=>by
  rw [decDigits]
  split
  ·simp
  ·have:=digs_len k (m / 10) (by rw [Nat.pow_succ] at h; omega)
   simp; omega
theorem digs_le {k m:Nat} (hk:k≠0) (h:m<10 ^ k):(decDigits m).length≤k:=by
 obtain ⟨j,rfl⟩:∃ j,k=j+1:=⟨k - 1,by omega⟩
 exact digs_len j m h
theorem four_of {q:List UInt8} (hl:q.length=4) (h:∀ b∈q,isDig b=true):fourD (valD q)=q:=by
 match q,hl,h with
 | [a,b,c,d],_,h =>
  have ha:=of_decide_eq_true (h a (by simp))
  have hb:=of_decide_eq_true (h b (by simp))
  have hc:=of_decide_eq_true (h c (by simp))
  have hd:=of_decide_eq_true (h d (by simp))
  have e:valD [a,b,c,d]=1000 * (a.toNat - 48)+100 * (b.toNat - 48)+10 * (c.toNat - 48)+(d.toNat - 48):=by
   show 10 * (10 * (10 * (10 * 0+(a.toNat - 48))+(b.toNat - 48))+(c.toNat - 48))+(d.toNat - 48)=_
   omega
  have key:∀ (x:UInt8) (n:Nat),48+n=x.toNat→UInt8.ofNat (48+n)=x:=fun x n hn=>UInt8.toNat_inj.1 (by rw [UInt8.toNat_ofNat',hn]; have:=x.toNat_lt; omega)
  unfold fourD
  rw [e,key a _ (by omega),key b _ (by omega),key c _ (by omega),key d _ (by omega)]
theorem trimZ_pad (p:List UInt8):∀ j,(trimZ (p++List.replicate j 48)).length≤p.length
 | 0=>by rw [List.replicate_zero,List.append_nil]; exact trimZ_len p
 | j+1=>by
  rw [List.replicate_succ',← List.append_assoc,trim_zero]
  exact trimZ_pad p j
theorem decS_pos (v:Nat):(decS (v:Int)).length=(decDigits (v / 10000)).length+if v % 10000=0 then 0 else 1+(trimZ (fourD (v % 10000))).length:=by
 unfold decS
 rw [if_neg (by omega),List.nil_append,List.length_append,show (v:Int).natAbs=v from rfl]
 by_cases h:v % 10000=0
 ·rw [if_pos h,if_pos h]; rfl
 ·rw [if_neg h,if_neg h,List.length_cons,four_eq _ (by omega)]; omega
theorem dec_le {w p:List UInt8} (hw:∀ b∈w,isDig b=true) (hp:∀ b∈p,isDig b=true) (h1:w≠[]) (h4:p.length≤4):(decS ((numV w p:Nat):Int)).length≤w.length+if p=[] then 0 else p.length+1:=by
 have hl:(p++List.replicate (4 - p.length) 48).length=4:=by rw [List.length_append,List.length_replicate]; omega
 have hq:∀ b∈p++List.replicate (4 - p.length) 48,isDig b=true:=by
  intro b hb
  rcases List.mem_append.1 hb with hb | hb
  ·exact hp b hb
  ·rw [(List.mem_replicate.1 hb).2]; rfl
 have e:numV w p=valD w * 10000+valD (p++List.replicate (4 - p.length) 48):=by
  unfold numV
  rw [List.append_assoc,valD_app,hl]
 have hlt:=valD_lt hq
 rw [hl] at hlt
 have hlt:valD (p++List.replicate (4 - p.length) 48)<10000:=hlt
 have hf:=four_of hl hq
 have ht:=trimZ_pad p (4 - p.length)
 have hd:=digs_le (k:=w.length) (by simpa using h1) (valD_lt hw)
 rw [decS_pos,e,show (valD w * 10000+valD (p++List.replicate (4 - p.length) 48)) / 10000=valD w by omega,show (valD w * 10000+valD (p++List.replicate (4 - p.length) 48)) % 10000=valD (p++List.replicate (4 - p.length) 48) by omega,hf]
 by_cases hn:p=[]
 ·subst hn
  rw [if_pos (show valD ([]++List.replicate (4 - ([]:List UInt8).length) 48)=0 from rfl),if_pos rfl]
  omega
 ·rw [if_neg hn]
  split <;> omega
theorem dec_far {M k:Nat} (hk:k≠0) (h:M<10 ^ k * 10000):(decS (M:Int)).length≤k+5:=by
 have hd:=digs_le (k:=k) (m:=M / 10000) hk (by omega)
 have ht:=trimZ_len (fourD (M % 10000))
 have h4:(fourD (M % 10000)).length=4:=rfl
 rw [decS_pos]
 split <;> omega
theorem parD_len {l:List UInt8} {n:Int} (h:parD l=(n,0)):(decS n).length≤l.length:=by
 by_cases h0:(unsgD l).takeWhile isDig=[]
 ·rw [parD_none h0] at h; exact absurd (Prod.mk.inj h).2 (by decide)
 cases hz:plcD ((unsgD l).dropWhile isDig) with
 | none=>rw [parD_bad hz] at h; exact absurd (Prod.mk.inj h).2 (by decide)
 | some p =>
  rw [parD_ok h0 hz] at h
  obtain ⟨hs,hw,-⟩:=run_split isDig (unsgD l)
  have hpd:=plcD_dig hz
  have hlen:(unsgD l).length=((unsgD l).takeWhile isDig).length+if p=[] then 0 else p.length+1:=by
   have:=congrArg List.length hs
   rw [List.length_append] at this
   rw [this]
   congr 1
   generalize (unsgD l).dropWhile isDig=d at hz
   cases d with
   | nil=>cases hz; rfl
   | cons b q =>
    by_cases g:b=46∧q≠[]∧q.all isDig=true
    ·have e:plcD (b::q)=some q:=if_pos g
     rw [e] at hz
     cases hz
     rw [if_neg g.2.1,List.length_cons]
    ·have e:plcD (b::q)=none:=if_neg g
     rw [e] at hz; cases hz
  generalize (unsgD l).takeWhile isDig=w at h0 h hw hlen
  have hsl:(unsgD l).length+(if l.head?=some 45 then 1 else 0)=l.length:=by
   unfold unsgD
   cases l with
   | nil=>rfl
   | cons b r =>
    by_cases hb:b=45
    ·subst hb; rfl
    ·have hb2:¬ (b::r).head?=some 45:=by simpa using hb
     rw [if_neg hb2,if_neg hb2]; rfl
  have hM:(decS ((magD w p:Nat):Int)).length≤(unsgD l).length:=by
   rw [hlen]
   by_cases h4:p.length≤4
   ·obtain ⟨e1,e2⟩:=places4 (p:=p) (j:=4 - p.length) (by omega)
    have e:magD w p=numV w p:=by unfold magD numV; rw [e1,e2,List.append_assoc]; rfl
    rw [e]
    exact dec_le hw hpd h0 h4
   ·have hne:p≠[]:=by rintro rfl; exact h4 (Nat.zero_le _)
    rw [if_neg hne]
    have ht:(p++zer5).take 4=p.take 4:=by rw [List.take_append_of_le_length (by omega)]
    have htl:(p.take 4).length=4:=by rw [List.length_take]; omega
    have hq:=valD_lt (w:=p.take 4) fun b hb=>hpd b (List.mem_of_mem_take hb)
    rw [htl] at hq
    have hq:valD (p.take 4)<10000:=hq
    have hwv:=valD_lt hw
    have e:magD w p=valD w * 10000+valD (p.take 4)+if upD p then 1 else 0:=by unfold magD; rw [ht,valD_app,htl]
    have hk:w.length≠0:=by simpa using h0
    have hle:magD w p≤10 ^ w.length * 10000:=by rw [e]; split <;> omega
    by_cases hlt:magD w p<10 ^ w.length * 10000
    ·have:=dec_far hk hlt
     omega
    ·have he:magD w p=10 ^ w.length * 10000:=Nat.le_antisymm hle (Nat.le_of_not_lt hlt)
     have hd:=digs_le (k:=w.length+1) (m:=10 ^ w.length) (by omega) (Nat.pow_lt_pow_right (by decide) (by omega))
     rw [decS_pos,he,Nat.mul_div_cancel _ (show 0<10000 by omega),Nat.mul_mod_left,if_pos rfl]
     omega
  split at h
  ·have hn:=(Prod.mk.inj h).1
   by_cases hb:l.head?=some 45
   ·rw [if_pos hb] at hn hsl
    rw [← hn]
    by_cases hz0:magD w p=0
    ·rw [hz0] at hM ⊢
     exact Nat.le_trans hM (by omega)
    ·have e:decS (-((magD w p:Nat):Int))=45::decS ((magD w p:Nat):Int):=by
      have g1 : -((magD w p:Nat):Int)<0:=by omega
      have g2:¬ ((magD w p:Nat):Int)<0:=by omega
      simp only [decS,if_pos g1,if_neg g2,Int.natAbs_neg]
      simp
     rw [e,List.length_cons]; omega
   ·rw [if_neg hb] at hn hsl
    rw [← hn]; omega
  ·exact absurd (Prod.mk.inj h).2 (by decide)
theorem parD_far {l:List UInt8} (h:(parD l).2=3):5≤l.length:=by
 apply Classical.byContradiction
 intro h5
 by_cases h0:(unsgD l).takeWhile isDig=[]
 ·rw [parD_none h0] at h; exact absurd h (by decide)
 cases hz:plcD ((unsgD l).dropWhile isDig) with
 | none=>rw [parD_bad hz] at h; exact absurd h (by decide)
 | some p =>
  rw [parD_ok h0 hz] at h
  split at h
  ·exact absurd (show (0:Int)=3 from h) (by decide)
  ·rename_i hm
   apply hm
   obtain ⟨hs,hw,-⟩:=run_split isDig (unsgD l)
   have hul:(unsgD l).length≤l.length:=by unfold unsgD; split; rw [List.length_tail]; omega; exact Nat.le_refl _
   have hwl:=congrArg List.length hs
   rw [List.length_append] at hwl
   have hpd:=plcD_dig hz
   have hz5:∀ b∈zer5,isDig b=true:=by decide
   have hall:∀ b∈(unsgD l).takeWhile isDig++(p++zer5).take 4,isDig b=true:=by
    intro b hb
    rcases List.mem_append.1 hb with hb | hb
    ·exact hw b hb
    ·rcases List.mem_append.1 (List.mem_of_mem_take hb) with hb | hb
     ·exact hpd b hb
     ·exact hz5 b hb
   have hv:=valD_lt hall
   have hl8:((unsgD l).takeWhile isDig++(p++zer5).take 4).length≤8:=by rw [List.length_append,List.length_take]; omega
   have h8:10 ^ ((unsgD l).takeWhile isDig++(p++zer5).take 4).length≤10 ^ 8:=Nat.pow_le_pow_right (by decide) hl8
   unfold magD mostN
   split <;> omega
theorem rng_len (a b:Int×Int) (ha:validN a.1 a.2=true) (hb:validN b.1 b.2=true):(rngT (rectS a b)).length≤(formatS a.1 a.2).1.length+(1+(formatS b.1 b.2).1.length)∧(a=b→(rngT (rectS a b)).length=(formatS a.1 a.2).1.length):=by
 obtain ⟨c,r⟩:=a
 obtain ⟨d,s⟩:=b
 have va:=ha
 have vb:=hb
 simp only [validN,decide_eq_true_eq] at ha hb
 have vmin:validN (min c d) (min r s)=true:=by simp only [validN,decide_eq_true_eq]; omega
 have vmax:validN (max c d) (max r s)=true:=by simp only [validN,decide_eq_true_eq]; omega
 have e:rectS (c,r) (d,s)=⟨min c d,min r s,max c d,max r s⟩:=rfl
 constructor
 ·rw [e]
  unfold rngT
  simp only [formatS_good _ _ vmin,formatS_good _ _ vmax,formatS_good _ _ va,formatS_good _ _ vb]
  have hx:(lettersN (min c d).toNat).length+(lettersN (max c d).toNat).length=(lettersN c.toNat).length+(lettersN d.toNat).length:=by
   rcases Int.le_total c d with h | h
   ·rw [Int.min_eq_left h,Int.max_eq_right h]
   ·rw [Int.min_eq_right h,Int.max_eq_left h]; omega
  have hy:(decDigits (min r s).toNat).length+(decDigits (max r s).toNat).length=(decDigits r.toNat).length+(decDigits s.toNat).length:=by
   rcases Int.le_total r s with h | h
   ·rw [Int.min_eq_left h,Int.max_eq_right h]
   ·rw [Int.min_eq_right h,Int.max_eq_left h]; omega
  simp only [List.length_append]
  split
  ·simp only [List.length_nil]; omega
  ·simp only [List.length_cons,List.length_append]; omega
 ·intro h
  obtain ⟨rfl,rfl⟩:=Prod.mk.inj h
  rw [e,Int.min_self,Int.min_self,Int.max_self,Int.max_self]
  unfold rngT
  simp
theorem word_len {l:List UInt8} {k:Nat} {t:Tk} {n:Nat} (h:wordS l k=some (t,n)):(tkT t).length≤n:=by
 unfold wordS at h
 simp only at h
 generalize l.takeWhile isWrd=w at h
 generalize l.dropWhile isWrd=d at h
 split at h
 ·obtain ⟨rfl,rfl⟩:=Prod.mk.inj (Option.some.inj h)
  rw [tk_7 rfl]
  show (w.map upB).length≤_
  rw [List.length_map]; exact Nat.le_refl _
 ·split at h
  ·rename_i hu
   obtain ⟨rfl,rfl⟩:=Prod.mk.inj (Option.some.inj h)
   have:=congrArg List.length hu
   rw [List.length_map] at this
   rw [this]
   exact Nat.le_refl 4
  ·split at h
   ·rename_i hu
    obtain ⟨rfl,rfl⟩:=Prod.mk.inj (Option.some.inj h)
    have:=congrArg List.length hu
    rw [List.length_map] at this
    rw [this]
    exact Nat.le_refl 5
   ·split at h
    ·cases h
    ·rename_i hp
     obtain ⟨hv,hf⟩:=parse_ok (w.map upB) (by simpa using hp)
     have hf:=congrArg List.length hf
     rw [List.length_map,List.length_map] at hf
     split at h
     ·obtain ⟨rfl,rfl⟩:=Prod.mk.inj (Option.some.inj h)
      rw [tk_5 rfl]
      rw [← hf]
      exact Nat.le_of_eq ((rng_len _ _ hv hv).2 rfl)
     ·rename_i c r m hs2
      obtain ⟨q,hq,ha⟩:=second_parts hs2
      obtain ⟨w2,d2,hq2,-,-,hm,-,-,hp2,-⟩:=addr_parts ha
      obtain ⟨hv2,hf2⟩:=parse_ok (w2.map upB) (by rw [hp2])
      rw [hp2] at hv2 hf2
      have hf2:=congrArg List.length hf2
      rw [List.length_map,List.length_map] at hf2
      have hr:=(rng_len ((parseS (w.map upB)).1,(parseS (w.map upB)).2.1) (c,r) hv hv2).1
      obtain ⟨rfl,rfl⟩:=Prod.mk.inj (Option.some.inj h)
      have hk:tkT ⟨if (parseS (w.map upB)).1=c∧(parseS (w.map upB)).2.1=r then 5 else 6,0,[],rectS ((parseS (w.map upB)).1,(parseS (w.map upB)).2.1) (c,r),k⟩=rngT (rectS ((parseS (w.map upB)).1,(parseS (w.map upB)).2.1) (c,r)):=by
       split
       ·exact tk_5 rfl
       ·exact tk_6 rfl
      rw [hk]
      simp only at hr hf2
      omega
theorem op_len {b:UInt8} {r:List UInt8} {k:Nat} {v:Int} {n a:Nat} (h:opS (b::r)=some (k,v,n)):(tkT ⟨k,v,[],R4.zero,a⟩).length≤n:=by
 have key:∀ x∈opTab,(tkT ⟨x.2.1,x.2.2,[],R4.zero,0⟩).length≤1:=by decide
 have ka:∀ k v a,tkT ⟨k,v,[],R4.zero,a⟩=tkT ⟨k,v,[],R4.zero,0⟩:=fun _ _ _=>rfl
 rw [ka]
 rw [op_cons] at h
 split at h
 ·split at h
  ·cases h; decide
  ·split at h
   ·cases h; decide
   ·cases h; decide
 ·split at h
  ·split at h
   ·cases h; decide
   ·cases h; decide
  ·have h1:=op1_len h
   obtain ⟨x,hx,e⟩:=Option.map_eq_some_iff.1 h
   obtain ⟨rfl,e2⟩:=Prod.mk.inj e
   obtain ⟨rfl,-⟩:=Prod.mk.inj e2
   rw [h1]
   exact key x (List.mem_of_find?_eq_some hx)
theorem tok_len {k:Nat} {l:List UInt8} {t:Tk} {n:Nat} (h:tokS k l=some (t,n)):(tkT t).length≤n:=by
 cases l with
 | nil=>cases h
 | cons b r =>
  rw [tok_cons] at h
  split at h
  ·obtain ⟨⟨v,m⟩,hx,e⟩:=Option.map_eq_some_iff.1 h
   obtain ⟨rfl,rfl⟩:=Prod.mk.inj e
   obtain ⟨w,p,e',hw,hp,h1,h4,rfl,-,-,hc⟩:=num_parts hx
   have hd:=dec_le hw hp h1 h4
   show (decS ((numV w p:Nat):Int)).length≤m
   rcases hc with ⟨g,-,g2,-⟩ | ⟨g,-,g2⟩
   ·rw [if_pos g] at hd; omega
   ·rw [if_neg g] at hd; omega
  ·split at h
   ·obtain ⟨⟨v,m⟩,hx,e⟩:=Option.map_eq_some_iff.1 h
    obtain ⟨rfl,rfl⟩:=Prod.mk.inj e
    have hq:=congrArg List.length (unq_quote _ _ v m (Nat.le_refl _) hx)
    rw [List.length_append,List.length_take] at hq
    show (quoteS v).length≤m+1
    unfold quoteS
    rw [List.length_cons,List.length_append]
    simp only [List.length_cons,List.length_nil] at hq ⊢
    omega
   ·split at h
    ·exact word_len h
    ·split at h
     ·rename_i c m he
      obtain ⟨rfl,rfl⟩:=Prod.mk.inj (Option.some.inj h)
      obtain ⟨i,x,hi,hc,hm,-⟩:=err_parts _ _ he
      subst hm hc
      have h9:tkT ⟨4,((1+i:Nat):Int),[],R4.zero,k⟩=(errNames[((1+i:Nat):Int).toNat - 1]?).getD []:=rfl
      rw [h9,show ((1+i:Nat):Int).toNat - 1=i by omega,hi]
      exact Nat.le_refl _
     ·obtain ⟨⟨c,v,m⟩,hx,e⟩:=Option.map_eq_some_iff.1 h
      obtain ⟨rfl,rfl⟩:=Prod.mk.inj e
      exact op_len hx
theorem lex_len {k:Nat} {u:List UInt8} {l:List Tk} {y:List UInt8} (h:Lex k u l y):wtN l≤u.length:=by
 induction h with
 | nil=>exact Nat.zero_le _
 | @blank k u l y h ih=>rw [List.length_cons]; omega
 | @tok k b x u t l y h g ih =>
  have:=tok_len h
  rw [wt_cons,List.length_cons,List.length_append]
  omega
