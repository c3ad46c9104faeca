/- The parser's methods: what parsing comes to, by induction on the fuel. The reference's tables: Name, Function, Arity, Wide. -/
import Derived.Test.YtdplcdhpnmcdjaaGreatDoorKParB
import Derived.Test.YtdplcdhpnmcdjaaGreatDoorKTg
import Derived.Test.YtdplcdhpnmcdjaaGreatDoorKTreA
import Derived.Deep.LoopGhost
import Derived.Test.YtdplcdhpnmcdjaaGreatDoorKShelf
namespace Go.Proofs.YtdplcdhpnmcdjaaGreatDoor
set_option maxRecDepth 100000
set_option maxHeartbeats 2000000
open Go.RowKit Go.Proofs.Tryz
def cB (ns:List Nd):Rs→Rs
 | .bad a c=>.bad a c
 | .ok ts ns' n=>.ok ts (ns++ns') n
theorem ef (a b:List Nd) (r:Rs):cB a (cB b r)=cB (a++b) r:=by cases r <;> simp [cB]
theorem ce {x:Option Rs} {g:List Tk→Nat→Option Rs} {r:Rs} (h:fe x g=some r) :
  (∃ a c,x=some (.bad a c)∧r=.bad a c)∨∃ ts1 ns1 n1 q,x=some (.ok ts1 ns1 n1)∧g ts1 n1=some q∧r=cB ns1 q:=by
 unfold fe at h
 split at h
 ·simp at h
 ·rename_i a c
  simp at h
  exact .inl ⟨a,c,rfl,h.symm⟩
 rename_i ts1 ns1 n1
 split at h
 ·simp at h
 ·rename_i a c hg
  simp at h
  exact .inr ⟨ts1,ns1,n1,_,rfl,hg,h.symm⟩
 rename_i ts2 ns2 n2 hg
 simp at h
 exact .inr ⟨ts1,ns1,n1,_,rfl,hg,h.symm⟩
theorem kK {e g k:Nat} {ts:List Tk} {q:Rs} (h:ap e (g+1) (.ops k) ts=some q) :
  (((hdS e ts).kind≠8∨aT (hdS e ts).num≠k)∧q=.ok ts [] 0)∨∃ t ts',ts=t::ts'∧t.kind=8∧aT t.num=k ∧
   ((∃ a c,ap e g (.lv (k+1)) ts'=some (.bad a c)∧q=.bad a c)∨∃ ts1 ns1 n1 q2,ap e g (.lv (k+1)) ts'=some (.ok ts1 ns1 n1)∧ap e g (.ops k) ts1=some q2∧q=cB (ns1++[cN t.num]) q2):=by
 cases ts with
 | nil =>
  rw [ap] at h
  simp at h
  exact .inl ⟨.inl (by simp [hdS]),h.symm⟩
 | cons t ts' =>
  rw [ap] at h
  split at h
  ·rename_i ht
   refine .inr ⟨t,ts',rfl,ht.1,ht.2,?_⟩
   rcases ce h with ⟨a,c,h1,h2⟩ | ⟨ts1,ns1,n1,q1,h1,h2,rfl⟩
   ·exact .inl ⟨a,c,h1,h2⟩
   rcases ce h2 with ⟨a,c,h3,h4⟩ | ⟨ts2,ns2,n2,q2,h3,h4,rfl⟩
   ·simp at h3
   simp only [Option.some.injEq,Rs.ok.injEq] at h3
   obtain ⟨rfl,rfl,rfl⟩:=h3
   exact .inr ⟨ts1,ns1,n1,q2,h1,h4,by rw [ef]⟩
  rename_i ht
  simp at h
  refine .inl ⟨?_,h.symm⟩
  show t.kind≠8∨aT t.num≠k
  by_cases h8:t.kind=8
  ·exact .inr fun hb=>ht ⟨h8,hb⟩
  exact .inl h8
theorem vI {e f k:Nat} {ts:List Tk} {r:Rs} (h:ap e f (.ops k) ts=some r):∃ g,f=g+1:=by
 cases f with
 | zero=>simp [ap] at h
 | succ g=>exact ⟨g,rfl⟩
theorem aE {e:Nat}:∀ (f:Nat) (m:Md) (ts ts':List Tk) (ns:List Nd) (n:Nat),ap e f m ts=some (.ok ts' ns n)→ns.length+ts'.length≤ts.length
 | 0,_,_,_,_,_,h=>by simp [ap] at h
 | f+1,.lv k,ts,ts',ns,n,h=>by
  rw [ap] at h
  split at h
  ·exact aE f _ _ _ _ _ h
  obtain ⟨t1,_,_,_,h1,h2,rfl⟩:=seq_ok h
  have a:=aE f _ _ _ _ _ h1
  have b:=aE f _ _ _ _ _ h2
  simp; omega
 | f+1,.ops k,[],ts',ns,n,h=>by
  simp only [ap,Option.some.injEq,Rs.ok.injEq] at h
  obtain ⟨rfl,rfl,_⟩:=h
  simp
 | f+1,.ops k,t::ts,ts',ns,n,h=>by
  rw [ap] at h
  split at h
  ·obtain ⟨t1,_,_,_,h1,h2,rfl⟩:=seq_ok h
   obtain ⟨t2,_,_,_,h3,h4,rfl⟩:=seq_ok h2
   simp only [Option.some.injEq,Rs.ok.injEq] at h3
   obtain ⟨rfl,rfl,_⟩:=h3
   have a:=aE f _ _ _ _ _ h1
   have b:=aE f _ _ _ _ _ h4
   simp; omega
  simp only [Option.some.injEq,Rs.ok.injEq] at h
  obtain ⟨rfl,rfl,_⟩:=h
  simp
 | f+1,.sg,ts,ts',ns,n,h=>by
  rw [ap] at h
  split at h
  ·rename_i ho
   have hd:=fQ ho
   obtain ⟨t1,_,_,_,h1,h2,rfl⟩:=seq_ok h
   simp only [Option.some.injEq,Rs.ok.injEq] at h2
   obtain ⟨rfl,rfl,_⟩:=h2
   have a:=aE f _ _ _ _ _ h1
   simp; omega
  obtain ⟨t1,_,_,_,h1,h2,rfl⟩:=seq_ok h
  have a:=aE f _ _ _ _ _ h1
  split at h2
  ·rename_i ho
   have hd:=fQ ho
   obtain ⟨t3,_,_,_,h3,h4,rfl⟩:=seq_ok h2
   simp only [Option.some.injEq,Rs.ok.injEq] at h4
   obtain ⟨rfl,rfl,_⟩:=h4
   have b:=aE f _ _ _ _ _ h3
   simp; omega
  simp only [Option.some.injEq,Rs.ok.injEq] at h2
  obtain ⟨rfl,rfl,_⟩:=h2
  simp; omega
 | f+1,.pc,ts,ts',ns,n,h=>by
  rw [ap] at h
  obtain ⟨t1,_,_,_,h1,h2,rfl⟩:=seq_ok h
  simp only [Option.some.injEq,Rs.ok.injEq] at h2
  obtain ⟨rfl,rfl,_⟩:=h2
  have a:=aE f _ _ _ _ _ h1
  have key:∀ ts:List Tk,(cr ts).1.length+(cr ts).2=ts.length:=by
   intro ts
   induction ts with
   | nil=>rfl
   | cons t ts ih =>
    rw [cr]
    split
    ·simp; omega
    simp
  have b:=key t1
  simp; omega
 | f+1,.pr,[],ts',ns,n,h=>by simp [ap] at h
 | f+1,.pr,t::ts,ts',ns,n,h=>by
  rw [ap] at h
  split at h
  ·simp only [Option.some.injEq,Rs.ok.injEq] at h
   obtain ⟨rfl,rfl,_⟩:=h
   simp; omega
  split at h
  ·simp only [Option.some.injEq,Rs.ok.injEq] at h
   obtain ⟨rfl,rfl,_⟩:=h
   simp; omega
  split at h
  ·obtain ⟨t1,_,_,_,h1,h2,rfl⟩:=seq_ok h
   have a:=aE f _ _ _ _ _ h1
   split at h2
   ·simp only [Option.some.injEq,Rs.ok.injEq] at h2
    obtain ⟨rfl,rfl,_⟩:=h2
    simp; omega
   simp at h2
  split at h
  ·split at h
   ·simp at h
   rename_i hk9
   split at h
   ·simp at h
   rename_i h9
   have hd:=fP (e:=e) (ts:=ts) (k:=9) (by simpa using h9) (by decide)
   obtain ⟨t1,ns1,h1,hk,rfl,rfl,_⟩:=gM h
   have hd2:=fP hk (by decide)
   split at h1
   ·simp only [Option.some.injEq,Rs.ok.injEq] at h1
    obtain ⟨rfl,rfl,_⟩:=h1
    simp at hd hd2 ⊢
    omega
   have a:=aE f _ _ _ _ _ h1
   simp at a hd hd2 ⊢
   omega
  simp at h
 | f+1,.args fn i,ts,ts',ns,n,h=>by
  rw [ap] at h
  obtain ⟨t1,ns1,_,ns2,h1,h2,rfl⟩:=seq_ok h
  have h3:ns1.length+t1.length≤ts.length:=by
   split at h1
   ·exact aE f _ _ _ _ _ h1
   rename_i h6
   split at h1
   ·simp only [Option.some.injEq,Rs.ok.injEq] at h1
    obtain ⟨rfl,rfl,_⟩:=h1
    have hd:=fP (e:=e) (ts:=ts) (k:=6) (by simpa using h6) (by decide)
    simp at hd ⊢
    omega
   simp at h1
  split at h2
  ·rename_i hc
   have hd:=fP hc (by decide)
   have a:=aE f _ _ _ _ _ h2
   simp at a hd ⊢
   omega
  simp only [Option.some.injEq,Rs.ok.injEq] at h2
  obtain ⟨rfl,rfl,_⟩:=h2
  simp; omega
def fh (w1:World) (ps:List aS) (pb en:Nat) (r:Rs) (e:Ending) (w':World):Prop:=match r with
 | .bad a c=>Bad (a:Nat) c w1 e w'
 | .ok ts ns _=>pB (.tuple #[]) w1 ps pb en ts ns e w'
def yL (w1:World) (ps:List aS) (pb en:Nat) (m:Md) (r:Rs) (w:World):Prop:=match m with
 | .lv k=>1≤k→k≤4→Calls prog 108 #[.pointer (some ⟨pb,0,none⟩),.int .i64 (k:Nat)] w (fh w1 ps pb en r)
 | .sg=>Calls prog 166 #[.pointer (some ⟨pb,0,none⟩)] w (fh w1 ps pb en r)
 | .pc=>Calls prog 201 #[.pointer (some ⟨pb,0,none⟩)] w (fh w1 ps pb en r)
 | .pr=>Calls prog 216 #[.pointer (some ⟨pb,0,none⟩)] w (fh w1 ps pb en r)
 | _=>True
def Con (f:Nat):Prop:=∀ (w1:World) (ps:List aS) (pb en:Nat) (m:Md) (ts:List Tk) (r:Rs) (ns:List Nd) (w:World),
 ap en f m ts=some r→ns.length+ts.length≤1000→St w1 ps pb en ts ns w→yL w1 ps pb en m (cB ns r) w
theorem wX (f:Nat) (IH:∀ g,g≤f→Con g) (w1:World) (ps:List aS) (pb en:Nat) (ts:List Tk) (r:Rs) (ns:List Nd) (w:World) (hr:ap en (f+1) .sg ts=some r) (hn:ns.length+ts.length≤1000) (h:St w1 ps pb en ts ns w) :
  Calls prog 166 #[.pointer (some ⟨pb,0,none⟩)] w (fh w1 ps pb en (cB ns r)):=by
 rw [ap] at hr
 have HIH:=keep IH
 clear IH
 have H:=Lib.hid h
 clear h
 cases ho:bO ts 2
 ·rw [if_neg (by rw [ho]; decide)] at hr
  have HO:=keep ho
  clear ho
  rcases ce hr with ⟨a,c,h1,rfl⟩ | ⟨ts1,ns1,n1,q,h1,h2,rfl⟩
  ·have HC:=keep (HIH.out f (Nat.le_refl _) w1 ps pb en .pc ts _ ns · h1 hn)
   clear hr h1
   go_enter func166,ntmps166
   go_wp2_with fail
   refine cMg (jG w1 _ pb en ts ns _ _ H.out) (fun _=>H.out.below) fun wa1 H3=>?_
   rw [HO.out]
   clear H
   have F4:=H3.out.sees
   obtain ⟨zp,-⟩:=F4
   go_wp2_with fail
   refine (HC.out _ H3.out).mono ?_
   rintro e wz ⟨rfl,hb⟩
   have HZ:=Lib.hid hb
   clear hb
   go_wp2_with fail
   exact ⟨rfl,rfl,HZ.out⟩
  have hl1:=aE _ _ _ _ _ _ h1
  have HC:=keep (HIH.out f (Nat.le_refl _) w1 ps pb en .pc ts _ ns · h1 hn)
  clear hr h1
  cases ho2:bO ts1 5
  ·rw [if_neg (by rw [ho2]; decide)] at h2
   have HO2:=keep ho2
   clear ho2
   simp only [Option.some.injEq] at h2
   subst h2
   go_enter func166,ntmps166
   go_wp2_with fail
   refine cMg (jG w1 _ pb en ts ns _ _ H.out) (fun _=>H.out.below) fun wa1 H3=>?_
   rw [HO.out]
   clear H
   have F4:=H3.out.sees
   obtain ⟨zp,-⟩:=F4
   go_wp2_with fail
   refine (HC.out _ H3.out).mono ?_
   rintro e wa5 ⟨rfl,hd9⟩
   clear zp
   have H6:=Lib.hid hd9
   clear hd9 H3
   have F7:=H6.out.sees
   obtain ⟨zp,-⟩:=F7
   clear HC
   go_wp2_with fail
   refine cMg (jG w1 _ pb en ts1 _ _ _ H6.out) (fun _=>H6.out.below) fun wa8 H10=>?_
   rw [HO2.out]
   clear zp H6
   have F11:=H10.out.sees
   obtain ⟨zp,-⟩:=F11
   go_wp2_with fail
   first
    | go_end0
    | refine bodyPost_ret (results_none rfl _ _ _) rfl ?_
   exact ⟨rfl,by rw [List.append_nil]; exact H10.out⟩
  rw [if_pos (by rw [ho2])] at h2
  have HO2:=keep ho2
  have hd2:=fQ ho2
  clear ho2
  cases ts1 with
  | nil=>exact absurd HO2.out (by simp [bO])
  | cons t1 ts1 =>
   simp only [List.drop_succ_cons,List.drop_zero,List.length_cons] at h2 hd2 hl1
   rcases ce h2 with ⟨a,c,h3,rfl⟩ | ⟨ts2,ns2,n2,q2,h3,h4,rfl⟩
   ·have HC2:=keep (HIH.out f (Nat.le_refl _) w1 ps pb en .sg ts1 _ (ns++ns1) · h3 (by simp; omega))
    clear h2 h3
    go_enter func166,ntmps166
    go_wp2_with fail
    refine cMg (jG w1 _ pb en ts ns _ _ H.out) (fun _=>H.out.below) fun wa1 H3=>?_
    rw [HO.out]
    clear H
    have F4:=H3.out.sees
    obtain ⟨zp,-⟩:=F4
    go_wp2_with fail
    refine (HC.out _ H3.out).mono ?_
    rintro e wa5 ⟨rfl,hd9⟩
    clear zp
    have H6:=Lib.hid hd9
    clear hd9 H3
    have F7:=H6.out.sees
    obtain ⟨zp,-⟩:=F7
    clear HC
    go_wp2_with fail
    refine cMg (jG w1 _ pb en (t1::ts1) _ _ _ H6.out) (fun _=>H6.out.below) fun wa8 H10=>?_
    rw [HO2.out]
    clear zp H6
    have F11:=H10.out.sees
    obtain ⟨zp,-⟩:=F11
    go_wp2_with fail
    refine (bF w1 _ pb en _ ts1 _ _ H10.out).mono ?_
    rintro e wa12 ⟨rfl,hd9⟩
    clear zp
    have H13:=Lib.hid hd9
    clear hd9 H10
    have F14:=H13.out.sees
    obtain ⟨zp,-⟩:=F14
    go_wp2_with fail
    refine (HC2.out _ H13.out).mono ?_
    rintro e wz ⟨rfl,hb⟩
    have HZ:=Lib.hid hb
    clear hb
    go_wp2_with fail
    exact ⟨rfl,rfl,HZ.out⟩
   have hl3:=aE _ _ _ _ _ _ h3
   have HC2:=keep (HIH.out f (Nat.le_refl _) w1 ps pb en .sg ts1 _ (ns++ns1) · h3 (by simp; omega))
   clear h2 h3
   simp only [Option.some.injEq] at h4
   subst h4
   go_enter func166,ntmps166
   go_wp2_with fail
   refine cMg (jG w1 _ pb en ts ns _ _ H.out) (fun _=>H.out.below) fun wa1 H3=>?_
   rw [HO.out]
   clear H
   have F4:=H3.out.sees
   obtain ⟨zp,-⟩:=F4
   go_wp2_with fail
   refine (HC.out _ H3.out).mono ?_
   rintro e wa5 ⟨rfl,hd9⟩
   clear zp
   have H6:=Lib.hid hd9
   clear hd9 H3
   have F7:=H6.out.sees
   obtain ⟨zp,-⟩:=F7
   clear HC
   go_wp2_with fail
   refine cMg (jG w1 _ pb en (t1::ts1) _ _ _ H6.out) (fun _=>H6.out.below) fun wa8 H10=>?_
   rw [HO2.out]
   clear zp H6
   have F11:=H10.out.sees
   obtain ⟨zp,-⟩:=F11
   go_wp2_with fail
   refine (bF w1 _ pb en _ ts1 _ _ H10.out).mono ?_
   rintro e wa12 ⟨rfl,hd9⟩
   clear zp
   have H13:=Lib.hid hd9
   clear hd9 H10
   have F14:=H13.out.sees
   obtain ⟨zp,-⟩:=F14
   go_wp2_with fail
   refine (HC2.out _ H13.out).mono ?_
   rintro e wa15 ⟨rfl,hd9⟩
   clear zp
   have H16:=Lib.hid hd9
   clear hd9 H13
   have F17:=H16.out.sees
   obtain ⟨zp,-⟩:=F17
   clear HC2
   go_wp2_with fail
   refine (fB w1 _ pb en ts2 _ (cN 5) _ (by simp; omega) H16.out).mono ?_
   rintro e wa18 ⟨rfl,hd9⟩
   clear zp
   have H19:=Lib.hid hd9
   clear hd9 H16
   have F20:=H19.out.sees
   obtain ⟨zp,-⟩:=F20
   go_wp2_with fail
   first
    | go_end0
    | refine bodyPost_ret (results_none rfl _ _ _) rfl ?_
   exact ⟨rfl,by have h9:=H19.out; simpa [List.append_assoc] using h9⟩
 rw [if_pos (by rw [ho])] at hr
 have HO:=keep ho
 have hd:=fQ ho
 clear ho
 cases ts with
 | nil=>exact absurd HO.out (by simp [bO])
 | cons t0 ts0 =>
  simp only [List.drop_succ_cons,List.drop_zero,List.length_cons] at hr hd hn
  rcases ce hr with ⟨a,c,h1,rfl⟩ | ⟨ts1,ns1,n1,q,h1,h2,rfl⟩
  ·have HC:=keep (HIH.out f (Nat.le_refl _) w1 ps pb en .sg ts0 _ ns · h1 (by omega))
   clear hr h1
   go_enter func166,ntmps166
   go_wp2_with fail
   refine cMg (jG w1 _ pb en (t0::ts0) ns _ _ H.out) (fun _=>H.out.below) fun wa1 H3=>?_
   rw [HO.out]
   clear H
   have F4:=H3.out.sees
   obtain ⟨zp,-⟩:=F4
   go_wp2_with fail
   refine (bF w1 _ pb en _ ts0 _ _ H3.out).mono ?_
   rintro e wa5 ⟨rfl,hd9⟩
   clear zp
   have H6:=Lib.hid hd9
   clear hd9 H3
   have F7:=H6.out.sees
   obtain ⟨zp,-⟩:=F7
   go_wp2_with fail
   refine (HC.out _ H6.out).mono ?_
   rintro e wz ⟨rfl,hb⟩
   have HZ:=Lib.hid hb
   clear hb
   go_wp2_with fail
   exact ⟨rfl,rfl,HZ.out⟩
  have hl1:=aE _ _ _ _ _ _ h1
  have HC:=keep (HIH.out f (Nat.le_refl _) w1 ps pb en .sg ts0 _ ns · h1 (by omega))
  clear hr h1
  simp only [Option.some.injEq] at h2
  subst h2
  go_enter func166,ntmps166
  go_wp2_with fail
  refine cMg (jG w1 _ pb en (t0::ts0) ns _ _ H.out) (fun _=>H.out.below) fun wa1 H3=>?_
  rw [HO.out]
  clear H
  have F4:=H3.out.sees
  obtain ⟨zp,-⟩:=F4
  go_wp2_with fail
  refine (bF w1 _ pb en _ ts0 _ _ H3.out).mono ?_
  rintro e wa5 ⟨rfl,hd9⟩
  clear zp
  have H6:=Lib.hid hd9
  clear hd9 H3
  have F7:=H6.out.sees
  obtain ⟨zp,-⟩:=F7
  go_wp2_with fail
  refine (HC.out _ H6.out).mono ?_
  rintro e wa8 ⟨rfl,hd9⟩
  clear zp
  have H9:=Lib.hid hd9
  clear hd9 H6
  have F10:=H9.out.sees
  obtain ⟨zp,-⟩:=F10
  clear HC
  go_wp2_with fail
  refine (fB w1 _ pb en ts1 _ fz _ (by simp; omega) H9.out).mono ?_
  rintro e wa11 ⟨rfl,hd9⟩
  clear zp
  have H12:=Lib.hid hd9
  clear hd9 H9
  have F13:=H12.out.sees
  obtain ⟨zp,-⟩:=F13
  go_wp2_with fail
  first
   | go_end0
   | refine bodyPost_ret (results_none rfl _ _ _) rfl ?_
  exact ⟨rfl,by have h9:=H12.out; simpa [List.append_assoc] using h9⟩
set_option maxRecDepth 100000
set_option maxHeartbeats 4000000
def zE (fn:Nat):List UInt8:=(([]::dx)[fn]?).getD []
theorem CM:(#[.string ⟨#[]⟩,.string ⟨#[65,66,83]⟩,.string ⟨#[83,73,71,78]⟩,.string ⟨#[73,78,84]⟩,.string ⟨#[84,82,85,78,67]⟩,.string ⟨#[82,79,85,78,68]⟩,.string ⟨#[77,79,68]⟩,.string ⟨#[80,79,87,69,82]⟩,.string ⟨#[83,81,82,84]⟩,.string ⟨#[83,85,77]⟩,.string ⟨#[80,82,79,68,85,67,84]⟩,.string ⟨#[67,79,85,78,84]⟩,.string ⟨#[67,79,85,78,84,65]⟩,.string ⟨#[67,79,85,78,84,66,76,65,78,75]⟩,.string ⟨#[65,86,69,82,65,71,69]⟩,.string ⟨#[77,73,78]⟩,.string ⟨#[77,65,88]⟩,.string ⟨#[77,69,68,73,65,78]⟩,.string ⟨#[76,65,82,71,69]⟩,.string ⟨#[83,77,65,76,76]⟩,.string ⟨#[73,70]⟩,.string ⟨#[65,78,68]⟩,.string ⟨#[79,82]⟩,.string ⟨#[88,79,82]⟩,.string ⟨#[78,79,84]⟩,.string ⟨#[73,70,69,82,82,79,82]⟩,.string ⟨#[73,83,69,82,82,79,82]⟩,.string ⟨#[73,83,66,76,65,78,75]⟩,.string ⟨#[73,83,78,85,77,66,69,82]⟩,.string ⟨#[73,83,84,69,88,84]⟩,.string ⟨#[67,72,79,79,83,69]⟩,.string ⟨#[76,69,78]⟩,.string ⟨#[76,69,70,84]⟩,.string ⟨#[82,73,71,72,84]⟩,.string ⟨#[77,73,68]⟩,.string ⟨#[85,80,80,69,82]⟩,.string ⟨#[76,79,87,69,82]⟩,.string ⟨#[84,82,73,77]⟩,.string ⟨#[67,79,78,67,65,84]⟩,.string ⟨#[82,69,80,84]⟩,.string ⟨#[69,88,65,67,84]⟩,.string ⟨#[70,73,78,68]⟩,.string ⟨#[86,65,76,85,69]⟩,.string ⟨#[73,78,68,69,88]⟩,.string ⟨#[77,65,84,67,72]⟩,.string ⟨#[67,79,85,78,84,73,70]⟩,.string ⟨#[68,83,85,77]⟩,.string ⟨#[68,67,79,85,78,84]⟩,.string ⟨#[68,65,86,71]⟩,.string ⟨#[68,77,73,78]⟩,.string ⟨#[68,77,65,88]⟩]:Array Value)=(([]::dx).map fun x=>Value.string ⟨x.toArray⟩).toArray:=by kernel_rfl
theorem CL (fn:Nat) (h:fn≤50):(#[.string ⟨#[]⟩,.string ⟨#[65,66,83]⟩,.string ⟨#[83,73,71,78]⟩,.string ⟨#[73,78,84]⟩,.string ⟨#[84,82,85,78,67]⟩,.string ⟨#[82,79,85,78,68]⟩,.string ⟨#[77,79,68]⟩,.string ⟨#[80,79,87,69,82]⟩,.string ⟨#[83,81,82,84]⟩,.string ⟨#[83,85,77]⟩,.string ⟨#[80,82,79,68,85,67,84]⟩,.string ⟨#[67,79,85,78,84]⟩,.string ⟨#[67,79,85,78,84,65]⟩,.string ⟨#[67,79,85,78,84,66,76,65,78,75]⟩,.string ⟨#[65,86,69,82,65,71,69]⟩,.string ⟨#[77,73,78]⟩,.string ⟨#[77,65,88]⟩,.string ⟨#[77,69,68,73,65,78]⟩,.string ⟨#[76,65,82,71,69]⟩,.string ⟨#[83,77,65,76,76]⟩,.string ⟨#[73,70]⟩,.string ⟨#[65,78,68]⟩,.string ⟨#[79,82]⟩,.string ⟨#[88,79,82]⟩,.string ⟨#[78,79,84]⟩,.string ⟨#[73,70,69,82,82,79,82]⟩,.string ⟨#[73,83,69,82,82,79,82]⟩,.string ⟨#[73,83,66,76,65,78,75]⟩,.string ⟨#[73,83,78,85,77,66,69,82]⟩,.string ⟨#[73,83,84,69,88,84]⟩,.string ⟨#[67,72,79,79,83,69]⟩,.string ⟨#[76,69,78]⟩,.string ⟨#[76,69,70,84]⟩,.string ⟨#[82,73,71,72,84]⟩,.string ⟨#[77,73,68]⟩,.string ⟨#[85,80,80,69,82]⟩,.string ⟨#[76,79,87,69,82]⟩,.string ⟨#[84,82,73,77]⟩,.string ⟨#[67,79,78,67,65,84]⟩,.string ⟨#[82,69,80,84]⟩,.string ⟨#[69,88,65,67,84]⟩,.string ⟨#[70,73,78,68]⟩,.string ⟨#[86,65,76,85,69]⟩,.string ⟨#[73,78,68,69,88]⟩,.string ⟨#[77,65,84,67,72]⟩,.string ⟨#[67,79,85,78,84,73,70]⟩,.string ⟨#[68,83,85,77]⟩,.string ⟨#[68,67,79,85,78,84]⟩,.string ⟨#[68,65,86,71]⟩,.string ⟨#[68,77,73,78]⟩,.string ⟨#[68,77,65,88]⟩]:Array Value)[fn]?=some (.string ⟨(zE fn).toArray⟩):=by
 rw [CM,List.getElem?_toArray,List.getElem?_map]
 have hl:fn<([]::dx).length:=by show fn<51; omega
 unfold zE
 rw [List.getElem?_eq_getElem hl]
 rfl
theorem Al (k : Nat) (h : k < 50) : zE (k + 1) = dx[k]'(by show k < 50; exact h):=by
 unfold zE
 rw [List.getElem?_cons_succ,List.getElem?_eq_getElem (by show k<50; exact h)]
 rfl
theorem DZ (x:List UInt8) (k:Nat) (h1:1≤k) (h2:k≤50) (hb:∀ j,1≤j→j<k→zE j≠x) (hk:zE k=x):fnS x=k:=by
 obtain ⟨j,rfl⟩:∃ j,k=j+1:=⟨k - 1,by omega⟩
 have h:=tU dx x j (by show j<50; omega) (fun y hy=>by
  rw [List.mem_take_iff_getElem] at hy
  obtain ⟨i,hi,rfl⟩:=hy
  have hi2:i<j:=by omega
  have:=hb (i+1) (by omega) (by omega)
  rw [Al i (by omega)] at this
  exact this) (by rw [← Al j (by omega)]; exact hk)
 rw [wA] at h
 split at h <;> omega
theorem Dk (x:List UInt8) (hb:∀ j,1≤j→j≤50→zE j≠x):fnS x=0:=by
 have h:=tV dx x (fun y hy=>by
  obtain ⟨i,hi,rfl⟩:=List.mem_iff_getElem.1 hy
  have hi2:i<50:=hi
  have:=hb (i+1) (by omega) (by omega)
  rw [Al i hi2] at this
  exact this)
 rw [wA] at h
 split at h
 ·assumption
 omega
theorem Bl (fn:Nat) (w:World) (h:fn≤50) :
  Calls prog 99 #[.int .u8 (fn:Nat)] w fun e w'=>e=.returned (.string ⟨(zE fn).toArray⟩)∧Below w.heap.size w w':=by
 obtain ⟨W1,hW1⟩:∃ W1,W1=(w.alloc (.cells #[.string ⟨#[]⟩,.string ⟨#[65,66,83]⟩,.string ⟨#[83,73,71,78]⟩,.string ⟨#[73,78,84]⟩,.string ⟨#[84,82,85,78,67]⟩,.string ⟨#[82,79,85,78,68]⟩,.string ⟨#[77,79,68]⟩,.string ⟨#[80,79,87,69,82]⟩,.string ⟨#[83,81,82,84]⟩,.string ⟨#[83,85,77]⟩,.string ⟨#[80,82,79,68,85,67,84]⟩,.string ⟨#[67,79,85,78,84]⟩,.string ⟨#[67,79,85,78,84,65]⟩,.string ⟨#[67,79,85,78,84,66,76,65,78,75]⟩,.string ⟨#[65,86,69,82,65,71,69]⟩,.string ⟨#[77,73,78]⟩,.string ⟨#[77,65,88]⟩,.string ⟨#[77,69,68,73,65,78]⟩,.string ⟨#[76,65,82,71,69]⟩,.string ⟨#[83,77,65,76,76]⟩,.string ⟨#[73,70]⟩,.string ⟨#[65,78,68]⟩,.string ⟨#[79,82]⟩,.string ⟨#[88,79,82]⟩,.string ⟨#[78,79,84]⟩,.string ⟨#[73,70,69,82,82,79,82]⟩,.string ⟨#[73,83,69,82,82,79,82]⟩,.string ⟨#[73,83,66,76,65,78,75]⟩,.string ⟨#[73,83,78,85,77,66,69,82]⟩,.string ⟨#[73,83,84,69,88,84]⟩,.string ⟨#[67,72,79,79,83,69]⟩,.string ⟨#[76,69,78]⟩,.string ⟨#[76,69,70,84]⟩,.string ⟨#[82,73,71,72,84]⟩,.string ⟨#[77,73,68]⟩,.string ⟨#[85,80,80,69,82]⟩,.string ⟨#[76,79,87,69,82]⟩,.string ⟨#[84,82,73,77]⟩,.string ⟨#[67,79,78,67,65,84]⟩,.string ⟨#[82,69,80,84]⟩,.string ⟨#[69,88,65,67,84]⟩,.string ⟨#[70,73,78,68]⟩,.string ⟨#[86,65,76,85,69]⟩,.string ⟨#[73,78,68,69,88]⟩,.string ⟨#[77,65,84,67,72]⟩,.string ⟨#[67,79,85,78,84,73,70]⟩,.string ⟨#[68,83,85,77]⟩,.string ⟨#[68,67,79,85,78,84]⟩,.string ⟨#[68,65,86,71]⟩,.string ⟨#[68,77,73,78]⟩,.string ⟨#[68,77,65,88]⟩] 9)):=⟨_,rfl⟩
 have HP:Below w.heap.size w W1∧Blk W1 w.heap.size 9 #[.string ⟨#[]⟩,.string ⟨#[65,66,83]⟩,.string ⟨#[83,73,71,78]⟩,.string ⟨#[73,78,84]⟩,.string ⟨#[84,82,85,78,67]⟩,.string ⟨#[82,79,85,78,68]⟩,.string ⟨#[77,79,68]⟩,.string ⟨#[80,79,87,69,82]⟩,.string ⟨#[83,81,82,84]⟩,.string ⟨#[83,85,77]⟩,.string ⟨#[80,82,79,68,85,67,84]⟩,.string ⟨#[67,79,85,78,84]⟩,.string ⟨#[67,79,85,78,84,65]⟩,.string ⟨#[67,79,85,78,84,66,76,65,78,75]⟩,.string ⟨#[65,86,69,82,65,71,69]⟩,.string ⟨#[77,73,78]⟩,.string ⟨#[77,65,88]⟩,.string ⟨#[77,69,68,73,65,78]⟩,.string ⟨#[76,65,82,71,69]⟩,.string ⟨#[83,77,65,76,76]⟩,.string ⟨#[73,70]⟩,.string ⟨#[65,78,68]⟩,.string ⟨#[79,82]⟩,.string ⟨#[88,79,82]⟩,.string ⟨#[78,79,84]⟩,.string ⟨#[73,70,69,82,82,79,82]⟩,.string ⟨#[73,83,69,82,82,79,82]⟩,.string ⟨#[73,83,66,76,65,78,75]⟩,.string ⟨#[73,83,78,85,77,66,69,82]⟩,.string ⟨#[73,83,84,69,88,84]⟩,.string ⟨#[67,72,79,79,83,69]⟩,.string ⟨#[76,69,78]⟩,.string ⟨#[76,69,70,84]⟩,.string ⟨#[82,73,71,72,84]⟩,.string ⟨#[77,73,68]⟩,.string ⟨#[85,80,80,69,82]⟩,.string ⟨#[76,79,87,69,82]⟩,.string ⟨#[84,82,73,77]⟩,.string ⟨#[67,79,78,67,65,84]⟩,.string ⟨#[82,69,80,84]⟩,.string ⟨#[69,88,65,67,84]⟩,.string ⟨#[70,73,78,68]⟩,.string ⟨#[86,65,76,85,69]⟩,.string ⟨#[73,78,68,69,88]⟩,.string ⟨#[77,65,84,67,72]⟩,.string ⟨#[67,79,85,78,84,73,70]⟩,.string ⟨#[68,83,85,77]⟩,.string ⟨#[68,67,79,85,78,84]⟩,.string ⟨#[68,65,86,71]⟩,.string ⟨#[68,77,73,78]⟩,.string ⟨#[68,77,65,88]⟩]:=by
  rw [hW1]
  have h9:=(Ok.start w).alloc w.heap.size 9 [.string ⟨#[]⟩,.string ⟨#[65,66,83]⟩,.string ⟨#[83,73,71,78]⟩,.string ⟨#[73,78,84]⟩,.string ⟨#[84,82,85,78,67]⟩,.string ⟨#[82,79,85,78,68]⟩,.string ⟨#[77,79,68]⟩,.string ⟨#[80,79,87,69,82]⟩,.string ⟨#[83,81,82,84]⟩,.string ⟨#[83,85,77]⟩,.string ⟨#[80,82,79,68,85,67,84]⟩,.string ⟨#[67,79,85,78,84]⟩,.string ⟨#[67,79,85,78,84,65]⟩,.string ⟨#[67,79,85,78,84,66,76,65,78,75]⟩,.string ⟨#[65,86,69,82,65,71,69]⟩,.string ⟨#[77,73,78]⟩,.string ⟨#[77,65,88]⟩,.string ⟨#[77,69,68,73,65,78]⟩,.string ⟨#[76,65,82,71,69]⟩,.string ⟨#[83,77,65,76,76]⟩,.string ⟨#[73,70]⟩,.string ⟨#[65,78,68]⟩,.string ⟨#[79,82]⟩,.string ⟨#[88,79,82]⟩,.string ⟨#[78,79,84]⟩,.string ⟨#[73,70,69,82,82,79,82]⟩,.string ⟨#[73,83,69,82,82,79,82]⟩,.string ⟨#[73,83,66,76,65,78,75]⟩,.string ⟨#[73,83,78,85,77,66,69,82]⟩,.string ⟨#[73,83,84,69,88,84]⟩,.string ⟨#[67,72,79,79,83,69]⟩,.string ⟨#[76,69,78]⟩,.string ⟨#[76,69,70,84]⟩,.string ⟨#[82,73,71,72,84]⟩,.string ⟨#[77,73,68]⟩,.string ⟨#[85,80,80,69,82]⟩,.string ⟨#[76,79,87,69,82]⟩,.string ⟨#[84,82,73,77]⟩,.string ⟨#[67,79,78,67,65,84]⟩,.string ⟨#[82,69,80,84]⟩,.string ⟨#[69,88,65,67,84]⟩,.string ⟨#[70,73,78,68]⟩,.string ⟨#[86,65,76,85,69]⟩,.string ⟨#[73,78,68,69,88]⟩,.string ⟨#[77,65,84,67,72]⟩,.string ⟨#[67,79,85,78,84,73,70]⟩,.string ⟨#[68,83,85,77]⟩,.string ⟨#[68,67,79,85,78,84]⟩,.string ⟨#[68,65,86,71]⟩,.string ⟨#[68,77,73,78]⟩,.string ⟨#[68,77,65,88]⟩] rfl
  exact ⟨h9.bel,h9.all _ (List.mem_cons_self ..)⟩
 dsimp only at hW1
 have HW1:=keep hW1
 clear hW1
 have HPP:=keep HP
 clear HP
 have HN:=keep (CL fn h)
 obtain ⟨x,hx⟩:=ex ((zE fn).toArray)
 rw [hx] at HN ⊢
 clear hx
 have hfi:¬ (51:Int)≤(fn:Int):=by omega
 go_enter func99,ntmps99
 go_upto_region 2 with fail
 rw [← HW1.out]
 obtain ⟨hbel,hblk⟩:=HPP.out
 clear HPP HW1
 have hlt:=hblk.lt
 have hcell:=(hblk.cell fn).trans HN.out
 have HB:=Lib.hid hbel
 clear hblk hbel HN
 go_wp2_with fail
 go_ret
 exact ⟨rfl,HB.out⟩
theorem BL (x:List UInt8) (w:World) :
  Calls prog 260 #[.string ⟨x.toArray⟩] w fun e w'=>e=.returned (.tuple #[.int .u8 (fnS x:Nat),.int .i64 (fnE x)])∧Below w.heap.size w w':=by
 obtain ⟨R,hR⟩:=ex (fnS x)
 obtain ⟨E,hE⟩:=ex (fnE x)
 rw [hR,hE]
 have HRR:=keep hR
 have HE:=keep hE
 clear hR hE
 have HB:=Lib.hid (Below.refl w.heap.size w)
 go_enter func260,ntmps260
 go_wp2_with fail
 go_loopg [4] 50 (fun gf nv wr=>∃ k:Nat,gf=51 - k∧nv=.int .u8 (k:Int)∧1≤k∧k≤51∧ao (∀ j,1≤j→j<k→zE j≠x)∧Hid (Below w.heap.size w wr))
 case atStart=>exact ⟨1,rfl,rfl,by omega,by omega,keep (fun j h1 h2=>by omega),HB⟩
 case round =>
  clear HB
  obtain ⟨k,hg,rfl,hk1,hk2,HK,HRW⟩:=hrel
  obtain ⟨wp,rfl⟩:∃ wp:World,wp=wr:=⟨_,rfl⟩
  subst hg
  by_cases h51:k=51
  ·subst h51
   have h0:=Dk x (fun j h1 h2=>HK.out j h1 (by omega))
   have hE2:E=6:=by rw [← HE.out]; unfold fnE; rw [if_pos h0]
   have hR2:R=0:=by rw [← HRR.out]; exact h0
   subst hE2 hR2
   clear h0 HE HRR
   go_wp2_with fail
   exact bodyPost_ret (v:=.tuple #[.int .u8 0,.int .i64 6]) (by simp [results,results260,go_sem]) rfl ⟨rfl,HRW.out⟩
  have hk3:k≤50:=by omega
  have hki:(k:Int)≤50:=by omega
  have HN:=keep (fun W=>Bl k W hk3)
  obtain ⟨y,hy⟩:=ex (zE k)
  rw [hy] at HN
  have HY:=keep hy
  clear hy
  by_cases hxy:y=x
  ·subst hxy
   have h0:=DZ y k hk1 hk3 HK.out HY.out
   have hE2:E=0:=by rw [← HE.out]; unfold fnE; rw [if_neg (by omega)]
   have hR2:R=k:=by rw [← HRR.out]; exact h0
   subst hE2 hR2
   clear h0 HE HRR
   go_wp2_with fail
   refine (HN.out _).mono ?_
   rintro e w7 ⟨rfl,hb⟩
   have HB7:=Lib.hid (HRW.out.trans (hb.mono HRW.out.size))
   clear hb HRW HN
   go_wp2_with fail
   exact bodyPost_ret (v:=.tuple #[.int .u8 (R:Nat),.int .i64 0]) (by simp [results,results260,go_sem]) rfl ⟨rfl,HB7.out⟩
  have HNE:=keep hxy
  have hb1:(x == y)=false:=by simpa using fun e=>hxy e.symm
  have hb2:(y == x)=false:=by simpa using hxy
  clear hxy h51
  go_wp2_with fail
  refine (HN.out _).mono ?_
  rintro e w7 ⟨rfl,hb⟩
  have HB7:=Lib.hid (HRW.out.trans (hb.mono HRW.out.size))
  clear hb HRW HN
  go_wp2_with fail
  go_roundg (51 - (k+1))
  case rel =>
   refine ⟨k+1,rfl,rfl,by omega,by omega,keep (fun j h1 h2 => ?_),HB7⟩
   rcases Nat.lt_or_ge j k with h9 | h9
   ·exact HK.out j h1 h9
   obtain rfl:j=k:=by omega
   rw [HY.out]
   exact HNE.out
  case measure=>omega
theorem Ag (fn:Nat) (w:World) :
  Calls prog 193 #[.int .u8 (fn:Nat)] w fun e w'=>e=.returned (.tuple #[.int .i64 ((arS fn).1:Nat),.int .i64 ((arS fn).2:Nat)])∧w'=w:=by
 go_enter func193,ntmps193
 go_wp2_with fail
 all_goals simp only [beq_iff_eq,beq_eq_false_iff_ne,ne_eq] at *
 all_goals
  first
  | exact bodyPost_ret (v:=.tuple #[.int .i64 2,.int .i64 2]) (by simp [results,results193,go_sem]) rfl ⟨by rw [xC fn (by omega)]; rfl,rfl⟩
  | exact bodyPost_ret (v:=.tuple #[.int .i64 2,.int .i64 3]) (by simp [results,results193,go_sem]) rfl ⟨by rw [xD fn (by omega)]; rfl,rfl⟩
  | exact bodyPost_ret (v:=.tuple #[.int .i64 1,.int .i64 2]) (by simp [results,results193,go_sem]) rfl ⟨by rw [xA fn (by omega)]; rfl,rfl⟩
  | exact bodyPost_ret (v:=.tuple #[.int .i64 3,.int .i64 3]) (by simp [results,results193,go_sem]) rfl ⟨by rw [xF fn (by omega)]; rfl,rfl⟩
  | exact bodyPost_ret (v:=.tuple #[.int .i64 1,.int .i64 16]) (by simp [results,results193,go_sem]) rfl ⟨by rw [xB fn (by omega)]; rfl,rfl⟩
  | exact bodyPost_ret (v:=.tuple #[.int .i64 2,.int .i64 16]) (by simp [results,results193,go_sem]) rfl ⟨by rw [xE fn (by omega)]; rfl,rfl⟩
  | exact bodyPost_ret (v:=.tuple #[.int .i64 1,.int .i64 1]) (by simp [results,results193,go_sem]) rfl ⟨by rw [xz fn (by omega)]; rfl,rfl⟩
theorem Bm (fn i:Nat) (w:World) :
  Calls prog 212 #[.int .u8 (fn:Nat),.int .i64 (i:Nat)] w fun e w'=>e=.returned (.bool (cE fn i))∧w'=w:=by
 have h0:¬ (i:Int)<0:=by omega
 by_cases hm:(arS fn).2≤i
 ·have HM:=keep (vB fn i hm)
  have hmi:(((arS fn).2:Nat):Int)≤(i:Int):=by omega
  clear hm
  go_enter func212,ntmps212
  go_wp2_with fail
  refine (Ag fn _).mono ?_
  rintro e w' ⟨rfl,hw⟩
  obtain rfl:w=w':=hw.symm
  go_wp2_with fail
  exact bodyPost_ret (v:=.bool false) (by simp [results,results212,go_sem]) rfl ⟨by rw [HM.out.1],rfl⟩
 have HM:=keep hm
 have hmi:¬ (((arS fn).2:Nat):Int)≤(i:Int):=by omega
 clear hm
 go_enter func212,ntmps212
 go_wp2_with fail
 refine (Ag fn _).mono ?_
 rintro e w' ⟨rfl,hw⟩
 obtain rfl:w=w':=hw.symm
 go_wp2_with fail
 all_goals simp only [beq_iff_eq,beq_eq_false_iff_ne,ne_eq] at *
 all_goals
  first
  | exact bodyPost_ret (v:=.bool true) (by simp [results,results212,go_sem]) rfl ⟨by rw [sr fn i HM.out (by omega)],rfl⟩
  | exact bodyPost_ret (v:=.bool ((i:Int) == 1)) (by simp [results,results212,go_sem]) rfl ⟨by rw [vA fn i HM.out (by omega),yO],rfl⟩
  | exact bodyPost_ret (v:=.bool ((i:Int) == 0)) (by simp [results,results212,go_sem]) rfl ⟨by rw [ss fn i HM.out (by omega),yN],rfl⟩
  | exact bodyPost_ret (v:=.bool false) (by simp [results,results212,go_sem]) rfl ⟨by rw [qN fn i HM.out (by omega),decide_eq_false (by omega)],rfl⟩
  | exact bodyPost_ret (v:=.bool (decide ((fn:Int)≤50))) (by simp [results,results212,go_sem]) rfl ⟨by rw [qN fn i HM.out (by omega)]; congr 2; rw [decide_eq_decide]; omega,rfl⟩
