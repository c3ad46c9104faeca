/- The parser's methods: what parsing comes to, by induction on the fuel. -/
import Derived.Test.YtdplcdhpnmcdjaaGreatDoorEParB
import Derived.Test.YtdplcdhpnmcdjaaGreatDoorETg
import Derived.Deep.LoopGhost
namespace Go.Proofs.YtdplcdhpnmcdjaaGreatDoor
set_option maxRecDepth 100000
set_option maxHeartbeats 2000000
open Go.RowKit Go.Proofs.Tryz
def cB (ns:List Nd):Rs→Rs
 | .bad a c=>.bad a c
 | .ok ts ns' n=>.ok ts (ns++ns') n
theorem ef (a b:List Nd) (r:Rs):cB a (cB b r)=cB (a++b) r:=by cases r <;> simp [cB]
theorem ce {x:Option Rs} {g:List Tk→Nat→Option Rs} {r:Rs} (h:fe x g=some r) :
  (∃ a c,x=some (.bad a c)∧r=.bad a c)∨∃ ts1 ns1 n1 q,x=some (.ok ts1 ns1 n1)∧g ts1 n1=some q∧r=cB ns1 q:=by
 unfold fe at h
 split at h
 ·simp at h
 ·rename_i a c
  simp at h
  exact .inl ⟨a,c,rfl,h.symm⟩
 rename_i ts1 ns1 n1
 split at h
 ·simp at h
 ·rename_i a c hg
  simp at h
  exact .inr ⟨ts1,ns1,n1,_,rfl,hg,h.symm⟩
 rename_i ts2 ns2 n2 hg
 simp at h
 exact .inr ⟨ts1,ns1,n1,_,rfl,hg,h.symm⟩
theorem kK {e g k:Nat} {ts:List Tk} {q:Rs} (h:ap e (g+1) (.ops k) ts=some q) :
  (((hdS e ts).kind≠8∨aT (hdS e ts).num≠k)∧q=.ok ts [] 0)∨∃ t ts',ts=t::ts'∧t.kind=8∧aT t.num=k ∧
   ((∃ a c,ap e g (.lv (k+1)) ts'=some (.bad a c)∧q=.bad a c)∨∃ ts1 ns1 n1 q2,ap e g (.lv (k+1)) ts'=some (.ok ts1 ns1 n1)∧ap e g (.ops k) ts1=some q2∧q=cB (ns1++[cN t.num]) q2):=by
 cases ts with
 | nil =>
  rw [ap] at h
  simp at h
  exact .inl ⟨.inl (by simp [hdS]),h.symm⟩
 | cons t ts' =>
  rw [ap] at h
  split at h
  ·rename_i ht
   refine .inr ⟨t,ts',rfl,ht.1,ht.2,?_⟩
   rcases ce h with ⟨a,c,h1,h2⟩ | ⟨ts1,ns1,n1,q1,h1,h2,rfl⟩
   ·exact .inl ⟨a,c,h1,h2⟩
   rcases ce h2 with ⟨a,c,h3,h4⟩ | ⟨ts2,ns2,n2,q2,h3,h4,rfl⟩
   ·simp at h3
   simp only [Option.some.injEq,Rs.ok.injEq] at h3
   obtain ⟨rfl,rfl,rfl⟩:=h3
   exact .inr ⟨ts1,ns1,n1,q2,h1,h4,by rw [ef]⟩
  rename_i ht
  simp at h
  refine .inl ⟨?_,h.symm⟩
  show t.kind≠8∨aT t.num≠k
  by_cases h8:t.kind=8
  ·exact .inr fun hb=>ht ⟨h8,hb⟩
  exact .inl h8
theorem vI {e f k:Nat} {ts:List Tk} {r:Rs} (h:ap e f (.ops k) ts=some r):∃ g,f=g+1:=by
 cases f with
 | zero=>simp [ap] at h
 | succ g=>exact ⟨g,rfl⟩
theorem aE {e:Nat}:∀ (f:Nat) (m:Md) (ts ts':List Tk) (ns:List Nd) (n:Nat),ap e f m ts=some (.ok ts' ns n)→ns.length+ts'.length≤ts.length
 | 0,_,_,_,_,_,h=>by simp [ap] at h
 | f+1,.lv k,ts,ts',ns,n,h=>by
  rw [ap] at h
  split at h
  ·exact aE f _ _ _ _ _ h
  obtain ⟨t1,_,_,_,h1,h2,rfl⟩:=seq_ok h
  have a:=aE f _ _ _ _ _ h1
  have b:=aE f _ _ _ _ _ h2
  simp; omega
 | f+1,.ops k,[],ts',ns,n,h=>by
  simp only [ap,Option.some.injEq,Rs.ok.injEq] at h
  obtain ⟨rfl,rfl,_⟩:=h
  simp
 | f+1,.ops k,t::ts,ts',ns,n,h=>by
  rw [ap] at h
  split at h
  ·obtain ⟨t1,_,_,_,h1,h2,rfl⟩:=seq_ok h
   obtain ⟨t2,_,_,_,h3,h4,rfl⟩:=seq_ok h2
   simp only [Option.some.injEq,Rs.ok.injEq] at h3
   obtain ⟨rfl,rfl,_⟩:=h3
   have a:=aE f _ _ _ _ _ h1
   have b:=aE f _ _ _ _ _ h4
   simp; omega
  simp only [Option.some.injEq,Rs.ok.injEq] at h
  obtain ⟨rfl,rfl,_⟩:=h
  simp
 | f+1,.sg,ts,ts',ns,n,h=>by
  rw [ap] at h
  split at h
  ·rename_i ho
   have hd:=fQ ho
   obtain ⟨t1,_,_,_,h1,h2,rfl⟩:=seq_ok h
   simp only [Option.some.injEq,Rs.ok.injEq] at h2
   obtain ⟨rfl,rfl,_⟩:=h2
   have a:=aE f _ _ _ _ _ h1
   simp; omega
  obtain ⟨t1,_,_,_,h1,h2,rfl⟩:=seq_ok h
  have a:=aE f _ _ _ _ _ h1
  split at h2
  ·rename_i ho
   have hd:=fQ ho
   obtain ⟨t3,_,_,_,h3,h4,rfl⟩:=seq_ok h2
   simp only [Option.some.injEq,Rs.ok.injEq] at h4
   obtain ⟨rfl,rfl,_⟩:=h4
   have b:=aE f _ _ _ _ _ h3
   simp; omega
  simp only [Option.some.injEq,Rs.ok.injEq] at h2
  obtain ⟨rfl,rfl,_⟩:=h2
  simp; omega
 | f+1,.pc,ts,ts',ns,n,h=>by
  rw [ap] at h
  obtain ⟨t1,_,_,_,h1,h2,rfl⟩:=seq_ok h
  simp only [Option.some.injEq,Rs.ok.injEq] at h2
  obtain ⟨rfl,rfl,_⟩:=h2
  have a:=aE f _ _ _ _ _ h1
  have key:∀ ts:List Tk,(cr ts).1.length+(cr ts).2=ts.length:=by
   intro ts
   induction ts with
   | nil=>rfl
   | cons t ts ih =>
    rw [cr]
    split
    ·simp; omega
    simp
  have b:=key t1
  simp; omega
 | f+1,.pr,[],ts',ns,n,h=>by simp [ap] at h
 | f+1,.pr,t::ts,ts',ns,n,h=>by
  rw [ap] at h
  split at h
  ·simp only [Option.some.injEq,Rs.ok.injEq] at h
   obtain ⟨rfl,rfl,_⟩:=h
   simp; omega
  split at h
  ·simp only [Option.some.injEq,Rs.ok.injEq] at h
   obtain ⟨rfl,rfl,_⟩:=h
   simp; omega
  split at h
  ·obtain ⟨t1,_,_,_,h1,h2,rfl⟩:=seq_ok h
   have a:=aE f _ _ _ _ _ h1
   split at h2
   ·simp only [Option.some.injEq,Rs.ok.injEq] at h2
    obtain ⟨rfl,rfl,_⟩:=h2
    simp; omega
   simp at h2
  split at h
  ·split at h
   ·simp at h
   rename_i hk9
   split at h
   ·simp at h
   rename_i h9
   have hd:=fP (e:=e) (ts:=ts) (k:=9) (by simpa using h9) (by decide)
   obtain ⟨t1,ns1,h1,hk,rfl,rfl,_⟩:=gM h
   have hd2:=fP hk (by decide)
   split at h1
   ·simp only [Option.some.injEq,Rs.ok.injEq] at h1
    obtain ⟨rfl,rfl,_⟩:=h1
    simp at hd hd2 ⊢
    omega
   have a:=aE f _ _ _ _ _ h1
   simp at a hd hd2 ⊢
   omega
  simp at h
 | f+1,.args fn i,ts,ts',ns,n,h=>by
  rw [ap] at h
  obtain ⟨t1,ns1,_,ns2,h1,h2,rfl⟩:=seq_ok h
  have h3:ns1.length+t1.length≤ts.length:=by
   split at h1
   ·exact aE f _ _ _ _ _ h1
   rename_i h6
   split at h1
   ·simp only [Option.some.injEq,Rs.ok.injEq] at h1
    obtain ⟨rfl,rfl,_⟩:=h1
    have hd:=fP (e:=e) (ts:=ts) (k:=6) (by simpa using h6) (by decide)
    simp at hd ⊢
    omega
   simp at h1
  split at h2
  ·rename_i hc
   have hd:=fP hc (by decide)
   have a:=aE f _ _ _ _ _ h2
   simp at a hd ⊢
   omega
  simp only [Option.some.injEq,Rs.ok.injEq] at h2
  obtain ⟨rfl,rfl,_⟩:=h2
  simp; omega
def fh (w1:World) (ps:List aS) (pb en:Nat) (r:Rs) (e:Ending) (w':World):Prop:=match r with
 | .bad a c=>Bad (a:Nat) c w1 e w'
 | .ok ts ns _=>pB (.tuple #[]) w1 ps pb en ts ns e w'
def yL (w1:World) (ps:List aS) (pb en:Nat) (m:Md) (r:Rs) (w:World):Prop:=match m with
 | .lv k=>1≤k→k≤4→Calls prog 108 #[.pointer (some ⟨pb,0,none⟩),.int .i64 (k:Nat)] w (fh w1 ps pb en r)
 | .sg=>Calls prog 166 #[.pointer (some ⟨pb,0,none⟩)] w (fh w1 ps pb en r)
 | .pc=>Calls prog 201 #[.pointer (some ⟨pb,0,none⟩)] w (fh w1 ps pb en r)
 | .pr=>Calls prog 216 #[.pointer (some ⟨pb,0,none⟩)] w (fh w1 ps pb en r)
 | _=>True
def Con (f:Nat):Prop:=∀ (w1:World) (ps:List aS) (pb en:Nat) (m:Md) (ts:List Tk) (r:Rs) (ns:List Nd) (w:World),
 ap en f m ts=some r→ns.length+ts.length≤1000→St w1 ps pb en ts ns w→yL w1 ps pb en m (cB ns r) w
theorem wX (f:Nat) (IH:∀ g,g≤f→Con g) (w1:World) (ps:List aS) (pb en:Nat) (ts:List Tk) (r:Rs) (ns:List Nd) (w:World) (hr:ap en (f+1) .sg ts=some r) (hn:ns.length+ts.length≤1000) (h:St w1 ps pb en ts ns w) :
  Calls prog 166 #[.pointer (some ⟨pb,0,none⟩)] w (fh w1 ps pb en (cB ns r)):=by
 rw [ap] at hr
 have HIH:=keep IH
 clear IH
 have H:=Lib.hid h
 clear h
 cases ho:bO ts 2
 ·rw [if_neg (by rw [ho]; decide)] at hr
  have HO:=keep ho
  clear ho
  rcases ce hr with ⟨a,c,h1,rfl⟩ | ⟨ts1,ns1,n1,q,h1,h2,rfl⟩
  ·have HC:=keep (HIH.out f (Nat.le_refl _) w1 ps pb en .pc ts _ ns · h1 hn)
   clear hr h1
   go_enter func166,ntmps166
   go_wp2_with fail
   refine cMg (jG w1 _ pb en ts ns _ _ H.out) (fun _=>H.out.below) fun wa1 H3=>?_
   rw [HO.out]
   clear H
   have F4:=H3.out.sees
   obtain ⟨zp,-⟩:=F4
   go_wp2_with fail
   refine (HC.out _ H3.out).mono ?_
   rintro e wz ⟨rfl,hb⟩
   have HZ:=Lib.hid hb
   clear hb
   go_wp2_with fail
   exact ⟨rfl,rfl,HZ.out⟩
  have hl1:=aE _ _ _ _ _ _ h1
  have HC:=keep (HIH.out f (Nat.le_refl _) w1 ps pb en .pc ts _ ns · h1 hn)
  clear hr h1
  cases ho2:bO ts1 5
  ·rw [if_neg (by rw [ho2]; decide)] at h2
   have HO2:=keep ho2
   clear ho2
   simp only [Option.some.injEq] at h2
   subst h2
   go_enter func166,ntmps166
   go_wp2_with fail
   refine cMg (jG w1 _ pb en ts ns _ _ H.out) (fun _=>H.out.below) fun wa1 H3=>?_
   rw [HO.out]
   clear H
   have F4:=H3.out.sees
   obtain ⟨zp,-⟩:=F4
   go_wp2_with fail
   refine (HC.out _ H3.out).mono ?_
   rintro e wa5 ⟨rfl,hd9⟩
   clear zp
   have H6:=Lib.hid hd9
   clear hd9 H3
   have F7:=H6.out.sees
   obtain ⟨zp,-⟩:=F7
   clear HC
   go_wp2_with fail
   refine cMg (jG w1 _ pb en ts1 _ _ _ H6.out) (fun _=>H6.out.below) fun wa8 H10=>?_
   rw [HO2.out]
   clear zp H6
   have F11:=H10.out.sees
   obtain ⟨zp,-⟩:=F11
   go_wp2_with fail
   first
    | go_end0
    | refine bodyPost_ret (results_none rfl _ _ _) rfl ?_
   exact ⟨rfl,by rw [List.append_nil]; exact H10.out⟩
  rw [if_pos (by rw [ho2])] at h2
  have HO2:=keep ho2
  have hd2:=fQ ho2
  clear ho2
  cases ts1 with
  | nil=>exact absurd HO2.out (by simp [bO])
  | cons t1 ts1 =>
   simp only [List.drop_succ_cons,List.drop_zero,List.length_cons] at h2 hd2 hl1
   rcases ce h2 with ⟨a,c,h3,rfl⟩ | ⟨ts2,ns2,n2,q2,h3,h4,rfl⟩
   ·have HC2:=keep (HIH.out f (Nat.le_refl _) w1 ps pb en .sg ts1 _ (ns++ns1) · h3 (by simp; omega))
    clear h2 h3
    go_enter func166,ntmps166
    go_wp2_with fail
    refine cMg (jG w1 _ pb en ts ns _ _ H.out) (fun _=>H.out.below) fun wa1 H3=>?_
    rw [HO.out]
    clear H
    have F4:=H3.out.sees
    obtain ⟨zp,-⟩:=F4
    go_wp2_with fail
    refine (HC.out _ H3.out).mono ?_
    rintro e wa5 ⟨rfl,hd9⟩
    clear zp
    have H6:=Lib.hid hd9
    clear hd9 H3
    have F7:=H6.out.sees
    obtain ⟨zp,-⟩:=F7
    clear HC
    go_wp2_with fail
    refine cMg (jG w1 _ pb en (t1::ts1) _ _ _ H6.out) (fun _=>H6.out.below) fun wa8 H10=>?_
    rw [HO2.out]
    clear zp H6
    have F11:=H10.out.sees
    obtain ⟨zp,-⟩:=F11
    go_wp2_with fail
    refine (bF w1 _ pb en _ ts1 _ _ H10.out).mono ?_
    rintro e wa12 ⟨rfl,hd9⟩
    clear zp
    have H13:=Lib.hid hd9
    clear hd9 H10
    have F14:=H13.out.sees
    obtain ⟨zp,-⟩:=F14
    go_wp2_with fail
    refine (HC2.out _ H13.out).mono ?_
    rintro e wz ⟨rfl,hb⟩
    have HZ:=Lib.hid hb
    clear hb
    go_wp2_with fail
    exact ⟨rfl,rfl,HZ.out⟩
   have hl3:=aE _ _ _ _ _ _ h3
   have HC2:=keep (HIH.out f (Nat.le_refl _) w1 ps pb en .sg ts1 _ (ns++ns1) · h3 (by simp; omega))
   clear h2 h3
   simp only [Option.some.injEq] at h4
   subst h4
   go_enter func166,ntmps166
   go_wp2_with fail
   refine cMg (jG w1 _ pb en ts ns _ _ H.out) (fun _=>H.out.below) fun wa1 H3=>?_
   rw [HO.out]
   clear H
   have F4:=H3.out.sees
   obtain ⟨zp,-⟩:=F4
   go_wp2_with fail
   refine (HC.out _ H3.out).mono ?_
   rintro e wa5 ⟨rfl,hd9⟩
   clear zp
   have H6:=Lib.hid hd9
   clear hd9 H3
   have F7:=H6.out.sees
   obtain ⟨zp,-⟩:=F7
   clear HC
   go_wp2_with fail
   refine cMg (jG w1 _ pb en (t1::ts1) _ _ _ H6.out) (fun _=>H6.out.below) fun wa8 H10=>?_
   rw [HO2.out]
   clear zp H6
   have F11:=H10.out.sees
   obtain ⟨zp,-⟩:=F11
   go_wp2_with fail
   refine (bF w1 _ pb en _ ts1 _ _ H10.out).mono ?_
   rintro e wa12 ⟨rfl,hd9⟩
   clear zp
   have H13:=Lib.hid hd9
   clear hd9 H10
   have F14:=H13.out.sees
   obtain ⟨zp,-⟩:=F14
   go_wp2_with fail
   refine (HC2.out _ H13.out).mono ?_
   rintro e wa15 ⟨rfl,hd9⟩
   clear zp
   have H16:=Lib.hid hd9
   clear hd9 H13
   have F17:=H16.out.sees
   obtain ⟨zp,-⟩:=F17
   clear HC2
   go_wp2_with fail
   refine (fB w1 _ pb en ts2 _ (cN 5) _ (by simp; omega) H16.out).mono ?_
   rintro e wa18 ⟨rfl,hd9⟩
   clear zp
   have H19:=Lib.hid hd9
   clear hd9 H16
   have F20:=H19.out.sees
   obtain ⟨zp,-⟩:=F20
   go_wp2_with fail
   first
    | go_end0
    | refine bodyPost_ret (results_none rfl _ _ _) rfl ?_
   exact ⟨rfl,by have h9:=H19.out; simpa [List.append_assoc] using h9⟩
 rw [if_pos (by rw [ho])] at hr
 have HO:=keep ho
 have hd:=fQ ho
 clear ho
 cases ts with
 | nil=>exact absurd HO.out (by simp [bO])
 | cons t0 ts0 =>
  simp only [List.drop_succ_cons,List.drop_zero,List.length_cons] at hr hd hn
  rcases ce hr with ⟨a,c,h1,rfl⟩ | ⟨ts1,ns1,n1,q,h1,h2,rfl⟩
  ·have HC:=keep (HIH.out f (Nat.le_refl _) w1 ps pb en .sg ts0 _ ns · h1 (by omega))
   clear hr h1
   go_enter func166,ntmps166
   go_wp2_with fail
   refine cMg (jG w1 _ pb en (t0::ts0) ns _ _ H.out) (fun _=>H.out.below) fun wa1 H3=>?_
   rw [HO.out]
   clear H
   have F4:=H3.out.sees
   obtain ⟨zp,-⟩:=F4
   go_wp2_with fail
   refine (bF w1 _ pb en _ ts0 _ _ H3.out).mono ?_
   rintro e wa5 ⟨rfl,hd9⟩
   clear zp
   have H6:=Lib.hid hd9
   clear hd9 H3
   have F7:=H6.out.sees
   obtain ⟨zp,-⟩:=F7
   go_wp2_with fail
   refine (HC.out _ H6.out).mono ?_
   rintro e wz ⟨rfl,hb⟩
   have HZ:=Lib.hid hb
   clear hb
   go_wp2_with fail
   exact ⟨rfl,rfl,HZ.out⟩
  have hl1:=aE _ _ _ _ _ _ h1
  have HC:=keep (HIH.out f (Nat.le_refl _) w1 ps pb en .sg ts0 _ ns · h1 (by omega))
  clear hr h1
  simp only [Option.some.injEq] at h2
  subst h2
  go_enter func166,ntmps166
  go_wp2_with fail
  refine cMg (jG w1 _ pb en (t0::ts0) ns _ _ H.out) (fun _=>H.out.below) fun wa1 H3=>?_
  rw [HO.out]
  clear H
  have F4:=H3.out.sees
  obtain ⟨zp,-⟩:=F4
  go_wp2_with fail
  refine (bF w1 _ pb en _ ts0 _ _ H3.out).mono ?_
  rintro e wa5 ⟨rfl,hd9⟩
  clear zp
  have H6:=Lib.hid hd9
  clear hd9 H3
  have F7:=H6.out.sees
  obtain ⟨zp,-⟩:=F7
  go_wp2_with fail
  refine (HC.out _ H6.out).mono ?_
  rintro e wa8 ⟨rfl,hd9⟩
  clear zp
  have H9:=Lib.hid hd9
  clear hd9 H6
  have F10:=H9.out.sees
  obtain ⟨zp,-⟩:=F10
  clear HC
  go_wp2_with fail
  refine (fB w1 _ pb en ts1 _ fz _ (by simp; omega) H9.out).mono ?_
  rintro e wa11 ⟨rfl,hd9⟩
  clear zp
  have H12:=Lib.hid hd9
  clear hd9 H9
  have F13:=H12.out.sees
  obtain ⟨zp,-⟩:=F13
  go_wp2_with fail
  first
   | go_end0
   | refine bodyPost_ret (results_none rfl _ _ _) rfl ?_
  exact ⟨rfl,by have h9:=H12.out; simpa [List.append_assoc] using h9⟩
