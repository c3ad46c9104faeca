/- The parser's methods: what parsing comes to, by induction on the fuel. The reference's tables: Name, Function, Arity, Wide. -/
import Derived.Test.YthdmpajkacmkdaaGreatDoorGParB
import Derived.Test.YthdmpajkacmkdaaGreatDoorGTg
import Derived.Test.YthdmpajkacmkdaaGreatDoorGTreA
import Derived.Deep.LoopGhost
import Derived.Test.YthdmpajkacmkdaaGreatDoorGAddrP
namespace Go.Proofs.YthdmpajkacmkdaaGreatDoor
set_option maxRecDepth 100000
set_option maxHeartbeats 2000000
open Go.RowKit Go.Proofs.Tryz
def dj (ns:List Nd):Rs→Rs
 | .bad a c=>.bad a c
 | .ok ts ns' n=>.ok ts (ns++ns') n
theorem ft (a b:List Nd) (r:Rs):dj a (dj b r)=dj (a++b) r:=by cases r <;> simp [dj]
theorem cJ {x:Option Rs} {g:List Tk→Nat→Option Rs} {r:Rs} (h:dJ x g=some r) :
  (∃ a c,x=some (.bad a c)∧r=.bad a c)∨∃ ts1 ns1 n1 q,x=some (.ok ts1 ns1 n1)∧g ts1 n1=some q∧r=dj ns1 q:=by
 unfold dJ at h
 split at h
 ·simp at h
 ·rename_i a c
  simp at h
  exact .inl ⟨a,c,rfl,h.symm⟩
 rename_i ts1 ns1 n1
 split at h
 ·simp at h
 ·rename_i a c hg
  simp at h
  exact .inr ⟨ts1,ns1,n1,_,rfl,hg,h.symm⟩
 rename_i ts2 ns2 n2 hg
 simp at h
 exact .inr ⟨ts1,ns1,n1,_,rfl,hg,h.symm⟩
theorem mY {e g k:Nat} {ts:List Tk} {q:Rs} (h:aj e (g+1) (.ops k) ts=some q) :
  (((hdS e ts).kind≠8∨aJ (hdS e ts).num≠k)∧q=.ok ts [] 0)∨∃ t ts',ts=t::ts'∧t.kind=8∧aJ t.num=k ∧
   ((∃ a c,aj e g (.lv (k+1)) ts'=some (.bad a c)∧q=.bad a c)∨∃ ts1 ns1 n1 q2,aj e g (.lv (k+1)) ts'=some (.ok ts1 ns1 n1)∧aj e g (.ops k) ts1=some q2∧q=dj (ns1++[aI t.num]) q2):=by
 cases ts with
 | nil =>
  rw [aj] at h
  simp at h
  exact .inl ⟨.inl (by simp [hdS]),h.symm⟩
 | cons t ts' =>
  rw [aj] at h
  split at h
  ·rename_i ht
   refine .inr ⟨t,ts',rfl,ht.1,ht.2,?_⟩
   rcases cJ h with ⟨a,c,h1,h2⟩ | ⟨ts1,ns1,n1,q1,h1,h2,rfl⟩
   ·exact .inl ⟨a,c,h1,h2⟩
   rcases cJ h2 with ⟨a,c,h3,h4⟩ | ⟨ts2,ns2,n2,q2,h3,h4,rfl⟩
   ·simp at h3
   simp only [Option.some.injEq,Rs.ok.injEq] at h3
   obtain ⟨rfl,rfl,rfl⟩:=h3
   exact .inr ⟨ts1,ns1,n1,q2,h1,h4,by rw [ft]⟩
  rename_i ht
  simp at h
  refine .inl ⟨?_,h.symm⟩
  show t.kind≠8∨aJ t.num≠k
  by_cases h8:t.kind=8
  ·exact .inr fun hb=>ht ⟨h8,hb⟩
  exact .inl h8
theorem zV {e f k:Nat} {ts:List Tk} {r:Rs} (h:aj e f (.ops k) ts=some r):∃ g,f=g+1:=by
 cases f with
 | zero=>simp [aj] at h
 | succ g=>exact ⟨g,rfl⟩
theorem aO {e:Nat}:∀ (f:Nat) (m:Md) (ts ts':List Tk) (ns:List Nd) (n:Nat),aj e f m ts=some (.ok ts' ns n)→ns.length+ts'.length≤ts.length
 | 0,_,_,_,_,_,h=>by simp [aj] at h
 | f+1,.lv k,ts,ts',ns,n,h=>by
  rw [aj] at h
  split at h
  ·exact aO f _ _ _ _ _ h
  obtain ⟨t1,_,_,_,h1,h2,rfl⟩:=seq_ok h
  have a:=aO f _ _ _ _ _ h1
  have b:=aO f _ _ _ _ _ h2
  simp; omega
 | f+1,.ops k,[],ts',ns,n,h=>by
  simp only [aj,Option.some.injEq,Rs.ok.injEq] at h
  obtain ⟨rfl,rfl,_⟩:=h
  simp
 | f+1,.ops k,t::ts,ts',ns,n,h=>by
  rw [aj] at h
  split at h
  ·obtain ⟨t1,_,_,_,h1,h2,rfl⟩:=seq_ok h
   obtain ⟨t2,_,_,_,h3,h4,rfl⟩:=seq_ok h2
   simp only [Option.some.injEq,Rs.ok.injEq] at h3
   obtain ⟨rfl,rfl,_⟩:=h3
   have a:=aO f _ _ _ _ _ h1
   have b:=aO f _ _ _ _ _ h4
   simp; omega
  simp only [Option.some.injEq,Rs.ok.injEq] at h
  obtain ⟨rfl,rfl,_⟩:=h
  simp
 | f+1,.sg,ts,ts',ns,n,h=>by
  rw [aj] at h
  split at h
  ·rename_i ho
   have hd:=ip ho
   obtain ⟨t1,_,_,_,h1,h2,rfl⟩:=seq_ok h
   simp only [Option.some.injEq,Rs.ok.injEq] at h2
   obtain ⟨rfl,rfl,_⟩:=h2
   have a:=aO f _ _ _ _ _ h1
   simp; omega
  obtain ⟨t1,_,_,_,h1,h2,rfl⟩:=seq_ok h
  have a:=aO f _ _ _ _ _ h1
  split at h2
  ·rename_i ho
   have hd:=ip ho
   obtain ⟨t3,_,_,_,h3,h4,rfl⟩:=seq_ok h2
   simp only [Option.some.injEq,Rs.ok.injEq] at h4
   obtain ⟨rfl,rfl,_⟩:=h4
   have b:=aO f _ _ _ _ _ h3
   simp; omega
  simp only [Option.some.injEq,Rs.ok.injEq] at h2
  obtain ⟨rfl,rfl,_⟩:=h2
  simp; omega
 | f+1,.pc,ts,ts',ns,n,h=>by
  rw [aj] at h
  obtain ⟨t1,_,_,_,h1,h2,rfl⟩:=seq_ok h
  simp only [Option.some.injEq,Rs.ok.injEq] at h2
  obtain ⟨rfl,rfl,_⟩:=h2
  have a:=aO f _ _ _ _ _ h1
  have key:∀ ts:List Tk,(cF ts).1.length+(cF ts).2=ts.length:=by
   intro ts
   induction ts with
   | nil=>rfl
   | cons t ts ih =>
    rw [cF]
    split
    ·simp; omega
    simp
  have b:=key t1
  simp; omega
 | f+1,.pr,[],ts',ns,n,h=>by simp [aj] at h
 | f+1,.pr,t::ts,ts',ns,n,h=>by
  rw [aj] at h
  split at h
  ·simp only [Option.some.injEq,Rs.ok.injEq] at h
   obtain ⟨rfl,rfl,_⟩:=h
   simp; omega
  split at h
  ·simp only [Option.some.injEq,Rs.ok.injEq] at h
   obtain ⟨rfl,rfl,_⟩:=h
   simp; omega
  split at h
  ·obtain ⟨t1,_,_,_,h1,h2,rfl⟩:=seq_ok h
   have a:=aO f _ _ _ _ _ h1
   split at h2
   ·simp only [Option.some.injEq,Rs.ok.injEq] at h2
    obtain ⟨rfl,rfl,_⟩:=h2
    simp; omega
   simp at h2
  split at h
  ·split at h
   ·simp at h
   rename_i hk9
   split at h
   ·simp at h
   rename_i h9
   have hd:=io (e:=e) (ts:=ts) (k:=9) (by simpa using h9) (by decide)
   obtain ⟨t1,ns1,h1,hk,rfl,rfl,_⟩:=jn h
   have hd2:=io hk (by decide)
   split at h1
   ·simp only [Option.some.injEq,Rs.ok.injEq] at h1
    obtain ⟨rfl,rfl,_⟩:=h1
    simp at hd hd2 ⊢
    omega
   have a:=aO f _ _ _ _ _ h1
   simp at a hd hd2 ⊢
   omega
  simp at h
 | f+1,.args fn i,ts,ts',ns,n,h=>by
  rw [aj] at h
  obtain ⟨t1,ns1,_,ns2,h1,h2,rfl⟩:=seq_ok h
  have h3:ns1.length+t1.length≤ts.length:=by
   split at h1
   ·exact aO f _ _ _ _ _ h1
   rename_i h6
   split at h1
   ·simp only [Option.some.injEq,Rs.ok.injEq] at h1
    obtain ⟨rfl,rfl,_⟩:=h1
    have hd:=io (e:=e) (ts:=ts) (k:=6) (by simpa using h6) (by decide)
    simp at hd ⊢
    omega
   simp at h1
  split at h2
  ·rename_i hc
   have hd:=io hc (by decide)
   have a:=aO f _ _ _ _ _ h2
   simp at a hd ⊢
   omega
  simp only [Option.some.injEq,Rs.ok.injEq] at h2
  obtain ⟨rfl,rfl,_⟩:=h2
  simp; omega
def gD (w1:World) (ps:List aZ) (pb en:Nat) (r:Rs) (e:Ending) (w':World):Prop:=match r with
 | .bad a c=>Bad (a:Nat) c w1 e w'
 | .ok ts ns _=>sH (.tuple #[]) w1 ps pb en ts ns e w'
def CH (w1:World) (ps:List aZ) (pb en:Nat) (m:Md) (r:Rs) (w:World):Prop:=match m with
 | .lv k=>1≤k→k≤4→Calls prog 72 #[.pointer (some ⟨pb,0,none⟩),.int .i64 (k:Nat)] w (gD w1 ps pb en r)
 | .sg=>Calls prog 111 #[.pointer (some ⟨pb,0,none⟩)] w (gD w1 ps pb en r)
 | .pc=>Calls prog 149 #[.pointer (some ⟨pb,0,none⟩)] w (gD w1 ps pb en r)
 | .pr=>Calls prog 170 #[.pointer (some ⟨pb,0,none⟩)] w (gD w1 ps pb en r)
 | _=>True
def Con (f:Nat):Prop:=∀ (w1:World) (ps:List aZ) (pb en:Nat) (m:Md) (ts:List Tk) (r:Rs) (ns:List Nd) (w:World),
 aj en f m ts=some r→ns.length+ts.length≤1000→St w1 ps pb en ts ns w→CH w1 ps pb en m (dj ns r) w
theorem Bd (f:Nat) (IH:∀ g,g≤f→Con g) (w1:World) (ps:List aZ) (pb en:Nat) (ts:List Tk) (r:Rs) (ns:List Nd) (w:World) (hr:aj en (f+1) .sg ts=some r) (hn:ns.length+ts.length≤1000) (h:St w1 ps pb en ts ns w) :
  Calls prog 111 #[.pointer (some ⟨pb,0,none⟩)] w (gD w1 ps pb en (dj ns r)):=by
 rw [aj] at hr
 have HIH:=keep IH
 clear IH
 have H:=Lib.hid h
 clear h
 cases ho:bE ts 2
 ·rw [if_neg (by rw [ho]; decide)] at hr
  have HO:=keep ho
  clear ho
  rcases cJ hr with ⟨a,c,h1,rfl⟩ | ⟨ts1,ns1,n1,q,h1,h2,rfl⟩
  ·have HC:=keep (HIH.out f (Nat.le_refl _) w1 ps pb en .pc ts _ ns · h1 hn)
   clear hr h1
   go_enter func111,ntmps111
   go_wp2_with fail
   refine cMg (lY w1 _ pb en ts ns _ _ H.out) (fun _=>H.out.below) fun wa1 H3=>?_
   rw [HO.out]
   clear H
   have F4:=H3.out.sees
   obtain ⟨zp,-⟩:=F4
   go_wp2_with fail
   refine (HC.out _ H3.out).mono ?_
   rintro e wz ⟨rfl,hb⟩
   have HZ:=Lib.hid hb
   clear hb
   go_wp2_with fail
   exact ⟨rfl,rfl,HZ.out⟩
  have hl1:=aO _ _ _ _ _ _ h1
  have HC:=keep (HIH.out f (Nat.le_refl _) w1 ps pb en .pc ts _ ns · h1 hn)
  clear hr h1
  cases ho2:bE ts1 5
  ·rw [if_neg (by rw [ho2]; decide)] at h2
   have HO2:=keep ho2
   clear ho2
   simp only [Option.some.injEq] at h2
   subst h2
   go_enter func111,ntmps111
   go_wp2_with fail
   refine cMg (lY w1 _ pb en ts ns _ _ H.out) (fun _=>H.out.below) fun wa1 H3=>?_
   rw [HO.out]
   clear H
   have F4:=H3.out.sees
   obtain ⟨zp,-⟩:=F4
   go_wp2_with fail
   refine (HC.out _ H3.out).mono ?_
   rintro e wa5 ⟨rfl,hd9⟩
   clear zp
   have H6:=Lib.hid hd9
   clear hd9 H3
   have F7:=H6.out.sees
   obtain ⟨zp,-⟩:=F7
   clear HC
   go_wp2_with fail
   refine cMg (lY w1 _ pb en ts1 _ _ _ H6.out) (fun _=>H6.out.below) fun wa8 H10=>?_
   rw [HO2.out]
   clear zp H6
   have F11:=H10.out.sees
   obtain ⟨zp,-⟩:=F11
   go_wp2_with fail
   first
    | go_end0
    | refine bodyPost_ret (results_none rfl _ _ _) rfl ?_
   exact ⟨rfl,by rw [List.append_nil]; exact H10.out⟩
  rw [if_pos (by rw [ho2])] at h2
  have HO2:=keep ho2
  have hd2:=ip ho2
  clear ho2
  cases ts1 with
  | nil=>exact absurd HO2.out (by simp [bE])
  | cons t1 ts1 =>
   simp only [List.drop_succ_cons,List.drop_zero,List.length_cons] at h2 hd2 hl1
   rcases cJ h2 with ⟨a,c,h3,rfl⟩ | ⟨ts2,ns2,n2,q2,h3,h4,rfl⟩
   ·have HC2:=keep (HIH.out f (Nat.le_refl _) w1 ps pb en .sg ts1 _ (ns++ns1) · h3 (by simp; omega))
    clear h2 h3
    go_enter func111,ntmps111
    go_wp2_with fail
    refine cMg (lY w1 _ pb en ts ns _ _ H.out) (fun _=>H.out.below) fun wa1 H3=>?_
    rw [HO.out]
    clear H
    have F4:=H3.out.sees
    obtain ⟨zp,-⟩:=F4
    go_wp2_with fail
    refine (HC.out _ H3.out).mono ?_
    rintro e wa5 ⟨rfl,hd9⟩
    clear zp
    have H6:=Lib.hid hd9
    clear hd9 H3
    have F7:=H6.out.sees
    obtain ⟨zp,-⟩:=F7
    clear HC
    go_wp2_with fail
    refine cMg (lY w1 _ pb en (t1::ts1) _ _ _ H6.out) (fun _=>H6.out.below) fun wa8 H10=>?_
    rw [HO2.out]
    clear zp H6
    have F11:=H10.out.sees
    obtain ⟨zp,-⟩:=F11
    go_wp2_with fail
    refine (bT w1 _ pb en _ ts1 _ _ H10.out).mono ?_
    rintro e wa12 ⟨rfl,hd9⟩
    clear zp
    have H13:=Lib.hid hd9
    clear hd9 H10
    have F14:=H13.out.sees
    obtain ⟨zp,-⟩:=F14
    go_wp2_with fail
    refine (HC2.out _ H13.out).mono ?_
    rintro e wz ⟨rfl,hb⟩
    have HZ:=Lib.hid hb
    clear hb
    go_wp2_with fail
    exact ⟨rfl,rfl,HZ.out⟩
   have hl3:=aO _ _ _ _ _ _ h3
   have HC2:=keep (HIH.out f (Nat.le_refl _) w1 ps pb en .sg ts1 _ (ns++ns1) · h3 (by simp; omega))
   clear h2 h3
   simp only [Option.some.injEq] at h4
   subst h4
   go_enter func111,ntmps111
   go_wp2_with fail
   refine cMg (lY w1 _ pb en ts ns _ _ H.out) (fun _=>H.out.below) fun wa1 H3=>?_
   rw [HO.out]
   clear H
   have F4:=H3.out.sees
   obtain ⟨zp,-⟩:=F4
   go_wp2_with fail
   refine (HC.out _ H3.out).mono ?_
   rintro e wa5 ⟨rfl,hd9⟩
   clear zp
   have H6:=Lib.hid hd9
   clear hd9 H3
   have F7:=H6.out.sees
   obtain ⟨zp,-⟩:=F7
   clear HC
   go_wp2_with fail
   refine cMg (lY w1 _ pb en (t1::ts1) _ _ _ H6.out) (fun _=>H6.out.below) fun wa8 H10=>?_
   rw [HO2.out]
   clear zp H6
   have F11:=H10.out.sees
   obtain ⟨zp,-⟩:=F11
   go_wp2_with fail
   refine (bT w1 _ pb en _ ts1 _ _ H10.out).mono ?_
   rintro e wa12 ⟨rfl,hd9⟩
   clear zp
   have H13:=Lib.hid hd9
   clear hd9 H10
   have F14:=H13.out.sees
   obtain ⟨zp,-⟩:=F14
   go_wp2_with fail
   refine (HC2.out _ H13.out).mono ?_
   rintro e wa15 ⟨rfl,hd9⟩
   clear zp
   have H16:=Lib.hid hd9
   clear hd9 H13
   have F17:=H16.out.sees
   obtain ⟨zp,-⟩:=F17
   clear HC2
   go_wp2_with fail
   refine (gV w1 _ pb en ts2 _ (aI 5) _ (by simp; omega) H16.out).mono ?_
   rintro e wa18 ⟨rfl,hd9⟩
   clear zp
   have H19:=Lib.hid hd9
   clear hd9 H16
   have F20:=H19.out.sees
   obtain ⟨zp,-⟩:=F20
   go_wp2_with fail
   first
    | go_end0
    | refine bodyPost_ret (results_none rfl _ _ _) rfl ?_
   exact ⟨rfl,by have h9:=H19.out; simpa [List.append_assoc] using h9⟩
 rw [if_pos (by rw [ho])] at hr
 have HO:=keep ho
 have hd:=ip ho
 clear ho
 cases ts with
 | nil=>exact absurd HO.out (by simp [bE])
 | cons t0 ts0 =>
  simp only [List.drop_succ_cons,List.drop_zero,List.length_cons] at hr hd hn
  rcases cJ hr with ⟨a,c,h1,rfl⟩ | ⟨ts1,ns1,n1,q,h1,h2,rfl⟩
  ·have HC:=keep (HIH.out f (Nat.le_refl _) w1 ps pb en .sg ts0 _ ns · h1 (by omega))
   clear hr h1
   go_enter func111,ntmps111
   go_wp2_with fail
   refine cMg (lY w1 _ pb en (t0::ts0) ns _ _ H.out) (fun _=>H.out.below) fun wa1 H3=>?_
   rw [HO.out]
   clear H
   have F4:=H3.out.sees
   obtain ⟨zp,-⟩:=F4
   go_wp2_with fail
   refine (bT w1 _ pb en _ ts0 _ _ H3.out).mono ?_
   rintro e wa5 ⟨rfl,hd9⟩
   clear zp
   have H6:=Lib.hid hd9
   clear hd9 H3
   have F7:=H6.out.sees
   obtain ⟨zp,-⟩:=F7
   go_wp2_with fail
   refine (HC.out _ H6.out).mono ?_
   rintro e wz ⟨rfl,hb⟩
   have HZ:=Lib.hid hb
   clear hb
   go_wp2_with fail
   exact ⟨rfl,rfl,HZ.out⟩
  have hl1:=aO _ _ _ _ _ _ h1
  have HC:=keep (HIH.out f (Nat.le_refl _) w1 ps pb en .sg ts0 _ ns · h1 (by omega))
  clear hr h1
  simp only [Option.some.injEq] at h2
  subst h2
  go_enter func111,ntmps111
  go_wp2_with fail
  refine cMg (lY w1 _ pb en (t0::ts0) ns _ _ H.out) (fun _=>H.out.below) fun wa1 H3=>?_
  rw [HO.out]
  clear H
  have F4:=H3.out.sees
  obtain ⟨zp,-⟩:=F4
  go_wp2_with fail
  refine (bT w1 _ pb en _ ts0 _ _ H3.out).mono ?_
  rintro e wa5 ⟨rfl,hd9⟩
  clear zp
  have H6:=Lib.hid hd9
  clear hd9 H3
  have F7:=H6.out.sees
  obtain ⟨zp,-⟩:=F7
  go_wp2_with fail
  refine (HC.out _ H6.out).mono ?_
  rintro e wa8 ⟨rfl,hd9⟩
  clear zp
  have H9:=Lib.hid hd9
  clear hd9 H6
  have F10:=H9.out.sees
  obtain ⟨zp,-⟩:=F10
  clear HC
  go_wp2_with fail
  refine (gV w1 _ pb en ts1 _ ck _ (by simp; omega) H9.out).mono ?_
  rintro e wa11 ⟨rfl,hd9⟩
  clear zp
  have H12:=Lib.hid hd9
  clear hd9 H9
  have F13:=H12.out.sees
  obtain ⟨zp,-⟩:=F13
  go_wp2_with fail
  first
   | go_end0
   | refine bodyPost_ret (results_none rfl _ _ _) rfl ?_
  exact ⟨rfl,by have h9:=H12.out; simpa [List.append_assoc] using h9⟩
set_option maxRecDepth 100000
set_option maxHeartbeats 4000000
def cX (fn:Nat):List UInt8:=(([]::dm)[fn]?).getD []
theorem tD:(#[.string ⟨#[]⟩,.string ⟨#[65,66,83]⟩,.string ⟨#[83,73,71,78]⟩,.string ⟨#[73,78,84]⟩,.string ⟨#[84,82,85,78,67]⟩,.string ⟨#[82,79,85,78,68]⟩,.string ⟨#[77,79,68]⟩,.string ⟨#[80,79,87,69,82]⟩,.string ⟨#[83,81,82,84]⟩,.string ⟨#[83,85,77]⟩,.string ⟨#[80,82,79,68,85,67,84]⟩,.string ⟨#[67,79,85,78,84]⟩,.string ⟨#[67,79,85,78,84,65]⟩,.string ⟨#[67,79,85,78,84,66,76,65,78,75]⟩,.string ⟨#[65,86,69,82,65,71,69]⟩,.string ⟨#[77,73,78]⟩,.string ⟨#[77,65,88]⟩,.string ⟨#[77,69,68,73,65,78]⟩,.string ⟨#[76,65,82,71,69]⟩,.string ⟨#[83,77,65,76,76]⟩,.string ⟨#[73,70]⟩,.string ⟨#[65,78,68]⟩,.string ⟨#[79,82]⟩,.string ⟨#[88,79,82]⟩,.string ⟨#[78,79,84]⟩,.string ⟨#[73,70,69,82,82,79,82]⟩,.string ⟨#[73,83,69,82,82,79,82]⟩,.string ⟨#[73,83,66,76,65,78,75]⟩,.string ⟨#[73,83,78,85,77,66,69,82]⟩,.string ⟨#[73,83,84,69,88,84]⟩,.string ⟨#[67,72,79,79,83,69]⟩,.string ⟨#[76,69,78]⟩,.string ⟨#[76,69,70,84]⟩,.string ⟨#[82,73,71,72,84]⟩,.string ⟨#[77,73,68]⟩,.string ⟨#[85,80,80,69,82]⟩,.string ⟨#[76,79,87,69,82]⟩,.string ⟨#[84,82,73,77]⟩,.string ⟨#[67,79,78,67,65,84]⟩,.string ⟨#[82,69,80,84]⟩,.string ⟨#[69,88,65,67,84]⟩,.string ⟨#[70,73,78,68]⟩,.string ⟨#[86,65,76,85,69]⟩,.string ⟨#[73,78,68,69,88]⟩,.string ⟨#[77,65,84,67,72]⟩,.string ⟨#[67,79,85,78,84,73,70]⟩,.string ⟨#[68,83,85,77]⟩,.string ⟨#[68,67,79,85,78,84]⟩,.string ⟨#[68,65,86,71]⟩,.string ⟨#[68,77,73,78]⟩,.string ⟨#[68,77,65,88]⟩]:Array Value)=(([]::dm).map fun x=>Value.string ⟨x.toArray⟩).toArray:=by kernel_rfl
theorem tC (fn:Nat) (h:fn≤50):(#[.string ⟨#[]⟩,.string ⟨#[65,66,83]⟩,.string ⟨#[83,73,71,78]⟩,.string ⟨#[73,78,84]⟩,.string ⟨#[84,82,85,78,67]⟩,.string ⟨#[82,79,85,78,68]⟩,.string ⟨#[77,79,68]⟩,.string ⟨#[80,79,87,69,82]⟩,.string ⟨#[83,81,82,84]⟩,.string ⟨#[83,85,77]⟩,.string ⟨#[80,82,79,68,85,67,84]⟩,.string ⟨#[67,79,85,78,84]⟩,.string ⟨#[67,79,85,78,84,65]⟩,.string ⟨#[67,79,85,78,84,66,76,65,78,75]⟩,.string ⟨#[65,86,69,82,65,71,69]⟩,.string ⟨#[77,73,78]⟩,.string ⟨#[77,65,88]⟩,.string ⟨#[77,69,68,73,65,78]⟩,.string ⟨#[76,65,82,71,69]⟩,.string ⟨#[83,77,65,76,76]⟩,.string ⟨#[73,70]⟩,.string ⟨#[65,78,68]⟩,.string ⟨#[79,82]⟩,.string ⟨#[88,79,82]⟩,.string ⟨#[78,79,84]⟩,.string ⟨#[73,70,69,82,82,79,82]⟩,.string ⟨#[73,83,69,82,82,79,82]⟩,.string ⟨#[73,83,66,76,65,78,75]⟩,.string ⟨#[73,83,78,85,77,66,69,82]⟩,.string ⟨#[73,83,84,69,88,84]⟩,.string ⟨#[67,72,79,79,83,69]⟩,.string ⟨#[76,69,78]⟩,.string ⟨#[76,69,70,84]⟩,.string ⟨#[82,73,71,72,84]⟩,.string ⟨#[77,73,68]⟩,.string ⟨#[85,80,80,69,82]⟩,.string ⟨#[76,79,87,69,82]⟩,.string ⟨#[84,82,73,77]⟩,.string ⟨#[67,79,78,67,65,84]⟩,.string ⟨#[82,69,80,84]⟩,.string ⟨#[69,88,65,67,84]⟩,.string ⟨#[70,73,78,68]⟩,.string ⟨#[86,65,76,85,69]⟩,.string ⟨#[73,78,68,69,88]⟩,.string ⟨#[77,65,84,67,72]⟩,.string ⟨#[67,79,85,78,84,73,70]⟩,.string ⟨#[68,83,85,77]⟩,.string ⟨#[68,67,79,85,78,84]⟩,.string ⟨#[68,65,86,71]⟩,.string ⟨#[68,77,73,78]⟩,.string ⟨#[68,77,65,88]⟩]:Array Value)[fn]?=some (.string ⟨(cX fn).toArray⟩):=by
 rw [tD,List.getElem?_toArray,List.getElem?_map]
 have hl:fn<([]::dm).length:=by show fn<51; omega
 unfold cX
 rw [List.getElem?_eq_getElem hl]
 rfl
theorem iF (fn:Nat) (w:World) (h:fn≤50) :
  Calls prog 86 #[.int .u8 (fn:Nat)] w fun e w'=>e=.returned (.string ⟨(cX fn).toArray⟩)∧Below w.heap.size w w':=by
 obtain ⟨W1,hW1⟩:∃ W1,W1=(w.alloc (.cells #[.string ⟨#[]⟩,.string ⟨#[65,66,83]⟩,.string ⟨#[83,73,71,78]⟩,.string ⟨#[73,78,84]⟩,.string ⟨#[84,82,85,78,67]⟩,.string ⟨#[82,79,85,78,68]⟩,.string ⟨#[77,79,68]⟩,.string ⟨#[80,79,87,69,82]⟩,.string ⟨#[83,81,82,84]⟩,.string ⟨#[83,85,77]⟩,.string ⟨#[80,82,79,68,85,67,84]⟩,.string ⟨#[67,79,85,78,84]⟩,.string ⟨#[67,79,85,78,84,65]⟩,.string ⟨#[67,79,85,78,84,66,76,65,78,75]⟩,.string ⟨#[65,86,69,82,65,71,69]⟩,.string ⟨#[77,73,78]⟩,.string ⟨#[77,65,88]⟩,.string ⟨#[77,69,68,73,65,78]⟩,.string ⟨#[76,65,82,71,69]⟩,.string ⟨#[83,77,65,76,76]⟩,.string ⟨#[73,70]⟩,.string ⟨#[65,78,68]⟩,.string ⟨#[79,82]⟩,.string ⟨#[88,79,82]⟩,.string ⟨#[78,79,84]⟩,.string ⟨#[73,70,69,82,82,79,82]⟩,.string ⟨#[73,83,69,82,82,79,82]⟩,.string ⟨#[73,83,66,76,65,78,75]⟩,.string ⟨#[73,83,78,85,77,66,69,82]⟩,.string ⟨#[73,83,84,69,88,84]⟩,.string ⟨#[67,72,79,79,83,69]⟩,.string ⟨#[76,69,78]⟩,.string ⟨#[76,69,70,84]⟩,.string ⟨#[82,73,71,72,84]⟩,.string ⟨#[77,73,68]⟩,.string ⟨#[85,80,80,69,82]⟩,.string ⟨#[76,79,87,69,82]⟩,.string ⟨#[84,82,73,77]⟩,.string ⟨#[67,79,78,67,65,84]⟩,.string ⟨#[82,69,80,84]⟩,.string ⟨#[69,88,65,67,84]⟩,.string ⟨#[70,73,78,68]⟩,.string ⟨#[86,65,76,85,69]⟩,.string ⟨#[73,78,68,69,88]⟩,.string ⟨#[77,65,84,67,72]⟩,.string ⟨#[67,79,85,78,84,73,70]⟩,.string ⟨#[68,83,85,77]⟩,.string ⟨#[68,67,79,85,78,84]⟩,.string ⟨#[68,65,86,71]⟩,.string ⟨#[68,77,73,78]⟩,.string ⟨#[68,77,65,88]⟩] 9)):=⟨_,rfl⟩
 have HP:Below w.heap.size w W1∧Blk W1 w.heap.size 9 #[.string ⟨#[]⟩,.string ⟨#[65,66,83]⟩,.string ⟨#[83,73,71,78]⟩,.string ⟨#[73,78,84]⟩,.string ⟨#[84,82,85,78,67]⟩,.string ⟨#[82,79,85,78,68]⟩,.string ⟨#[77,79,68]⟩,.string ⟨#[80,79,87,69,82]⟩,.string ⟨#[83,81,82,84]⟩,.string ⟨#[83,85,77]⟩,.string ⟨#[80,82,79,68,85,67,84]⟩,.string ⟨#[67,79,85,78,84]⟩,.string ⟨#[67,79,85,78,84,65]⟩,.string ⟨#[67,79,85,78,84,66,76,65,78,75]⟩,.string ⟨#[65,86,69,82,65,71,69]⟩,.string ⟨#[77,73,78]⟩,.string ⟨#[77,65,88]⟩,.string ⟨#[77,69,68,73,65,78]⟩,.string ⟨#[76,65,82,71,69]⟩,.string ⟨#[83,77,65,76,76]⟩,.string ⟨#[73,70]⟩,.string ⟨#[65,78,68]⟩,.string ⟨#[79,82]⟩,.string ⟨#[88,79,82]⟩,.string ⟨#[78,79,84]⟩,.string ⟨#[73,70,69,82,82,79,82]⟩,.string ⟨#[73,83,69,82,82,79,82]⟩,.string ⟨#[73,83,66,76,65,78,75]⟩,.string ⟨#[73,83,78,85,77,66,69,82]⟩,.string ⟨#[73,83,84,69,88,84]⟩,.string ⟨#[67,72,79,79,83,69]⟩,.string ⟨#[76,69,78]⟩,.string ⟨#[76,69,70,84]⟩,.string ⟨#[82,73,71,72,84]⟩,.string ⟨#[77,73,68]⟩,.string ⟨#[85,80,80,69,82]⟩,.string ⟨#[76,79,87,69,82]⟩,.string ⟨#[84,82,73,77]⟩,.string ⟨#[67,79,78,67,65,84]⟩,.string ⟨#[82,69,80,84]⟩,.string ⟨#[69,88,65,67,84]⟩,.string ⟨#[70,73,78,68]⟩,.string ⟨#[86,65,76,85,69]⟩,.string ⟨#[73,78,68,69,88]⟩,.string ⟨#[77,65,84,67,72]⟩,.string ⟨#[67,79,85,78,84,73,70]⟩,.string ⟨#[68,83,85,77]⟩,.string ⟨#[68,67,79,85,78,84]⟩,.string ⟨#[68,65,86,71]⟩,.string ⟨#[68,77,73,78]⟩,.string ⟨#[68,77,65,88]⟩]:=by
  rw [hW1]
  have h9:=(Ok.start w).alloc w.heap.size 9 [.string ⟨#[]⟩,.string ⟨#[65,66,83]⟩,.string ⟨#[83,73,71,78]⟩,.string ⟨#[73,78,84]⟩,.string ⟨#[84,82,85,78,67]⟩,.string ⟨#[82,79,85,78,68]⟩,.string ⟨#[77,79,68]⟩,.string ⟨#[80,79,87,69,82]⟩,.string ⟨#[83,81,82,84]⟩,.string ⟨#[83,85,77]⟩,.string ⟨#[80,82,79,68,85,67,84]⟩,.string ⟨#[67,79,85,78,84]⟩,.string ⟨#[67,79,85,78,84,65]⟩,.string ⟨#[67,79,85,78,84,66,76,65,78,75]⟩,.string ⟨#[65,86,69,82,65,71,69]⟩,.string ⟨#[77,73,78]⟩,.string ⟨#[77,65,88]⟩,.string ⟨#[77,69,68,73,65,78]⟩,.string ⟨#[76,65,82,71,69]⟩,.string ⟨#[83,77,65,76,76]⟩,.string ⟨#[73,70]⟩,.string ⟨#[65,78,68]⟩,.string ⟨#[79,82]⟩,.string ⟨#[88,79,82]⟩,.string ⟨#[78,79,84]⟩,.string ⟨#[73,70,69,82,82,79,82]⟩,.string ⟨#[73,83,69,82,82,79,82]⟩,.string ⟨#[73,83,66,76,65,78,75]⟩,.string ⟨#[73,83,78,85,77,66,69,82]⟩,.string ⟨#[73,83,84,69,88,84]⟩,.string ⟨#[67,72,79,79,83,69]⟩,.string ⟨#[76,69,78]⟩,.string ⟨#[76,69,70,84]⟩,.string ⟨#[82,73,71,72,84]⟩,.string ⟨#[77,73,68]⟩,.string ⟨#[85,80,80,69,82]⟩,.string ⟨#[76,79,87,69,82]⟩,.string ⟨#[84,82,73,77]⟩,.string ⟨#[67,79,78,67,65,84]⟩,.string ⟨#[82,69,80,84]⟩,.string ⟨#[69,88,65,67,84]⟩,.string ⟨#[70,73,78,68]⟩,.string ⟨#[86,65,76,85,69]⟩,.string ⟨#[73,78,68,69,88]⟩,.string ⟨#[77,65,84,67,72]⟩,.string ⟨#[67,79,85,78,84,73,70]⟩,.string ⟨#[68,83,85,77]⟩,.string ⟨#[68,67,79,85,78,84]⟩,.string ⟨#[68,65,86,71]⟩,.string ⟨#[68,77,73,78]⟩,.string ⟨#[68,77,65,88]⟩] rfl
  exact ⟨h9.bel,h9.all _ (List.mem_cons_self ..)⟩
 dsimp only at hW1
 have HW1:=keep hW1
 clear hW1
 have HPP:=keep HP
 clear HP
 have HN:=keep (tC fn h)
 obtain ⟨x,hx⟩:=ex ((cX fn).toArray)
 rw [hx] at HN ⊢
 clear hx
 have hfi:¬ (51:Int)≤(fn:Int):=by omega
 go_enter func86,ntmps86
 go_upto_region 2 with fail
 rw [← HW1.out]
 obtain ⟨hbel,hblk⟩:=HPP.out
 clear HPP HW1
 have hlt:=hblk.lt
 have hcell:=(hblk.cell fn).trans HN.out
 have HB:=Lib.hid hbel
 clear hblk hbel HN
 go_wp2_with fail
 go_ret
 exact ⟨rfl,HB.out⟩
theorem fL (fn:Nat) (w:World) :
  Calls prog 158 #[.int .u8 (fn:Nat)] w fun e w'=>e=.returned (.tuple #[.int .i64 ((arS fn).1:Nat),.int .i64 ((arS fn).2:Nat)])∧w'=w:=by
 go_enter func158,ntmps158
 go_wp2_with fail
 all_goals simp only [beq_iff_eq,beq_eq_false_iff_ne,ne_eq] at *
 all_goals
  first
  | exact bodyPost_ret (v:=.tuple #[.int .i64 2,.int .i64 2]) (by simp [results,results158,go_sem]) rfl ⟨by rw [zK fn (by omega)]; rfl,rfl⟩
  | exact bodyPost_ret (v:=.tuple #[.int .i64 2,.int .i64 3]) (by simp [results,results158,go_sem]) rfl ⟨by rw [zL fn (by omega)]; rfl,rfl⟩
  | exact bodyPost_ret (v:=.tuple #[.int .i64 1,.int .i64 2]) (by simp [results,results158,go_sem]) rfl ⟨by rw [zG fn (by omega)]; rfl,rfl⟩
  | exact bodyPost_ret (v:=.tuple #[.int .i64 3,.int .i64 3]) (by simp [results,results158,go_sem]) rfl ⟨by rw [zN fn (by omega)]; rfl,rfl⟩
  | exact bodyPost_ret (v:=.tuple #[.int .i64 1,.int .i64 16]) (by simp [results,results158,go_sem]) rfl ⟨by rw [zH fn (by omega)]; rfl,rfl⟩
  | exact bodyPost_ret (v:=.tuple #[.int .i64 2,.int .i64 16]) (by simp [results,results158,go_sem]) rfl ⟨by rw [zM fn (by omega)]; rfl,rfl⟩
  | exact bodyPost_ret (v:=.tuple #[.int .i64 1,.int .i64 1]) (by simp [results,results158,go_sem]) rfl ⟨by rw [zF fn (by omega)]; rfl,rfl⟩
theorem y9 (fn i:Nat) (w:World) :
  Calls prog 173 #[.int .u8 (fn:Nat),.int .i64 (i:Nat)] w fun e w'=>e=.returned (.bool (b8 fn i))∧w'=w:=by
 have h0:¬ (i:Int)<0:=by omega
 by_cases hm:(arS fn).2≤i
 ·have HM:=keep (sG fn i hm)
  have hmi:(((arS fn).2:Nat):Int)≤(i:Int):=by omega
  clear hm
  go_enter func173,ntmps173
  go_wp2_with fail
  refine (fL fn _).mono ?_
  rintro e w' ⟨rfl,hw⟩
  obtain rfl:w=w':=hw.symm
  go_wp2_with fail
  exact bodyPost_ret (v:=.bool false) (by simp [results,results173,go_sem]) rfl ⟨by rw [HM.out.1],rfl⟩
 have HM:=keep hm
 have hmi:¬ (((arS fn).2:Nat):Int)≤(i:Int):=by omega
 clear hm
 go_enter func173,ntmps173
 go_wp2_with fail
 refine (fL fn _).mono ?_
 rintro e w' ⟨rfl,hw⟩
 obtain rfl:w=w':=hw.symm
 go_wp2_with fail
 all_goals simp only [beq_iff_eq,beq_eq_false_iff_ne,ne_eq] at *
 all_goals
  first
  | exact bodyPost_ret (v:=.bool true) (by simp [results,results173,go_sem]) rfl ⟨by rw [pW fn i HM.out (by omega)],rfl⟩
  | exact bodyPost_ret (v:=.bool ((i:Int) == 1)) (by simp [results,results173,go_sem]) rfl ⟨by rw [sF fn i HM.out (by omega),BD],rfl⟩
  | exact bodyPost_ret (v:=.bool ((i:Int) == 0)) (by simp [results,results173,go_sem]) rfl ⟨by rw [pX fn i HM.out (by omega),BC],rfl⟩
  | exact bodyPost_ret (v:=.bool false) (by simp [results,results173,go_sem]) rfl ⟨by rw [kE fn i HM.out (by omega),decide_eq_false (by omega)],rfl⟩
  | exact bodyPost_ret (v:=.bool (decide ((fn:Int)≤50))) (by simp [results,results173,go_sem]) rfl ⟨by rw [kE fn i HM.out (by omega)]; congr 2; rw [decide_eq_decide]; omega,rfl⟩
