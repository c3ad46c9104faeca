/- Plain: lists of tokens that are accepted, said as an inductive; and what it is to parse them. No program stands here. Plain: what checking a tree comes to. Plain: what follows of an accepted list of tokens: how many nodes it has, what may stand behind it, what a beginning of it comes to. No program stands here. Plain: a beginning of an accepted list of tokens is accepted, with no greater depth, or has its fault at its end. No program stands here. Plain: checking the tree of an accepted list of tokens: only its depth can be at fault. No program stands here. Plain: what parsing comes to does not hang on where the tokens stand; where a fault lies. No program stands here. -/
import Derived.Test.YtdplcdhpnmcdjaaGreatDoorKParP
namespace Go.Proofs.YtdplcdhpnmcdjaaGreatDoor
section
def hkS:List Tk→Nat
 | []=>0
 | t::_=>t.kind
theorem dd (e:Nat) (ts:List Tk):(hdS e ts).kind=hkS ts:=by cases ts <;> rfl
inductive Pk:Md→List Tk→List Tk→List Nd→Nat→Prop
 | lv5 {k:Nat} {ts u:List Tk} {ns:List Nd} {n:Nat} (hk:5≤k) (h:Pk .sg ts u ns n):Pk (.lv k) ts u ns n
 | lv {k:Nat} {ts u v:List Tk} {ns ms:List Nd} {n m:Nat} (hk:k<5) (h:Pk (.lv (k+1)) ts u ns n) (g:Pk (.ops k) u v ms m):Pk (.lv k) ts v (ns++ms) m
 | nil {k:Nat}:Pk (.ops k) [] [] [] 0
 | stop {k:Nat} {t:Tk} {ts:List Tk} (hk:¬ (t.kind=8∧aT t.num=k)):Pk (.ops k) (t::ts) (t::ts) [] 0
 | op {k:Nat} {t:Tk} {ts u v:List Tk} {ns ms:List Nd} {n m:Nat} (h8:t.kind=8) (hk:aT t.num=k) (h:Pk (.lv (k+1)) ts u ns n) (g:Pk (.ops k) u v ms m):Pk (.ops k) (t::ts) v (ns++(cN t.num::ms)) m
 | neg {t:Tk} {ts u:List Tk} {ns:List Nd} {n:Nat} (h8:t.kind=8) (h2:t.num=2) (h:Pk .sg ts u ns n):Pk .sg (t::ts) u (ns++[fz]) 0
 | bare {ts u:List Tk} {ns:List Nd} {n:Nat} (hn:bO ts 2=false) (h:Pk .pc ts u ns n) (h5:bO u 5=false):Pk .sg ts u ns 0
 | pow {t:Tk} {ts u v:List Tk} {ns ms:List Nd} {n m:Nat} (hn:bO ts 2=false) (h:Pk .pc ts (t::u) ns n) (h8:t.kind=8) (h5:t.num=5) (g:Pk .sg u v ms m):Pk .sg ts v (ns++(ms++[cN 5])) 0
 | pc {ts u:List Tk} {ns:List Nd} {n:Nat} (h:Pk .pr ts u ns n):Pk .pc ts (cr u).1 (ns++List.replicate (cr u).2 dt) 0
 | val {t:Tk} {ts:List Tk} (h1:1≤t.kind) (h4:t.kind≤4):Pk .pr (t::ts) ts [o6 t] 0
 | ref {t:Tk} {ts:List Tk} (h5:t.kind=5):Pk .pr (t::ts) ts [eu t.r] 0
 | par {t c:Tk} {ts u:List Tk} {ns:List Nd} {n:Nat} (h9:t.kind=9) (h:Pk (.lv 1) ts (c::u) ns n) (hc:c.kind=10):Pk .pr (t::ts) u ns 0
 | call {t o c : Tk} {ts u : List Tk} {ns : List Nd} {n : Nat} (h7 : t.kind = 7) (hf : fnS t.text ≠ 0) (ho : o.kind = 9) (h : Pk (.args (fnS t.text) 0) ts (c :: u) ns n) (hc : c.kind = 10)
   (h1:(arS (fnS t.text)).1≤n) (h2:n≤(arS (fnS t.text)).2) (hd:46≤fnS t.text→(ns.getLast?.map (·.kind))=some 2∨(ns.getLast?.map (·.kind))=some 3) :
   Pk .pr (t::o::ts) u (ns++[da (fnS t.text) n]) n
 | argE {fn i:Nat} {ts u:List Tk} {ns:List Nd} {n:Nat} (h6:hkS ts≠6) (h:Pk (.lv 1) ts u ns n) (hc:hkS u≠11):Pk (.args fn i) ts u ns (i+1)
 | argC {fn i:Nat} {c:Tk} {ts u v:List Tk} {ns ms:List Nd} {n m:Nat} (h6:hkS ts≠6) (h:Pk (.lv 1) ts (c::u) ns n) (hc:c.kind=11) (g:Pk (.args fn (i+1)) u v ms m):Pk (.args fn i) ts v (ns++ms) m
 | rngE {fn i:Nat} {t:Tk} {ts:List Tk} (h6:t.kind=6) (hw:cE fn i=true) (hc:hkS ts≠11):Pk (.args fn i) (t::ts) ts [cj t.r] (i+1)
 | rngC {fn i:Nat} {t c:Tk} {u v:List Tk} {ms:List Nd} {m:Nat} (h6:t.kind=6) (hw:cE fn i=true) (hc:c.kind=11) (g:Pk (.args fn (i+1)) u v ms m):Pk (.args fn i) (t::c::u) v (cj t.r::ms) m
theorem vJ {ts:List Tk} {op:Int} (h:bO ts op=true):∃ t u,ts=t::u∧t.kind=8∧t.num=op:=by
 cases ts with
 | nil=>simp [bO] at h
 | cons t u=>simp [bO] at h; exact ⟨t,u,rfl,h.1,h.2⟩
theorem fS {ts:List Tk} {k:Nat} (h:hkS ts=k) (hk:k≠0):∃ t u,ts=t::u∧t.kind=k:=by
 cases ts with
 | nil=>simp only [hkS] at h; omega
 | cons t u=>exact ⟨t,u,rfl,h⟩
theorem qV (fn:Nat):1≤(arS fn).1:=by
 unfold arS
 repeat' split
 all_goals simp
theorem bZ {e:Nat}:∀ (f:Nat) (m:Md) (ts u:List Tk) (ns:List Nd) (n:Nat),ap e f m ts=some (.ok u ns n)→Pk m ts u ns n
 | 0,_,_,_,_,_,h=>by simp [ap] at h
 | f+1,.lv k,ts,u,ns,n,h=>by
  rw [ap] at h
  split at h
  ·rename_i hk; exact .lv5 hk (bZ f _ _ _ _ _ h)
  rename_i hk
  obtain ⟨t1,n1,q1,n2,h1,h2,rfl⟩:=seq_ok h
  exact .lv (by omega) (bZ f _ _ _ _ _ h1) (bZ f _ _ _ _ _ h2)
 | f+1,.ops k,[],u,ns,n,h=>by
  simp only [ap,Option.some.injEq,Rs.ok.injEq] at h
  obtain ⟨rfl,rfl,rfl⟩:=h
  exact .nil
 | f+1,.ops k,t::ts,u,ns,n,h=>by
  rw [ap] at h
  split at h
  ·rename_i hk
   obtain ⟨t1,n1,q1,n2,h1,h2,rfl⟩:=seq_ok h
   obtain ⟨t3,n3,q3,n4,h3,h4,rfl⟩:=seq_ok h2
   simp only [Option.some.injEq,Rs.ok.injEq] at h3
   obtain ⟨rfl,rfl,rfl⟩:=h3
   exact .op hk.1 hk.2 (bZ f _ _ _ _ _ h1) (bZ f _ _ _ _ _ h4)
  rename_i hk
  simp only [Option.some.injEq,Rs.ok.injEq] at h
  obtain ⟨rfl,rfl,rfl⟩:=h
  exact .stop hk
 | f+1,.sg,ts,u,ns,n,h=>by
  rw [ap] at h
  split at h
  ·rename_i ho
   obtain ⟨t,v,rfl,h8,h2⟩:=vJ ho
   obtain ⟨t1,n1,q1,n2,h1,h3,rfl⟩:=seq_ok h
   simp only [Option.some.injEq,Rs.ok.injEq] at h3
   obtain ⟨rfl,rfl,rfl⟩:=h3
   exact .neg h8 h2 (bZ f _ _ _ _ _ h1)
  rename_i ho
  obtain ⟨t1,n1,q1,n2,h1,h3,rfl⟩:=seq_ok h
  split at h3
  ·rename_i h5
   obtain ⟨t,v,rfl,h8,h5⟩:=vJ h5
   obtain ⟨t4,n4,q4,n5,h4,h6,rfl⟩:=seq_ok h3
   simp only [Option.some.injEq,Rs.ok.injEq] at h6
   obtain ⟨rfl,rfl,rfl⟩:=h6
   exact .pow (by simpa using ho) (bZ f _ _ _ _ _ h1) h8 h5 (bZ f _ _ _ _ _ h4)
  rename_i h5
  simp only [Option.some.injEq,Rs.ok.injEq] at h3
  obtain ⟨rfl,rfl,rfl⟩:=h3
  rw [List.append_nil]
  exact .bare (by simpa using ho) (bZ f _ _ _ _ _ h1) (by simpa using h5)
 | f+1,.pc,ts,u,ns,n,h=>by
  rw [ap] at h
  obtain ⟨t1,n1,q1,n2,h1,h3,rfl⟩:=seq_ok h
  simp only [Option.some.injEq,Rs.ok.injEq] at h3
  obtain ⟨rfl,rfl,rfl⟩:=h3
  exact .pc (bZ f _ _ _ _ _ h1)
 | f+1,.pr,[],u,ns,n,h=>by simp [ap] at h
 | f+1,.pr,t::ts,u,ns,n,h=>by
  rw [ap] at h
  split at h
  ·rename_i h1
   simp only [Option.some.injEq,Rs.ok.injEq] at h
   obtain ⟨rfl,rfl,rfl⟩:=h
   exact .val h1.1 h1.2
  split at h
  ·rename_i h1
   simp only [Option.some.injEq,Rs.ok.injEq] at h
   obtain ⟨rfl,rfl,rfl⟩:=h
   exact .ref h1
  split at h
  ·rename_i h9
   obtain ⟨t1,n1,q1,n2,h1,h3,rfl⟩:=seq_ok h
   split at h3
   ·rename_i hc
    rw [dd] at hc
    obtain ⟨c,v,rfl,hc⟩:=fS hc (by decide)
    simp only [Option.some.injEq,Rs.ok.injEq] at h3
    obtain ⟨rfl,rfl,rfl⟩:=h3
    rw [List.append_nil]
    exact .par h9 (bZ f _ _ _ _ _ h1) hc
   simp at h3
  split at h
  ·rename_i h7
   split at h
   ·simp at h
   rename_i hf
   split at h
   ·simp at h
   rename_i ho
   rw [dd,Classical.not_not] at ho
   obtain ⟨o,v,rfl,ho⟩:=fS ho (by decide)
   obtain ⟨t1,n1,h1,hc,rfl,rfl,ha,hb,hd⟩:=gM h
   rw [dd] at hc
   obtain ⟨c,x,rfl,hc⟩:=fS hc (by decide)
   split at h1
   ·simp only [Option.some.injEq,Rs.ok.injEq] at h1
    obtain ⟨_,_,rfl⟩:=h1
    have:=qV (fnS t.text)
    omega
   exact .call h7 hf ho (bZ f _ _ _ _ _ h1) hc ha hb hd
  simp at h
 | f+1,.args fn i,ts,u,ns,n,h=>by
  rw [ap] at h
  obtain ⟨t1,n1,q1,n2,h1,h3,rfl⟩:=seq_ok h
  split at h1
  ·rename_i h6
   rw [dd] at h6
   split at h3
   ·rename_i hc
    rw [dd] at hc
    obtain ⟨c,x,rfl,hc⟩:=fS hc (by decide)
    exact .argC h6 (bZ f _ _ _ _ _ h1) hc (bZ f _ _ _ _ _ h3)
   rename_i hc
   rw [dd] at hc
   simp only [Option.some.injEq,Rs.ok.injEq] at h3
   obtain ⟨rfl,rfl,rfl⟩:=h3
   rw [List.append_nil]
   exact .argE h6 (bZ f _ _ _ _ _ h1) hc
  rename_i h6
  rw [dd,Classical.not_not] at h6
  obtain ⟨t,x,rfl,h6⟩:=fS h6 (by decide)
  split at h1
  ·rename_i hw
   simp only [Option.some.injEq,Rs.ok.injEq] at h1
   obtain ⟨rfl,rfl,rfl⟩:=h1
   split at h3
   ·rename_i hc
    rw [dd] at hc
    obtain ⟨c,y,hy,hc⟩:=fS hc (by decide)
    simp only [List.drop_succ_cons,List.drop_zero] at hy
    subst hy
    exact .rngC h6 hw hc (bZ f _ _ _ _ _ h3)
   rename_i hc
   rw [dd] at hc
   simp only [Option.some.injEq,Rs.ok.injEq] at h3
   obtain ⟨rfl,rfl,rfl⟩:=h3
   rw [List.append_nil]
   exact .rngE h6 hw hc
  simp at h1
-- and back
section
variable {e:Nat} {ts u:List Tk} {r:Rs} {f g:Nat}
end
theorem Pk.open {m:Md} {ts u:List Tk} {ns:List Nd} {n:Nat} (h:Pk m ts u ns n):(∀ k,m≠.ops k)→hkS ts≠10∧ts≠[]:=by
 induction h with
 | lv5 _ _ ih=>intro _; exact ih (by simp)
 | lv _ _ _ ih _=>intro _; exact ih (by simp)
 | nil=>intro h; exact absurd rfl (h _)
 | stop=>intro h; exact absurd rfl (h _)
 | op=>intro h; exact absurd rfl (h _)
 | neg h8=>intro _; exact ⟨by simp [hkS,h8],by simp⟩
 | bare _ _ _ ih=>intro _; exact ih (by simp)
 | pow _ _ _ _ _ ih _=>intro _; exact ih (by simp)
 | pc _ ih=>intro _; exact ih (by simp)
 | val h1 h4=>intro _; exact ⟨by simp only [hkS]; omega,by simp⟩
 | ref h5=>intro _; exact ⟨by simp [hkS,h5],by simp⟩
 | par h9=>intro _; exact ⟨by simp [hkS,h9],by simp⟩
 | call h7=>intro _; exact ⟨by simp [hkS,h7],by simp⟩
 | argE _ _ _ ih=>intro _; exact ih (by simp)
 | argC _ _ _ _ ih _=>intro _; exact ih (by simp)
 | rngE h6=>intro _; exact ⟨by simp [hkS,h6],by simp⟩
 | rngC h6=>intro _; exact ⟨by simp [hkS,h6],by simp⟩
end
section
structure Pt where
 root:Nat
 depth:Nat
 wide:Bool
def aw (n:Nd):Nat:=if n.kind=4∨n.kind=5 then 1 else if n.kind=6 then 2 else if n.kind=7 then n.n else 0
def lz (t:List Nd) (r:Nat):Nat:=(t[r]?.map (·.kind)).getD 0
def lx (n:Nd):Bool:=decide (n.kind=7)
def yi (fn:Nat):Bool:=decide (46≤fn∧fn≤50)
def d8 (t:List Nd) (n:Nd) (i:Nat) (p:Pt):Bool :=
 !(p.wide && !(lx n && cE n.fn i)) && !(lx n && yi n.fn && decide (lz t p.root≠2∧lz t p.root≠3))
def ek (t:List Nd) (n:Nd):Nat→List Pt→Bool
 | _,[]=>true
 | i,p::l=>d8 t n i p && ek t n (i+1) l
def bu (l:List Pt):Nat:=l.foldl (fun d x=>max d (x.depth+1)) 1
def stepW (t:List Nd) (st:List Pt) (i:Nat) (n:Nd):Except Int (List Pt) :=
 if st.length<aw n then .error 4
 else if ek t n 0 (st.drop (st.length - aw n))=false then .error 4
 else if 32<bu (st.drop (st.length - aw n)) then .error 9
 else .ok (st.take (st.length - aw n)++[⟨i,bu (st.drop (st.length - aw n)),decide (n.kind=3)⟩])
def dT (t:List Nd):Nat→List Nd→List Pt→Except Int (List Pt)
 | _,[],st=>.ok st
 | i,n::l,st=>match stepW t st i n with
  | .error e=>.error e
  | .ok st2=>dT t (i+1) l st2
def kV (t:List Nd):Int:=match dT t 0 t [] with
 | .error e=>e
 | .ok st=>if st.length=1 then 0 else 4
def dp (t:List Nd):Int :=
 if 256<t.length then 5 else if t=[] then 4 else if kV t≠0 then kV t else if t.getLast?.map (·.kind)=some 3 then 4 else 0
end
section
def eY (t:Tk):Bool:=!(t.kind == 9 || t.kind == 10 || t.kind == 11)
theorem dA {t:Tk} (h9:t.kind≠9) (h10:t.kind≠10) (h11:t.kind≠11):eY t=true:=by simp [eY,h9,h10,h11]
theorem kM (u:List Tk):∃ s,u=s++(cr u).1∧s.length=(cr u).2∧(∀ t∈s,t.kind=8∧t.num=13)∧bO (cr u).1 13=false:=by
 induction u with
 | nil=>exact ⟨[],rfl,rfl,by simp,rfl⟩
 | cons t u ih =>
  rw [cr]
  split
  ·rename_i h
   obtain ⟨s,h1,h2,h3,h4⟩:=ih
   refine ⟨t::s,by rw [List.cons_append,← h1],by simp [h2],?_,h4⟩
   intro x hx
   rcases List.mem_cons.1 hx with rfl | hx
   ·exact h
   exact h3 x hx
  rename_i h
  exact ⟨[],rfl,rfl,by simp,by simpa [bO] using h⟩
theorem vc (s v:List Tk) (hs:∀ t∈s,t.kind=8∧t.num=13) (hv:bO v 13=false):cr (s++v)=(v,s.length):=by
 induction s with
 | nil =>
  cases v with
  | nil=>rfl
  | cons t v=>rw [List.nil_append,cr,if_neg (by simpa [bO] using hv)]; rfl
 | cons t s ih =>
  rw [List.cons_append,cr,if_pos (hs t (by simp)),ih fun x hx=>hs x (by simp [hx])]
  rfl
theorem pR (s:List Tk) (hs:∀ t∈s,t.kind=8∧t.num=13):s.countP eY=s.length:=by
 induction s with
 | nil=>rfl
 | cons t s ih =>
  have h:=hs t (by simp)
  rw [List.countP_cons,ih fun x hx=>hs x (by simp [hx]),if_pos (dA (by omega) (by omega) (by omega))]
  rfl
theorem Pk.count {m:Md} {ts u:List Tk} {ns:List Nd} {n:Nat} (h:Pk m ts u ns n):ts.countP eY=u.countP eY+ns.length:=by
 induction h with
 | lv5 _ _ ih=>exact ih
 | lv _ _ _ ih1 ih2=>rw [ih1,ih2,List.length_append]; omega
 | nil=>rfl
 | stop=>rfl
 | op h8 _ _ _ ih1 ih2=>rw [List.countP_cons,if_pos (dA (by omega) (by omega) (by omega)),ih1,ih2]; simp; omega
 | neg h8 _ _ ih=>rw [List.countP_cons,if_pos (dA (by omega) (by omega) (by omega)),ih]; simp; omega
 | bare _ _ _ ih=>exact ih
 | pow _ _ h8 _ _ ih1 ih2=>rw [ih1,List.countP_cons,if_pos (dA (by omega) (by omega) (by omega)),ih2]; simp; omega
 | @pc ts u ns n _ ih =>
  obtain ⟨s,h1,h2,h3,-⟩:=kM u
  have h4:=congrArg (List.countP eY) h1
  rw [List.countP_append,pR s h3] at h4
  rw [ih,h4,List.length_append,List.length_replicate,← h2]; omega
 | val h1 h4=>rw [List.countP_cons,if_pos (dA (by omega) (by omega) (by omega))]; rfl
 | ref h5=>rw [List.countP_cons,if_pos (dA (by omega) (by omega) (by omega))]; rfl
 | @par t c ts u ns n h9 _ hc ih=>rw [List.countP_cons,if_neg (by simp [eY,h9]),ih,List.countP_cons,if_neg (by simp [eY,hc])]; omega
 | @call t o c ts u ns n h7 _ ho _ hc _ _ _ ih =>
  rw [List.countP_cons,if_pos (dA (by omega) (by omega) (by omega)),List.countP_cons,if_neg (by simp [eY,ho]),ih,List.countP_cons,if_neg (by simp [eY,hc])]
  simp; omega
 | argE _ _ _ ih=>exact ih
 | @argC fn i c ts u v ns ms n m _ _ hc _ ih1 ih2=>rw [ih1,List.countP_cons,if_neg (by simp [eY,hc]),ih2]; simp; omega
 | rngE h6=>rw [List.countP_cons,if_pos (dA (by omega) (by omega) (by omega))]; rfl
 | @rngC fn i t c u v ms m h6 _ hc _ ih=>rw [List.countP_cons,if_pos (dA (by omega) (by omega) (by omega)),List.countP_cons,if_neg (by simp [eY,hc]),ih]; simp; omega
def soft (u v:List Tk):Prop:=v.head?=u.head?∨v=[]∨∃ t,v.head?=some t∧t.kind=10
theorem soft.app {u v:List Tk} (h:soft u v) (c:List Tk):soft (c++u) (c++v):=by
 cases c with
 | nil=>exact h
 | cons=>exact .inl rfl
theorem lw {u v:List Tk} (h:v.head?=u.head?):hkS v=hkS u:=by
 cases u <;> cases v <;> simp_all [hkS]
theorem lD {u v:List Tk} (h:v.head?=u.head?) (op:Int):bO v op=bO u op:=by
 cases u <;> cases v <;> simp_all [bO]
theorem soft.hk {u v:List Tk} (h:soft u v) (hu:hkS u≠11):hkS v≠11:=by
 rcases h with h | rfl | ⟨t,h,hk⟩
 ·rw [lw h]; exact hu
 ·simp [hkS]
 cases v with
 | nil=>simp at h
 | cons x v=>simp at h; subst h; simp only [hkS]; omega
theorem soft.op {u v:List Tk} (h:soft u v) {op:Int} (hu:bO u op=false):bO v op=false:=by
 rcases h with h | rfl | ⟨t,h,hk⟩
 ·rw [lD h]; exact hu
 ·rfl
 cases v with
 | nil=>simp at h
 | cons x v=>simp at h; subst h; simp [bO,hk]
theorem gP {c:List Tk} (hc:c≠[]) (u v:List Tk):(c++u).head?=(c++v).head?:=by
 cases c with
 | nil=>exact absurd rfl hc
 | cons=>rfl
theorem Pk.soft {m:Md} {ts u:List Tk} {ns:List Nd} {n:Nat} (h:Pk m ts u ns n):∃ c,ts=c++u∧((∀ k,m≠.ops k)→c≠[])∧∀ v,Go.Proofs.YtdplcdhpnmcdjaaGreatDoor.soft u v→Pk m (c++v) v ns n:=by
 induction h with
 | lv5 hk _ ih =>
  obtain ⟨c,h1,h2,h3⟩:=ih
  exact ⟨c,h1,fun _=>h2 (by simp),fun v hv=>.lv5 hk (h3 v hv)⟩
 | lv hk _ _ ih1 ih2 =>
  obtain ⟨c,rfl,h2,h3⟩:=ih1
  obtain ⟨d,rfl,_,h5⟩:=ih2
  refine ⟨c++d,by rw [List.append_assoc],fun _=>by have:=h2 (by simp); simp [this],fun v hv => ?_⟩
  rw [List.append_assoc]
  exact .lv hk (h3 _ (hv.app d)) (h5 v hv)
 | @nil k =>
  refine ⟨[],rfl,fun h=>absurd rfl (h _),fun v hv => ?_⟩
  cases v with
  | nil=>exact .nil
  | cons t v =>
   refine .stop fun h => ?_
   rcases hv with h9 | h9 | ⟨x,h9,hx⟩
   ·simp at h9
   ·simp at h9
   simp at h9; subst h9; omega
 | @stop k t ts hk =>
  refine ⟨[],rfl,fun h=>absurd rfl (h _),fun v hv => ?_⟩
  cases v with
  | nil=>exact .nil
  | cons x v =>
   refine .stop fun h => ?_
   rcases hv with h9 | h9 | ⟨y,h9,hy⟩
   ·simp at h9; subst h9; exact hk h
   ·simp at h9
   simp at h9; subst h9; omega
 | @op k t ts u v ns ms n m h8 hk _ _ ih1 ih2 =>
  obtain ⟨c,rfl,h2,h3⟩:=ih1
  obtain ⟨d,rfl,_,h5⟩:=ih2
  refine ⟨t::(c++d),by simp,fun _=>by simp,fun v hv => ?_⟩
  rw [List.cons_append,List.append_assoc]
  exact .op h8 hk (h3 _ (hv.app d)) (h5 v hv)
 | @neg t ts u ns n h8 h2 _ ih =>
  obtain ⟨c,rfl,_,h3⟩:=ih
  exact ⟨t::c,rfl,fun _=>by simp,fun v hv=>.neg h8 h2 (h3 v hv)⟩
 | bare hn _ h5 ih =>
  obtain ⟨c,rfl,h2,h3⟩:=ih
  have hc:=h2 (by simp)
  exact ⟨c,rfl,fun _=>hc,fun v hv=>.bare (by rw [← hn]; exact lD (gP hc _ _) 2) (h3 v hv) (hv.op h5)⟩
 | @pow t ts u v ns ms n m hn _ h8 h5 _ ih1 ih2 =>
  obtain ⟨c,rfl,h2,h3⟩:=ih1
  obtain ⟨d,rfl,_,h6⟩:=ih2
  have hc:=h2 (by simp)
  refine ⟨c++t::d,by simp,fun _=>by simp,fun v hv => ?_⟩
  rw [List.append_assoc,List.cons_append]
  exact .pow (by rw [← hn]; exact lD (gP hc _ _) 2) (h3 _ (.inl rfl)) h8 h5 (h6 v hv)
 | @pc ts u ns n _ ih =>
  obtain ⟨c,rfl,h2,h3⟩:=ih
  obtain ⟨s,h4,h5,h6,h7⟩:=kM u
  have hc:=h2 (by simp)
  refine ⟨c++s,by rw [List.append_assoc,← h4],fun _=>by simp [hc],fun v hv => ?_⟩
  have h8:=Pk.pc (h3 (s++v) (by rw [h4]; exact hv.app s))
  rw [vc s v h6 (hv.op h7),h5,← List.append_assoc] at h8
  exact h8
 | @val t ts h1 h4=>exact ⟨[t],rfl,fun _=>by simp,fun v _=>.val h1 h4⟩
 | @ref t ts h5=>exact ⟨[t],rfl,fun _=>by simp,fun v _=>.ref h5⟩
 | @par t x ts u ns n h9 _ hx ih =>
  obtain ⟨c,rfl,h2,h3⟩:=ih
  refine ⟨t::(c++[x]),by simp,fun _=>by simp,fun v _ => ?_⟩
  rw [List.cons_append,List.append_assoc]
  exact .par h9 (h3 (x::v) (.inl rfl)) hx
 | @call t o x ts u ns n h7 hf ho _ hx h1 h2 hd ih =>
  obtain ⟨c,rfl,_,h3⟩:=ih
  refine ⟨t::o::(c++[x]),by simp,fun _=>by simp,fun v _ => ?_⟩
  rw [List.cons_append,List.cons_append,List.append_assoc]
  exact .call h7 hf ho (h3 (x::v) (.inl rfl)) hx h1 h2 hd
 | argE h6 _ hc ih =>
  obtain ⟨c,rfl,h2,h3⟩:=ih
  have hc2:=h2 (by simp)
  exact ⟨c,rfl,fun _=>hc2,fun v hv=>.argE (by rw [← lw (gP hc2 _ v)]; exact h6) (h3 v hv) (hv.hk hc)⟩
 | @argC fn i x ts u v ns ms n m h6 _ hx _ ih1 ih2 =>
  obtain ⟨c,rfl,h2,h3⟩:=ih1
  obtain ⟨d,rfl,_,h5⟩:=ih2
  have hc2:=h2 (by simp)
  refine ⟨c++x::d,by simp,fun _=>by simp,fun v hv => ?_⟩
  rw [List.append_assoc,List.cons_append]
  exact .argC (by rw [← lw (gP hc2 _ (x::(d++v)))]; exact h6) (h3 _ (.inl rfl)) hx (h5 v hv)
 | @rngE fn i t ts h6 hw hc=>exact ⟨[t],rfl,fun _=>by simp,fun v hv=>.rngE h6 hw (hv.hk hc)⟩
 | @rngC fn i t x u v ms m h6 hw hx _ ih =>
  obtain ⟨c,rfl,_,h3⟩:=ih
  exact ⟨t::x::c,rfl,fun _=>by simp,fun v hv=>.rngC h6 hw hx (h3 v hv)⟩
theorem Pk.ops_stop {k:Nat} {ts:List Tk} (h:ts=[]∨∃ t,ts.head?=some t∧t.kind≠8):Pk (.ops k) ts ts [] 0:=by
 cases ts with
 | nil=>exact .nil
 | cons t ts =>
  rcases h with h | ⟨x,h,hx⟩
  ·simp at h
  simp at h; subst h; exact .stop fun h=>hx h.1
theorem Pk.up {ts u:List Tk} {ns:List Nd} {n:Nat} (h:Pk .sg ts u ns n) (hu:u=[]∨∃ t,u.head?=some t∧t.kind≠8):Pk (.lv 1) ts u ns 0:=by
 have h5:Pk (.lv 5) ts u ns n:=.lv5 (Nat.le_refl _) h
 have h4:Pk (.lv 4) ts u ns 0:=by simpa using Pk.lv (k:=4) (by omega) h5 (Pk.ops_stop hu)
 have h3:Pk (.lv 3) ts u ns 0:=by simpa using Pk.lv (k:=3) (by omega) h4 (Pk.ops_stop hu)
 have h2:Pk (.lv 2) ts u ns 0:=by simpa using Pk.lv (k:=2) (by omega) h3 (Pk.ops_stop hu)
 simpa using Pk.lv (k:=1) (by omega) h2 (Pk.ops_stop hu)
def evN (x:Nd) (st:List Nat):List Nat:=st.take (st.length - aw x)++[(st.drop (st.length - aw x)).foldl (fun d y=>max d (y+1)) 1]
def ev:List Nd→List Nat→List Nat
 | [],st=>st
 | x::l,st=>ev l (evN x st)
end
section
def Dep (ns:List Nd) (d:Nat):Prop:=∀ st,ev ns st=st++[d]
def xy (ns:List Nd) (F:Nat→Nat):Prop:=∀ x st,ev ns (st++[x])=st++[F x]
def leD (a b:List Nd):Prop:=∃ x y,Dep a x∧Dep b y∧x≤y
def leF (a b:List Nd):Prop:=∃ F G,xy a F∧xy b G∧∀ x y,x≤y→F x≤G y
def LeM (m:Md) (a b:List Nd):Prop:=match m with
 | .ops _=>leF a b
 | .args _ _=>True
 | .lv _=>leD a b
 | .sg=>leD a b
 | .pc=>leD a b
 | .pr=>leD a b
def Cut (e:Nat) (m:Md) (p:List Tk) (ns:List Nd):Prop:=(∃ f,ap e f m p=some (.bad e 4))∨∃ ns' n',Pk m p [] ns' n'∧LeM m ns' ns
section
variable {e:Nat}
end
end
section
theorem ml {α:Type} (a:List α) (x:α) (b:List α):(a++x::b).getLast?=(x::b).getLast?:=by rw [List.getLast?_append]; cases h:(x::b).getLast? with
 | none=>simp at h
 | some y=>rfl
theorem Pk.last {m:Md} {ts u:List Tk} {ns:List Nd} {n:Nat} (h:Pk m ts u ns n):(∀ fn i,m≠.args fn i)→ns.getLast?.map (·.kind)≠some 3:=by
 induction h with
 | lv5 _ _ ih=>intro _; exact ih (by simp)
 | @lv k ts u v ns ms n m _ _ _ ih1 ih2 =>
  intro _
  cases hm:ms with
  | nil=>rw [List.append_nil]; exact ih1 (by simp)
  | cons x ms =>
   have:=ih2 (by simp)
   rw [hm] at this
   rw [ml]
   exact this
 | nil=>intro _; simp
 | stop=>intro _; simp
 | @op k t ts u v ns ms n m _ _ _ _ ih1 ih2 =>
  intro _
  rw [ml]
  cases hm:ms with
  | nil=>simp [cN]
  | cons x ms =>
   have:=ih2 (by simp)
   rw [hm] at this
   rw [List.getLast?_cons_cons]
   exact this
 | neg=>intro _; simp [fz]
 | bare _ _ _ ih=>intro _; exact ih (by simp)
 | pow=>intro _; rw [← List.append_assoc]; simp [cN]
 | @pc ts u ns n _ ih =>
  intro _
  cases hk:(cr u).2 with
  | zero=>simpa using ih (by simp)
  | succ k=>rw [List.replicate_succ',← List.append_assoc]; simp [dt]
 | val=>intro _; simp [o6]
 | ref=>intro _; simp [eu]
 | par _ _ _ ih=>intro _; exact ih (by simp)
 | call=>intro _; simp [da]
 | argE=>intro h; exact absurd rfl (h _ _)
 | argC=>intro h; exact absurd rfl (h _ _)
 | rngE=>intro h; exact absurd rfl (h _ _)
 | rngC=>intro h; exact absurd rfl (h _ _)
end
section
def Tk.bare (t:Tk):Tk:={ t with at_:=0 }
def vO:Rs→Except Int (List Tk×List Nd×Nat)
 | .bad _ c=>.error c
 | .ok ts ns n=>.ok (ts.map Tk.bare,ns,n)
def Eqv (x y:Option Rs):Prop:=x.map vO=y.map vO
theorem Eqv.none_:Eqv none none:=rfl
theorem Eqv.bad {a b:Nat} {c:Int}:Eqv (some (.bad a c)) (some (.bad b c)):=rfl
theorem Eqv.ok {ts us:List Tk} {ns:List Nd} {n:Nat} (h:ts.map Tk.bare=us.map Tk.bare):Eqv (some (.ok ts ns n)) (some (.ok us ns n)):=by
 simp only [Eqv,Option.map_some,vO,h]
theorem CH {x y:Option Rs} (h:Eqv x y):(x=none∧y=none)∨(∃ a b c,x=some (.bad a c)∧y=some (.bad b c))∨∃ ts us ns n,x=some (.ok ts ns n)∧y=some (.ok us ns n)∧ts.map Tk.bare=us.map Tk.bare:=by
 unfold Eqv at h
 cases x with
 | none=>cases y with
  | none=>exact .inl ⟨rfl,rfl⟩
  | some y=>simp at h
 | some x=>cases y with
  | none=>simp at h
  | some y =>
   cases x with
   | bad a c=>cases y with
    | bad b d=>simp [vO] at h; subst h; exact .inr (.inl ⟨_,_,_,rfl,rfl⟩)
    | ok ts ns n=>simp [vO] at h
   | ok ts ns n=>cases y with
    | bad b d=>simp [vO] at h
    | ok us ms m =>
     simp only [Option.map_some,vO,Option.some.injEq,Except.ok.injEq,Prod.mk.injEq] at h
     obtain ⟨h1,rfl,rfl⟩:=h
     exact .inr (.inr ⟨_,_,_,_,rfl,rfl,h1⟩)
theorem CB {t:Tk} {ts us:List Tk} (h:(t::ts).map Tk.bare=us.map Tk.bare):∃ s ss,us=s::ss∧t.kind=s.kind∧t.num=s.num∧t.text=s.text∧t.r=s.r∧ts.map Tk.bare=ss.map Tk.bare:=by
 cases us with
 | nil=>simp at h
 | cons s ss =>
  simp only [List.map_cons,List.cons.injEq,Tk.bare,Tk.mk.injEq,and_true] at h
  obtain ⟨⟨h1,h2,h3,h4⟩,h5⟩:=h
  exact ⟨s,ss,rfl,h1,h2,h3,h4,h5⟩
theorem C5 {us:List Tk} (h:([]:List Tk).map Tk.bare=us.map Tk.bare):us=[]:=by
 cases us with
 | nil=>rfl
 | cons=>simp at h
theorem DR {ts us:List Tk} (h:ts.map Tk.bare=us.map Tk.bare):hkS ts=hkS us:=by
 cases ts with
 | nil=>rw [C5 h]
 | cons t ts=>obtain ⟨s,ss,rfl,h1,_⟩:=CB h; exact h1
theorem CC {ts us:List Tk} (h:ts.map Tk.bare=us.map Tk.bare):(ts.drop 1).map Tk.bare=(us.drop 1).map Tk.bare:=by
 rw [List.map_drop,List.map_drop,h]
theorem Eqv.close {e e' fn a b:Nat} {x y:Option Rs} (h:Eqv x y):Eqv (dH e fn a x) (dH e' fn b y):=by
 rcases CH h with ⟨rfl,rfl⟩ | ⟨a,b,c,rfl,rfl⟩ | ⟨ts,us,ns,n,rfl,rfl,h1⟩
 ·rfl
 ·exact .bad
 simp only [dH,dd,DR h1]
 split
 ·exact .bad
 split
 ·exact .bad
 split
 ·exact .bad
 exact .ok (CC h1)
def pC (e:Nat) (ts:List Tk) (a:Nat):Prop:=a=e∨∃ t∈ts,a=t.at_
theorem pC.sub {e a:Nat} {ts us:List Tk} (h:pC e us a) (hs:∀ t∈us,t∈ts):pC e ts a:=by
 rcases h with h | ⟨t,ht,h⟩
 ·exact .inl h
 exact .inr ⟨t,hs t ht,h⟩
theorem gT {e:Nat} (ts:List Tk):pC e ts (hdS e ts).at_:=by
 cases ts with
 | nil=>exact .inl rfl
 | cons t ts=>exact .inr ⟨t,by simp,rfl⟩
theorem bg {x:Option Rs} {g:List Tk→Nat→Option Rs} {a:Nat} {c:Int} (h:fe x g=some (.bad a c)) :
  x=some (.bad a c)∨∃ ts ns n,x=some (.ok ts ns n)∧g ts n=some (.bad a c):=by
 unfold fe at h
 split at h
 ·simp at h
 ·exact .inl h
 rename_i ts ns n
 split at h
 ·simp at h
 ·rename_i a' c' hg; exact .inr ⟨ts,ns,n,rfl,by rw [hg]; exact h⟩
 simp at h
theorem fX {e f:Nat} {m:Md} {ts u:List Tk} {ns:List Nd} {n:Nat} (h:ap e f m ts=some (.ok u ns n)):∀ t∈u,t∈ts:=by
 obtain ⟨c,rfl,_⟩:=(bZ _ _ _ _ _ _ h).soft
 intro t ht
 simp [ht]
theorem dK {ts:List Tk}:∀ t∈ts.drop 1,t∈ts:=fun _ h=>List.mem_of_mem_drop h
def Code (c:Int):Prop:=c=4∨c=10∨c=11
theorem ck {e:Nat}:∀ (f:Nat) (m:Md) (ts:List Tk) (a:Nat) (c:Int),ap e f m ts=some (.bad a c)→pC e ts a∧Code c
 | 0,_,_,_,_,h=>by simp [ap] at h
 | f+1,.lv k,ts,a,c,h=>by
  rw [ap] at h
  split at h
  ·exact ck f _ _ _ _ h
  rcases bg h with h | ⟨u,ns,n,h1,h2⟩
  ·exact ck f _ _ _ _ h
  obtain ⟨h3,h4⟩:=ck f _ _ _ _ h2
  exact ⟨h3.sub (fX h1),h4⟩
 | f+1,.ops k,[],a,c,h=>by simp [ap] at h
 | f+1,.ops k,t::ts,a,c,h=>by
  rw [ap] at h
  split at h
  ·rcases bg h with h | ⟨u,ns,n,h1,h2⟩
   ·obtain ⟨h3,h4⟩:=ck f _ _ _ _ h
    exact ⟨h3.sub fun t ht=>by simp [ht],h4⟩
   rcases bg h2 with h2 | ⟨u2,ns2,n2,h5,h6⟩
   ·simp at h2
   simp only [Option.some.injEq,Rs.ok.injEq] at h5
   obtain ⟨rfl,_,_⟩:=h5
   obtain ⟨h3,h4⟩:=ck f _ _ _ _ h6
   exact ⟨h3.sub fun t ht=>by simp [fX h1 t ht],h4⟩
  simp at h
 | f+1,.sg,ts,a,c,h=>by
  rw [ap] at h
  split at h
  ·rcases bg h with h | ⟨u,ns,n,h1,h2⟩
   ·obtain ⟨h3,h4⟩:=ck f _ _ _ _ h
    exact ⟨h3.sub dK,h4⟩
   simp at h2
  rcases bg h with h | ⟨u,ns,n,h1,h2⟩
  ·exact ck f _ _ _ _ h
  split at h2
  ·rcases bg h2 with h2 | ⟨u2,ns2,n2,h5,h6⟩
   ·obtain ⟨h3,h4⟩:=ck f _ _ _ _ h2
    exact ⟨h3.sub fun t ht=>fX h1 t (dK t ht),h4⟩
   simp at h6
  simp at h2
 | f+1,.pc,ts,a,c,h=>by
  rw [ap] at h
  rcases bg h with h | ⟨u,ns,n,h1,h2⟩
  ·exact ck f _ _ _ _ h
  simp at h2
 | f+1,.pr,[],a,c,h=>by
  simp only [ap,Option.some.injEq,Rs.bad.injEq] at h
  exact ⟨.inl h.1.symm,.inl h.2.symm⟩
 | f+1,.pr,t::ts,a,c,h=>by
  rw [ap] at h
  split at h
  ·simp at h
  split at h
  ·simp at h
  split at h
  ·rcases bg h with h | ⟨u,ns,n,h1,h2⟩
   ·obtain ⟨h3,h4⟩:=ck f _ _ _ _ h
    exact ⟨h3.sub fun t ht=>by simp [ht],h4⟩
   split at h2
   ·simp at h2
   simp only [Option.some.injEq,Rs.bad.injEq] at h2
   obtain ⟨rfl,rfl⟩:=h2
   exact ⟨(gT u).sub fun t ht=>by simp [fX h1 t ht],.inl rfl⟩
  split at h
  ·split at h
   ·simp only [Option.some.injEq,Rs.bad.injEq] at h
    exact ⟨.inr ⟨t,by simp,h.1.symm⟩,.inr (.inl h.2.symm)⟩
   split at h
   ·simp only [Option.some.injEq,Rs.bad.injEq] at h
    obtain ⟨rfl,rfl⟩:=h
    exact ⟨(gT ts).sub fun t ht=>by simp [ht],.inl rfl⟩
   unfold dH at h
   split at h
   ·simp at h
   ·rename_i h1
    simp only [Option.some.injEq,Rs.bad.injEq] at h
    obtain ⟨rfl,rfl⟩:=h
    split at h1
    ·simp at h1
    obtain ⟨h3,h4⟩:=ck f _ _ _ _ h1
    exact ⟨h3.sub fun t ht=>by simp [dK t ht],h4⟩
   rename_i u ns n h1
   have hsub:∀ t∈u,t∈ts:=by
    split at h1
    ·simp only [Option.some.injEq,Rs.ok.injEq] at h1
     obtain ⟨rfl,_,_⟩:=h1
     exact dK
    exact fun t ht=>dK t (fX h1 t ht)
   split at h
   ·simp only [Option.some.injEq,Rs.bad.injEq] at h
    obtain ⟨rfl,rfl⟩:=h
    exact ⟨(gT u).sub fun t ht=>by simp [hsub t ht],.inl rfl⟩
   split at h
   ·simp only [Option.some.injEq,Rs.bad.injEq] at h
    exact ⟨.inr ⟨t,by simp,h.1.symm⟩,.inr (.inr h.2.symm)⟩
   split at h
   ·simp only [Option.some.injEq,Rs.bad.injEq] at h
    exact ⟨.inr ⟨t,by simp,h.1.symm⟩,.inl h.2.symm⟩
   simp at h
  simp only [Option.some.injEq,Rs.bad.injEq] at h
  exact ⟨.inr ⟨t,by simp,h.1.symm⟩,.inl h.2.symm⟩
 | f+1,.args fn i,ts,a,c,h=>by
  rw [ap] at h
  rcases bg h with h | ⟨u,ns,n,h1,h2⟩
  ·split at h
   ·exact ck f _ _ _ _ h
   split at h
   ·simp at h
   simp only [Option.some.injEq,Rs.bad.injEq] at h
   obtain ⟨rfl,rfl⟩:=h
   exact ⟨gT ts,.inl rfl⟩
  have hsub:∀ t∈u,t∈ts:=by
   split at h1
   ·exact fX h1
   split at h1
   ·simp only [Option.some.injEq,Rs.ok.injEq] at h1
    obtain ⟨rfl,_,_⟩:=h1
    exact dK
   simp at h1
  split at h2
  ·obtain ⟨h3,h4⟩:=ck f _ _ _ _ h2
   exact ⟨h3.sub fun t ht=>hsub t (dK t ht),h4⟩
  simp at h2
end
