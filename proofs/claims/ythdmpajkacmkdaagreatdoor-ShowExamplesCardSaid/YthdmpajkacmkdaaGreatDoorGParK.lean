/- Plain: lists of tokens that are accepted, said as an inductive; and what it is to parse them. No program stands here. Plain: what checking a tree comes to. Plain: what follows of an accepted list of tokens: how many nodes it has, what may stand behind it, what a beginning of it comes to. No program stands here. Plain: a beginning of an accepted list of tokens is accepted, with no greater depth, or has its fault at its end. No program stands here. Plain: checking the tree of an accepted list of tokens: only its depth can be at fault. No program stands here. Plain: what parsing comes to does not hang on where the tokens stand; where a fault lies. No program stands here. -/
import Derived.Test.YthdmpajkacmkdaaGreatDoorGParP
namespace Go.Proofs.YthdmpajkacmkdaaGreatDoor
section
def hkS:List Tk→Nat
 | []=>0
 | t::_=>t.kind
theorem dp (e:Nat) (ts:List Tk):(hdS e ts).kind=hkS ts:=by cases ts <;> rfl
inductive Pk:Md→List Tk→List Tk→List Nd→Nat→Prop
 | lv5 {k:Nat} {ts u:List Tk} {ns:List Nd} {n:Nat} (hk:5≤k) (h:Pk .sg ts u ns n):Pk (.lv k) ts u ns n
 | lv {k:Nat} {ts u v:List Tk} {ns ms:List Nd} {n m:Nat} (hk:k<5) (h:Pk (.lv (k+1)) ts u ns n) (g:Pk (.ops k) u v ms m):Pk (.lv k) ts v (ns++ms) m
 | nil {k:Nat}:Pk (.ops k) [] [] [] 0
 | stop {k:Nat} {t:Tk} {ts:List Tk} (hk:¬ (t.kind=8∧aJ t.num=k)):Pk (.ops k) (t::ts) (t::ts) [] 0
 | op {k:Nat} {t:Tk} {ts u v:List Tk} {ns ms:List Nd} {n m:Nat} (h8:t.kind=8) (hk:aJ t.num=k) (h:Pk (.lv (k+1)) ts u ns n) (g:Pk (.ops k) u v ms m):Pk (.ops k) (t::ts) v (ns++(aI t.num::ms)) m
 | neg {t:Tk} {ts u:List Tk} {ns:List Nd} {n:Nat} (h8:t.kind=8) (h2:t.num=2) (h:Pk .sg ts u ns n):Pk .sg (t::ts) u (ns++[ck]) 0
 | bare {ts u:List Tk} {ns:List Nd} {n:Nat} (hn:bE ts 2=false) (h:Pk .pc ts u ns n) (h5:bE u 5=false):Pk .sg ts u ns 0
 | pow {t:Tk} {ts u v:List Tk} {ns ms:List Nd} {n m:Nat} (hn:bE ts 2=false) (h:Pk .pc ts (t::u) ns n) (h8:t.kind=8) (h5:t.num=5) (g:Pk .sg u v ms m):Pk .sg ts v (ns++(ms++[aI 5])) 0
 | pc {ts u:List Tk} {ns:List Nd} {n:Nat} (h:Pk .pr ts u ns n):Pk .pc ts (cF u).1 (ns++List.replicate (cF u).2 bS) 0
 | val {t:Tk} {ts:List Tk} (h1:1≤t.kind) (h4:t.kind≤4):Pk .pr (t::ts) ts [fF t] 0
 | ref {t:Tk} {ts:List Tk} (h5:t.kind=5):Pk .pr (t::ts) ts [cL t.r] 0
 | par {t c:Tk} {ts u:List Tk} {ns:List Nd} {n:Nat} (h9:t.kind=9) (h:Pk (.lv 1) ts (c::u) ns n) (hc:c.kind=10):Pk .pr (t::ts) u ns 0
 | call {t o c : Tk} {ts u : List Tk} {ns : List Nd} {n : Nat} (h7 : t.kind = 7) (hf : fnS t.text ≠ 0) (ho : o.kind = 9) (h : Pk (.args (fnS t.text) 0) ts (c :: u) ns n) (hc : c.kind = 10)
   (h1:(arS (fnS t.text)).1≤n) (h2:n≤(arS (fnS t.text)).2) (hd:46≤fnS t.text→(ns.getLast?.map (·.kind))=some 2∨(ns.getLast?.map (·.kind))=some 3) :
   Pk .pr (t::o::ts) u (ns++[bI (fnS t.text) n]) n
 | argE {fn i:Nat} {ts u:List Tk} {ns:List Nd} {n:Nat} (h6:hkS ts≠6) (h:Pk (.lv 1) ts u ns n) (hc:hkS u≠11):Pk (.args fn i) ts u ns (i+1)
 | argC {fn i:Nat} {c:Tk} {ts u v:List Tk} {ns ms:List Nd} {n m:Nat} (h6:hkS ts≠6) (h:Pk (.lv 1) ts (c::u) ns n) (hc:c.kind=11) (g:Pk (.args fn (i+1)) u v ms m):Pk (.args fn i) ts v (ns++ms) m
 | rngE {fn i:Nat} {t:Tk} {ts:List Tk} (h6:t.kind=6) (hw:b8 fn i=true) (hc:hkS ts≠11):Pk (.args fn i) (t::ts) ts [aM t.r] (i+1)
 | rngC {fn i:Nat} {t c:Tk} {u v:List Tk} {ms:List Nd} {m:Nat} (h6:t.kind=6) (hw:b8 fn i=true) (hc:c.kind=11) (g:Pk (.args fn (i+1)) u v ms m):Pk (.args fn i) (t::c::u) v (aM t.r::ms) m
theorem zW {ts:List Tk} {op:Int} (h:bE ts op=true):∃ t u,ts=t::u∧t.kind=8∧t.num=op:=by
 cases ts with
 | nil=>simp [bE] at h
 | cons t u=>simp [bE] at h; exact ⟨t,u,rfl,h.1,h.2⟩
theorem iw {ts:List Tk} {k:Nat} (h:hkS ts=k) (hk:k≠0):∃ t u,ts=t::u∧t.kind=k:=by
 cases ts with
 | nil=>simp only [hkS] at h; omega
 | cons t u=>exact ⟨t,u,rfl,h⟩
theorem nu (fn:Nat):1≤(arS fn).1:=by
 unfold arS
 repeat' split
 all_goals simp
theorem cy {e:Nat}:∀ (f:Nat) (m:Md) (ts u:List Tk) (ns:List Nd) (n:Nat),aj e f m ts=some (.ok u ns n)→Pk m ts u ns n
 | 0,_,_,_,_,_,h=>by simp [aj] at h
 | f+1,.lv k,ts,u,ns,n,h=>by
  rw [aj] at h
  split at h
  ·rename_i hk; exact .lv5 hk (cy f _ _ _ _ _ h)
  rename_i hk
  obtain ⟨t1,n1,q1,n2,h1,h2,rfl⟩:=seq_ok h
  exact .lv (by omega) (cy f _ _ _ _ _ h1) (cy f _ _ _ _ _ h2)
 | f+1,.ops k,[],u,ns,n,h=>by
  simp only [aj,Option.some.injEq,Rs.ok.injEq] at h
  obtain ⟨rfl,rfl,rfl⟩:=h
  exact .nil
 | f+1,.ops k,t::ts,u,ns,n,h=>by
  rw [aj] at h
  split at h
  ·rename_i hk
   obtain ⟨t1,n1,q1,n2,h1,h2,rfl⟩:=seq_ok h
   obtain ⟨t3,n3,q3,n4,h3,h4,rfl⟩:=seq_ok h2
   simp only [Option.some.injEq,Rs.ok.injEq] at h3
   obtain ⟨rfl,rfl,rfl⟩:=h3
   exact .op hk.1 hk.2 (cy f _ _ _ _ _ h1) (cy f _ _ _ _ _ h4)
  rename_i hk
  simp only [Option.some.injEq,Rs.ok.injEq] at h
  obtain ⟨rfl,rfl,rfl⟩:=h
  exact .stop hk
 | f+1,.sg,ts,u,ns,n,h=>by
  rw [aj] at h
  split at h
  ·rename_i ho
   obtain ⟨t,v,rfl,h8,h2⟩:=zW ho
   obtain ⟨t1,n1,q1,n2,h1,h3,rfl⟩:=seq_ok h
   simp only [Option.some.injEq,Rs.ok.injEq] at h3
   obtain ⟨rfl,rfl,rfl⟩:=h3
   exact .neg h8 h2 (cy f _ _ _ _ _ h1)
  rename_i ho
  obtain ⟨t1,n1,q1,n2,h1,h3,rfl⟩:=seq_ok h
  split at h3
  ·rename_i h5
   obtain ⟨t,v,rfl,h8,h5⟩:=zW h5
   obtain ⟨t4,n4,q4,n5,h4,h6,rfl⟩:=seq_ok h3
   simp only [Option.some.injEq,Rs.ok.injEq] at h6
   obtain ⟨rfl,rfl,rfl⟩:=h6
   exact .pow (by simpa using ho) (cy f _ _ _ _ _ h1) h8 h5 (cy f _ _ _ _ _ h4)
  rename_i h5
  simp only [Option.some.injEq,Rs.ok.injEq] at h3
  obtain ⟨rfl,rfl,rfl⟩:=h3
  rw [List.append_nil]
  exact .bare (by simpa using ho) (cy f _ _ _ _ _ h1) (by simpa using h5)
 | f+1,.pc,ts,u,ns,n,h=>by
  rw [aj] at h
  obtain ⟨t1,n1,q1,n2,h1,h3,rfl⟩:=seq_ok h
  simp only [Option.some.injEq,Rs.ok.injEq] at h3
  obtain ⟨rfl,rfl,rfl⟩:=h3
  exact .pc (cy f _ _ _ _ _ h1)
 | f+1,.pr,[],u,ns,n,h=>by simp [aj] at h
 | f+1,.pr,t::ts,u,ns,n,h=>by
  rw [aj] at h
  split at h
  ·rename_i h1
   simp only [Option.some.injEq,Rs.ok.injEq] at h
   obtain ⟨rfl,rfl,rfl⟩:=h
   exact .val h1.1 h1.2
  split at h
  ·rename_i h1
   simp only [Option.some.injEq,Rs.ok.injEq] at h
   obtain ⟨rfl,rfl,rfl⟩:=h
   exact .ref h1
  split at h
  ·rename_i h9
   obtain ⟨t1,n1,q1,n2,h1,h3,rfl⟩:=seq_ok h
   split at h3
   ·rename_i hc
    rw [dp] at hc
    obtain ⟨c,v,rfl,hc⟩:=iw hc (by decide)
    simp only [Option.some.injEq,Rs.ok.injEq] at h3
    obtain ⟨rfl,rfl,rfl⟩:=h3
    rw [List.append_nil]
    exact .par h9 (cy f _ _ _ _ _ h1) hc
   simp at h3
  split at h
  ·rename_i h7
   split at h
   ·simp at h
   rename_i hf
   split at h
   ·simp at h
   rename_i ho
   rw [dp,Classical.not_not] at ho
   obtain ⟨o,v,rfl,ho⟩:=iw ho (by decide)
   obtain ⟨t1,n1,h1,hc,rfl,rfl,ha,hb,hd⟩:=jn h
   rw [dp] at hc
   obtain ⟨c,x,rfl,hc⟩:=iw hc (by decide)
   split at h1
   ·simp only [Option.some.injEq,Rs.ok.injEq] at h1
    obtain ⟨_,_,rfl⟩:=h1
    have:=nu (fnS t.text)
    omega
   exact .call h7 hf ho (cy f _ _ _ _ _ h1) hc ha hb hd
  simp at h
 | f+1,.args fn i,ts,u,ns,n,h=>by
  rw [aj] at h
  obtain ⟨t1,n1,q1,n2,h1,h3,rfl⟩:=seq_ok h
  split at h1
  ·rename_i h6
   rw [dp] at h6
   split at h3
   ·rename_i hc
    rw [dp] at hc
    obtain ⟨c,x,rfl,hc⟩:=iw hc (by decide)
    exact .argC h6 (cy f _ _ _ _ _ h1) hc (cy f _ _ _ _ _ h3)
   rename_i hc
   rw [dp] at hc
   simp only [Option.some.injEq,Rs.ok.injEq] at h3
   obtain ⟨rfl,rfl,rfl⟩:=h3
   rw [List.append_nil]
   exact .argE h6 (cy f _ _ _ _ _ h1) hc
  rename_i h6
  rw [dp,Classical.not_not] at h6
  obtain ⟨t,x,rfl,h6⟩:=iw h6 (by decide)
  split at h1
  ·rename_i hw
   simp only [Option.some.injEq,Rs.ok.injEq] at h1
   obtain ⟨rfl,rfl,rfl⟩:=h1
   split at h3
   ·rename_i hc
    rw [dp] at hc
    obtain ⟨c,y,hy,hc⟩:=iw hc (by decide)
    simp only [List.drop_succ_cons,List.drop_zero] at hy
    subst hy
    exact .rngC h6 hw hc (cy f _ _ _ _ _ h3)
   rename_i hc
   rw [dp] at hc
   simp only [Option.some.injEq,Rs.ok.injEq] at h3
   obtain ⟨rfl,rfl,rfl⟩:=h3
   rw [List.append_nil]
   exact .rngE h6 hw hc
  simp at h1
-- and back
def uv (ns:List Nd):Rs→Rs
 | .bad a c=>.bad a c
 | .ok u ms m=>.ok u (ns++ms) m
theorem di {x:Option Rs} {g:List Tk→Nat→Option Rs} {ts:List Tk} {ns:List Nd} {n:Nat} {r q:Rs} (hx:x=some (.ok ts ns n)) (hg:g ts n=some r) (hq:uv ns r=q):dJ x g=some q:=by
 subst hx hq
 unfold dJ
 simp only [hg]
 cases r <;> rfl
theorem d8 {x:Option Rs} {g:List Tk→Nat→Option Rs} {a:Nat} {c:Int} (hx:x=some (.bad a c)):dJ x g=some (.bad a c):=by subst hx; rfl
theorem zY {t:Tk} {ts:List Tk} {op:Int} (h8:t.kind=8) (h:t.num=op):bE (t::ts) op=true:=by simp [bE,h8,h]
section
variable {e:Nat} {ts u:List Tk} {r:Rs} {f g:Nat}
theorem qN {k:Nat} (hk:5≤k) (h:aj e f .sg ts=some r):aj e (f+1) (.lv k) ts=some r:=by rw [aj,if_pos hk]; exact h
theorem zT {k n:Nat} {ns:List Nd} (hk:k<5) (h:aj e f (.lv (k+1)) ts=some (.ok u ns n)) (h2:aj e g (.ops k) u=some r) :
  aj e (max f g+1) (.lv k) ts=some (match r with | .bad a c=>.bad a c | .ok u ms m=>.ok u (ns++ms) m):=by
 rw [aj,if_neg (by omega)]
 exact di (dk h (Nat.le_max_left ..)) (dk h2 (Nat.le_max_right ..)) (by cases r <;> rfl)
theorem mT {k a:Nat} {c:Int} (hk:k<5) (h:aj e f (.lv (k+1)) ts=some (.bad a c)):aj e (f+1) (.lv k) ts=some (.bad a c):=by
 rw [aj,if_neg (by omega)]
 exact d8 h
theorem zU {k n:Nat} {t:Tk} {ns:List Nd} (h8:t.kind=8) (hk:aJ t.num=k) (h:aj e f (.lv (k+1)) ts=some (.ok u ns n)) (h2:aj e g (.ops k) u=some r) :
  aj e (max f g+1) (.ops k) (t::ts)=some (match r with | .bad a c=>.bad a c | .ok u ms m=>.ok u (ns++(aI t.num::ms)) m):=by
 rw [aj,if_pos ⟨h8,hk⟩,di (dk h (Nat.le_max_left ..)) (di rfl (dk h2 (Nat.le_max_right ..)) rfl) rfl]
 cases r <;> rfl
theorem tA {k a:Nat} {c:Int} {t:Tk} (h8:t.kind=8) (hk:aJ t.num=k) (h:aj e f (.lv (k+1)) ts=some (.bad a c)):aj e (f+1) (.ops k) (t::ts)=some (.bad a c):=by
 rw [aj,if_pos ⟨h8,hk⟩]
 exact d8 h
theorem vr {t:Tk} (h8:t.kind=8) (h2:t.num=2) (h:aj e f .sg ts=some r):aj e (f+1) .sg (t::ts)=some (match r with | .bad a c=>.bad a c | .ok u ns _=>.ok u (ns++[ck]) 0):=by
 rw [aj,if_pos (zY h8 h2),List.drop_succ_cons,List.drop_zero]
 cases r with
 | bad a c=>exact d8 h
 | ok u ns n=>exact di h rfl rfl
theorem xV {ns:List Nd} {n:Nat} (hn:bE ts 2=false) (h:aj e f .pc ts=some (.ok u ns n)) (h5:bE u 5=false):aj e (f+1) .sg ts=some (.ok u ns 0):=by
 rw [aj,if_neg (by rw [hn]; decide)]
 have h9:=di (g:=fun ts2 _=>if bE ts2 5 then dJ (aj e f .sg (ts2.drop 1)) fun ts3 _=>some (.ok ts3 [aI 5] 0) else some (.ok ts2 [] 0)) (r:=.ok u [] 0) h (by simp [h5]) rfl
 simpa [uv] using h9
theorem gT {a:Nat} {c:Int} (hn:bE ts 2=false) (h:aj e f .pc ts=some (.bad a c)):aj e (f+1) .sg ts=some (.bad a c):=by
 rw [aj,if_neg (by rw [hn]; decide)]
 exact d8 h
theorem vu {t:Tk} {ns:List Nd} {n:Nat} (hn:bE ts 2=false) (h:aj e f .pc ts=some (.ok (t::u) ns n)) (h8:t.kind=8) (h5:t.num=5) (h2:aj e g .sg u=some r) :
  aj e (max f g+1) .sg ts=some (match r with | .bad a c=>.bad a c | .ok u ms _=>.ok u (ns++(ms++[aI 5])) 0):=by
 rw [aj,if_neg (by rw [hn]; decide)]
 have h3:=dk h2 (Nat.le_max_right f g)
 have h4:(if bE (t::u) 5 then dJ (aj e (max f g) .sg ((t::u).drop 1)) fun ts3 _=>some (.ok ts3 [aI 5] 0) else some (.ok (t::u) [] 0))=some (match r with | .bad a c=>.bad a c | .ok v ms _=>.ok v (ms++[aI 5]) 0):=by
  rw [if_pos (zY h8 h5),List.drop_succ_cons,List.drop_zero]
  cases r with
  | bad a c=>exact d8 h3
  | ok v ms m=>exact di h3 rfl rfl
 have h9:=di (g:=fun ts2 _=>if bE ts2 5 then dJ (aj e (max f g) .sg (ts2.drop 1)) fun ts3 _=>some (.ok ts3 [aI 5] 0) else some (.ok ts2 [] 0)) (dk h (Nat.le_max_left f g)) h4 rfl
 rw [h9]
 cases r <;> rfl
theorem BP {ns:List Nd} {n:Nat} (h:aj e f .pr ts=some (.ok u ns n)):aj e (f+1) .pc ts=some (.ok (cF u).1 (ns++List.replicate (cF u).2 bS) 0):=by
 rw [aj]
 exact di h rfl rfl
theorem mU {a:Nat} {c:Int} (h:aj e f .pr ts=some (.bad a c)):aj e (f+1) .pc ts=some (.bad a c):=by
 rw [aj]
 exact d8 h
theorem AR {t:Tk} (h1:1≤t.kind) (h4:t.kind≤4):aj e (f+1) .pr (t::ts)=some (.ok ts [fF t] 0):=by rw [aj,if_pos ⟨h1,h4⟩]
theorem AQ {t:Tk} (h5:t.kind=5):aj e (f+1) .pr (t::ts)=some (.ok ts [cL t.r] 0):=by rw [aj,if_neg (by omega),if_pos h5]
theorem qO {t:Tk} (h9:t.kind=9):aj e (f+1) .pr (t::ts)=dJ (aj e f (.lv 1) ts) fun ts2 _=>if (hdS e ts2).kind=10 then some (.ok (ts2.drop 1) [] 0) else some (.bad (hdS e ts2).at_ 4):=by
 rw [aj,if_neg (by omega),if_neg (by omega),if_pos h9]
theorem nN {t o:Tk} (h7:t.kind=7) (hf:fnS t.text≠0) (ho:o.kind=9):aj e (f+1) .pr (t::o::ts)=cx e (fnS t.text) t.at_ (if hkS ts=10 then some (.ok ts [] 0) else aj e f (.args (fnS t.text) 0) ts):=by
 rw [aj,if_neg (by omega),if_neg (by omega),if_neg (by omega),if_pos h7,if_neg hf,if_neg (by simp [hdS,ho]),dp]
 simp only [List.drop_succ_cons,List.drop_zero]
theorem eu {fn i:Nat}:aj e (f+1) (.args fn i) ts=dJ (if hkS ts≠6 then aj e f (.lv 1) ts else if b8 fn i then some (.ok (ts.drop 1) [aM (hdS e ts).r] 0) else some (.bad (hdS e ts).at_ 4)) fun ts2 _ =>
   if hkS ts2=11 then aj e f (.args fn (i+1)) (ts2.drop 1) else some (.ok ts2 [] (i+1)):=by
 rw [aj]
 simp only [dp]
end
theorem Pk.open {m:Md} {ts u:List Tk} {ns:List Nd} {n:Nat} (h:Pk m ts u ns n):(∀ k,m≠.ops k)→hkS ts≠10∧ts≠[]:=by
 induction h with
 | lv5 _ _ ih=>intro _; exact ih (by simp)
 | lv _ _ _ ih _=>intro _; exact ih (by simp)
 | nil=>intro h; exact absurd rfl (h _)
 | stop=>intro h; exact absurd rfl (h _)
 | op=>intro h; exact absurd rfl (h _)
 | neg h8=>intro _; exact ⟨by simp [hkS,h8],by simp⟩
 | bare _ _ _ ih=>intro _; exact ih (by simp)
 | pow _ _ _ _ _ ih _=>intro _; exact ih (by simp)
 | pc _ ih=>intro _; exact ih (by simp)
 | val h1 h4=>intro _; exact ⟨by simp only [hkS]; omega,by simp⟩
 | ref h5=>intro _; exact ⟨by simp [hkS,h5],by simp⟩
 | par h9=>intro _; exact ⟨by simp [hkS,h9],by simp⟩
 | call h7=>intro _; exact ⟨by simp [hkS,h7],by simp⟩
 | argE _ _ _ ih=>intro _; exact ih (by simp)
 | argC _ _ _ _ ih _=>intro _; exact ih (by simp)
 | rngE h6=>intro _; exact ⟨by simp [hkS,h6],by simp⟩
 | rngC h6=>intro _; exact ⟨by simp [hkS,h6],by simp⟩
theorem ko {m:Md} {ts u:List Tk} {ns:List Nd} {n:Nat} (h:Pk m ts u ns n) (e:Nat):∃ f,aj e f m ts=some (.ok u ns n):=by
 induction h with
 | lv5 hk _ ih=>obtain ⟨f,hf⟩:=ih; exact ⟨_,qN hk hf⟩
 | lv hk _ _ ih1 ih2=>obtain ⟨f,hf⟩:=ih1; obtain ⟨g,hg⟩:=ih2; exact ⟨_,zT hk hf hg⟩
 | nil=>exact ⟨1,by rw [aj]⟩
 | stop hk=>exact ⟨1,by rw [aj,if_neg hk]⟩
 | op h8 hk _ _ ih1 ih2=>obtain ⟨f,hf⟩:=ih1; obtain ⟨g,hg⟩:=ih2; exact ⟨_,zU h8 hk hf hg⟩
 | neg h8 h2 _ ih=>obtain ⟨f,hf⟩:=ih; exact ⟨_,vr h8 h2 hf⟩
 | bare hn _ h5 ih=>obtain ⟨f,hf⟩:=ih; exact ⟨_,xV hn hf h5⟩
 | pow hn _ h8 h5 _ ih1 ih2=>obtain ⟨f,hf⟩:=ih1; obtain ⟨g,hg⟩:=ih2; exact ⟨_,vu hn hf h8 h5 hg⟩
 | pc _ ih=>obtain ⟨f,hf⟩:=ih; exact ⟨_,BP hf⟩
 | val h1 h4=>exact ⟨1,AR h1 h4⟩
 | ref h5=>exact ⟨1,AQ h5⟩
 | @par t c ts u ns n h9 _ hc ih =>
  obtain ⟨f,hf⟩:=ih
  refine ⟨f+1,?_⟩
  rw [qO h9]
  have h9:=di (g:=fun ts2 _=>if (hdS e ts2).kind=10 then some (.ok (ts2.drop 1) [] 0) else some (.bad (hdS e ts2).at_ 4)) (r:=.ok u [] 0) hf (by simp [hdS,hc]) rfl
  simpa [uv] using h9
 | @call t o c ts u ns n h7 hf ho h hc h1 h2 hd ih =>
  obtain ⟨f,hf2⟩:=ih
  refine ⟨f+1,?_⟩
  rw [nN h7 hf ho,if_neg (h.open (by simp)).1,hf2]
  simp only [cx,hdS,hc]
  rw [if_neg (by simp),if_neg (by omega),if_neg (by
   rintro ⟨h46,ha,hb⟩
   rcases hd h46 with h | h
   ·exact ha h
   exact hb h)]
  simp
 | @argE fn i ts u ns n h6 _ hc ih =>
  obtain ⟨f,hf⟩:=ih
  refine ⟨f+1,?_⟩
  rw [eu,if_pos h6]
  have h9:=di (g:=fun ts2 _=>if hkS ts2=11 then aj e f (.args fn (i+1)) (ts2.drop 1) else some (.ok ts2 [] (i+1))) (r:=.ok u [] (i+1)) hf (by simp [hc]) rfl
  simpa [uv] using h9
 | @argC fn i c ts u v ns ms n m h6 _ hc _ ih1 ih2 =>
  obtain ⟨f,hf⟩:=ih1
  obtain ⟨g,hg⟩:=ih2
  refine ⟨max f g+1,?_⟩
  rw [eu,if_pos h6]
  exact di (g:=fun ts2 _=>if hkS ts2=11 then aj e (max f g) (.args fn (i+1)) (ts2.drop 1) else some (.ok ts2 [] (i+1))) (r:=.ok v ms m) (dk hf (Nat.le_max_left ..)) (by rw [if_pos (show hkS (c::u)=11 from hc)]; exact dk hg (Nat.le_max_right ..)) rfl
 | @rngE fn i t ts h6 hw hc =>
  refine ⟨1,?_⟩
  rw [eu,if_neg (by simp [hkS,h6]),if_pos hw]
  have h9:=di (x:=some (.ok ts [aM t.r] 0)) (g:=fun ts2 _=>if hkS ts2=11 then aj e 0 (.args fn (i+1)) (ts2.drop 1) else some (.ok ts2 [] (i+1))) (r:=.ok ts [] (i+1)) rfl (by simp [hc]) rfl
  simpa [uv,hdS] using h9
 | @rngC fn i t c u v ms m h6 hw hc _ ih =>
  obtain ⟨g,hg⟩:=ih
  refine ⟨g+1,?_⟩
  rw [eu,if_neg (by simp [hkS,h6]),if_pos hw]
  exact di (x:=some (.ok (c::u) [aM t.r] 0)) (g:=fun ts2 _=>if hkS ts2=11 then aj e g (.args fn (i+1)) (ts2.drop 1) else some (.ok ts2 [] (i+1))) (r:=.ok v ms m) rfl (by rw [if_pos (show hkS (c::u)=11 from hc)]; exact hg) rfl
end
section
structure Pt where
 root:Nat
 depth:Nat
 wide:Bool
def am (n:Nd):Nat:=if n.kind=4∨n.kind=5 then 1 else if n.kind=6 then 2 else if n.kind=7 then n.n else 0
def bR (t:List Nd) (r:Nat):Nat:=(t[r]?.map (·.kind)).getD 0
def ek (n:Nd):Bool:=decide (n.kind=7)
def nV (fn:Nat):Bool:=decide (46≤fn∧fn≤50)
def dE (t:List Nd) (n:Nd) (i:Nat) (p:Pt):Bool :=
 !(p.wide && !(ek n && b8 n.fn i)) && !(ek n && nV n.fn && decide (bR t p.root≠2∧bR t p.root≠3))
def br (t:List Nd) (n:Nd):Nat→List Pt→Bool
 | _,[]=>true
 | i,p::l=>dE t n i p && br t n (i+1) l
def aX (l:List Pt):Nat:=l.foldl (fun d x=>max d (x.depth+1)) 1
def stepW (t:List Nd) (st:List Pt) (i:Nat) (n:Nd):Except Int (List Pt) :=
 if st.length<am n then .error 4
 else if br t n 0 (st.drop (st.length - am n))=false then .error 4
 else if 32<aX (st.drop (st.length - am n)) then .error 9
 else .ok (st.take (st.length - am n)++[⟨i,aX (st.drop (st.length - am n)),decide (n.kind=3)⟩])
def cQ (t:List Nd):Nat→List Nd→List Pt→Except Int (List Pt)
 | _,[],st=>.ok st
 | i,n::l,st=>match stepW t st i n with
  | .error e=>.error e
  | .ok st2=>cQ t (i+1) l st2
def lk (t:List Nd):Int:=match cQ t 0 t [] with
 | .error e=>e
 | .ok st=>if st.length=1 then 0 else 4
def de (t:List Nd):Int :=
 if 256<t.length then 5 else if t=[] then 4 else if lk t≠0 then lk t else if t.getLast?.map (·.kind)=some 3 then 4 else 0
end
section
def gw (t:Tk):Bool:=!(t.kind == 9 || t.kind == 10 || t.kind == 11)
theorem eA {t:Tk} (h9:t.kind≠9) (h10:t.kind≠10) (h11:t.kind≠11):gw t=true:=by simp [gw,h9,h10,h11]
theorem km (u:List Tk):∃ s,u=s++(cF u).1∧s.length=(cF u).2∧(∀ t∈s,t.kind=8∧t.num=13)∧bE (cF u).1 13=false:=by
 induction u with
 | nil=>exact ⟨[],rfl,rfl,by simp,rfl⟩
 | cons t u ih =>
  rw [cF]
  split
  ·rename_i h
   obtain ⟨s,h1,h2,h3,h4⟩:=ih
   refine ⟨t::s,by rw [List.cons_append,← h1],by simp [h2],?_,h4⟩
   intro x hx
   rcases List.mem_cons.1 hx with rfl | hx
   ·exact h
   exact h3 x hx
  rename_i h
  exact ⟨[],rfl,rfl,by simp,by simpa [bE] using h⟩
theorem sh (s v:List Tk) (hs:∀ t∈s,t.kind=8∧t.num=13) (hv:bE v 13=false):cF (s++v)=(v,s.length):=by
 induction s with
 | nil =>
  cases v with
  | nil=>rfl
  | cons t v=>rw [List.nil_append,cF,if_neg (by simpa [bE] using hv)]; rfl
 | cons t s ih =>
  rw [List.cons_append,cF,if_pos (hs t (by simp)),ih fun x hx=>hs x (by simp [hx])]
  rfl
theorem s6 (s:List Tk) (hs:∀ t∈s,t.kind=8∧t.num=13):s.countP gw=s.length:=by
 induction s with
 | nil=>rfl
 | cons t s ih =>
  have h:=hs t (by simp)
  rw [List.countP_cons,ih fun x hx=>hs x (by simp [hx]),if_pos (eA (by omega) (by omega) (by omega))]
  rfl
theorem Pk.count {m:Md} {ts u:List Tk} {ns:List Nd} {n:Nat} (h:Pk m ts u ns n):ts.countP gw=u.countP gw+ns.length:=by
 induction h with
 | lv5 _ _ ih=>exact ih
 | lv _ _ _ ih1 ih2=>rw [ih1,ih2,List.length_append]; omega
 | nil=>rfl
 | stop=>rfl
 | op h8 _ _ _ ih1 ih2=>rw [List.countP_cons,if_pos (eA (by omega) (by omega) (by omega)),ih1,ih2]; simp; omega
 | neg h8 _ _ ih=>rw [List.countP_cons,if_pos (eA (by omega) (by omega) (by omega)),ih]; simp; omega
 | bare _ _ _ ih=>exact ih
 | pow _ _ h8 _ _ ih1 ih2=>rw [ih1,List.countP_cons,if_pos (eA (by omega) (by omega) (by omega)),ih2]; simp; omega
 | @pc ts u ns n _ ih =>
  obtain ⟨s,h1,h2,h3,-⟩:=km u
  have h4:=congrArg (List.countP gw) h1
  rw [List.countP_append,s6 s h3] at h4
  rw [ih,h4,List.length_append,List.length_replicate,← h2]; omega
 | val h1 h4=>rw [List.countP_cons,if_pos (eA (by omega) (by omega) (by omega))]; rfl
 | ref h5=>rw [List.countP_cons,if_pos (eA (by omega) (by omega) (by omega))]; rfl
 | @par t c ts u ns n h9 _ hc ih=>rw [List.countP_cons,if_neg (by simp [gw,h9]),ih,List.countP_cons,if_neg (by simp [gw,hc])]; omega
 | @call t o c ts u ns n h7 _ ho _ hc _ _ _ ih =>
  rw [List.countP_cons,if_pos (eA (by omega) (by omega) (by omega)),List.countP_cons,if_neg (by simp [gw,ho]),ih,List.countP_cons,if_neg (by simp [gw,hc])]
  simp; omega
 | argE _ _ _ ih=>exact ih
 | @argC fn i c ts u v ns ms n m _ _ hc _ ih1 ih2=>rw [ih1,List.countP_cons,if_neg (by simp [gw,hc]),ih2]; simp; omega
 | rngE h6=>rw [List.countP_cons,if_pos (eA (by omega) (by omega) (by omega))]; rfl
 | @rngC fn i t c u v ms m h6 _ hc _ ih=>rw [List.countP_cons,if_pos (eA (by omega) (by omega) (by omega)),List.countP_cons,if_neg (by simp [gw,hc]),ih]; simp; omega
def soft (u v:List Tk):Prop:=v.head?=u.head?∨v=[]∨∃ t,v.head?=some t∧t.kind=10
theorem soft.app {u v:List Tk} (h:soft u v) (c:List Tk):soft (c++u) (c++v):=by
 cases c with
 | nil=>exact h
 | cons=>exact .inl rfl
theorem nL {u v:List Tk} (h:v.head?=u.head?):hkS v=hkS u:=by
 cases u <;> cases v <;> simp_all [hkS]
theorem nR {u v:List Tk} (h:v.head?=u.head?) (op:Int):bE v op=bE u op:=by
 cases u <;> cases v <;> simp_all [bE]
theorem soft.hk {u v:List Tk} (h:soft u v) (hu:hkS u≠11):hkS v≠11:=by
 rcases h with h | rfl | ⟨t,h,hk⟩
 ·rw [nL h]; exact hu
 ·simp [hkS]
 cases v with
 | nil=>simp at h
 | cons x v=>simp at h; subst h; simp only [hkS]; omega
theorem soft.op {u v:List Tk} (h:soft u v) {op:Int} (hu:bE u op=false):bE v op=false:=by
 rcases h with h | rfl | ⟨t,h,hk⟩
 ·rw [nR h]; exact hu
 ·rfl
 cases v with
 | nil=>simp at h
 | cons x v=>simp at h; subst h; simp [bE,hk]
theorem jt {c:List Tk} (hc:c≠[]) (u v:List Tk):(c++u).head?=(c++v).head?:=by
 cases c with
 | nil=>exact absurd rfl hc
 | cons=>rfl
theorem Pk.soft {m:Md} {ts u:List Tk} {ns:List Nd} {n:Nat} (h:Pk m ts u ns n):∃ c,ts=c++u∧((∀ k,m≠.ops k)→c≠[])∧∀ v,Go.Proofs.YthdmpajkacmkdaaGreatDoor.soft u v→Pk m (c++v) v ns n:=by
 induction h with
 | lv5 hk _ ih =>
  obtain ⟨c,h1,h2,h3⟩:=ih
  exact ⟨c,h1,fun _=>h2 (by simp),fun v hv=>.lv5 hk (h3 v hv)⟩
 | lv hk _ _ ih1 ih2 =>
  obtain ⟨c,rfl,h2,h3⟩:=ih1
  obtain ⟨d,rfl,_,h5⟩:=ih2
  refine ⟨c++d,by rw [List.append_assoc],fun _=>by have:=h2 (by simp); simp [this],fun v hv => ?_⟩
  rw [List.append_assoc]
  exact .lv hk (h3 _ (hv.app d)) (h5 v hv)
 | @nil k =>
  refine ⟨[],rfl,fun h=>absurd rfl (h _),fun v hv => ?_⟩
  cases v with
  | nil=>exact .nil
  | cons t v =>
   refine .stop fun h => ?_
   rcases hv with h9 | h9 | ⟨x,h9,hx⟩
   ·simp at h9
   ·simp at h9
   simp at h9; subst h9; omega
 | @stop k t ts hk =>
  refine ⟨[],rfl,fun h=>absurd rfl (h _),fun v hv => ?_⟩
  cases v with
  | nil=>exact .nil
  | cons x v =>
   refine .stop fun h => ?_
   rcases hv with h9 | h9 | ⟨y,h9,hy⟩
   ·simp at h9; subst h9; exact hk h
   ·simp at h9
   simp at h9; subst h9; omega
 | @op k t ts u v ns ms n m h8 hk _ _ ih1 ih2 =>
  obtain ⟨c,rfl,h2,h3⟩:=ih1
  obtain ⟨d,rfl,_,h5⟩:=ih2
  refine ⟨t::(c++d),by simp,fun _=>by simp,fun v hv => ?_⟩
  rw [List.cons_append,List.append_assoc]
  exact .op h8 hk (h3 _ (hv.app d)) (h5 v hv)
 | @neg t ts u ns n h8 h2 _ ih =>
  obtain ⟨c,rfl,_,h3⟩:=ih
  exact ⟨t::c,rfl,fun _=>by simp,fun v hv=>.neg h8 h2 (h3 v hv)⟩
 | bare hn _ h5 ih =>
  obtain ⟨c,rfl,h2,h3⟩:=ih
  have hc:=h2 (by simp)
  exact ⟨c,rfl,fun _=>hc,fun v hv=>.bare (by rw [← hn]; exact nR (jt hc _ _) 2) (h3 v hv) (hv.op h5)⟩
 | @pow t ts u v ns ms n m hn _ h8 h5 _ ih1 ih2 =>
  obtain ⟨c,rfl,h2,h3⟩:=ih1
  obtain ⟨d,rfl,_,h6⟩:=ih2
  have hc:=h2 (by simp)
  refine ⟨c++t::d,by simp,fun _=>by simp,fun v hv => ?_⟩
  rw [List.append_assoc,List.cons_append]
  exact .pow (by rw [← hn]; exact nR (jt hc _ _) 2) (h3 _ (.inl rfl)) h8 h5 (h6 v hv)
 | @pc ts u ns n _ ih =>
  obtain ⟨c,rfl,h2,h3⟩:=ih
  obtain ⟨s,h4,h5,h6,h7⟩:=km u
  have hc:=h2 (by simp)
  refine ⟨c++s,by rw [List.append_assoc,← h4],fun _=>by simp [hc],fun v hv => ?_⟩
  have h8:=Pk.pc (h3 (s++v) (by rw [h4]; exact hv.app s))
  rw [sh s v h6 (hv.op h7),h5,← List.append_assoc] at h8
  exact h8
 | @val t ts h1 h4=>exact ⟨[t],rfl,fun _=>by simp,fun v _=>.val h1 h4⟩
 | @ref t ts h5=>exact ⟨[t],rfl,fun _=>by simp,fun v _=>.ref h5⟩
 | @par t x ts u ns n h9 _ hx ih =>
  obtain ⟨c,rfl,h2,h3⟩:=ih
  refine ⟨t::(c++[x]),by simp,fun _=>by simp,fun v _ => ?_⟩
  rw [List.cons_append,List.append_assoc]
  exact .par h9 (h3 (x::v) (.inl rfl)) hx
 | @call t o x ts u ns n h7 hf ho _ hx h1 h2 hd ih =>
  obtain ⟨c,rfl,_,h3⟩:=ih
  refine ⟨t::o::(c++[x]),by simp,fun _=>by simp,fun v _ => ?_⟩
  rw [List.cons_append,List.cons_append,List.append_assoc]
  exact .call h7 hf ho (h3 (x::v) (.inl rfl)) hx h1 h2 hd
 | argE h6 _ hc ih =>
  obtain ⟨c,rfl,h2,h3⟩:=ih
  have hc2:=h2 (by simp)
  exact ⟨c,rfl,fun _=>hc2,fun v hv=>.argE (by rw [← nL (jt hc2 _ v)]; exact h6) (h3 v hv) (hv.hk hc)⟩
 | @argC fn i x ts u v ns ms n m h6 _ hx _ ih1 ih2 =>
  obtain ⟨c,rfl,h2,h3⟩:=ih1
  obtain ⟨d,rfl,_,h5⟩:=ih2
  have hc2:=h2 (by simp)
  refine ⟨c++x::d,by simp,fun _=>by simp,fun v hv => ?_⟩
  rw [List.append_assoc,List.cons_append]
  exact .argC (by rw [← nL (jt hc2 _ (x::(d++v)))]; exact h6) (h3 _ (.inl rfl)) hx (h5 v hv)
 | @rngE fn i t ts h6 hw hc=>exact ⟨[t],rfl,fun _=>by simp,fun v hv=>.rngE h6 hw (hv.hk hc)⟩
 | @rngC fn i t x u v ms m h6 hw hx _ ih =>
  obtain ⟨c,rfl,_,h3⟩:=ih
  exact ⟨t::x::c,rfl,fun _=>by simp,fun v hv=>.rngC h6 hw hx (h3 v hv)⟩
theorem Pk.ops_stop {k:Nat} {ts:List Tk} (h:ts=[]∨∃ t,ts.head?=some t∧t.kind≠8):Pk (.ops k) ts ts [] 0:=by
 cases ts with
 | nil=>exact .nil
 | cons t ts =>
  rcases h with h | ⟨x,h,hx⟩
  ·simp at h
  simp at h; subst h; exact .stop fun h=>hx h.1
theorem Pk.up {ts u:List Tk} {ns:List Nd} {n:Nat} (h:Pk .sg ts u ns n) (hu:u=[]∨∃ t,u.head?=some t∧t.kind≠8):Pk (.lv 1) ts u ns 0:=by
 have h5:Pk (.lv 5) ts u ns n:=.lv5 (Nat.le_refl _) h
 have h4:Pk (.lv 4) ts u ns 0:=by simpa using Pk.lv (k:=4) (by omega) h5 (Pk.ops_stop hu)
 have h3:Pk (.lv 3) ts u ns 0:=by simpa using Pk.lv (k:=3) (by omega) h4 (Pk.ops_stop hu)
 have h2:Pk (.lv 2) ts u ns 0:=by simpa using Pk.lv (k:=2) (by omega) h3 (Pk.ops_stop hu)
 simpa using Pk.lv (k:=1) (by omega) h2 (Pk.ops_stop hu)
def evN (x:Nd) (st:List Nat):List Nat:=st.take (st.length - am x)++[(st.drop (st.length - am x)).foldl (fun d y=>max d (y+1)) 1]
def ev:List Nd→List Nat→List Nat
 | [],st=>st
 | x::l,st=>ev l (evN x st)
theorem gI (a b:List Nd) (st:List Nat):ev (a++b) st=ev b (ev a st):=by
 induction a generalizing st with
 | nil=>rfl
 | cons x a ih=>exact ih _
theorem uO {x:Nd} (h:am x=1) (st:List Nat) (a:Nat):evN x (st++[a])=st++[max 1 (a+1)]:=by simp [evN,h]
theorem uP {x:Nd} (h:am x=2) (st:List Nat) (a b:Nat):evN x (st++[a]++[b])=st++[max (max 1 (a+1)) (b+1)]:=by simp [evN,h]
theorem lw {x:Nd} (h:am x=0) (st:List Nat):evN x st=st++[1]:=by simp [evN,h]
theorem xj {x:Nd} (st ds:List Nat) (h:am x=ds.length):evN x (st++ds)=st++[ds.foldl (fun d y=>max d (y+1)) 1]:=by simp [evN,h]
theorem Ak (n:Nat) (st:List Nat) (a:Nat):ev (List.replicate n bS) (st++[a])=st++[a+n]:=by
 induction n generalizing a with
 | zero=>rfl
 | succ n ih =>
  rw [List.replicate_succ,ev,uO (by simp [am,bS]),ih]
  congr 2
  omega
end
section
def Dep (ns:List Nd) (d:Nat):Prop:=∀ st,ev ns st=st++[d]
def p6 (ns:List Nd) (F:Nat→Nat):Prop:=∀ x st,ev ns (st++[x])=st++[F x]
def CI (m:Md) (ns:List Nd) (n:Nat):Prop:=match m with
 | .ops _=>∃ F,p6 ns F∧∀ x y,x≤y→x≤F x∧F x≤F y
 | .args _ i=>∃ ds:List Nat,ds.length+i=n∧∀ st,ev ns st=st++ds
 | .lv _=>∃ d,Dep ns d
 | .sg=>∃ d,Dep ns d
 | .pc=>∃ d,Dep ns d
 | .pr=>∃ d,Dep ns d
theorem jo {ns ms:List Nd} {a b:Nat} (op:Int) (ha:Dep ns a) (hb:Dep ms b):Dep (ns++(ms++[aI op])) (max (max 1 (a+1)) (b+1)):=by
 intro st
 rw [gI,ha,gI,hb,ev,uP (by simp [am,aI]),ev]
theorem jZ {ns ms:List Nd} {b:Nat} {F:Nat→Nat} (op:Int) (hb:Dep ns b) (hF:p6 ms F):p6 (ns++(aI op::ms)) (fun x=>F (max (max 1 (x+1)) (b+1))):=by
 intro x st
 rw [gI,hb,ev,uP (by simp [am,aI]),hF]
theorem nD {ns:List Nd} {a:Nat} (ha:Dep ns a):Dep (ns++[ck]) (a+1):=by
 intro st
 rw [gI,ha,ev,uO (by simp [am,ck]),ev,Nat.max_eq_right (by omega)]
theorem jq {ns:List Nd} {a:Nat} (k:Nat) (ha:Dep ns a):Dep (ns++List.replicate k bS) (a+k):=by
 intro st
 rw [gI,ha,Ak]
theorem lM {ns ms:List Nd} {a:Nat} {F:Nat→Nat} (ha:Dep ns a) (hF:p6 ms F):Dep (ns++ms) (F a):=by
 intro st
 rw [gI,ha,hF]
theorem jp:p6 [] (fun x=>x):=fun _ _=>rfl
theorem Pk.dep {m:Md} {ts u:List Tk} {ns:List Nd} {n:Nat} (h:Pk m ts u ns n):CI m ns n:=by
 induction h with
 | lv5 _ _ ih=>exact ih
 | lv _ _ _ ih1 ih2 =>
  obtain ⟨d,hd⟩:=ih1
  obtain ⟨F,hF,_⟩:=ih2
  exact ⟨_,lM hd hF⟩
 | nil=>exact ⟨_,jp,fun _ _ h=>⟨Nat.le_refl _,h⟩⟩
 | stop=>exact ⟨_,jp,fun _ _ h=>⟨Nat.le_refl _,h⟩⟩
 | op _ _ _ _ ih1 ih2 =>
  obtain ⟨d,hd⟩:=ih1
  obtain ⟨F,hF,hm⟩:=ih2
  refine ⟨_,jZ _ hd hF,fun x y h => ?_⟩
  have h1:=hm (max (max 1 (x+1)) (d+1)) (max (max 1 (y+1)) (d+1)) (by omega)
  omega
 | neg _ _ _ ih=>obtain ⟨d,hd⟩:=ih; exact ⟨_,nD hd⟩
 | bare _ _ _ ih=>exact ih
 | pow _ _ _ _ _ ih1 ih2 =>
  obtain ⟨d,hd⟩:=ih1
  obtain ⟨b,hb⟩:=ih2
  exact ⟨_,jo 5 hd hb⟩
 | pc _ ih=>obtain ⟨d,hd⟩:=ih; exact ⟨_,jq _ hd⟩
 | val=>exact ⟨1,fun st=>lw (by simp [am,fF]) st⟩
 | ref=>exact ⟨1,fun st=>lw (by simp [am,cL]) st⟩
 | par _ _ _ ih=>exact ih
 | @call t o c ts u ns n _ _ _ _ _ _ _ _ ih =>
  obtain ⟨ds,hl,hds⟩:=ih
  refine ⟨ds.foldl (fun d y=>max d (y+1)) 1,fun st => ?_⟩
  rw [gI,hds,ev,xj _ _ (by simp [am,bI]; omega),ev]
 | argE _ _ _ ih=>obtain ⟨d,hd⟩:=ih; exact ⟨[d],by simp; omega,hd⟩
 | argC _ _ _ _ ih1 ih2 =>
  obtain ⟨d,hd⟩:=ih1
  obtain ⟨ds,hl,hds⟩:=ih2
  refine ⟨d::ds,by simp; omega,fun st => ?_⟩
  rw [gI,hd,hds,List.append_assoc]; rfl
 | rngE=>exact ⟨[1],by simp; omega,fun st=>lw (by simp [am,aM]) st⟩
 | rngC _ _ _ _ ih =>
  obtain ⟨ds,hl,hds⟩:=ih
  refine ⟨1::ds,by simp; omega,fun st => ?_⟩
  rw [ev,lw (by simp [am,aM]),hds,List.append_assoc]; rfl
def leD (a b:List Nd):Prop:=∃ x y,Dep a x∧Dep b y∧x≤y
def leF (a b:List Nd):Prop:=∃ F G,p6 a F∧p6 b G∧∀ x y,x≤y→F x≤G y
def LeM (m:Md) (a b:List Nd):Prop:=match m with
 | .ops _=>leF a b
 | .args _ _=>True
 | .lv _=>leD a b
 | .sg=>leD a b
 | .pc=>leD a b
 | .pr=>leD a b
def Cut (e:Nat) (m:Md) (p:List Tk) (ns:List Nd):Prop:=(∃ f,aj e f m p=some (.bad e 4))∨∃ ns' n',Pk m p [] ns' n'∧LeM m ns' ns
section
variable {e:Nat}
theorem lG:aj e 1 .pr []=some (.bad e 4):=by rw [aj]
theorem Ac:aj e 2 .pc []=some (.bad e 4):=mU lG
theorem ut:aj e 3 .sg []=some (.bad e 4):=gT rfl Ac
theorem uq:∀ d k:Nat,5 - k=d→∃ f,aj e f (.lv k) []=some (.bad e 4)
 | 0,k,h=>⟨4,qN (by omega) ut⟩
 | d+1,k,h=>by
  obtain ⟨f,hf⟩:=uq d (k+1) (by omega)
  exact ⟨_,mT (by omega) hf⟩
theorem oo (fn i:Nat):∃ f,aj e f (.args fn i) []=some (.bad e 4):=by
 obtain ⟨f,hf⟩:=uq (e:=e) 4 1 rfl
 refine ⟨f+1,?_⟩
 rw [eu,if_pos (by simp [hkS])]
 exact d8 hf
theorem sW {fn a x:Nat} {c:Int} {r:Option Rs} (h:r=some (.bad x c)):cx e fn a r=some (.bad x c):=by subst h; rfl
theorem sX {fn a n:Nat} {ns:List Nd} {r:Option Rs} (h:r=some (.ok [] ns n)):cx e fn a r=some (.bad e 4):=by subst h; simp [cx,hdS]
end
theorem jO (r w:List Tk):Go.Proofs.YthdmpajkacmkdaaGreatDoor.soft (r++w) r:=by
 cases r with
 | nil=>exact .inr (.inl rfl)
 | cons=>exact .inl rfl
theorem vO {p w:List Tk} {op:Int} (h:bE (p++w) op=false):bE p op=false:=(jO p w).op h
theorem qS {p w:List Tk} {k:Nat} (h:hkS (p++w)≠k) (hk:k≠0):hkS p≠k:=by
 cases p with
 | nil=>simp only [hkS]; omega
 | cons=>exact h
theorem dU {a b p q:List Tk} (h:a++b=p++q):(∃ r,p=a++r∧b=r++q)∨∃ r,r≠[]∧a=p++r∧q=r++b:=by
 rcases List.append_eq_append_iff.1 h with ⟨r,h1,h2⟩ | ⟨r,h1,h2⟩
 ·exact .inl ⟨r,h1,h2⟩
 cases r with
 | nil=>exact .inl ⟨[],by simpa using h1.symm,by simpa using h2.symm⟩
 | cons x r=>exact .inr ⟨x::r,by simp,h1,h2⟩
theorem o3 {a p q:List Tk} {c:Tk} (h:a++[c]=p++q) (hq:q≠[]):p=a∨∃ r,r≠[]∧a=p++r:=by
 rcases dU h with ⟨r,h1,h2⟩ | ⟨r,h1,h2,_⟩
 ·cases r with
  | nil=>exact .inl (by simpa using h1)
  | cons x r =>
   simp only [List.cons_append,List.cons.injEq] at h2
   have:=List.append_eq_nil_iff.1 h2.2.symm
   exact absurd this.2 hq
 exact .inr ⟨r,h1,h2⟩
theorem Pk.cut {m:Md} {ts u:List Tk} {ns:List Nd} {n:Nat} (h:Pk m ts u ns n) (e:Nat):∀ p q,ts=p++(q++u)→q≠[]→Cut e m p ns:=by
 induction h with
 | lv5 hk _ ih =>
  intro p q e1 hq
  rcases ih p q e1 hq with ⟨f,hf⟩ | ⟨ns',n',h1,h2⟩
  ·exact .inl ⟨_,qN hk hf⟩
  exact .inr ⟨_,_,.lv5 hk h1,h2⟩
 | @lv k ts u v ns ms n m hk h g ih1 ih2 =>
  intro p q e1 hq
  obtain ⟨c,e2,_,h3⟩:=h.soft
  obtain ⟨d,e3,_,_⟩:=g.soft
  obtain ⟨G,hG,hm⟩:=g.dep
  subst e2 e3
  have e4:c++d=p++q:=List.append_cancel_right (bs:=v) (by simpa using e1)
  rcases dU e4 with ⟨r,rfl,rfl⟩ | ⟨r,hr,rfl,rfl⟩
  ·have hp:=h3 r (by rw [List.append_assoc]; exact jO r (q++v))
   rcases ih2 r q (by simp) hq with ⟨f,hf⟩ | ⟨ns',n',h1,F,G2,hF,hG2,hl⟩
   ·obtain ⟨f2,hf2⟩:=ko hp e
    exact .inl ⟨_,zT hk hf2 hf⟩
   obtain ⟨y,hy⟩:=h.dep
   exact .inr ⟨_,_,.lv hk hp h1,_,_,lM hy hF,lM hy hG2,hl y y (Nat.le_refl _)⟩
  rcases ih1 p r (by simp) hr with ⟨f,hf⟩ | ⟨ns',n',h1,x,y,hx,hy,hl⟩
  ·exact .inl ⟨_,mT hk hf⟩
  have:=(hm y y (Nat.le_refl _)).1
  exact .inr ⟨_,_,.lv hk h1 .nil,_,_,lM hx jp,lM hy hG,by omega⟩
 | nil =>
  intro p q e1 hq
  simp at e1
  exact absurd e1.2 hq
 | stop =>
  intro p q e1 hq
  have:=congrArg List.length e1
  simp at this
  exact absurd (List.length_eq_zero_iff.1 (by omega)) hq
 | @op k t ts u v ns ms n m h8 hk h g ih1 ih2 =>
  intro p q e1 hq
  obtain ⟨G,hG,hm⟩:=g.dep
  obtain ⟨b,hb⟩:=h.dep
  cases p with
  | nil =>
   refine .inr ⟨_,_,.nil,_,_,jp,jZ _ hb hG,fun x y hxy => ?_⟩
   have:=(hm (max (max 1 (y+1)) (b+1)) _ (Nat.le_refl _)).1
   omega
  | cons t' p =>
   simp only [List.cons_append,List.cons.injEq] at e1
   obtain ⟨rfl,e1⟩:=e1
   obtain ⟨c,e2,_,h3⟩:=h.soft
   obtain ⟨d,e3,_,_⟩:=g.soft
   subst e2 e3
   have e4:c++d=p++q:=List.append_cancel_right (bs:=v) (by simpa using e1)
   rcases dU e4 with ⟨r,rfl,rfl⟩ | ⟨r,hr,rfl,rfl⟩
   ·have hp:=h3 r (by rw [List.append_assoc]; exact jO r (q++v))
    rcases ih2 r q (by simp) hq with ⟨f,hf⟩ | ⟨ns',n',h1,F,G2,hF,hG2,hl⟩
    ·obtain ⟨f2,hf2⟩:=ko hp e
     exact .inl ⟨_,zU h8 hk hf2 hf⟩
    exact .inr ⟨_,_,.op h8 hk hp h1,_,_,jZ _ hb hF,jZ _ hb hG2,fun x y hxy=>hl _ _ (by omega)⟩
   rcases ih1 p r (by simp) hr with ⟨f,hf⟩ | ⟨ns',n',h1,x,y,hx,hy,hl⟩
   ·exact .inl ⟨_,tA h8 hk hf⟩
   refine .inr ⟨_,_,.op h8 hk h1 .nil,_,_,jZ _ hx jp,jZ _ hy hG,fun a b hab => ?_⟩
   have:=(hm (max (max 1 (b+1)) (y+1)) _ (Nat.le_refl _)).1
   omega
 | @neg t ts u ns n h8 h2 h ih =>
  intro p q e1 hq
  cases p with
  | nil=>exact .inl ⟨_,ut⟩
  | cons t' p =>
   simp only [List.cons_append,List.cons.injEq] at e1
   obtain ⟨rfl,e1⟩:=e1
   rcases ih p q e1 hq with ⟨f,hf⟩ | ⟨ns',n',h1,x,y,hx,hy,hl⟩
   ·exact .inl ⟨_,vr h8 h2 hf⟩
   exact .inr ⟨_,_,.neg h8 h2 h1,_,_,nD hx,nD hy,by omega⟩
 | @bare ts u ns n hn h h5 ih =>
  intro p q e1 hq
  have hp:=vO (p:=p) (w:=q++u) (by rw [← e1]; exact hn)
  rcases ih p q e1 hq with ⟨f,hf⟩ | ⟨ns',n',h1,h2⟩
  ·exact .inl ⟨_,gT hp hf⟩
  exact .inr ⟨_,_,.bare hp h1 rfl,h2⟩
 | @pow t ts u v ns ms n m hn h h8 h5 g ih1 ih2 =>
  intro p q e1 hq
  have hp2:=vO (p:=p) (w:=q++v) (by rw [← e1]; exact hn)
  obtain ⟨c,e2,_,h3⟩:=h.soft
  obtain ⟨d,e3,_,_⟩:=g.soft
  obtain ⟨b,hb⟩:=g.dep
  subst e2 e3
  have e4:c++t::d=p++q:=List.append_cancel_right (bs:=v) (by simpa using e1)
  rcases dU e4 with ⟨r,rfl,e5⟩ | ⟨r,hr,rfl,rfl⟩
  ·cases r with
   | nil =>
    obtain ⟨y,hy⟩:=h.dep
    have h9:=h3 [] (.inr (.inl rfl))
    rw [List.append_nil] at h9 hp2 ⊢
    exact .inr ⟨_,_,.bare hp2 h9 rfl,_,_,hy,jo 5 hy hb,by omega⟩
   | cons t' r =>
    simp only [List.cons_append,List.cons.injEq] at e5
    obtain ⟨rfl,rfl⟩:=e5
    have hp:=h3 (t::r) (.inl rfl)
    rcases ih2 r q (by simp) hq with ⟨f,hf⟩ | ⟨ns',n',h1,x,y,hx,hy,hl⟩
    ·obtain ⟨f2,hf2⟩:=ko hp e
     exact .inl ⟨_,vu hp2 hf2 h8 h5 hf⟩
    obtain ⟨z,hz⟩:=h.dep
    exact .inr ⟨_,_,.pow hp2 hp h8 h5 h1,_,_,jo 5 hz hx,jo 5 hz hy,by omega⟩
  rcases ih1 p r (by simp) hr with ⟨f,hf⟩ | ⟨ns',n',h1,x,y,hx,hy,hl⟩
  ·exact .inl ⟨_,gT hp2 hf⟩
  exact .inr ⟨_,_,.bare hp2 h1 rfl,_,_,hx,jo 5 hy hb,by omega⟩
 | @pc ts u ns n h ih =>
  intro p q e1 hq
  obtain ⟨c,e2,_,h3⟩:=h.soft
  obtain ⟨s,e3,h5,h6,h7⟩:=km u
  obtain ⟨z,hz⟩:=h.dep
  subst e2
  have e4:c++s=p++q:=List.append_cancel_right (bs:=(cF u).1) (by rw [List.append_assoc,← e3]; simpa using e1)
  rcases dU e4 with ⟨r,rfl,rfl⟩ | ⟨r,hr,rfl,rfl⟩
  ·have hp:=h3 r (by rw [e3,List.append_assoc]; exact jO r _)
   have h8:=sh r [] (fun t ht=>h6 t (by simp [ht])) rfl
   rw [List.append_nil] at h8
   have h9:=Pk.pc hp
   rw [h8] at h9
   rw [List.length_append] at h5
   exact .inr ⟨_,_,h9,_,_,jq _ hz,jq _ hz,by simp only []; omega⟩
  rcases ih p r (by simp) hr with ⟨f,hf⟩ | ⟨ns',n',h1,x,y,hx,hy,hl⟩
  ·exact .inl ⟨_,mU hf⟩
  exact .inr ⟨_,_,Pk.pc h1,_,_,jq 0 hx,jq _ hy,by omega⟩
 | @val t ts h1 h4 =>
  intro p q e1 hq
  cases p with
  | nil=>exact .inl ⟨_,lG⟩
  | cons t' p =>
   have:=congrArg List.length e1
   simp at this
   exact absurd (List.length_eq_zero_iff.1 (by omega)) hq
 | @ref t ts h5 =>
  intro p q e1 hq
  cases p with
  | nil=>exact .inl ⟨_,lG⟩
  | cons t' p =>
   have:=congrArg List.length e1
   simp at this
   exact absurd (List.length_eq_zero_iff.1 (by omega)) hq
 | @par t c ts u ns n h9 h hc ih =>
  intro p q e1 hq
  cases p with
  | nil=>exact .inl ⟨_,lG⟩
  | cons t' p =>
   simp only [List.cons_append,List.cons.injEq] at e1
   obtain ⟨rfl,e1⟩:=e1
   obtain ⟨d,e2,_,h3⟩:=h.soft
   subst e2
   have e4:d++[c]=p++q:=List.append_cancel_right (bs:=u) (by simpa using e1)
   have key:∀ ns' n',Pk (.lv 1) p [] ns' n'→Cut e .pr (t::p) ns:=by
    intro ns' n' hp
    obtain ⟨f,hf⟩:=ko hp e
    refine .inl ⟨f+1,?_⟩
    rw [qO h9]
    exact di hf (r:=.bad e 4) (by simp [hdS]) rfl
   rcases o3 e4 hq with rfl | ⟨r,hr,rfl⟩
   ·have h9:=h3 [] (.inr (.inl rfl))
    rw [List.append_nil] at h9
    exact key _ _ h9
   rcases ih p r (by simp) hr with ⟨f,hf⟩ | ⟨ns',n',h1,_⟩
   ·refine .inl ⟨f+1,?_⟩
    rw [qO h9]
    exact d8 hf
   exact key _ _ h1
 | @call t o c ts u ns n h7 hf ho h hc h1 h2 hd ih =>
  intro p q e1 hq
  cases p with
  | nil=>exact .inl ⟨_,lG⟩
  | cons t' p =>
   simp only [List.cons_append,List.cons.injEq] at e1
   obtain ⟨rfl,e1⟩:=e1
   cases p with
   | nil =>
    refine .inl ⟨1,?_⟩
    rw [aj,if_neg (by omega),if_neg (by omega),if_neg (by omega),if_pos h7,if_neg hf,if_pos (by simp [hdS])]
    rfl
   | cons o' p =>
    simp only [List.cons_append,List.cons.injEq] at e1
    obtain ⟨rfl,e1⟩:=e1
    obtain ⟨d,e2,_,h3⟩:=h.soft
    have h10:=qS (k:=10) (p:=p) (w:=q++u) (by rw [← e1]; exact (h.open (by simp)).1) (by omega)
    subst e2
    have e4:d++[c]=p++q:=List.append_cancel_right (bs:=u) (by simpa using e1)
    have key:∀ ns' n',Pk (.args (fnS t.text) 0) p [] ns' n'→Cut e .pr (t::o::p) (ns++[bI (fnS t.text) n]):=by
     intro ns' n' hp
     obtain ⟨f,hf9⟩:=ko hp e
     refine .inl ⟨f+1,?_⟩
     rw [nN h7 hf ho,if_neg h10]
     exact sX hf9
    rcases o3 e4 hq with rfl | ⟨r,hr,rfl⟩
    ·have h9:=h3 [] (.inr (.inl rfl))
     rw [List.append_nil] at h9
     exact key _ _ h9
    rcases ih p r (by simp) hr with ⟨f,hf9⟩ | ⟨ns',n',h1,_⟩
    ·refine .inl ⟨f+1,?_⟩
     rw [nN h7 hf ho,if_neg h10]
     exact sW hf9
    exact key _ _ h1
 | @argE fn i ts u ns n h6 h hc ih =>
  intro p q e1 hq
  have hp:=qS (k:=6) (p:=p) (w:=q++u) (by rw [← e1]; exact h6) (by omega)
  rcases ih p q e1 hq with ⟨f,hf⟩ | ⟨ns',n',h1,_⟩
  ·refine .inl ⟨f+1,?_⟩
   rw [eu,if_pos hp]
   exact d8 hf
  exact .inr ⟨_,_,.argE hp h1 (by simp [hkS]),trivial⟩
 | @argC fn i x ts u v ns ms n m h6 h hx g ih1 ih2 =>
  intro p q e1 hq
  have hp6:=qS (k:=6) (p:=p) (w:=q++v) (by rw [← e1]; exact h6) (by omega)
  obtain ⟨c,e2,_,h3⟩:=h.soft
  obtain ⟨d,e3,_,_⟩:=g.soft
  subst e2 e3
  have e4:c++x::d=p++q:=List.append_cancel_right (bs:=v) (by simpa using e1)
  rcases dU e4 with ⟨r,rfl,e5⟩ | ⟨r,hr,rfl,rfl⟩
  ·cases r with
   | nil =>
    have h9:=h3 [] (.inr (.inl rfl))
    rw [List.append_nil] at h9 hp6 ⊢
    exact .inr ⟨_,_,.argE hp6 h9 (by simp [hkS]),trivial⟩
   | cons x' r =>
    simp only [List.cons_append,List.cons.injEq] at e5
    obtain ⟨rfl,rfl⟩:=e5
    have hp:=h3 (x::r) (.inl rfl)
    rcases ih2 r q (by simp) hq with ⟨f,hf⟩ | ⟨ns',n',h1,_⟩
    ·obtain ⟨f2,hf2⟩:=ko hp e
     refine .inl ⟨max f2 f+1,?_⟩
     rw [eu,if_pos hp6]
     exact di (dk hf2 (Nat.le_max_left ..)) (r:=.bad e 4) (by rw [if_pos (show hkS (x::r)=11 from hx)]; exact dk hf (Nat.le_max_right ..)) rfl
    exact .inr ⟨_,_,.argC hp6 hp hx h1,trivial⟩
  rcases ih1 p r (by simp) hr with ⟨f,hf⟩ | ⟨ns',n',h1,_⟩
  ·refine .inl ⟨f+1,?_⟩
   rw [eu,if_pos hp6]
   exact d8 hf
  exact .inr ⟨_,_,.argE hp6 h1 (by simp [hkS]),trivial⟩
 | @rngE fn i t ts h6 hw hc =>
  intro p q e1 hq
  cases p with
  | nil=>exact .inl (oo fn i)
  | cons t' p =>
   have:=congrArg List.length e1
   simp at this
   exact absurd (List.length_eq_zero_iff.1 (by omega)) hq
 | @rngC fn i t x u v ms m h6 hw hx g ih =>
  intro p q e1 hq
  cases p with
  | nil=>exact .inl (oo fn i)
  | cons t' p =>
   simp only [List.cons_append,List.cons.injEq] at e1
   obtain ⟨rfl,e1⟩:=e1
   cases p with
   | nil=>exact .inr ⟨_,_,.rngE h6 hw (by simp [hkS]),trivial⟩
   | cons x' p =>
    simp only [List.cons_append,List.cons.injEq] at e1
    obtain ⟨rfl,e1⟩:=e1
    rcases ih p q e1 hq with ⟨f,hf⟩ | ⟨ns',n',h1,_⟩
    ·refine .inl ⟨f+1,?_⟩
     rw [eu,if_neg (by simp [hkS,h6]),if_pos hw]
     exact di (x:=some (.ok (x::p) [aM t.r] 0)) rfl (r:=.bad e 4) (by rw [if_pos (show hkS (x::p)=11 from hx)]; exact hf) rfl
    exact .inr ⟨_,_,.rngC h6 hw hx h1,trivial⟩
end
section
theorem oI {α:Type} (a:List α) (x:α) (b:List α):(a++x::b).getLast?=(x::b).getLast?:=by rw [List.getLast?_append]; cases h:(x::b).getLast? with
 | none=>simp at h
 | some y=>rfl
theorem Pk.last {m:Md} {ts u:List Tk} {ns:List Nd} {n:Nat} (h:Pk m ts u ns n):(∀ fn i,m≠.args fn i)→ns.getLast?.map (·.kind)≠some 3:=by
 induction h with
 | lv5 _ _ ih=>intro _; exact ih (by simp)
 | @lv k ts u v ns ms n m _ _ _ ih1 ih2 =>
  intro _
  cases hm:ms with
  | nil=>rw [List.append_nil]; exact ih1 (by simp)
  | cons x ms =>
   have:=ih2 (by simp)
   rw [hm] at this
   rw [oI]
   exact this
 | nil=>intro _; simp
 | stop=>intro _; simp
 | @op k t ts u v ns ms n m _ _ _ _ ih1 ih2 =>
  intro _
  rw [oI]
  cases hm:ms with
  | nil=>simp [aI]
  | cons x ms =>
   have:=ih2 (by simp)
   rw [hm] at this
   rw [List.getLast?_cons_cons]
   exact this
 | neg=>intro _; simp [ck]
 | bare _ _ _ ih=>intro _; exact ih (by simp)
 | pow=>intro _; rw [← List.append_assoc]; simp [aI]
 | @pc ts u ns n _ ih =>
  intro _
  cases hk:(cF u).2 with
  | zero=>simpa using ih (by simp)
  | succ k=>rw [List.replicate_succ',← List.append_assoc]; simp [bS]
 | val=>intro _; simp [fF]
 | ref=>intro _; simp [cL]
 | par _ _ _ ih=>intro _; exact ih (by simp)
 | call=>intro _; simp [bI]
 | argE=>intro h; exact absurd rfl (h _ _)
 | argC=>intro h; exact absurd rfl (h _ _)
 | rngE=>intro h; exact absurd rfl (h _ _)
 | rngC=>intro h; exact absurd rfl (h _ _)
end
section
def Tk.bare (t:Tk):Tk:={ t with at_:=0 }
def Ah:Rs→Except Int (List Tk×List Nd×Nat)
 | .bad _ c=>.error c
 | .ok ts ns n=>.ok (ts.map Tk.bare,ns,n)
def Eqv (x y:Option Rs):Prop:=x.map Ah=y.map Ah
theorem Eqv.none_:Eqv none none:=rfl
theorem Eqv.bad {a b:Nat} {c:Int}:Eqv (some (.bad a c)) (some (.bad b c)):=rfl
theorem Eqv.ok {ts us:List Tk} {ns:List Nd} {n:Nat} (h:ts.map Tk.bare=us.map Tk.bare):Eqv (some (.ok ts ns n)) (some (.ok us ns n)):=by
 simp only [Eqv,Option.map_some,Ah,h]
def sI (e:Nat) (ts:List Tk) (a:Nat):Prop:=a=e∨∃ t∈ts,a=t.at_
theorem sI.sub {e a:Nat} {ts us:List Tk} (h:sI e us a) (hs:∀ t∈us,t∈ts):sI e ts a:=by
 rcases h with h | ⟨t,ht,h⟩
 ·exact .inl h
 exact .inr ⟨t,hs t ht,h⟩
theorem jx {e:Nat} (ts:List Tk):sI e ts (hdS e ts).at_:=by
 cases ts with
 | nil=>exact .inl rfl
 | cons t ts=>exact .inr ⟨t,by simp,rfl⟩
theorem bC {x:Option Rs} {g:List Tk→Nat→Option Rs} {a:Nat} {c:Int} (h:dJ x g=some (.bad a c)) :
  x=some (.bad a c)∨∃ ts ns n,x=some (.ok ts ns n)∧g ts n=some (.bad a c):=by
 unfold dJ at h
 split at h
 ·simp at h
 ·exact .inl h
 rename_i ts ns n
 split at h
 ·simp at h
 ·rename_i a' c' hg; exact .inr ⟨ts,ns,n,rfl,by rw [hg]; exact h⟩
 simp at h
theorem iD {e f:Nat} {m:Md} {ts u:List Tk} {ns:List Nd} {n:Nat} (h:aj e f m ts=some (.ok u ns n)):∀ t∈u,t∈ts:=by
 obtain ⟨c,rfl,_⟩:=(cy _ _ _ _ _ _ h).soft
 intro t ht
 simp [ht]
theorem eL {ts:List Tk}:∀ t∈ts.drop 1,t∈ts:=fun _ h=>List.mem_of_mem_drop h
def Code (c:Int):Prop:=c=4∨c=10∨c=11
theorem cN {e:Nat}:∀ (f:Nat) (m:Md) (ts:List Tk) (a:Nat) (c:Int),aj e f m ts=some (.bad a c)→sI e ts a∧Code c
 | 0,_,_,_,_,h=>by simp [aj] at h
 | f+1,.lv k,ts,a,c,h=>by
  rw [aj] at h
  split at h
  ·exact cN f _ _ _ _ h
  rcases bC h with h | ⟨u,ns,n,h1,h2⟩
  ·exact cN f _ _ _ _ h
  obtain ⟨h3,h4⟩:=cN f _ _ _ _ h2
  exact ⟨h3.sub (iD h1),h4⟩
 | f+1,.ops k,[],a,c,h=>by simp [aj] at h
 | f+1,.ops k,t::ts,a,c,h=>by
  rw [aj] at h
  split at h
  ·rcases bC h with h | ⟨u,ns,n,h1,h2⟩
   ·obtain ⟨h3,h4⟩:=cN f _ _ _ _ h
    exact ⟨h3.sub fun t ht=>by simp [ht],h4⟩
   rcases bC h2 with h2 | ⟨u2,ns2,n2,h5,h6⟩
   ·simp at h2
   simp only [Option.some.injEq,Rs.ok.injEq] at h5
   obtain ⟨rfl,_,_⟩:=h5
   obtain ⟨h3,h4⟩:=cN f _ _ _ _ h6
   exact ⟨h3.sub fun t ht=>by simp [iD h1 t ht],h4⟩
  simp at h
 | f+1,.sg,ts,a,c,h=>by
  rw [aj] at h
  split at h
  ·rcases bC h with h | ⟨u,ns,n,h1,h2⟩
   ·obtain ⟨h3,h4⟩:=cN f _ _ _ _ h
    exact ⟨h3.sub eL,h4⟩
   simp at h2
  rcases bC h with h | ⟨u,ns,n,h1,h2⟩
  ·exact cN f _ _ _ _ h
  split at h2
  ·rcases bC h2 with h2 | ⟨u2,ns2,n2,h5,h6⟩
   ·obtain ⟨h3,h4⟩:=cN f _ _ _ _ h2
    exact ⟨h3.sub fun t ht=>iD h1 t (eL t ht),h4⟩
   simp at h6
  simp at h2
 | f+1,.pc,ts,a,c,h=>by
  rw [aj] at h
  rcases bC h with h | ⟨u,ns,n,h1,h2⟩
  ·exact cN f _ _ _ _ h
  simp at h2
 | f+1,.pr,[],a,c,h=>by
  simp only [aj,Option.some.injEq,Rs.bad.injEq] at h
  exact ⟨.inl h.1.symm,.inl h.2.symm⟩
 | f+1,.pr,t::ts,a,c,h=>by
  rw [aj] at h
  split at h
  ·simp at h
  split at h
  ·simp at h
  split at h
  ·rcases bC h with h | ⟨u,ns,n,h1,h2⟩
   ·obtain ⟨h3,h4⟩:=cN f _ _ _ _ h
    exact ⟨h3.sub fun t ht=>by simp [ht],h4⟩
   split at h2
   ·simp at h2
   simp only [Option.some.injEq,Rs.bad.injEq] at h2
   obtain ⟨rfl,rfl⟩:=h2
   exact ⟨(jx u).sub fun t ht=>by simp [iD h1 t ht],.inl rfl⟩
  split at h
  ·split at h
   ·simp only [Option.some.injEq,Rs.bad.injEq] at h
    exact ⟨.inr ⟨t,by simp,h.1.symm⟩,.inr (.inl h.2.symm)⟩
   split at h
   ·simp only [Option.some.injEq,Rs.bad.injEq] at h
    obtain ⟨rfl,rfl⟩:=h
    exact ⟨(jx ts).sub fun t ht=>by simp [ht],.inl rfl⟩
   unfold cx at h
   split at h
   ·simp at h
   ·rename_i h1
    simp only [Option.some.injEq,Rs.bad.injEq] at h
    obtain ⟨rfl,rfl⟩:=h
    split at h1
    ·simp at h1
    obtain ⟨h3,h4⟩:=cN f _ _ _ _ h1
    exact ⟨h3.sub fun t ht=>by simp [eL t ht],h4⟩
   rename_i u ns n h1
   have hsub:∀ t∈u,t∈ts:=by
    split at h1
    ·simp only [Option.some.injEq,Rs.ok.injEq] at h1
     obtain ⟨rfl,_,_⟩:=h1
     exact eL
    exact fun t ht=>eL t (iD h1 t ht)
   split at h
   ·simp only [Option.some.injEq,Rs.bad.injEq] at h
    obtain ⟨rfl,rfl⟩:=h
    exact ⟨(jx u).sub fun t ht=>by simp [hsub t ht],.inl rfl⟩
   split at h
   ·simp only [Option.some.injEq,Rs.bad.injEq] at h
    exact ⟨.inr ⟨t,by simp,h.1.symm⟩,.inr (.inr h.2.symm)⟩
   split at h
   ·simp only [Option.some.injEq,Rs.bad.injEq] at h
    exact ⟨.inr ⟨t,by simp,h.1.symm⟩,.inl h.2.symm⟩
   simp at h
  simp only [Option.some.injEq,Rs.bad.injEq] at h
  exact ⟨.inr ⟨t,by simp,h.1.symm⟩,.inl h.2.symm⟩
 | f+1,.args fn i,ts,a,c,h=>by
  rw [aj] at h
  rcases bC h with h | ⟨u,ns,n,h1,h2⟩
  ·split at h
   ·exact cN f _ _ _ _ h
   split at h
   ·simp at h
   simp only [Option.some.injEq,Rs.bad.injEq] at h
   obtain ⟨rfl,rfl⟩:=h
   exact ⟨jx ts,.inl rfl⟩
  have hsub:∀ t∈u,t∈ts:=by
   split at h1
   ·exact iD h1
   split at h1
   ·simp only [Option.some.injEq,Rs.ok.injEq] at h1
    obtain ⟨rfl,_,_⟩:=h1
    exact eL
   simp at h1
  split at h2
  ·obtain ⟨h3,h4⟩:=cN f _ _ _ _ h2
   exact ⟨h3.sub fun t ht=>hsub t (eL t ht),h4⟩
  simp at h2
end
