/- Plain: lists of tokens that are accepted, said as an inductive; and what it is to parse them. No program stands here. Plain: what checking a tree comes to. Plain: what follows of an accepted list of tokens: how many nodes it has, what may stand behind it, what a beginning of it comes to. No program stands here. Plain: a beginning of an accepted list of tokens is accepted, with no greater depth, or has its fault at its end. No program stands here. Plain: checking the tree of an accepted list of tokens: only its depth can be at fault. No program stands here. Plain: what parsing comes to does not hang on where the tokens stand; where a fault lies. No program stands here. -/
import Derived.Test.YtmalncmdfmoccaaGreatDoorCParP
namespace Go.Proofs.YtmalncmdfmoccaaGreatDoor
section
def hkS : List Tk → Nat
  | [] => 0
  | t :: _ => t.kind
theorem hd_kind (e : Nat) (ts : List Tk) : (hdS e ts).kind = hkS ts:=by cases ts <;> rfl
inductive Pk : Md → List Tk → List Tk → List Nd → Nat → Prop
  | lv5 {k : Nat} {ts u : List Tk} {ns : List Nd} {n : Nat} (hk : 5 ≤ k) (h : Pk .sg ts u ns n) : Pk (.lv k) ts u ns n
  | lv {k : Nat} {ts u v : List Tk} {ns ms : List Nd} {n m : Nat} (hk : k < 5) (h : Pk (.lv (k + 1)) ts u ns n) (g : Pk (.ops k) u v ms m) : Pk (.lv k) ts v (ns ++ ms) m
  | nil {k : Nat} : Pk (.ops k) [] [] [] 0
  | stop {k : Nat} {t : Tk} {ts : List Tk} (hk : ¬ (t.kind = 8 ∧ bindS t.num = k)) : Pk (.ops k) (t :: ts) (t :: ts) [] 0
  | op {k : Nat} {t : Tk} {ts u v : List Tk} {ns ms : List Nd} {n m : Nat} (h8 : t.kind = 8) (hk : bindS t.num = k) (h : Pk (.lv (k + 1)) ts u ns n) (g : Pk (.ops k) u v ms m) : Pk (.ops k) (t :: ts) v (ns ++ (ndBin t.num :: ms)) m
  | neg {t : Tk} {ts u : List Tk} {ns : List Nd} {n : Nat} (h8 : t.kind = 8) (h2 : t.num = 2) (h : Pk .sg ts u ns n) : Pk .sg (t :: ts) u (ns ++ [ndNeg]) 0
  | bare {ts u : List Tk} {ns : List Nd} {n : Nat} (hn : isOp ts 2 = false) (h : Pk .pc ts u ns n) (h5 : isOp u 5 = false) : Pk .sg ts u ns 0
  | pow {t : Tk} {ts u v : List Tk} {ns ms : List Nd} {n m : Nat} (hn : isOp ts 2 = false) (h : Pk .pc ts (t :: u) ns n) (h8 : t.kind = 8) (h5 : t.num = 5) (g : Pk .sg u v ms m) : Pk .sg ts v (ns ++ (ms ++ [ndBin 5])) 0
  | pc {ts u : List Tk} {ns : List Nd} {n : Nat} (h : Pk .pr ts u ns n) : Pk .pc ts (pctS u).1 (ns ++ List.replicate (pctS u).2 ndPct) 0
  | val {t : Tk} {ts : List Tk} (h1 : 1 ≤ t.kind) (h4 : t.kind ≤ 4) : Pk .pr (t :: ts) ts [ndVal t] 0
  | ref {t : Tk} {ts : List Tk} (h5 : t.kind = 5) : Pk .pr (t :: ts) ts [ndRef t.r] 0
  | par {t c : Tk} {ts u : List Tk} {ns : List Nd} {n : Nat} (h9 : t.kind = 9) (h : Pk (.lv 1) ts (c :: u) ns n) (hc : c.kind = 10) : Pk .pr (t :: ts) u ns 0
  | call {t o c : Tk} {ts u : List Tk} {ns : List Nd} {n : Nat} (h7 : t.kind = 7) (hf : fnS t.text ≠ 0) (ho : o.kind = 9) (h : Pk (.args (fnS t.text) 0) ts (c :: u) ns n) (hc : c.kind = 10)
      (h1 : (arS (fnS t.text)).1 ≤ n) (h2 : n ≤ (arS (fnS t.text)).2) (hd : 46 ≤ fnS t.text → (ns.getLast?.map (·.kind)) = some 2 ∨ (ns.getLast?.map (·.kind)) = some 3) :
      Pk .pr (t :: o :: ts) u (ns ++ [ndCall (fnS t.text) n]) n
  | argE {fn i : Nat} {ts u : List Tk} {ns : List Nd} {n : Nat} (h6 : hkS ts ≠ 6) (h : Pk (.lv 1) ts u ns n) (hc : hkS u ≠ 11) : Pk (.args fn i) ts u ns (i + 1)
  | argC {fn i : Nat} {c : Tk} {ts u v : List Tk} {ns ms : List Nd} {n m : Nat} (h6 : hkS ts ≠ 6) (h : Pk (.lv 1) ts (c :: u) ns n) (hc : c.kind = 11) (g : Pk (.args fn (i + 1)) u v ms m) : Pk (.args fn i) ts v (ns ++ ms) m
  | rngE {fn i : Nat} {t : Tk} {ts : List Tk} (h6 : t.kind = 6) (hw : wideS fn i = true) (hc : hkS ts ≠ 11) : Pk (.args fn i) (t :: ts) ts [ndRange t.r] (i + 1)
  | rngC {fn i : Nat} {t c : Tk} {u v : List Tk} {ms : List Nd} {m : Nat} (h6 : t.kind = 6) (hw : wideS fn i = true) (hc : c.kind = 11) (g : Pk (.args fn (i + 1)) u v ms m) : Pk (.args fn i) (t :: c :: u) v (ndRange t.r :: ms) m
def catR (ns : List Nd) : Rs → Rs
  | .bad a c => .bad a c
  | .ok u ms m => .ok u (ns ++ ms) m
theorem seq_of {x : Option Rs} {g : List Tk → Nat → Option Rs} {ts : List Tk} {ns : List Nd} {n : Nat} {r q : Rs} (hx : x = some (.ok ts ns n)) (hg : g ts n = some r) (hq : catR ns r = q) : seqR x g = some q:=by
  subst hx hq
  unfold seqR
  simp only [hg]
  cases r <;> rfl
theorem seq_bad {x : Option Rs} {g : List Tk → Nat → Option Rs} {a : Nat} {c : Int} (hx : x = some (.bad a c)) : seqR x g = some (.bad a c):=by subst hx; rfl
theorem op_is {t : Tk} {ts : List Tk} {op : Int} (h8 : t.kind = 8) (h : t.num = op) : isOp (t :: ts) op = true:=by simp [isOp,h8,h]
section
variable {e : Nat} {ts u : List Tk} {r : Rs} {f g : Nat}
theorem mk_lv5 {k : Nat} (hk : 5 ≤ k) (h : parF e f .sg ts = some r) : parF e (f + 1) (.lv k) ts = some r:=by rw [parF,if_pos hk]; exact h
theorem mk_lv {k n : Nat} {ns : List Nd} (hk : k < 5) (h : parF e f (.lv (k + 1)) ts = some (.ok u ns n)) (h2 : parF e g (.ops k) u = some r) :
    parF e (max f g + 1) (.lv k) ts = some (match r with | .bad a c => .bad a c | .ok u ms m => .ok u (ns ++ ms) m):=by
  rw [parF,if_neg (by omega)]
  exact seq_of (par_more h (Nat.le_max_left ..)) (par_more h2 (Nat.le_max_right ..)) (by cases r <;> rfl)
theorem mk_lv_bad {k a : Nat} {c : Int} (hk : k < 5) (h : parF e f (.lv (k + 1)) ts = some (.bad a c)) : parF e (f + 1) (.lv k) ts = some (.bad a c):=by
  rw [parF,if_neg (by omega)]
  exact seq_bad h
theorem mk_op {k n : Nat} {t : Tk} {ns : List Nd} (h8 : t.kind = 8) (hk : bindS t.num = k) (h : parF e f (.lv (k + 1)) ts = some (.ok u ns n)) (h2 : parF e g (.ops k) u = some r) :
    parF e (max f g + 1) (.ops k) (t :: ts) = some (match r with | .bad a c => .bad a c | .ok u ms m => .ok u (ns ++ (ndBin t.num :: ms)) m):=by
  rw [parF,if_pos ⟨h8,hk⟩,seq_of (par_more h (Nat.le_max_left ..)) (seq_of rfl (par_more h2 (Nat.le_max_right ..)) rfl) rfl]
  cases r <;> rfl
theorem mk_op_bad {k a : Nat} {c : Int} {t : Tk} (h8 : t.kind = 8) (hk : bindS t.num = k) (h : parF e f (.lv (k + 1)) ts = some (.bad a c)) : parF e (f + 1) (.ops k) (t :: ts) = some (.bad a c):=by
  rw [parF,if_pos ⟨h8,hk⟩]
  exact seq_bad h
theorem mk_neg {t : Tk} (h8 : t.kind = 8) (h2 : t.num = 2) (h : parF e f .sg ts = some r) : parF e (f + 1) .sg (t :: ts) = some (match r with | .bad a c => .bad a c | .ok u ns _ => .ok u (ns ++ [ndNeg]) 0):=by
  rw [parF,if_pos (op_is h8 h2),List.drop_succ_cons,List.drop_zero]
  cases r with
  | bad a c => exact seq_bad h
  | ok u ns n => exact seq_of h rfl rfl
theorem mk_bare {ns : List Nd} {n : Nat} (hn : isOp ts 2 = false) (h : parF e f .pc ts = some (.ok u ns n)) (h5 : isOp u 5 = false) : parF e (f + 1) .sg ts = some (.ok u ns 0):=by
  rw [parF,if_neg (by rw [hn]; decide)]
  have h9:=seq_of (g:=fun ts2 _ => if isOp ts2 5 then seqR (parF e f .sg (ts2.drop 1)) fun ts3 _ => some (.ok ts3 [ndBin 5] 0) else some (.ok ts2 [] 0)) (r:=.ok u [] 0) h (by simp [h5]) rfl
  simpa [catR] using h9
theorem mk_bare_bad {a : Nat} {c : Int} (hn : isOp ts 2 = false) (h : parF e f .pc ts = some (.bad a c)) : parF e (f + 1) .sg ts = some (.bad a c):=by
  rw [parF,if_neg (by rw [hn]; decide)]
  exact seq_bad h
theorem mk_pow {t : Tk} {ns : List Nd} {n : Nat} (hn : isOp ts 2 = false) (h : parF e f .pc ts = some (.ok (t :: u) ns n)) (h8 : t.kind = 8) (h5 : t.num = 5) (h2 : parF e g .sg u = some r) :
    parF e (max f g + 1) .sg ts = some (match r with | .bad a c => .bad a c | .ok u ms _ => .ok u (ns ++ (ms ++ [ndBin 5])) 0):=by
  rw [parF,if_neg (by rw [hn]; decide)]
  have h3:=par_more h2 (Nat.le_max_right f g)
  have h4 : (if isOp (t :: u) 5 then seqR (parF e (max f g) .sg ((t :: u).drop 1)) fun ts3 _ => some (.ok ts3 [ndBin 5] 0) else some (.ok (t :: u) [] 0)) = some (match r with | .bad a c => .bad a c | .ok v ms _ => .ok v (ms ++ [ndBin 5]) 0):=by
    rw [if_pos (op_is h8 h5),List.drop_succ_cons,List.drop_zero]
    cases r with
    | bad a c => exact seq_bad h3
    | ok v ms m => exact seq_of h3 rfl rfl
  have h9:=seq_of (g:=fun ts2 _ => if isOp ts2 5 then seqR (parF e (max f g) .sg (ts2.drop 1)) fun ts3 _ => some (.ok ts3 [ndBin 5] 0) else some (.ok ts2 [] 0)) (par_more h (Nat.le_max_left f g)) h4 rfl
  rw [h9]
  cases r <;> rfl
theorem mk_pc {ns : List Nd} {n : Nat} (h : parF e f .pr ts = some (.ok u ns n)) : parF e (f + 1) .pc ts = some (.ok (pctS u).1 (ns ++ List.replicate (pctS u).2 ndPct) 0):=by
  rw [parF]
  exact seq_of h rfl rfl
theorem mk_pc_bad {a : Nat} {c : Int} (h : parF e f .pr ts = some (.bad a c)) : parF e (f + 1) .pc ts = some (.bad a c):=by
  rw [parF]
  exact seq_bad h
theorem mk_val {t : Tk} (h1 : 1 ≤ t.kind) (h4 : t.kind ≤ 4) : parF e (f + 1) .pr (t :: ts) = some (.ok ts [ndVal t] 0):=by rw [parF,if_pos ⟨h1,h4⟩]
theorem mk_ref {t : Tk} (h5 : t.kind = 5) : parF e (f + 1) .pr (t :: ts) = some (.ok ts [ndRef t.r] 0):=by rw [parF,if_neg (by omega),if_pos h5]
theorem mk_par {t : Tk} (h9 : t.kind = 9) : parF e (f + 1) .pr (t :: ts) = seqR (parF e f (.lv 1) ts) fun ts2 _ => if (hdS e ts2).kind = 10 then some (.ok (ts2.drop 1) [] 0) else some (.bad (hdS e ts2).at_ 4):=by
  rw [parF,if_neg (by omega),if_neg (by omega),if_pos h9]
theorem mk_call {t o : Tk} (h7 : t.kind = 7) (hf : fnS t.text ≠ 0) (ho : o.kind = 9) : parF e (f + 1) .pr (t :: o :: ts) = closeR e (fnS t.text) t.at_ (if hkS ts = 10 then some (.ok ts [] 0) else parF e f (.args (fnS t.text) 0) ts):=by
  rw [parF,if_neg (by omega),if_neg (by omega),if_neg (by omega),if_pos h7,if_neg hf,if_neg (by simp [hdS,ho]),hd_kind]
  simp only [List.drop_succ_cons,List.drop_zero]
theorem mk_args {fn i : Nat} : parF e (f + 1) (.args fn i) ts = seqR (if hkS ts ≠ 6 then parF e f (.lv 1) ts else if wideS fn i then some (.ok (ts.drop 1) [ndRange (hdS e ts).r] 0) else some (.bad (hdS e ts).at_ 4)) fun ts2 _ =>
      if hkS ts2 = 11 then parF e f (.args fn (i + 1)) (ts2.drop 1) else some (.ok ts2 [] (i + 1)):=by
  rw [parF]
  simp only [hd_kind]
end
theorem Pk.open {m : Md} {ts u : List Tk} {ns : List Nd} {n : Nat} (h : Pk m ts u ns n) : (∀ k,m ≠ .ops k) → hkS ts ≠ 10 ∧ ts ≠ []:=by
  induction h with
  | lv5 _ _ ih => intro _; exact ih (by simp)
  | lv _ _ _ ih _ => intro _; exact ih (by simp)
  | nil => intro h; exact absurd rfl (h _)
  | stop => intro h; exact absurd rfl (h _)
  | op => intro h; exact absurd rfl (h _)
  | neg h8 => intro _; exact ⟨by simp [hkS,h8],by simp⟩
  | bare _ _ _ ih => intro _; exact ih (by simp)
  | pow _ _ _ _ _ ih _ => intro _; exact ih (by simp)
  | pc _ ih => intro _; exact ih (by simp)
  | val h1 h4 => intro _; exact ⟨by simp only [hkS]; omega,by simp⟩
  | ref h5 => intro _; exact ⟨by simp [hkS,h5],by simp⟩
  | par h9 => intro _; exact ⟨by simp [hkS,h9],by simp⟩
  | call h7 => intro _; exact ⟨by simp [hkS,h7],by simp⟩
  | argE _ _ _ ih => intro _; exact ih (by simp)
  | argC _ _ _ _ ih _ => intro _; exact ih (by simp)
  | rngE h6 => intro _; exact ⟨by simp [hkS,h6],by simp⟩
  | rngC h6 => intro _; exact ⟨by simp [hkS,h6],by simp⟩
theorem pk_par {m : Md} {ts u : List Tk} {ns : List Nd} {n : Nat} (h : Pk m ts u ns n) (e : Nat) : ∃ f,parF e f m ts = some (.ok u ns n):=by
  induction h with
  | lv5 hk _ ih => obtain ⟨f,hf⟩:=ih; exact ⟨_,mk_lv5 hk hf⟩
  | lv hk _ _ ih1 ih2 => obtain ⟨f,hf⟩:=ih1; obtain ⟨g,hg⟩:=ih2; exact ⟨_,mk_lv hk hf hg⟩
  | nil => exact ⟨1,by rw [parF]⟩
  | stop hk => exact ⟨1,by rw [parF,if_neg hk]⟩
  | op h8 hk _ _ ih1 ih2 => obtain ⟨f,hf⟩:=ih1; obtain ⟨g,hg⟩:=ih2; exact ⟨_,mk_op h8 hk hf hg⟩
  | neg h8 h2 _ ih => obtain ⟨f,hf⟩:=ih; exact ⟨_,mk_neg h8 h2 hf⟩
  | bare hn _ h5 ih => obtain ⟨f,hf⟩:=ih; exact ⟨_,mk_bare hn hf h5⟩
  | pow hn _ h8 h5 _ ih1 ih2 => obtain ⟨f,hf⟩:=ih1; obtain ⟨g,hg⟩:=ih2; exact ⟨_,mk_pow hn hf h8 h5 hg⟩
  | pc _ ih => obtain ⟨f,hf⟩:=ih; exact ⟨_,mk_pc hf⟩
  | val h1 h4 => exact ⟨1,mk_val h1 h4⟩
  | ref h5 => exact ⟨1,mk_ref h5⟩
  | @par t c ts u ns n h9 _ hc ih =>
    obtain ⟨f,hf⟩:=ih
    refine ⟨f + 1,?_⟩
    rw [mk_par h9]
    have h9:=seq_of (g:=fun ts2 _ => if (hdS e ts2).kind = 10 then some (.ok (ts2.drop 1) [] 0) else some (.bad (hdS e ts2).at_ 4)) (r:=.ok u [] 0) hf (by simp [hdS,hc]) rfl
    simpa [catR] using h9
  | @call t o c ts u ns n h7 hf ho h hc h1 h2 hd ih =>
    obtain ⟨f,hf2⟩:=ih
    refine ⟨f + 1,?_⟩
    rw [mk_call h7 hf ho,if_neg (h.open (by simp)).1,hf2]
    simp only [closeR,hdS,hc]
    rw [if_neg (by simp),if_neg (by omega),if_neg (by
      rintro ⟨h46,ha,hb⟩
      rcases hd h46 with h | h
      · exact ha h
      · exact hb h)]
    simp
  | @argE fn i ts u ns n h6 _ hc ih =>
    obtain ⟨f,hf⟩:=ih
    refine ⟨f + 1,?_⟩
    rw [mk_args,if_pos h6]
    have h9:=seq_of (g:=fun ts2 _ => if hkS ts2 = 11 then parF e f (.args fn (i + 1)) (ts2.drop 1) else some (.ok ts2 [] (i + 1))) (r:=.ok u [] (i + 1)) hf (by simp [hc]) rfl
    simpa [catR] using h9
  | @argC fn i c ts u v ns ms n m h6 _ hc _ ih1 ih2 =>
    obtain ⟨f,hf⟩:=ih1
    obtain ⟨g,hg⟩:=ih2
    refine ⟨max f g + 1,?_⟩
    rw [mk_args,if_pos h6]
    exact seq_of (g:=fun ts2 _ => if hkS ts2 = 11 then parF e (max f g) (.args fn (i + 1)) (ts2.drop 1) else some (.ok ts2 [] (i + 1))) (r:=.ok v ms m) (par_more hf (Nat.le_max_left ..)) (by rw [if_pos (show hkS (c :: u) = 11 from hc)]; exact par_more hg (Nat.le_max_right ..)) rfl
  | @rngE fn i t ts h6 hw hc =>
    refine ⟨1,?_⟩
    rw [mk_args,if_neg (by simp [hkS,h6]),if_pos hw]
    have h9:=seq_of (x:=some (.ok ts [ndRange t.r] 0)) (g:=fun ts2 _ => if hkS ts2 = 11 then parF e 0 (.args fn (i + 1)) (ts2.drop 1) else some (.ok ts2 [] (i + 1))) (r:=.ok ts [] (i + 1)) rfl (by simp [hc]) rfl
    simpa [catR,hdS] using h9
  | @rngC fn i t c u v ms m h6 hw hc _ ih =>
    obtain ⟨g,hg⟩:=ih
    refine ⟨g + 1,?_⟩
    rw [mk_args,if_neg (by simp [hkS,h6]),if_pos hw]
    exact seq_of (x:=some (.ok (c :: u) [ndRange t.r] 0)) (g:=fun ts2 _ => if hkS ts2 = 11 then parF e g (.args fn (i + 1)) (ts2.drop 1) else some (.ok ts2 [] (i + 1))) (r:=.ok v ms m) rfl (by rw [if_pos (show hkS (c :: u) = 11 from hc)]; exact hg) rfl
end
section
structure Pt where
  root : Nat
  depth : Nat
  wide : Bool
def belowS (n : Nd) : Nat:=if n.kind = 4 ∨ n.kind = 5 then 1 else if n.kind = 6 then 2 else if n.kind = 7 then n.n else 0
end
section
def realB (t : Tk) : Bool:=!(t.kind == 9 || t.kind == 10 || t.kind == 11)
theorem real_of {t : Tk} (h9 : t.kind ≠ 9) (h10 : t.kind ≠ 10) (h11 : t.kind ≠ 11) : realB t = true:=by simp [realB,h9,h10,h11]
theorem pct_split (u : List Tk) : ∃ s,u = s ++ (pctS u).1 ∧ s.length = (pctS u).2 ∧ (∀ t ∈ s,t.kind = 8 ∧ t.num = 13) ∧ isOp (pctS u).1 13 = false:=by
  induction u with
  | nil => exact ⟨[],rfl,rfl,by simp,rfl⟩
  | cons t u ih =>
    rw [pctS]
    split
    · rename_i h
      obtain ⟨s,h1,h2,h3,h4⟩:=ih
      refine ⟨t :: s,by rw [List.cons_append,← h1],by simp [h2],?_,h4⟩
      intro x hx
      rcases List.mem_cons.1 hx with rfl | hx
      · exact h
      · exact h3 x hx
    · rename_i h
      exact ⟨[],rfl,rfl,by simp,by simpa [isOp] using h⟩
theorem pct_app (s v : List Tk) (hs : ∀ t ∈ s,t.kind = 8 ∧ t.num = 13) (hv : isOp v 13 = false) : pctS (s ++ v) = (v,s.length):=by
  induction s with
  | nil =>
    cases v with
    | nil => rfl
    | cons t v => rw [List.nil_append,pctS,if_neg (by simpa [isOp] using hv)]; rfl
  | cons t s ih =>
    rw [List.cons_append,pctS,if_pos (hs t (by simp)),ih fun x hx => hs x (by simp [hx])]
    rfl
theorem count_pct (s : List Tk) (hs : ∀ t ∈ s,t.kind = 8 ∧ t.num = 13) : s.countP realB = s.length:=by
  induction s with
  | nil => rfl
  | cons t s ih =>
    have h:=hs t (by simp)
    rw [List.countP_cons,ih fun x hx => hs x (by simp [hx]),if_pos (real_of (by omega) (by omega) (by omega))]
    rfl
theorem Pk.count {m : Md} {ts u : List Tk} {ns : List Nd} {n : Nat} (h : Pk m ts u ns n) : ts.countP realB = u.countP realB + ns.length:=by
  induction h with
  | lv5 _ _ ih => exact ih
  | lv _ _ _ ih1 ih2 => rw [ih1,ih2,List.length_append]; omega
  | nil => rfl
  | stop => rfl
  | op h8 _ _ _ ih1 ih2 => rw [List.countP_cons,if_pos (real_of (by omega) (by omega) (by omega)),ih1,ih2]; simp; omega
  | neg h8 _ _ ih => rw [List.countP_cons,if_pos (real_of (by omega) (by omega) (by omega)),ih]; simp; omega
  | bare _ _ _ ih => exact ih
  | pow _ _ h8 _ _ ih1 ih2 => rw [ih1,List.countP_cons,if_pos (real_of (by omega) (by omega) (by omega)),ih2]; simp; omega
  | @pc ts u ns n _ ih =>
    obtain ⟨s,h1,h2,h3,-⟩:=pct_split u
    have h4:=congrArg (List.countP realB) h1
    rw [List.countP_append,count_pct s h3] at h4
    rw [ih,h4,List.length_append,List.length_replicate,← h2]; omega
  | val h1 h4 => rw [List.countP_cons,if_pos (real_of (by omega) (by omega) (by omega))]; rfl
  | ref h5 => rw [List.countP_cons,if_pos (real_of (by omega) (by omega) (by omega))]; rfl
  | @par t c ts u ns n h9 _ hc ih => rw [List.countP_cons,if_neg (by simp [realB,h9]),ih,List.countP_cons,if_neg (by simp [realB,hc])]; omega
  | @call t o c ts u ns n h7 _ ho _ hc _ _ _ ih =>
    rw [List.countP_cons,if_pos (real_of (by omega) (by omega) (by omega)),List.countP_cons,if_neg (by simp [realB,ho]),ih,List.countP_cons,if_neg (by simp [realB,hc])]
    simp; omega
  | argE _ _ _ ih => exact ih
  | @argC fn i c ts u v ns ms n m _ _ hc _ ih1 ih2 => rw [ih1,List.countP_cons,if_neg (by simp [realB,hc]),ih2]; simp; omega
  | rngE h6 => rw [List.countP_cons,if_pos (real_of (by omega) (by omega) (by omega))]; rfl
  | @rngC fn i t c u v ms m h6 _ hc _ ih => rw [List.countP_cons,if_pos (real_of (by omega) (by omega) (by omega)),List.countP_cons,if_neg (by simp [realB,hc]),ih]; simp; omega
def soft (u v : List Tk) : Prop:=v.head? = u.head? ∨ v = [] ∨ ∃ t,v.head? = some t ∧ t.kind = 10
theorem soft.app {u v : List Tk} (h : soft u v) (c : List Tk) : soft (c ++ u) (c ++ v):=by
  cases c with
  | nil => exact h
  | cons => exact .inl rfl
theorem hk_head {u v : List Tk} (h : v.head? = u.head?) : hkS v = hkS u:=by
  cases u <;> cases v <;> simp_all [hkS]
theorem op_head {u v : List Tk} (h : v.head? = u.head?) (op : Int) : isOp v op = isOp u op:=by
  cases u <;> cases v <;> simp_all [isOp]
theorem soft.hk {u v : List Tk} (h : soft u v) (hu : hkS u ≠ 11) : hkS v ≠ 11:=by
  rcases h with h | rfl | ⟨t,h,hk⟩
  · rw [hk_head h]; exact hu
  · simp [hkS]
  · cases v with
    | nil => simp at h
    | cons x v => simp at h; subst h; simp only [hkS]; omega
theorem soft.op {u v : List Tk} (h : soft u v) {op : Int} (hu : isOp u op = false) : isOp v op = false:=by
  rcases h with h | rfl | ⟨t,h,hk⟩
  · rw [op_head h]; exact hu
  · rfl
  · cases v with
    | nil => simp at h
    | cons x v => simp at h; subst h; simp [isOp,hk]
theorem head_app {c : List Tk} (hc : c ≠ []) (u v : List Tk) : (c ++ u).head? = (c ++ v).head?:=by
  cases c with
  | nil => exact absurd rfl hc
  | cons => rfl
theorem Pk.soft {m : Md} {ts u : List Tk} {ns : List Nd} {n : Nat} (h : Pk m ts u ns n) : ∃ c,ts = c ++ u ∧ ((∀ k,m ≠ .ops k) → c ≠ []) ∧ ∀ v,Go.Proofs.YtmalncmdfmoccaaGreatDoor.soft u v → Pk m (c ++ v) v ns n:=by
  induction h with
  | lv5 hk _ ih =>
    obtain ⟨c,h1,h2,h3⟩:=ih
    exact ⟨c,h1,fun _ => h2 (by simp),fun v hv => .lv5 hk (h3 v hv)⟩
  | lv hk _ _ ih1 ih2 =>
    obtain ⟨c,rfl,h2,h3⟩:=ih1
    obtain ⟨d,rfl,_,h5⟩:=ih2
    refine ⟨c ++ d,by rw [List.append_assoc],fun _ => by have:=h2 (by simp); simp [this],fun v hv => ?_⟩
    rw [List.append_assoc]
    exact .lv hk (h3 _ (hv.app d)) (h5 v hv)
  | @nil k =>
    refine ⟨[],rfl,fun h => absurd rfl (h _),fun v hv => ?_⟩
    cases v with
    | nil => exact .nil
    | cons t v =>
      refine .stop fun h => ?_
      rcases hv with h9 | h9 | ⟨x,h9,hx⟩
      · simp at h9
      · simp at h9
      · simp at h9; subst h9; omega
  | @stop k t ts hk =>
    refine ⟨[],rfl,fun h => absurd rfl (h _),fun v hv => ?_⟩
    cases v with
    | nil => exact .nil
    | cons x v =>
      refine .stop fun h => ?_
      rcases hv with h9 | h9 | ⟨y,h9,hy⟩
      · simp at h9; subst h9; exact hk h
      · simp at h9
      · simp at h9; subst h9; omega
  | @op k t ts u v ns ms n m h8 hk _ _ ih1 ih2 =>
    obtain ⟨c,rfl,h2,h3⟩:=ih1
    obtain ⟨d,rfl,_,h5⟩:=ih2
    refine ⟨t :: (c ++ d),by simp,fun _ => by simp,fun v hv => ?_⟩
    rw [List.cons_append,List.append_assoc]
    exact .op h8 hk (h3 _ (hv.app d)) (h5 v hv)
  | @neg t ts u ns n h8 h2 _ ih =>
    obtain ⟨c,rfl,_,h3⟩:=ih
    exact ⟨t :: c,rfl,fun _ => by simp,fun v hv => .neg h8 h2 (h3 v hv)⟩
  | bare hn _ h5 ih =>
    obtain ⟨c,rfl,h2,h3⟩:=ih
    have hc:=h2 (by simp)
    exact ⟨c,rfl,fun _ => hc,fun v hv => .bare (by rw [← hn]; exact op_head (head_app hc _ _) 2) (h3 v hv) (hv.op h5)⟩
  | @pow t ts u v ns ms n m hn _ h8 h5 _ ih1 ih2 =>
    obtain ⟨c,rfl,h2,h3⟩:=ih1
    obtain ⟨d,rfl,_,h6⟩:=ih2
    have hc:=h2 (by simp)
    refine ⟨c ++ t :: d,by simp,fun _ => by simp,fun v hv => ?_⟩
    rw [List.append_assoc,List.cons_append]
    exact .pow (by rw [← hn]; exact op_head (head_app hc _ _) 2) (h3 _ (.inl rfl)) h8 h5 (h6 v hv)
  | @pc ts u ns n _ ih =>
    obtain ⟨c,rfl,h2,h3⟩:=ih
    obtain ⟨s,h4,h5,h6,h7⟩:=pct_split u
    have hc:=h2 (by simp)
    refine ⟨c ++ s,by rw [List.append_assoc,← h4],fun _ => by simp [hc],fun v hv => ?_⟩
    have h8:=Pk.pc (h3 (s ++ v) (by rw [h4]; exact hv.app s))
    rw [pct_app s v h6 (hv.op h7),h5,← List.append_assoc] at h8
    exact h8
  | @val t ts h1 h4 => exact ⟨[t],rfl,fun _ => by simp,fun v _ => .val h1 h4⟩
  | @ref t ts h5 => exact ⟨[t],rfl,fun _ => by simp,fun v _ => .ref h5⟩
  | @par t x ts u ns n h9 _ hx ih =>
    obtain ⟨c,rfl,h2,h3⟩:=ih
    refine ⟨t :: (c ++ [x]),by simp,fun _ => by simp,fun v _ => ?_⟩
    rw [List.cons_append,List.append_assoc]
    exact .par h9 (h3 (x :: v) (.inl rfl)) hx
  | @call t o x ts u ns n h7 hf ho _ hx h1 h2 hd ih =>
    obtain ⟨c,rfl,_,h3⟩:=ih
    refine ⟨t :: o :: (c ++ [x]),by simp,fun _ => by simp,fun v _ => ?_⟩
    rw [List.cons_append,List.cons_append,List.append_assoc]
    exact .call h7 hf ho (h3 (x :: v) (.inl rfl)) hx h1 h2 hd
  | argE h6 _ hc ih =>
    obtain ⟨c,rfl,h2,h3⟩:=ih
    have hc2:=h2 (by simp)
    exact ⟨c,rfl,fun _ => hc2,fun v hv => .argE (by rw [← hk_head (head_app hc2 _ v)]; exact h6) (h3 v hv) (hv.hk hc)⟩
  | @argC fn i x ts u v ns ms n m h6 _ hx _ ih1 ih2 =>
    obtain ⟨c,rfl,h2,h3⟩:=ih1
    obtain ⟨d,rfl,_,h5⟩:=ih2
    have hc2:=h2 (by simp)
    refine ⟨c ++ x :: d,by simp,fun _ => by simp,fun v hv => ?_⟩
    rw [List.append_assoc,List.cons_append]
    exact .argC (by rw [← hk_head (head_app hc2 _ (x :: (d ++ v)))]; exact h6) (h3 _ (.inl rfl)) hx (h5 v hv)
  | @rngE fn i t ts h6 hw hc => exact ⟨[t],rfl,fun _ => by simp,fun v hv => .rngE h6 hw (hv.hk hc)⟩
  | @rngC fn i t x u v ms m h6 hw hx _ ih =>
    obtain ⟨c,rfl,_,h3⟩:=ih
    exact ⟨t :: x :: c,rfl,fun _ => by simp,fun v hv => .rngC h6 hw hx (h3 v hv)⟩
theorem Pk.ops_stop {k : Nat} {ts : List Tk} (h : ts = [] ∨ ∃ t,ts.head? = some t ∧ t.kind ≠ 8) : Pk (.ops k) ts ts [] 0:=by
  cases ts with
  | nil => exact .nil
  | cons t ts =>
    rcases h with h | ⟨x,h,hx⟩
    · simp at h
    · simp at h; subst h; exact .stop fun h => hx h.1
theorem Pk.up {ts u : List Tk} {ns : List Nd} {n : Nat} (h : Pk .sg ts u ns n) (hu : u = [] ∨ ∃ t,u.head? = some t ∧ t.kind ≠ 8) : Pk (.lv 1) ts u ns 0:=by
  have h5 : Pk (.lv 5) ts u ns n:=.lv5 (Nat.le_refl _) h
  have h4 : Pk (.lv 4) ts u ns 0:=by simpa using Pk.lv (k:=4) (by omega) h5 (Pk.ops_stop hu)
  have h3 : Pk (.lv 3) ts u ns 0:=by simpa using Pk.lv (k:=3) (by omega) h4 (Pk.ops_stop hu)
  have h2 : Pk (.lv 2) ts u ns 0:=by simpa using Pk.lv (k:=2) (by omega) h3 (Pk.ops_stop hu)
  simpa using Pk.lv (k:=1) (by omega) h2 (Pk.ops_stop hu)
def evN (x : Nd) (st : List Nat) : List Nat:=st.take (st.length - belowS x) ++ [(st.drop (st.length - belowS x)).foldl (fun d y => max d (y + 1)) 1]
def ev : List Nd → List Nat → List Nat
  | [],st => st
  | x :: l,st => ev l (evN x st)
theorem ev_app (a b : List Nd) (st : List Nat) : ev (a ++ b) st = ev b (ev a st):=by
  induction a generalizing st with
  | nil => rfl
  | cons x a ih => exact ih _
theorem ev_one {x : Nd} (h : belowS x = 1) (st : List Nat) (a : Nat) : evN x (st ++ [a]) = st ++ [max 1 (a + 1)]:=by simp [evN,h]
theorem ev_two {x : Nd} (h : belowS x = 2) (st : List Nat) (a b : Nat) : evN x (st ++ [a] ++ [b]) = st ++ [max (max 1 (a + 1)) (b + 1)]:=by simp [evN,h]
theorem ev_zero {x : Nd} (h : belowS x = 0) (st : List Nat) : evN x st = st ++ [1]:=by simp [evN,h]
theorem ev_call {x : Nd} (st ds : List Nat) (h : belowS x = ds.length) : evN x (st ++ ds) = st ++ [ds.foldl (fun d y => max d (y + 1)) 1]:=by simp [evN,h]
theorem ev_pct (n : Nat) (st : List Nat) (a : Nat) : ev (List.replicate n ndPct) (st ++ [a]) = st ++ [a + n]:=by
  induction n generalizing a with
  | zero => rfl
  | succ n ih =>
    rw [List.replicate_succ,ev,ev_one (by simp [belowS,ndPct]),ih]
    congr 2
    omega
end
section
def Dep (ns : List Nd) (d : Nat) : Prop:=∀ st,ev ns st = st ++ [d]
def DepF (ns : List Nd) (F : Nat → Nat) : Prop:=∀ x st,ev ns (st ++ [x]) = st ++ [F x]
def DepM (m : Md) (ns : List Nd) (n : Nat) : Prop:=match m with
  | .ops _ => ∃ F,DepF ns F ∧ ∀ x y,x ≤ y → x ≤ F x ∧ F x ≤ F y
  | .args _ i => ∃ ds : List Nat,ds.length + i = n ∧ ∀ st,ev ns st = st ++ ds
  | .lv _ => ∃ d,Dep ns d
  | .sg => ∃ d,Dep ns d
  | .pc => ∃ d,Dep ns d
  | .pr => ∃ d,Dep ns d
theorem dep_bin {ns ms : List Nd} {a b : Nat} (op : Int) (ha : Dep ns a) (hb : Dep ms b) : Dep (ns ++ (ms ++ [ndBin op])) (max (max 1 (a + 1)) (b + 1)):=by
  intro st
  rw [ev_app,ha,ev_app,hb,ev,ev_two (by simp [belowS,ndBin]),ev]
theorem dep_op {ns ms : List Nd} {b : Nat} {F : Nat → Nat} (op : Int) (hb : Dep ns b) (hF : DepF ms F) : DepF (ns ++ (ndBin op :: ms)) (fun x => F (max (max 1 (x + 1)) (b + 1))):=by
  intro x st
  rw [ev_app,hb,ev,ev_two (by simp [belowS,ndBin]),hF]
theorem dep_neg {ns : List Nd} {a : Nat} (ha : Dep ns a) : Dep (ns ++ [ndNeg]) (a + 1):=by
  intro st
  rw [ev_app,ha,ev,ev_one (by simp [belowS,ndNeg]),ev,Nat.max_eq_right (by omega)]
theorem dep_pct {ns : List Nd} {a : Nat} (k : Nat) (ha : Dep ns a) : Dep (ns ++ List.replicate k ndPct) (a + k):=by
  intro st
  rw [ev_app,ha,ev_pct]
theorem dep_lv {ns ms : List Nd} {a : Nat} {F : Nat → Nat} (ha : Dep ns a) (hF : DepF ms F) : Dep (ns ++ ms) (F a):=by
  intro st
  rw [ev_app,ha,hF]
theorem dep_nil : DepF [] (fun x => x):=fun _ _ => rfl
theorem Pk.dep {m : Md} {ts u : List Tk} {ns : List Nd} {n : Nat} (h : Pk m ts u ns n) : DepM m ns n:=by
  induction h with
  | lv5 _ _ ih => exact ih
  | lv _ _ _ ih1 ih2 =>
    obtain ⟨d,hd⟩:=ih1
    obtain ⟨F,hF,_⟩:=ih2
    exact ⟨_,dep_lv hd hF⟩
  | nil => exact ⟨_,dep_nil,fun _ _ h => ⟨Nat.le_refl _,h⟩⟩
  | stop => exact ⟨_,dep_nil,fun _ _ h => ⟨Nat.le_refl _,h⟩⟩
  | op _ _ _ _ ih1 ih2 =>
    obtain ⟨d,hd⟩:=ih1
    obtain ⟨F,hF,hm⟩:=ih2
    refine ⟨_,dep_op _ hd hF,fun x y h => ?_⟩
    have h1:=hm (max (max 1 (x + 1)) (d + 1)) (max (max 1 (y + 1)) (d + 1)) (by omega)
    omega
  | neg _ _ _ ih => obtain ⟨d,hd⟩:=ih; exact ⟨_,dep_neg hd⟩
  | bare _ _ _ ih => exact ih
  | pow _ _ _ _ _ ih1 ih2 =>
    obtain ⟨d,hd⟩:=ih1
    obtain ⟨b,hb⟩:=ih2
    exact ⟨_,dep_bin 5 hd hb⟩
  | pc _ ih => obtain ⟨d,hd⟩:=ih; exact ⟨_,dep_pct _ hd⟩
  | val => exact ⟨1,fun st => ev_zero (by simp [belowS,ndVal]) st⟩
  | ref => exact ⟨1,fun st => ev_zero (by simp [belowS,ndRef]) st⟩
  | par _ _ _ ih => exact ih
  | @call t o c ts u ns n _ _ _ _ _ _ _ _ ih =>
    obtain ⟨ds,hl,hds⟩:=ih
    refine ⟨ds.foldl (fun d y => max d (y + 1)) 1,fun st => ?_⟩
    rw [ev_app,hds,ev,ev_call _ _ (by simp [belowS,ndCall]; omega),ev]
  | argE _ _ _ ih => obtain ⟨d,hd⟩:=ih; exact ⟨[d],by simp; omega,hd⟩
  | argC _ _ _ _ ih1 ih2 =>
    obtain ⟨d,hd⟩:=ih1
    obtain ⟨ds,hl,hds⟩:=ih2
    refine ⟨d :: ds,by simp; omega,fun st => ?_⟩
    rw [ev_app,hd,hds,List.append_assoc]; rfl
  | rngE => exact ⟨[1],by simp; omega,fun st => ev_zero (by simp [belowS,ndRange]) st⟩
  | rngC _ _ _ _ ih =>
    obtain ⟨ds,hl,hds⟩:=ih
    refine ⟨1 :: ds,by simp; omega,fun st => ?_⟩
    rw [ev,ev_zero (by simp [belowS,ndRange]),hds,List.append_assoc]; rfl
def leD (a b : List Nd) : Prop:=∃ x y,Dep a x ∧ Dep b y ∧ x ≤ y
def leF (a b : List Nd) : Prop:=∃ F G,DepF a F ∧ DepF b G ∧ ∀ x y,x ≤ y → F x ≤ G y
def LeM (m : Md) (a b : List Nd) : Prop:=match m with
  | .ops _ => leF a b
  | .args _ _ => True
  | .lv _ => leD a b
  | .sg => leD a b
  | .pc => leD a b
  | .pr => leD a b
def Cut (e : Nat) (m : Md) (p : List Tk) (ns : List Nd) : Prop:=(∃ f,parF e f m p = some (.bad e 4)) ∨ ∃ ns' n',Pk m p [] ns' n' ∧ LeM m ns' ns
section
variable {e : Nat}
theorem bad_pr : parF e 1 .pr [] = some (.bad e 4):=by rw [parF]
theorem bad_pc : parF e 2 .pc [] = some (.bad e 4):=mk_pc_bad bad_pr
theorem bad_sg : parF e 3 .sg [] = some (.bad e 4):=mk_bare_bad rfl bad_pc
theorem bad_lv : ∀ d k : Nat,5 - k = d → ∃ f,parF e f (.lv k) [] = some (.bad e 4)
  | 0,k,h => ⟨4,mk_lv5 (by omega) bad_sg⟩
  | d + 1,k,h => by
    obtain ⟨f,hf⟩:=bad_lv d (k + 1) (by omega)
    exact ⟨_,mk_lv_bad (by omega) hf⟩
theorem bad_args (fn i : Nat) : ∃ f,parF e f (.args fn i) [] = some (.bad e 4):=by
  obtain ⟨f,hf⟩:=bad_lv (e:=e) 4 1 rfl
  refine ⟨f + 1,?_⟩
  rw [mk_args,if_pos (by simp [hkS])]
  exact seq_bad hf
theorem close_bad {fn a x : Nat} {c : Int} {r : Option Rs} (h : r = some (.bad x c)) : closeR e fn a r = some (.bad x c):=by subst h; rfl
theorem close_end {fn a n : Nat} {ns : List Nd} {r : Option Rs} (h : r = some (.ok [] ns n)) : closeR e fn a r = some (.bad e 4):=by subst h; simp [closeR,hdS]
end
theorem soft_pre (r w : List Tk) : Go.Proofs.YtmalncmdfmoccaaGreatDoor.soft (r ++ w) r:=by
  cases r with
  | nil => exact .inr (.inl rfl)
  | cons => exact .inl rfl
theorem pre_op {p w : List Tk} {op : Int} (h : isOp (p ++ w) op = false) : isOp p op = false:=(soft_pre p w).op h
theorem pre_hk {p w : List Tk} {k : Nat} (h : hkS (p ++ w) ≠ k) (hk : k ≠ 0) : hkS p ≠ k:=by
  cases p with
  | nil => simp only [hkS]; omega
  | cons => exact h
theorem part_cases {a b p q : List Tk} (h : a ++ b = p ++ q) : (∃ r,p = a ++ r ∧ b = r ++ q) ∨ ∃ r,r ≠ [] ∧ a = p ++ r ∧ q = r ++ b:=by
  rcases List.append_eq_append_iff.1 h with ⟨r,h1,h2⟩ | ⟨r,h1,h2⟩
  · exact .inl ⟨r,h1,h2⟩
  · cases r with
    | nil => exact .inl ⟨[],by simpa using h1.symm,by simpa using h2.symm⟩
    | cons x r => exact .inr ⟨x :: r,by simp,h1,h2⟩
theorem part_end {a p q : List Tk} {c : Tk} (h : a ++ [c] = p ++ q) (hq : q ≠ []) : p = a ∨ ∃ r,r ≠ [] ∧ a = p ++ r:=by
  rcases part_cases h with ⟨r,h1,h2⟩ | ⟨r,h1,h2,_⟩
  · cases r with
    | nil => exact .inl (by simpa using h1)
    | cons x r =>
      simp only [List.cons_append,List.cons.injEq] at h2
      have:=List.append_eq_nil_iff.1 h2.2.symm
      exact absurd this.2 hq
  · exact .inr ⟨r,h1,h2⟩
theorem Pk.cut {m : Md} {ts u : List Tk} {ns : List Nd} {n : Nat} (h : Pk m ts u ns n) (e : Nat) : ∀ p q,ts = p ++ (q ++ u) → q ≠ [] → Cut e m p ns:=by
  induction h with
  | lv5 hk _ ih =>
    intro p q e1 hq
    rcases ih p q e1 hq with ⟨f,hf⟩ | ⟨ns',n',h1,h2⟩
    · exact .inl ⟨_,mk_lv5 hk hf⟩
    · exact .inr ⟨_,_,.lv5 hk h1,h2⟩
  | @lv k ts u v ns ms n m hk h g ih1 ih2 =>
    intro p q e1 hq
    obtain ⟨c,e2,_,h3⟩:=h.soft
    obtain ⟨d,e3,_,_⟩:=g.soft
    obtain ⟨G,hG,hm⟩:=g.dep
    subst e2 e3
    have e4 : c ++ d = p ++ q:=List.append_cancel_right (bs:=v) (by simpa using e1)
    rcases part_cases e4 with ⟨r,rfl,rfl⟩ | ⟨r,hr,rfl,rfl⟩
    · have hp:=h3 r (by rw [List.append_assoc]; exact soft_pre r (q ++ v))
      rcases ih2 r q (by simp) hq with ⟨f,hf⟩ | ⟨ns',n',h1,F,G2,hF,hG2,hl⟩
      · obtain ⟨f2,hf2⟩:=pk_par hp e
        exact .inl ⟨_,mk_lv hk hf2 hf⟩
      · obtain ⟨y,hy⟩:=h.dep
        exact .inr ⟨_,_,.lv hk hp h1,_,_,dep_lv hy hF,dep_lv hy hG2,hl y y (Nat.le_refl _)⟩
    · rcases ih1 p r (by simp) hr with ⟨f,hf⟩ | ⟨ns',n',h1,x,y,hx,hy,hl⟩
      · exact .inl ⟨_,mk_lv_bad hk hf⟩
      · have:=(hm y y (Nat.le_refl _)).1
        exact .inr ⟨_,_,.lv hk h1 .nil,_,_,dep_lv hx dep_nil,dep_lv hy hG,by omega⟩
  | nil =>
    intro p q e1 hq
    simp at e1
    exact absurd e1.2 hq
  | stop =>
    intro p q e1 hq
    have:=congrArg List.length e1
    simp at this
    exact absurd (List.length_eq_zero_iff.1 (by omega)) hq
  | @op k t ts u v ns ms n m h8 hk h g ih1 ih2 =>
    intro p q e1 hq
    obtain ⟨G,hG,hm⟩:=g.dep
    obtain ⟨b,hb⟩:=h.dep
    cases p with
    | nil =>
      refine .inr ⟨_,_,.nil,_,_,dep_nil,dep_op _ hb hG,fun x y hxy => ?_⟩
      have:=(hm (max (max 1 (y + 1)) (b + 1)) _ (Nat.le_refl _)).1
      omega
    | cons t' p =>
      simp only [List.cons_append,List.cons.injEq] at e1
      obtain ⟨rfl,e1⟩:=e1
      obtain ⟨c,e2,_,h3⟩:=h.soft
      obtain ⟨d,e3,_,_⟩:=g.soft
      subst e2 e3
      have e4 : c ++ d = p ++ q:=List.append_cancel_right (bs:=v) (by simpa using e1)
      rcases part_cases e4 with ⟨r,rfl,rfl⟩ | ⟨r,hr,rfl,rfl⟩
      · have hp:=h3 r (by rw [List.append_assoc]; exact soft_pre r (q ++ v))
        rcases ih2 r q (by simp) hq with ⟨f,hf⟩ | ⟨ns',n',h1,F,G2,hF,hG2,hl⟩
        · obtain ⟨f2,hf2⟩:=pk_par hp e
          exact .inl ⟨_,mk_op h8 hk hf2 hf⟩
        · exact .inr ⟨_,_,.op h8 hk hp h1,_,_,dep_op _ hb hF,dep_op _ hb hG2,fun x y hxy => hl _ _ (by omega)⟩
      · rcases ih1 p r (by simp) hr with ⟨f,hf⟩ | ⟨ns',n',h1,x,y,hx,hy,hl⟩
        · exact .inl ⟨_,mk_op_bad h8 hk hf⟩
        · refine .inr ⟨_,_,.op h8 hk h1 .nil,_,_,dep_op _ hx dep_nil,dep_op _ hy hG,fun a b hab => ?_⟩
          have:=(hm (max (max 1 (b + 1)) (y + 1)) _ (Nat.le_refl _)).1
          omega
  | @neg t ts u ns n h8 h2 h ih =>
    intro p q e1 hq
    cases p with
    | nil => exact .inl ⟨_,bad_sg⟩
    | cons t' p =>
      simp only [List.cons_append,List.cons.injEq] at e1
      obtain ⟨rfl,e1⟩:=e1
      rcases ih p q e1 hq with ⟨f,hf⟩ | ⟨ns',n',h1,x,y,hx,hy,hl⟩
      · exact .inl ⟨_,mk_neg h8 h2 hf⟩
      · exact .inr ⟨_,_,.neg h8 h2 h1,_,_,dep_neg hx,dep_neg hy,by omega⟩
  | @bare ts u ns n hn h h5 ih =>
    intro p q e1 hq
    have hp:=pre_op (p:=p) (w:=q ++ u) (by rw [← e1]; exact hn)
    rcases ih p q e1 hq with ⟨f,hf⟩ | ⟨ns',n',h1,h2⟩
    · exact .inl ⟨_,mk_bare_bad hp hf⟩
    · exact .inr ⟨_,_,.bare hp h1 rfl,h2⟩
  | @pow t ts u v ns ms n m hn h h8 h5 g ih1 ih2 =>
    intro p q e1 hq
    have hp2:=pre_op (p:=p) (w:=q ++ v) (by rw [← e1]; exact hn)
    obtain ⟨c,e2,_,h3⟩:=h.soft
    obtain ⟨d,e3,_,_⟩:=g.soft
    obtain ⟨b,hb⟩:=g.dep
    subst e2 e3
    have e4 : c ++ t :: d = p ++ q:=List.append_cancel_right (bs:=v) (by simpa using e1)
    rcases part_cases e4 with ⟨r,rfl,e5⟩ | ⟨r,hr,rfl,rfl⟩
    · cases r with
      | nil =>
        obtain ⟨y,hy⟩:=h.dep
        have h9:=h3 [] (.inr (.inl rfl))
        rw [List.append_nil] at h9 hp2 ⊢
        exact .inr ⟨_,_,.bare hp2 h9 rfl,_,_,hy,dep_bin 5 hy hb,by omega⟩
      | cons t' r =>
        simp only [List.cons_append,List.cons.injEq] at e5
        obtain ⟨rfl,rfl⟩:=e5
        have hp:=h3 (t :: r) (.inl rfl)
        rcases ih2 r q (by simp) hq with ⟨f,hf⟩ | ⟨ns',n',h1,x,y,hx,hy,hl⟩
        · obtain ⟨f2,hf2⟩:=pk_par hp e
          exact .inl ⟨_,mk_pow hp2 hf2 h8 h5 hf⟩
        · obtain ⟨z,hz⟩:=h.dep
          exact .inr ⟨_,_,.pow hp2 hp h8 h5 h1,_,_,dep_bin 5 hz hx,dep_bin 5 hz hy,by omega⟩
    · rcases ih1 p r (by simp) hr with ⟨f,hf⟩ | ⟨ns',n',h1,x,y,hx,hy,hl⟩
      · exact .inl ⟨_,mk_bare_bad hp2 hf⟩
      · exact .inr ⟨_,_,.bare hp2 h1 rfl,_,_,hx,dep_bin 5 hy hb,by omega⟩
  | @pc ts u ns n h ih =>
    intro p q e1 hq
    obtain ⟨c,e2,_,h3⟩:=h.soft
    obtain ⟨s,e3,h5,h6,h7⟩:=pct_split u
    obtain ⟨z,hz⟩:=h.dep
    subst e2
    have e4 : c ++ s = p ++ q:=List.append_cancel_right (bs:=(pctS u).1) (by rw [List.append_assoc,← e3]; simpa using e1)
    rcases part_cases e4 with ⟨r,rfl,rfl⟩ | ⟨r,hr,rfl,rfl⟩
    · have hp:=h3 r (by rw [e3,List.append_assoc]; exact soft_pre r _)
      have h8:=pct_app r [] (fun t ht => h6 t (by simp [ht])) rfl
      rw [List.append_nil] at h8
      have h9:=Pk.pc hp
      rw [h8] at h9
      rw [List.length_append] at h5
      exact .inr ⟨_,_,h9,_,_,dep_pct _ hz,dep_pct _ hz,by simp only []; omega⟩
    · rcases ih p r (by simp) hr with ⟨f,hf⟩ | ⟨ns',n',h1,x,y,hx,hy,hl⟩
      · exact .inl ⟨_,mk_pc_bad hf⟩
      · exact .inr ⟨_,_,Pk.pc h1,_,_,dep_pct 0 hx,dep_pct _ hy,by omega⟩
  | @val t ts h1 h4 =>
    intro p q e1 hq
    cases p with
    | nil => exact .inl ⟨_,bad_pr⟩
    | cons t' p =>
      have:=congrArg List.length e1
      simp at this
      exact absurd (List.length_eq_zero_iff.1 (by omega)) hq
  | @ref t ts h5 =>
    intro p q e1 hq
    cases p with
    | nil => exact .inl ⟨_,bad_pr⟩
    | cons t' p =>
      have:=congrArg List.length e1
      simp at this
      exact absurd (List.length_eq_zero_iff.1 (by omega)) hq
  | @par t c ts u ns n h9 h hc ih =>
    intro p q e1 hq
    cases p with
    | nil => exact .inl ⟨_,bad_pr⟩
    | cons t' p =>
      simp only [List.cons_append,List.cons.injEq] at e1
      obtain ⟨rfl,e1⟩:=e1
      obtain ⟨d,e2,_,h3⟩:=h.soft
      subst e2
      have e4 : d ++ [c] = p ++ q:=List.append_cancel_right (bs:=u) (by simpa using e1)
      have key : ∀ ns' n',Pk (.lv 1) p [] ns' n' → Cut e .pr (t :: p) ns:=by
        intro ns' n' hp
        obtain ⟨f,hf⟩:=pk_par hp e
        refine .inl ⟨f + 1,?_⟩
        rw [mk_par h9]
        exact seq_of hf (r:=.bad e 4) (by simp [hdS]) rfl
      rcases part_end e4 hq with rfl | ⟨r,hr,rfl⟩
      · have h9:=h3 [] (.inr (.inl rfl))
        rw [List.append_nil] at h9
        exact key _ _ h9
      · rcases ih p r (by simp) hr with ⟨f,hf⟩ | ⟨ns',n',h1,_⟩
        · refine .inl ⟨f + 1,?_⟩
          rw [mk_par h9]
          exact seq_bad hf
        · exact key _ _ h1
  | @call t o c ts u ns n h7 hf ho h hc h1 h2 hd ih =>
    intro p q e1 hq
    cases p with
    | nil => exact .inl ⟨_,bad_pr⟩
    | cons t' p =>
      simp only [List.cons_append,List.cons.injEq] at e1
      obtain ⟨rfl,e1⟩:=e1
      cases p with
      | nil =>
        refine .inl ⟨1,?_⟩
        rw [parF,if_neg (by omega),if_neg (by omega),if_neg (by omega),if_pos h7,if_neg hf,if_pos (by simp [hdS])]
        rfl
      | cons o' p =>
        simp only [List.cons_append,List.cons.injEq] at e1
        obtain ⟨rfl,e1⟩:=e1
        obtain ⟨d,e2,_,h3⟩:=h.soft
        have h10:=pre_hk (k:=10) (p:=p) (w:=q ++ u) (by rw [← e1]; exact (h.open (by simp)).1) (by omega)
        subst e2
        have e4 : d ++ [c] = p ++ q:=List.append_cancel_right (bs:=u) (by simpa using e1)
        have key : ∀ ns' n',Pk (.args (fnS t.text) 0) p [] ns' n' → Cut e .pr (t :: o :: p) (ns ++ [ndCall (fnS t.text) n]):=by
          intro ns' n' hp
          obtain ⟨f,hf9⟩:=pk_par hp e
          refine .inl ⟨f + 1,?_⟩
          rw [mk_call h7 hf ho,if_neg h10]
          exact close_end hf9
        rcases part_end e4 hq with rfl | ⟨r,hr,rfl⟩
        · have h9:=h3 [] (.inr (.inl rfl))
          rw [List.append_nil] at h9
          exact key _ _ h9
        · rcases ih p r (by simp) hr with ⟨f,hf9⟩ | ⟨ns',n',h1,_⟩
          · refine .inl ⟨f + 1,?_⟩
            rw [mk_call h7 hf ho,if_neg h10]
            exact close_bad hf9
          · exact key _ _ h1
  | @argE fn i ts u ns n h6 h hc ih =>
    intro p q e1 hq
    have hp:=pre_hk (k:=6) (p:=p) (w:=q ++ u) (by rw [← e1]; exact h6) (by omega)
    rcases ih p q e1 hq with ⟨f,hf⟩ | ⟨ns',n',h1,_⟩
    · refine .inl ⟨f + 1,?_⟩
      rw [mk_args,if_pos hp]
      exact seq_bad hf
    · exact .inr ⟨_,_,.argE hp h1 (by simp [hkS]),trivial⟩
  | @argC fn i x ts u v ns ms n m h6 h hx g ih1 ih2 =>
    intro p q e1 hq
    have hp6:=pre_hk (k:=6) (p:=p) (w:=q ++ v) (by rw [← e1]; exact h6) (by omega)
    obtain ⟨c,e2,_,h3⟩:=h.soft
    obtain ⟨d,e3,_,_⟩:=g.soft
    subst e2 e3
    have e4 : c ++ x :: d = p ++ q:=List.append_cancel_right (bs:=v) (by simpa using e1)
    rcases part_cases e4 with ⟨r,rfl,e5⟩ | ⟨r,hr,rfl,rfl⟩
    · cases r with
      | nil =>
        have h9:=h3 [] (.inr (.inl rfl))
        rw [List.append_nil] at h9 hp6 ⊢
        exact .inr ⟨_,_,.argE hp6 h9 (by simp [hkS]),trivial⟩
      | cons x' r =>
        simp only [List.cons_append,List.cons.injEq] at e5
        obtain ⟨rfl,rfl⟩:=e5
        have hp:=h3 (x :: r) (.inl rfl)
        rcases ih2 r q (by simp) hq with ⟨f,hf⟩ | ⟨ns',n',h1,_⟩
        · obtain ⟨f2,hf2⟩:=pk_par hp e
          refine .inl ⟨max f2 f + 1,?_⟩
          rw [mk_args,if_pos hp6]
          exact seq_of (par_more hf2 (Nat.le_max_left ..)) (r:=.bad e 4) (by rw [if_pos (show hkS (x :: r) = 11 from hx)]; exact par_more hf (Nat.le_max_right ..)) rfl
        · exact .inr ⟨_,_,.argC hp6 hp hx h1,trivial⟩
    · rcases ih1 p r (by simp) hr with ⟨f,hf⟩ | ⟨ns',n',h1,_⟩
      · refine .inl ⟨f + 1,?_⟩
        rw [mk_args,if_pos hp6]
        exact seq_bad hf
      · exact .inr ⟨_,_,.argE hp6 h1 (by simp [hkS]),trivial⟩
  | @rngE fn i t ts h6 hw hc =>
    intro p q e1 hq
    cases p with
    | nil => exact .inl (bad_args fn i)
    | cons t' p =>
      have:=congrArg List.length e1
      simp at this
      exact absurd (List.length_eq_zero_iff.1 (by omega)) hq
  | @rngC fn i t x u v ms m h6 hw hx g ih =>
    intro p q e1 hq
    cases p with
    | nil => exact .inl (bad_args fn i)
    | cons t' p =>
      simp only [List.cons_append,List.cons.injEq] at e1
      obtain ⟨rfl,e1⟩:=e1
      cases p with
      | nil => exact .inr ⟨_,_,.rngE h6 hw (by simp [hkS]),trivial⟩
      | cons x' p =>
        simp only [List.cons_append,List.cons.injEq] at e1
        obtain ⟨rfl,e1⟩:=e1
        rcases ih p q e1 hq with ⟨f,hf⟩ | ⟨ns',n',h1,_⟩
        · refine .inl ⟨f + 1,?_⟩
          rw [mk_args,if_neg (by simp [hkS,h6]),if_pos hw]
          exact seq_of (x:=some (.ok (x :: p) [ndRange t.r] 0)) rfl (r:=.bad e 4) (by rw [if_pos (show hkS (x :: p) = 11 from hx)]; exact hf) rfl
        · exact .inr ⟨_,_,.rngC h6 hw hx h1,trivial⟩
end
section
theorem last_app {α : Type} (a : List α) (x : α) (b : List α) : (a ++ x :: b).getLast? = (x :: b).getLast?:=by rw [List.getLast?_append]; cases h : (x :: b).getLast? with
  | none => simp at h
  | some y => rfl
theorem Pk.last {m : Md} {ts u : List Tk} {ns : List Nd} {n : Nat} (h : Pk m ts u ns n) : (∀ fn i,m ≠ .args fn i) → ns.getLast?.map (·.kind) ≠ some 3:=by
  induction h with
  | lv5 _ _ ih => intro _; exact ih (by simp)
  | @lv k ts u v ns ms n m _ _ _ ih1 ih2 =>
    intro _
    cases hm : ms with
    | nil => rw [List.append_nil]; exact ih1 (by simp)
    | cons x ms =>
      have:=ih2 (by simp)
      rw [hm] at this
      rw [last_app]
      exact this
  | nil => intro _; simp
  | stop => intro _; simp
  | @op k t ts u v ns ms n m _ _ _ _ ih1 ih2 =>
    intro _
    rw [last_app]
    cases hm : ms with
    | nil => simp [ndBin]
    | cons x ms =>
      have:=ih2 (by simp)
      rw [hm] at this
      rw [List.getLast?_cons_cons]
      exact this
  | neg => intro _; simp [ndNeg]
  | bare _ _ _ ih => intro _; exact ih (by simp)
  | pow => intro _; rw [← List.append_assoc]; simp [ndBin]
  | @pc ts u ns n _ ih =>
    intro _
    cases hk : (pctS u).2 with
    | zero => simpa using ih (by simp)
    | succ k => rw [List.replicate_succ',← List.append_assoc]; simp [ndPct]
  | val => intro _; simp [ndVal]
  | ref => intro _; simp [ndRef]
  | par _ _ _ ih => intro _; exact ih (by simp)
  | call => intro _; simp [ndCall]
  | argE => intro h; exact absurd rfl (h _ _)
  | argC => intro h; exact absurd rfl (h _ _)
  | rngE => intro h; exact absurd rfl (h _ _)
  | rngC => intro h; exact absurd rfl (h _ _)
end
section
def Tk.bare (t : Tk) : Tk:={ t with at_:=0 }
def codR : Rs → Except Int (List Tk × List Nd × Nat)
  | .bad _ c => .error c
  | .ok ts ns n => .ok (ts.map Tk.bare,ns,n)
def Eqv (x y : Option Rs) : Prop:=x.map codR = y.map codR
theorem Eqv.none_ : Eqv none none:=rfl
theorem Eqv.bad {a b : Nat} {c : Int} : Eqv (some (.bad a c)) (some (.bad b c)):=rfl
theorem Eqv.ok {ts us : List Tk} {ns : List Nd} {n : Nat} (h : ts.map Tk.bare = us.map Tk.bare) : Eqv (some (.ok ts ns n)) (some (.ok us ns n)):=by
  simp only [Eqv,Option.map_some,codR,h]
def Code (c : Int) : Prop:=c = 4 ∨ c = 10 ∨ c = 11
end
end Go.Proofs.YtmalncmdfmoccaaGreatDoor
