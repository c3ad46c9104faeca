/- Rows of strings, and strings.Join of them. Plain: the canonical tokens of a tree, and that they are parsed back. No program stands here. Plain: the text of a token is read as the token. No program stands here. How long numbers and operators are as text. -/
import Derived.Test.YtnbemkiplnanlaaGreatDoorMAddrP
import Derived.Test.YtnbemkiplnanlaaGreatDoorMLexI
import Derived.Test.YtnbemkiplnanlaaGreatDoorMShelf
import Derived.Test.YtnbemkiplnanlaaGreatDoorMParK
import Derived.Test.YtnbemkiplnanlaaGreatDoorMLexP
import Derived.Test.YtnbemkiplnanlaaGreatDoorMDecF
namespace Go.Proofs.YtnbemkiplnanlaaGreatDoor
open Go.RowKit
def byt (l : List UInt8) : ByteArray:=⟨l.toArray⟩
def strsV (l : List (List UInt8)) : List Value:=l.map fun x => .string (byt x)
theorem strsV_snoc (l : List (List UInt8)) (x : List UInt8) : strsV (l ++ [x]) = strsV l ++ [.string (byt x)]:=by simp [strsV]
theorem byt_map (l : List (List UInt8)) : (l.map byt).map (·.data.toList) = l:=by
 rw [List.map_map]
 have : ((fun x : ByteArray => x.data.toList) ∘ byt) = id:=by funext x; rfl
 rw [this,List.map_id]
theorem join_cells {w : World} {g n cap : Nat} (l : List (List UInt8)) (c : UInt8) (hc : ∀ (j : Nat) x,(strsV l)[j]? = some x → w.cell? ⟨g,j,none⟩ = some x) (hg : g < w.heap.size) (hn : l.length = n) (hcap : n ≤ cap) (hl : l.length ≤ 100000)
  (hlen : (Lib.join l [c]).length ≤ 140737488355328) :
  Calls Tryz.prog 80 #[.slice (some ⟨g,0,none⟩) n cap,.string ⟨#[c]⟩] w fun e w' => e = .returned (.string ⟨(Lib.join l [c]).toArray⟩) ∧ Below w.heap.size w w':=by
 subst hn
 have h:=Tryz.strings_Join g 0 cap (l.map byt) ⟨#[c]⟩ w (fun j x hx => by
  rw [Nat.zero_add]
  refine hc j _ ?_
  unfold strsV
  rw [List.getElem?_map] at hx ⊢
  obtain ⟨y,hy,rfl⟩:=Option.map_eq_some_iff.1 hx
  rw [hy]; rfl) hg (by simp; omega) (by simpa using hcap) (by rw [byt_map]; exact hlen)
 rw [byt_map,List.length_map] at h
 exact h
theorem join_own {w : World} {base : Nat} {v : Value} (l : List (List UInt8)) (c : UInt8) (h : w.ownsRow base 9 1 v l.length (strsV l)) (hne : l ≠ []) (hl : l.length ≤ 100000) (hlen : (Lib.join l [c]).length ≤ 140737488355328) :
  Calls Tryz.prog 80 #[v,.string ⟨#[c]⟩] w fun e w' => e = .returned (.string ⟨(Lib.join l [c]).toArray⟩) ∧ Below w.heap.size w w':=by
 have hc:=@World.ownsRow.cells _ _ _ _ _ _ _ h
 have hlt:=h.lt
 rcases h.2 with ⟨rfl,h0⟩ | ⟨g,cap,cur,rfl,h4,h5,h6,h7,h8,h9⟩
 ·exact absurd (List.length_eq_zero_iff.1 h0) hne
 ·refine join_cells l c (fun j x hx => ?_) (hlt g rfl).2 rfl h6 hl hlen
  have h10:=hc rfl j x hx
  rw [show (⟨g,0,none⟩ : Addr).add j = ⟨g,0 + j,none⟩ by unfold Addr.add; split <;> simp_all,Nat.zero_add] at h10
  exact h10
end Go.Proofs.YtnbemkiplnanlaaGreatDoor
namespace Go.Proofs.YtnbemkiplnanlaaGreatDoor
inductive Cm
 | tr (s : Nat)
 | od (l : Nat)
 | ar (fn i : Nat)
inductive Cn : Cm → List Tk → List Nd → Nat → Prop
 | val {t : Tk} (h1 : 1 ≤ t.kind) (h4 : t.kind ≤ 4) : Cn (.tr 8) [t] [ndVal t] 0
 | ref {t : Tk} (h5 : t.kind = 5) : Cn (.tr 8) [t] [ndRef t.r] 0
 | neg {t : Tk} {ts : List Tk} {ns : List Nd} (h8 : t.kind = 8) (h2 : t.num = 2) (h : Cn (.od 5) ts ns 0) : Cn (.tr 5) (t :: ts) (ns ++ [ndNeg]) 0
 | pct {t : Tk} {ts : List Tk} {ns : List Nd} (h8 : t.kind = 8) (h13 : t.num = 13) (h : Cn (.od 7) ts ns 0) : Cn (.tr 7) (ts ++ [t]) (ns ++ [ndPct]) 0
 | bin {t : Tk} {k : Nat} {ts us : List Tk} {ns ms : List Nd} (h8 : t.kind = 8) (hk : bindS t.num = k) (h1 : 1 ≤ k) (h4 : k ≤ 4) (h : Cn (.od k) ts ns 0) (g : Cn (.od (k + 1)) us ms 0) :
   Cn (.tr k) (ts ++ t :: us) (ns ++ (ms ++ [ndBin t.num])) 0
 | pow {t : Tk} {ts us : List Tk} {ns ms : List Nd} (h8 : t.kind = 8) (h5 : t.num = 5) (h : Cn (.od 7) ts ns 0) (g : Cn (.od 5) us ms 0) : Cn (.tr 6) (ts ++ t :: us) (ns ++ (ms ++ [ndBin 5])) 0
 | call {t o c : Tk} {ts : List Tk} {ns : List Nd} {n : Nat} (h7 : t.kind = 7) (hf : fnS t.text ≠ 0) (ho : o.kind = 9) (h : Cn (.ar (fnS t.text) 0) ts ns n) (hc : c.kind = 10)
   (h1 : (arS (fnS t.text)).1 ≤ n) (h2 : n ≤ (arS (fnS t.text)).2) (hd : 46 ≤ fnS t.text → (ns.getLast?.map (·.kind)) = some 2 ∨ (ns.getLast?.map (·.kind)) = some 3) :
   Cn (.tr 8) (t :: o :: (ts ++ [c])) (ns ++ [ndCall (fnS t.text) n]) 0
 | bare {l s : Nat} {ts : List Tk} {ns : List Nd} (hs : l ≤ s) (h : Cn (.tr s) ts ns 0) : Cn (.od l) ts ns 0
 | par {l s : Nat} {o c : Tk} {ts : List Tk} {ns : List Nd} (ho : o.kind = 9) (hc : c.kind = 10) (h : Cn (.tr s) ts ns 0) : Cn (.od l) (o :: (ts ++ [c])) ns 0
 | argE {fn i s : Nat} {ts : List Tk} {ns : List Nd} (h : Cn (.tr s) ts ns 0) : Cn (.ar fn i) ts ns (i + 1)
 | argC {fn i s : Nat} {c : Tk} {ts us : List Tk} {ns ms : List Nd} {m : Nat} (h : Cn (.tr s) ts ns 0) (hc : c.kind = 11) (g : Cn (.ar fn (i + 1)) us ms m) : Cn (.ar fn i) (ts ++ c :: us) (ns ++ ms) m
 | rngE {fn i : Nat} {t : Tk} (h6 : t.kind = 6) (hw : wideS fn i = true) : Cn (.ar fn i) [t] [ndRange t.r] (i + 1)
 | rngC {fn i : Nat} {t c : Tk} {us : List Tk} {ms : List Nd} {m : Nat} (h6 : t.kind = 6) (hw : wideS fn i = true) (hc : c.kind = 11) (g : Cn (.ar fn (i + 1)) us ms m) : Cn (.ar fn i) (t :: c :: us) (ndRange t.r :: ms) m
def Fol (u : List Tk) (k : Nat) : Prop:=∀ t r,u = t :: r → ¬ (t.kind = 8 ∧ k < bindS t.num)
theorem Fol.mono {u : List Tk} {k l : Nat} (h : Fol u k) (hl : k ≤ l) : Fol u l:=fun t r e g => h t r e ⟨g.1,by omega⟩
theorem Fol.nil (k : Nat) : Fol [] k:=fun t r e => by cases e
theorem Fol.cons {t : Tk} {r : List Tk} {k : Nat} (h : ¬ (t.kind = 8 ∧ k < bindS t.num)) : Fol (t :: r) k:=fun t2 r2 e => by obtain ⟨rfl,rfl⟩:=List.cons.inj e; exact h
def PrP (ts : List Tk) (ns : List Nd) : Prop:=∃ n,∀ u,Pk .pr (ts ++ u) u ns n
def PcP (ts : List Tk) (ns : List Nd) : Prop:=∃ ts0 qs ns0,ts = ts0 ++ qs ∧ ns = ns0 ++ List.replicate qs.length ndPct ∧ (∀ q ∈ qs,q.kind = 8 ∧ q.num = 13) ∧ PrP ts0 ns0
def SgP (ts : List Tk) (ns : List Nd) : Prop:=∀ u,Fol u 5 → ∃ n,Pk .sg (ts ++ u) u ns n
def CtP (k : Nat) (ts : List Tk) (ns : List Nd) : Prop:=∀ u v ms m,Fol u k → Pk (.ops k) u v ms m → Pk (.lv k) (ts ++ u) v (ns ++ ms) m
def Str (l : Nat) (ts : List Tk) (ns : List Nd) : Prop:=(7 ≤ l → PcP ts ns) ∧ (5 ≤ l → SgP ts ns) ∧ ∀ k,1 ≤ k → k ≤ 4 → k ≤ l → CtP k ts ns
theorem pr_hd {ts u : List Tk} {ns : List Nd} {n : Nat} (h : Pk .pr ts u ns n) : isOp ts 2 = false:=by
 cases h <;> simp [isOp] <;> omega
theorem pct_all (qs u : List Tk) (hq : ∀ q ∈ qs,q.kind = 8 ∧ q.num = 13) (hu : Fol u 6) : pctS (qs ++ u) = (u,qs.length):=by
 induction qs with
 | nil =>
  cases u with
  | nil => rfl
  | cons t r =>
   have:=hu t r rfl
   show pctS (t :: r) = _
   rw [pctS,if_neg]
   ·rfl
   ·rintro ⟨h8,h13⟩
    exact this ⟨h8,by rw [h13]; decide⟩
 | cons q qs ih =>
  show pctS (q :: (qs ++ u)) = _
  rw [pctS,if_pos (hq q (by simp)),ih fun x hx => hq x (by simp [hx])]
  rfl
theorem PcP.pc {ts : List Tk} {ns : List Nd} (h : PcP ts ns) (u : List Tk) (hu : Fol u 6) : ∃ n,Pk .pc (ts ++ u) u ns n ∧ isOp (ts ++ u) 2 = false:=by
 obtain ⟨ts0,qs,ns0,rfl,rfl,hq,n,hp⟩:=h
 have h1:=hp (qs ++ u)
 have h2:=Pk.pc h1
 rw [pct_all qs u hq hu] at h2
 exact ⟨0,by rw [List.append_assoc]; exact h2,by rw [List.append_assoc]; exact pr_hd h1⟩
theorem fol_op {u : List Tk} {k : Nat} {op : Int} (h : Fol u k) (hk : k < bindS op) : isOp u op = false:=by
 cases u with
 | nil => rfl
 | cons t r =>
  cases hq : isOp (t :: r) op with
  | false => rfl
  | true =>
   simp only [isOp,decide_eq_true_eq] at hq
   exact absurd ⟨hq.1,by rw [hq.2]; exact hk⟩ (h t r rfl)
theorem PcP.sg {ts : List Tk} {ns : List Nd} (h : PcP ts ns) : SgP ts ns:=fun u hu => by
 obtain ⟨n,h1,h2⟩:=h.pc u (hu.mono (by decide))
 exact ⟨0,.bare h2 h1 (fol_op hu (by decide))⟩
theorem PrP.pc {ts : List Tk} {ns : List Nd} (h : PrP ts ns) : PcP ts ns:=⟨ts,[],ns,by simp,by simp,by simp,h⟩
theorem ops_stop (u : List Tk) (k j : Nat) (h : Fol u k) (hj : k < j) : Pk (.ops j) u u [] 0:=by
 cases u with
 | nil => exact .nil
 | cons t r => exact .stop fun g => h t r rfl ⟨g.1,by omega⟩
theorem SgP.up {ts : List Tk} {ns : List Nd} (h : SgP ts ns) (u : List Tk) (hu : Fol u 4) : ∃ n,Pk (.lv 5) (ts ++ u) u ns n:=by
 obtain ⟨n,g⟩:=h u (hu.mono (by decide))
 exact ⟨n,.lv5 (Nat.le_refl _) g⟩
theorem CtP.up {ts : List Tk} {ns : List Nd} {k : Nat} (h : CtP (k + 1) ts ns) (u : List Tk) (hu : Fol u k) : ∃ n,Pk (.lv (k + 1)) (ts ++ u) u ns n:=by
 have g:=h u u [] 0 (hu.mono (by omega)) (ops_stop u k (k + 1) hu (by omega))
 rw [List.append_nil] at g
 exact ⟨0,g⟩
theorem ct_of {ts : List Tk} {ns : List Nd} {k : Nat} (hk : k ≤ 4) (h : ∀ u,Fol u k → ∃ n,Pk (.lv (k + 1)) (ts ++ u) u ns n) : CtP k ts ns:=fun u v ms m hu g => by
 obtain ⟨n,h1⟩:=h u hu
 exact .lv (by omega) h1 g
theorem CtP.down {ts : List Tk} {ns : List Nd} {k : Nat} (h : CtP k ts ns) (hk : k ≤ 4) : ∀ d j,j + d = k → CtP j ts ns
 | 0,j,e => by obtain rfl : j = k:=by omega
               exact h
 | d + 1,j,e => ct_of (by omega) (fun u hu => (CtP.down h hk d (j + 1) (by omega)).up u hu)
theorem SgP.ct {ts : List Tk} {ns : List Nd} (h : SgP ts ns) (k : Nat) (hk : k ≤ 4) : CtP k ts ns :=
 (ct_of (k:=4) (Nat.le_refl _) (fun u hu => h.up u hu)).down (Nat.le_refl _) (4 - k) k (by omega)
theorem Str.of_sg {ts : List Tk} {ns : List Nd} {l : Nat} (h : SgP ts ns) (h7 : 7 ≤ l → PcP ts ns) : Str l ts ns:=⟨h7,fun _ => h,fun k _ hk _ => h.ct k hk⟩
theorem Str.of_pc {ts : List Tk} {ns : List Nd} {l : Nat} (h : PcP ts ns) : Str l ts ns:=.of_sg h.sg fun _ => h
theorem Str.mono {ts : List Tk} {ns : List Nd} {l s : Nat} (h : Str s ts ns) (hl : l ≤ s) : Str l ts ns:=⟨fun g => h.1 (by omega),fun g => h.2.1 (by omega),fun k h1 h4 hk => h.2.2 k h1 h4 (by omega)⟩
theorem Str.up {ts : List Tk} {ns : List Nd} {k : Nat} (h : Str (k + 1) ts ns) (h4 : k ≤ 4) (u : List Tk) (hu : Fol u k) : ∃ n,Pk (.lv (k + 1)) (ts ++ u) u ns n:=by
 by_cases e : k = 4
 ·subst e; exact (h.2.1 (Nat.le_refl _)).up u hu
 ·exact (h.2.2 (k + 1) (by omega) (by omega) (Nat.le_refl _)).up u hu
theorem Str.lv1 {ts : List Tk} {ns : List Nd} {s : Nat} (h : Str s ts ns) (hs : 1 ≤ s) (u : List Tk) (hu : Fol u 0) : Pk (.lv 1) (ts ++ u) u ns 0:=by
 have g:=h.2.2 1 (Nat.le_refl _) (by decide) hs u u [] 0 (hu.mono (by omega)) (ops_stop u 0 1 hu (by omega))
 rwa [List.append_nil] at g
def CnM (m : Cm) (ts : List Tk) (ns : List Nd) (n : Nat) : Prop:=ts ≠ [] ∧ match m with
 | .tr s => 1 ≤ s ∧ hkS ts ≠ 6 ∧ Str s ts ns
 | .od l => hkS ts ≠ 6 ∧ Str l ts ns
 | .ar fn i => ∀ c r,c.kind = 10 → Pk (.args fn i) (ts ++ c :: r) (c :: r) ns n
theorem hk_app {ts : List Tk} (h : ts ≠ []) (u : List Tk) : hkS (ts ++ u) = hkS ts:=by
 cases ts with
 | nil => exact absurd rfl h
 | cons t r => rfl
theorem no8 {c : Tk} {r : List Tk} {j : Nat} (hc : c.kind = j) (h : j ≠ 8) (k : Nat) : Fol (c :: r) k:=.cons fun g => h (hc.symm.trans g.1)
theorem cn_all {m : Cm} {ts : List Tk} {ns : List Nd} {n : Nat} (h : Cn m ts ns n) : CnM m ts ns n:=by
 induction h with
 | val h1 h4 => exact ⟨by simp,by decide,by simp only [hkS]; omega,.of_pc (PrP.pc ⟨0,fun u => .val h1 h4⟩)⟩
 | ref h5 => exact ⟨by simp,by decide,by simp only [hkS]; omega,.of_pc (PrP.pc ⟨0,fun u => .ref h5⟩)⟩
 | neg h8 h2 h ih =>
  refine ⟨by simp,by decide,by simp only [hkS]; omega,.of_sg (fun u hu => ?_) (by omega)⟩
  obtain ⟨n,g⟩:=ih.2.2.2.1 (by decide) u hu
  exact ⟨0,.neg h8 h2 g⟩
 | pct h8 h13 h ih =>
  obtain ⟨ts0,qs,ns0,e1,e2,hq,hp⟩:=ih.2.2.1 (by decide)
  refine ⟨by simp,by decide,by rw [hk_app ih.1]; exact ih.2.1,.of_pc ⟨ts0,qs ++ [_],ns0,by rw [e1,List.append_assoc],?_,fun q hm => ?_,hp⟩⟩
  ·rw [e2,List.append_assoc,List.length_append]
   congr 1
   show List.replicate qs.length ndPct ++ List.replicate 1 ndPct = _
   rw [List.replicate_append_replicate]; rfl
  ·rcases List.mem_append.1 hm with hm | hm
   ·exact hq q hm
   ·rw [List.mem_singleton] at hm; subst hm; exact ⟨h8,h13⟩
 | @bin t k ts us ns ms h8 hk h1 h4 h g ih ig =>
  refine ⟨by simp,h1,by rw [hk_app ih.1]; exact ih.2.1,by omega,by omega,fun j hj1 hj4 hjk => ?_⟩
  refine CtP.down (k:=k) (fun u v ms2 m hu go => ?_) h4 (k - j) j (by omega)
  obtain ⟨n,hr⟩:=ig.2.2.up h4 u hu
  have:=ih.2.2.2.2 k h1 h4 (Nat.le_refl _) (t :: (us ++ u)) v _ m (.cons (by rw [hk]; omega)) (.op h8 hk hr go)
  simpa [List.append_assoc] using this
 | @pow t ts us ns ms h8 h5 h g ih ig =>
  refine ⟨by simp,by decide,by rw [hk_app ih.1]; exact ih.2.1,.of_sg (fun u hu => ?_) (by omega)⟩
  obtain ⟨n,h1,h2⟩:=(ih.2.2.1 (by decide)).pc (t :: (us ++ u)) (.cons (fun q => absurd q.2 (by rw [h5]; decide)))
  obtain ⟨n2,g1⟩:=ig.2.2.2.1 (by decide) u hu
  have:=Pk.pow h2 h1 h8 h5 g1
  exact ⟨0,by simpa [List.append_assoc] using this⟩
 | @call t o c ts ns n h7 hf ho h hc h1 h2 hd ih =>
  refine ⟨by simp,by decide,by simp only [hkS]; omega,.of_pc (PrP.pc ⟨n,fun u => ?_⟩)⟩
  have:=Pk.call h7 hf ho (ih.2 c u hc) hc h1 h2 hd
  simpa [List.append_assoc] using this
 | bare hs h ih => exact ⟨ih.1,ih.2.2.1,ih.2.2.2.mono hs⟩
 | @par l s o c ts ns ho hc h ih =>
  refine ⟨by simp,by simp only [hkS]; omega,.of_pc (PrP.pc ⟨0,fun u => ?_⟩)⟩
  have:=Pk.par ho (ih.2.2.2.lv1 ih.2.1 (c :: u) (no8 hc (by decide) 0)) hc
  simpa [List.append_assoc] using this
 | argE h ih =>
  refine ⟨ih.1,fun c r hc => ?_⟩
  exact .argE (by rw [hk_app ih.1]; exact ih.2.2.1) (ih.2.2.2.lv1 ih.2.1 (c :: r) (no8 hc (by decide) 0)) (by simp only [hkS]; omega)
 | @argC fn i s c ts us ns ms m h hc g ih ig =>
  refine ⟨by simp,fun c2 r hc2 => ?_⟩
  have:=Pk.argC (fn:=fn) (i:=i) (ts:=ts ++ c :: (us ++ c2 :: r)) (by rw [hk_app ih.1]; exact ih.2.2.1) (ih.2.2.2.lv1 ih.2.1 (c :: (us ++ c2 :: r)) (no8 hc (by decide) 0)) hc (ig.2 c2 r hc2)
  simpa [List.append_assoc] using this
 | rngE h6 hw => exact ⟨by simp,fun c r hc => .rngE h6 hw (show c.kind ≠ 11 by omega)⟩
 | rngC h6 hw hc g ig => exact ⟨by simp,fun c2 r hc2 => .rngC h6 hw hc (ig.2 c2 r hc2)⟩
theorem cn_parse {s : Nat} {ts : List Tk} {ns : List Nd} (h : Cn (.tr s) ts ns 0) : Pk (.lv 1) ts [] ns 0:=by
 have g:=cn_all h
 have:=g.2.2.2.lv1 g.2.1 [] (Fol.nil 0)
 rwa [List.append_nil] at this
end Go.Proofs.YtnbemkiplnanlaaGreatDoor
namespace Go.Proofs.YtnbemkiplnanlaaGreatDoor
open Go.RowKit
def sepB (b : UInt8) : Bool:=[37,38,41,42,43,44,45,47,60,61,62,94].contains b
def Sep (l : List UInt8) : Prop:=∀ b r,l = b :: r → sepB b = true
theorem sep_no : ∀ b : UInt8,sepB b = true → isWrd b = false ∧ b ≠ 34 ∧ b ≠ 40 ∧ b ≠ 46 ∧ b ≠ 58 ∧ isDig b = false:=by
 intro b h
 unfold sepB at h
 simp only [List.contains_eq_mem,List.mem_cons,List.not_mem_nil,or_false,decide_eq_true_eq] at h
 rcases h with rfl | rfl | rfl | rfl | rfl | rfl | rfl | rfl | rfl | rfl | rfl | rfl <;> decide
theorem take_stop (p : UInt8 → Bool) (w r : List UInt8) (hw : ∀ b ∈ w,p b = true) (hr : stops p r = true) : (w ++ r).takeWhile p = w ∧ (w ++ r).dropWhile p = r:=by
 induction w with
 | nil =>
  cases r with
  | nil => exact ⟨rfl,rfl⟩
  | cons b r =>
   have hb : p b = false:=by simpa [stops] using hr
   exact ⟨by simp [hb],by simp [hb]⟩
 | cons c w ih =>
  have hc:=hw c (by simp)
  obtain ⟨h1,h2⟩:=ih fun b hb => hw b (by simp [hb])
  exact ⟨by rw [List.cons_append,List.takeWhile_cons,if_pos hc,h1],by rw [List.cons_append,List.dropWhile_cons,if_pos hc,h2]⟩
theorem Sep.stop {r : List UInt8} (h : Sep r) : stops isWrd r = true:=by
 cases r with
 | nil => rfl
 | cons b r => simp [stops,(sep_no b (h b r rfl)).1]
theorem Sep.paren {r : List UInt8} (h : Sep r) : r.head? ≠ some 40:=by
 cases r with
 | nil => simp
 | cons b r => intro e; exact (sep_no b (h b r rfl)).2.2.1 (Option.some.inj e)
theorem unqS_ne {b : UInt8} {r : List UInt8} (hb : b ≠ 34) (hr : r ≠ []) : unqS (b :: r) = (unqS r).map fun x => (b :: x.1,x.2 + 1):=by
 cases r with
 | nil => exact absurd rfl hr
 | cons c r => rw [unqS,if_neg hb]
theorem unqS_two (r : List UInt8) : unqS (34 :: 34 :: r) = (unqS r).map fun x => (34 :: x.1,x.2 + 2):=by rw [unqS,if_pos rfl,if_pos rfl]
theorem unqS_end {r : List UInt8} (h : Sep r) : unqS (34 :: r) = some ([],1):=by
 cases r with
 | nil => rw [unqS,if_pos rfl]
 | cons c r => rw [unqS,if_pos rfl,if_neg (sep_no c (h c r rfl)).2.1]
theorem unqS_back (t r : List UInt8) (h : Sep r) : unqS (t.flatMap quoteB ++ 34 :: r) = some (t,(t.flatMap quoteB).length + 1):=by
 induction t with
 | nil => exact unqS_end h
 | cons b t ih =>
  rw [List.flatMap_cons,List.append_assoc]
  by_cases hb : b = 34
  ·have hq : quoteB b = [34,34]:=by unfold quoteB; rw [if_pos hb]
   subst hb
   rw [hq]
   show unqS (34 :: 34 :: (t.flatMap quoteB ++ 34 :: r)) = _
   rw [unqS_two,ih]
   simp
  ·have hq : quoteB b = [b]:=by unfold quoteB; rw [if_neg hb]
   rw [hq]
   show unqS (b :: (t.flatMap quoteB ++ 34 :: r)) = _
   rw [unqS_ne hb (by simp),ih]
   simp
theorem tok_text (k : Nat) (t r : List UInt8) (h : Sep r) : tokS k (quoteS t ++ r) = some (⟨2,0,t,R4.zero,k⟩,(quoteS t).length):=by
 unfold quoteS
 show tokS k (34 :: (t.flatMap quoteB ++ [34] ++ r)) = _
 rw [tokS,if_neg (by decide),if_pos rfl,List.append_assoc]
 show (unqS (t.flatMap quoteB ++ 34 :: r)).map _ = _
 rw [unqS_back t r h]
 simp
theorem let_rng (b : UInt8) (h : isLet b = true) : 65 ≤ b.toNat:=by
 unfold isLet letV at h
 split at h
 ·omega
 ·split at h
  ·omega
  ·exact absurd h (by decide)
theorem tok_word {w r : List UInt8} {b : UInt8} (k : Nat) (hb : isLet b = true) (hw : ∀ c ∈ b :: w,isWrd c = true) (hr : stops isWrd r = true) :
  tokS k ((b :: w) ++ r) = wordS ((b :: w) ++ r) k ∧ ((b :: w) ++ r).takeWhile isWrd = b :: w ∧ ((b :: w) ++ r).dropWhile isWrd = r:=by
 obtain ⟨h1,h2⟩:=take_stop isWrd (b :: w) r hw hr
 refine ⟨?_,h1,h2⟩
 show tokS k (b :: (w ++ r)) = _
 have hd : isDig b = false:=by
  have:=let_rng b hb
  cases hq : isDig b
  ·rfl
  ·have h2 : 48 ≤ b.toNat ∧ b.toNat ≤ 57:=of_decide_eq_true hq
   omega
 rw [tokS,hd,if_neg (by decide),if_neg (by rintro rfl; exact absurd hb (by decide)),if_pos hb]
 rfl
theorem cap_up {b : UInt8} (h : capB b = true ∨ isDig b = true) : upB b = b:=by
 have hl : b.toNat ≤ 90:=by
  rcases h with h | h
  ·unfold capB at h; rw [decide_eq_true_eq] at h; exact h.2
  ·have h2 : 48 ≤ b.toNat ∧ b.toNat ≤ 57:=of_decide_eq_true h
   omega
 unfold upB
 rw [if_neg]
 omega
theorem tok_true (k : Nat) (r : List UInt8) (h : Sep r) : tokS k (trueB ++ r) = some (⟨3,1,[],R4.zero,k⟩,4):=by
 obtain ⟨h1,h2,h3⟩:=tok_word (w:=[82,85,69]) (b:=84) (r:=r) k (by decide) (by decide) h.stop
 show tokS k ((84 :: [82,85,69]) ++ r) = _
 rw [h1]
 unfold wordS
 simp only [h2,h3,if_neg h.paren]
 rfl
theorem tok_false (k : Nat) (r : List UInt8) (h : Sep r) : tokS k (falseB ++ r) = some (⟨3,0,[],R4.zero,k⟩,5):=by
 obtain ⟨h1,h2,h3⟩:=tok_word (w:=[65,76,83,69]) (b:=70) (r:=r) k (by decide) (by decide) h.stop
 show tokS k ((70 :: [65,76,83,69]) ++ r) = _
 rw [h1]
 unfold wordS
 simp only [h2,h3,if_neg h.paren]
 rfl
theorem tok_err (k : Nat) (c : Nat) (r : List UInt8) (h1 : 1 ≤ c) (h5 : c ≤ 5) : ∃ x,errNames[c - 1]? = some x ∧ tokS k (x ++ r) = some (⟨4,(c : Int),[],R4.zero,k⟩,x.length):=by
 have h : c = 1 ∨ c = 2 ∨ c = 3 ∨ c = 4 ∨ c = 5:=by omega
 rcases h with rfl | rfl | rfl | rfl | rfl
 all_goals refine ⟨_,rfl,?_⟩
 all_goals (show tokS k (35 :: _) = _; rw [tokS,if_neg (by decide),if_neg (by decide),if_neg (by decide)]; rfl)
def Opn (l : List UInt8) : Prop:=∀ b r,l = b :: r → b ≠ 61 ∧ b ≠ 62
theorem tok_op (k : Nat) (n : Int) (r : List UInt8) (h1 : 1 ≤ n) (h13 : n ≤ 13) (hr : n = 9 ∨ n = 11 → Opn r) : tokS k (opText n ++ r) = some (⟨8,n,[],R4.zero,k⟩,(opText n).length):=by
 have h : n = 1 ∨ n = 2 ∨ n = 3 ∨ n = 4 ∨ n = 5 ∨ n = 6 ∨ n = 7 ∨ n = 8 ∨ n = 9 ∨ n = 10 ∨ n = 11 ∨ n = 12 ∨ n = 13:=by omega
 have e61 : n = 9 ∨ n = 11 → r.head? ≠ some 61 ∧ r.head? ≠ some 62:=by
  intro g
  have hr2:=hr g
  cases r with
  | nil => simp
  | cons b r => exact ⟨fun e => (hr2 b r rfl).1 (Option.some.inj e),fun e => (hr2 b r rfl).2 (Option.some.inj e)⟩
 rcases h with rfl | rfl | rfl | rfl | rfl | rfl | rfl | rfl | rfl | rfl | rfl | rfl | rfl
 case inr.inr.inr.inr.inr.inr.inr.inr.inl => have e:=e61 (.inl rfl); show tokS k (60 :: r) = _; rw [tokS,if_neg (by decide),if_neg (by decide),if_neg (by decide)]; simp [errS,errNames,errF,opS,e.1,e.2]; rfl
 case inr.inr.inr.inr.inr.inr.inr.inr.inr.inr.inl => have e:=e61 (.inr rfl); show tokS k (62 :: r) = _; rw [tokS,if_neg (by decide),if_neg (by decide),if_neg (by decide)]; simp [errS,errNames,errF,opS,e.1]; rfl
 all_goals (show tokS k (_ :: _) = _; rw [tokS,if_neg (by decide),if_neg (by decide),if_neg (by decide)]; rfl)
theorem tok_mark (k : Nat) (b : UInt8) (c : Nat) (r : List UInt8) (h : (b = 40 ∧ c = 9) ∨ (b = 41 ∧ c = 10) ∨ (b = 44 ∧ c = 11)) : tokS k (b :: r) = some (⟨c,0,[],R4.zero,k⟩,1):=by
 rcases h with ⟨rfl,rfl⟩ | ⟨rfl,rfl⟩ | ⟨rfl,rfl⟩
 all_goals (rw [tokS,if_neg (by decide),if_neg (by decide),if_neg (by decide)]; rfl)
theorem tok_name (k : Nat) (t r : List UInt8) (h : nameB t = true) : tokS k (t ++ 40 :: r) = some (⟨7,0,t,R4.zero,k⟩,t.length):=by
 unfold nameB at h
 simp only [Bool.and_eq_true] at h
 obtain ⟨⟨h1,-⟩,h2⟩:=h
 cases t with
 | nil => cases h1
 | cons b t =>
  have hcd : ∀ c ∈ b :: t,capB c = true ∨ isDig c = true:=fun c hc => by simpa using List.all_eq_true.1 h2 c hc
  have hw : ∀ c ∈ b :: t,isWrd c = true:=fun c hc => by
   unfold isWrd
   rcases hcd c hc with q | q
   ·have : isLet c = true:=by
     unfold capB at q
     rw [decide_eq_true_eq] at q
     unfold isLet letV
     rw [if_pos (by omega)]
     simp <;> omega
    rw [this]; rfl
   ·rw [q,Bool.or_true]
  have hb : isLet b = true:=by
   have q : capB b = true:=h1
   unfold capB at q
   rw [decide_eq_true_eq] at q
   unfold isLet letV
   rw [if_pos (by omega)]
   simp <;> omega
  obtain ⟨g1,g2,g3⟩:=tok_word k hb hw (r:=40 :: r) (show (!isWrd 40) = true by decide)
  rw [g1]
  unfold wordS
  simp only [g2,g3]
  rw [if_pos (show (40 :: r).head? = some 40 from rfl)]
  have hm : (b :: t).map upB = b :: t:=by
   conv => rhs; rw [← List.map_id (b :: t)]
   exact List.map_congr_left fun c hc => cap_up (hcd c hc)
  rw [hm]
end Go.Proofs.YtnbemkiplnanlaaGreatDoor
namespace Go.Proofs.YtnbemkiplnanlaaGreatDoor
open Go.RowKit
open Go.Lib (decDigits)
theorem trimZ_len (l : List UInt8) : (trimZ l).length ≤ l.length:=by
 unfold trimZ
 rw [List.length_reverse]
 refine Nat.le_trans (List.dropWhile_suffix _).length_le ?_
 rw [List.length_reverse]
 exact Nat.le_refl _
theorem decS_len (n : Int) (h1 : -9223372036854775808 ≤ n) (h2 : n ≤ 9223372036854775807) : (decS n).length ≤ 60:=by
 unfold decS
 have e1:=digits_le (n.natAbs / 10000) (by omega)
 have e2:=digits_le (10000 + n.natAbs % 10000) (by omega)
 have e3:=trimZ_len ((decDigits (10000 + n.natAbs % 10000)).drop 1)
 rw [List.length_drop] at e3
 rw [List.length_append,List.length_append]
 have e4 : (if n < 0 then [45] else [] : List UInt8).length ≤ 1:=by split <;> simp
 have e5 : (if n.natAbs % 10000 = 0 then [] else 46 :: trimZ ((decDigits (10000 + n.natAbs % 10000)).drop 1) : List UInt8).length ≤ 21:=by
  split
  ·simp
  ·rw [List.length_cons]; omega
 omega
theorem ite_len {p : Prop} [Decidable p] {a b : List UInt8} (ha : a.length ≤ 2) (hb : b.length ≤ 2) : (if p then a else b).length ≤ 2:=by
 split
 ·exact ha
 ·exact hb
theorem opText_len (n : Int) : (opText n).length ≤ 2:=by
 unfold opText
 iterate 13 (refine ite_len (by decide) ?_)
 decide
end Go.Proofs.YtnbemkiplnanlaaGreatDoor
