/- Plain: the canonical text of a checked tree has its canonical tokens, and these are parsed as the tree. No program stands here. Plain: the canonical text as a function of the nodes. No program stands here. Plain: different trees have different canonical texts; what parsing the canonical text comes to. No program stands here. Plain: the outline of a tree. No program stands here. Plain: the outline's lines begin with no blank of their own. No program stands here. Plain: the outline's deepest line. No program stands here. Plain: what stands directly below a node; texts and outlines node by node. No program stands here. -/
import Derived.Test.YtnbemkiplnanlaaGreatDoorMShR
namespace Go.Proofs.YtnbemkiplnanlaaGreatDoor
open Go.RowKit
open Go.Lib (decDigits)
theorem place_app (a b : List Tk) (k : Nat) : placeT k (a ++ b) = placeT k a ++ placeT (k + (txT a).length) b:=by
 induction a generalizing k with
 | nil => rfl
 | cons t a ih =>
  show t.at k :: placeT (k + (tkT t).length) (a ++ b) = _
  rw [ih,txT_cons,List.length_append,← Nat.add_assoc]
  rfl
theorem cn_place {m : Cm} {ts : List Tk} {ns : List Nd} {n : Nat} (h : Cn m ts ns n) : ∀ k,Cn m (placeT k ts) ns n:=by
 induction h with
 | val h1 h4 => intro k; exact .val (t:=Tk.at _ k) h1 h4
 | ref h5 => intro k; exact .ref (t:=Tk.at _ k) h5
 | neg h8 h2 h ih => intro k; exact .neg (t:=Tk.at _ k) h8 h2 (ih _)
 | pct h8 h13 h ih => intro k; rw [place_app]; exact .pct (t:=Tk.at _ _) h8 h13 (ih _)
 | bin h8 hk h1 h4 h g ih ig => intro k; rw [place_app]; exact .bin (t:=Tk.at _ _) h8 hk h1 h4 (ih _) (ig _)
 | pow h8 h5 h g ih ig => intro k; rw [place_app]; exact .pow (t:=Tk.at _ _) h8 h5 (ih _) (ig _)
 | @call t o c ts ns n h7 hf ho h hc h1 h2 hd ih =>
  intro k
  show Cn _ (t.at k :: o.at _ :: placeT _ (ts ++ [c])) _ _
  rw [place_app]
  exact .call (t:=Tk.at t k) (o:=Tk.at o _) (c:=Tk.at c _) h7 hf ho (ih _) hc h1 h2 hd
 | bare hs h ih => intro k; exact .bare hs (ih k)
 | @par l s o c ts ns ho hc h ih =>
  intro k
  show Cn _ (o.at k :: placeT _ (ts ++ [c])) _ _
  rw [place_app]
  exact .par (o:=Tk.at o k) (c:=Tk.at c _) ho hc (ih _)
 | argE h ih => intro k; exact .argE (ih k)
 | argC h hc g ih ig => intro k; rw [place_app]; exact .argC (c:=Tk.at _ _) (ih _) hc (ig _)
 | rngE h6 hw => intro k; exact .rngE (t:=Tk.at _ k) h6 hw
 | rngC h6 hw hc g ig => intro k; exact .rngC (t:=Tk.at _ k) (c:=Tk.at _ _) h6 hw hc (ig _)
theorem wrd_plain (b : UInt8) (h : isWrd b = true) : plainB b = true:=by
 unfold isWrd at h
 rw [Bool.or_eq_true] at h
 unfold plainB
 rw [decide_eq_true_eq]
 rcases h with h | h
 ·unfold isLet letV at h
  split at h
  ·omega
  ·split at h
   ·omega
   ·exact absurd h (by decide)
 ·have h2 : 48 ≤ b.toNat ∧ b.toNat ≤ 57:=of_decide_eq_true h
  omega
theorem dig_plain (b : UInt8) (h : isDig b = true) : plainB b = true:=wrd_plain b (by unfold isWrd; rw [h,Bool.or_true])
theorem addr_plain (c r : Int) (h : validN c r = true) : ∀ b ∈ (formatS c r).1,plainB b = true:=by
 obtain ⟨b,w,e,-,hw,-⟩:=addr_text c r h
 rw [e]
 exact fun x hx => wrd_plain x (hw x hx)
theorem flat_plain (t : List UInt8) (h : t.all plainB = true) : ∀ b ∈ t.flatMap quoteB,plainB b = true:=by
 intro b hb
 obtain ⟨c,hc,hb⟩:=List.mem_flatMap.1 hb
 have:=List.all_eq_true.1 h c hc
 unfold quoteB at hb
 split at hb
 ·simp only [List.mem_cons,List.not_mem_nil,or_false,or_self] at hb
  subst hb; decide
 ·rw [List.mem_singleton] at hb; subst hb; exact this
theorem tk_plain {t : Tk} (h : OkC t) : ∀ b ∈ tkT t,plainB b = true:=by
 cases h with
 | num n a h0 h1 =>
  intro b hb
  have hb : b ∈ decS n:=hb
  unfold decS at hb
  rw [if_neg (by omega),List.nil_append] at hb
  rcases List.mem_append.1 hb with hb | hb
  ·exact dig_plain b (List.all_eq_true.1 (dec_dig _) b hb)
  ·split at hb
   ·cases hb
   ·rcases List.mem_cons.1 hb with rfl | hb
    ·decide
    ·rw [four_eq _ (Nat.mod_lt _ (by decide))] at hb
     obtain ⟨j,hj⟩:=trim_split (fourD (n.natAbs % 10000))
     exact dig_plain b (four_dig (n.natAbs % 10000) (Nat.mod_lt _ (by decide)) b (by rw [hj]; exact List.mem_append_left _ hb))
 | text s a hp =>
  intro b hb
  have hb : b ∈ quoteS s:=hb
  unfold quoteS at hb
  rcases List.mem_cons.1 hb with rfl | hb
  ·decide
  rcases List.mem_append.1 hb with hb | hb
  ·exact flat_plain s hp b hb
  ·rw [List.mem_singleton] at hb; subst hb; decide
 | yes a => intro b hb; exact List.all_eq_true.1 (show trueB.all plainB = true by decide) b hb
 | no a => intro b hb; exact List.all_eq_true.1 (show falseB.all plainB = true by decide) b hb
 | err c a h1 h5 =>
  have h : c = 1 ∨ c = 2 ∨ c = 3 ∨ c = 4 ∨ c = 5:=by omega
  intro b hb
  rcases h with rfl | rfl | rfl | rfl | rfl
  all_goals (refine List.all_eq_true.1 (?_ : (tkT _).all plainB = true) b hb; rfl)
 | ref c r a h =>
  intro b hb
  have hb : b ∈ rngT ⟨c,r,c,r⟩:=hb
  unfold rngT at hb
  rw [if_pos ⟨rfl,rfl⟩,List.append_nil] at hb
  exact addr_plain c r h b hb
 | rng r a h hn =>
  intro b hb
  have hb : b ∈ rngT r:=hb
  unfold rngT at hb
  rw [if_neg hn] at hb
  unfold checkB at h
  simp only [Bool.and_eq_true,decide_eq_true_eq] at h
  rcases List.mem_append.1 hb with hb | hb
  ·exact addr_plain _ _ h.1.1.1 b hb
  rcases List.mem_cons.1 hb with rfl | hb
  ·decide
  ·exact addr_plain _ _ h.1.1.2 b hb
 | name s a h =>
  intro b hb
  have hb : b ∈ s:=hb
  unfold nameB at h
  simp only [Bool.and_eq_true] at h
  have:=List.all_eq_true.1 h.2 b hb
  rw [Bool.or_eq_true] at this
  rcases this with g | g
  ·unfold capB at g
   rw [decide_eq_true_eq] at g
   unfold plainB
   rw [decide_eq_true_eq]; omega
  ·exact dig_plain b g
 | op n a h1 h13 =>
  have g : n = 1 ∨ n = 2 ∨ n = 3 ∨ n = 4 ∨ n = 5 ∨ n = 6 ∨ n = 7 ∨ n = 8 ∨ n = 9 ∨ n = 10 ∨ n = 11 ∨ n = 12 ∨ n = 13:=by omega
  intro b hb
  rcases g with rfl | rfl | rfl | rfl | rfl | rfl | rfl | rfl | rfl | rfl | rfl | rfl | rfl
  all_goals (refine List.all_eq_true.1 (?_ : (tkT _).all plainB = true) b hb; rfl)
 | lp a => intro b hb; exact List.all_eq_true.1 (show ([40] : List UInt8).all plainB = true by decide) b hb
 | rp a => intro b hb; exact List.all_eq_true.1 (show ([41] : List UInt8).all plainB = true by decide) b hb
 | comma a => intro b hb; exact List.all_eq_true.1 (show ([44] : List UInt8).all plainB = true by decide) b hb
theorem text_tokens {s : Nat} {ts : List Tk} {ns : List Nd} (h : Cn (.tr s) ts ns 0) (hk : ∀ t ∈ ts,OkC t) (hl : (txT ts).length ≤ 256) : tokensS (txT ts) = (placeT 0 ts,0,0):=by
 have hp : ∀ b ∈ txT ts,plainB b = true:=by
  intro b hb
  obtain ⟨t,ht,hb⟩:=List.mem_flatMap.1 hb
  exact tk_plain (hk t ht) b hb
 unfold tokensS
 rw [if_neg (by omega)]
 have hf : (txT ts).findIdx? (fun b => !plainB b) = none:=by
  rw [List.findIdx?_eq_none_iff]
  intro b hb
  rw [hp b hb]; rfl
 rw [hf]
 simp only
 rw [(toks_lex (txT ts).length 0 (txT ts) (placeT 0 ts) (Nat.le_refl _)).2 (cn_lex h hk)]
theorem text_back {s : Nat} {ts : List Tk} {ns : List Nd} (h : Cn (.tr s) ts ns 0) : Pk (.lv 1) (placeT 0 ts) [] ns 0:=cn_parse (cn_place h 0)
end Go.Proofs.YtnbemkiplnanlaaGreatDoor
namespace Go.Proofs.YtnbemkiplnanlaaGreatDoor
open Go.RowKit
abbrev Tx:=List UInt8 × Nat
def opT (l : Nat) (x : Tx) : List UInt8:=if l ≤ x.2 then x.1 else 40 :: (x.1 ++ [41])
def jnT : List Tx → List UInt8
 | [] => []
 | [x] => x.1
 | x :: y :: r => x.1 ++ 44 :: jnT (y :: r)
def ownT (n : Nd) : List UInt8 :=
 if n.kind = 1 then tkT (tkV n) else if n.kind = 2 then rngT n.r else if n.kind = 3 then rngT n.r else if n.kind = 6 then opText n.op else nameF n.fn
def comT (n : Nd) (xs : List Tx) : Tx :=
 if n.kind = 1 then (ownT n,8)
 else if n.kind = 2 then (ownT n,8)
 else if n.kind = 3 then (ownT n,8)
 else if n.kind = 4 then (45 :: opT 5 (xs.getD 0 ([],8)),5)
 else if n.kind = 5 then (opT 7 (xs.getD 0 ([],8)) ++ [37],7)
 else if n.kind = 6 then (if n.op = 5 then (opT 7 (xs.getD 0 ([],8)) ++ (ownT n ++ opT 5 (xs.getD 1 ([],8))),6)
  else (opT (bindS n.op) (xs.getD 0 ([],8)) ++ (ownT n ++ opT (bindS n.op + 1) (xs.getD 1 ([],8))),bindS n.op))
 else (ownT n ++ 40 :: (jnT xs ++ [41]),8)
def enT (e : En) : Tx:=(txT e.ts,e.s)
theorem opT_pr (l : Nat) (e : En) : txT (prO l e) = opT l (enT e):=by
 unfold prO opT enT
 by_cases h : l ≤ e.s
 ·rw [if_pos h,if_pos h]
 ·rw [if_neg h,if_neg h,txT_cons,txT_app]
  rfl
theorem jnT_ar : ∀ es : List En,txT (arJ es) = jnT (es.map enT)
 | [] => rfl
 | [e] => rfl
 | e :: f :: r => by
  have ih:=jnT_ar (f :: r)
  show txT (e.ts ++ tkC :: arJ (f :: r)) = _
  rw [txT_app,txT_cons,ih]
  rfl
theorem getD_map (es : List En) (i : Nat) : (es.map enT).getD i ([],8) = enT (es.getD i ⟨[],8⟩):=by
 rw [List.getD_eq_getElem?_getD,List.getD_eq_getElem?_getD,List.getElem?_map]
 cases es[i]? <;> rfl
theorem com_txt (n : Nd) (es : List En) : enT (comE n es) = comT n (es.map enT):=by
 unfold comE comT ownT
 rw [getD_map,getD_map]
 by_cases h1 : n.kind = 1
 ·simp only [if_pos h1]
  show (txT [tkV n],8) = _
  rw [txT_cons]
  show (tkT (tkV n) ++ [],8) = _
  rw [List.append_nil]
 simp only [if_neg h1]
 by_cases h2 : n.kind = 2
 ·simp only [if_pos h2]
  show (rngT n.r ++ [],8) = _
  rw [List.append_nil]
 simp only [if_neg h2]
 by_cases h3 : n.kind = 3
 ·simp only [if_pos h3]
  show (rngT n.r ++ [],8) = _
  rw [List.append_nil]
 simp only [if_neg h3]
 by_cases h4 : n.kind = 4
 ·simp only [if_pos h4]
  show (txT (tkO 2 :: prO 5 _),5) = _
  rw [txT_cons,opT_pr]
  rfl
 simp only [if_neg h4]
 by_cases h5 : n.kind = 5
 ·simp only [if_pos h5]
  show (txT (prO 7 _ ++ [tkO 13]),7) = _
  rw [txT_app,opT_pr]
  rfl
 simp only [if_neg h5]
 by_cases h6 : n.kind = 6
 ·simp only [if_pos h6]
  by_cases h : n.op = 5
  ·simp only [if_pos h]
   show (txT (prO 7 _ ++ tkO n.op :: prO 5 _),6) = _
   rw [txT_app,txT_cons,opT_pr,opT_pr,h]
   rfl
  ·simp only [if_neg h]
   show (txT (prO _ _ ++ tkO n.op :: prO _ _),_) = _
   rw [txT_app,txT_cons,opT_pr,opT_pr]
   rfl
 simp only [if_neg h6]
 show (txT (tkN n.fn :: tkL :: (arJ es ++ [tkR])),8) = _
 rw [txT_cons,txT_cons,txT_app,jnT_ar]
 rfl
def txW : List Nd → List Tx → List Tx
 | [],xs => xs
 | n :: l,xs => txW l (xs.take (xs.length - belowS n) ++ [comT n (xs.drop (xs.length - belowS n))])
theorem txW_com : ∀ (l : List Nd) (es : List En),(comW l es).map enT = txW l (es.map enT)
 | [],_ => rfl
 | n :: l,es => by
  rw [comW,txW,txW_com l]
  simp only [List.map_append,List.map_take,List.map_cons,List.map_nil,List.length_map,com_txt,List.map_drop]
def showT (t : List Nd) : List UInt8:=((txW t []).headD ([],8)).1
theorem show_back (t : List Nd) (ht : ∀ n ∈ t,NdC n) (h : checkS t = 0) (hl : (showT t).length ≤ 256) : ∃ ts,tokensS (showT t) = (ts,0,0) ∧ Pk (.lv 1) ts [] t 0:=by
 obtain ⟨e,he,hc,hk⟩:=tree_cn t ht h
 have hx : showT t = txT e.ts:=by
  unfold showT
  have:=txW_com t []
  rw [he] at this
  rw [← show (List.map enT [e]) = txW t [] from this]
  rfl
 rw [hx] at hl ⊢
 exact ⟨_,text_tokens hc hk hl,text_back hc⟩
end Go.Proofs.YtnbemkiplnanlaaGreatDoor
namespace Go.Proofs.YtnbemkiplnanlaaGreatDoor
open Go.RowKit
end Go.Proofs.YtnbemkiplnanlaaGreatDoor
namespace Go.Proofs.YtnbemkiplnanlaaGreatDoor
open Go.RowKit
abbrev Ol:=List (Nat × List UInt8)
def ownO (n : Nd) : List UInt8:=if n.kind = 4 then [110,101,103] else if n.kind = 5 then [112,101,114,99,101,110,116] else ownT n
def downO (l : Ol) : Ol:=l.map fun x => (x.1 + 1,x.2)
def comO (n : Nd) (es : List Ol) : Ol:=(0,ownO n) :: es.flatMap downO
def olW : List Nd → List Ol → List Ol
 | [],es => es
 | n :: l,es => olW l (es.take (es.length - belowS n) ++ [comO n (es.drop (es.length - belowS n))])
def outS (t : List Nd) : Ol:=(olW t []).headD []
def lineO (x : Nat × List UInt8) : List UInt8:=List.replicate (2 * x.1) 32 ++ x.2
def Steps : Nat → Ol → Prop
 | _,[] => True
 | p,x :: r => 1 ≤ x.1 ∧ x.1 ≤ p + 1 ∧ Steps x.1 r
def WfO (l : Ol) : Prop:=∃ a r,l = (0,a) :: r ∧ Steps 0 r
theorem Steps.any {l : Ol} (h : Steps 0 l) (q : Nat) : Steps q l:=by
 cases l with
 | nil => trivial
 | cons x r => exact ⟨h.1,by have:=h.2.1; omega,h.2.2⟩
theorem Steps.app {p : Nat} {a b : Ol} (h : Steps p a) (g : Steps 0 b) : Steps p (a ++ b):=by
 induction a generalizing p with
 | nil => exact g.any p
 | cons x a ih => exact ⟨h.1,h.2.1,ih h.2.2⟩
theorem Steps.down {p : Nat} {a : Ol} (h : Steps p a) : Steps (p + 1) (downO a):=by
 induction a generalizing p with
 | nil => trivial
 | cons x a ih => exact ⟨by show 1 ≤ x.1 + 1; omega,by have:=h.2.1; show x.1 + 1 ≤ p + 1 + 1; omega,ih h.2.2⟩
theorem WfO.down {l : Ol} (h : WfO l) : Steps 0 (downO l):=by
 obtain ⟨a,r,rfl,hr⟩:=h
 exact ⟨Nat.le_refl _,Nat.le_refl _,hr.down⟩
theorem wf_com (n : Nd) (es : List Ol) (h : ∀ l ∈ es,WfO l) : WfO (comO n es):=by
 refine ⟨ownO n,es.flatMap downO,rfl,?_⟩
 induction es with
 | nil => trivial
 | cons l es ih =>
  rw [List.flatMap_cons]
  exact (h l (by simp)).down.app (ih fun x hx => h x (by simp [hx]))
theorem wf_walk : ∀ (l : List Nd) (es : List Ol),(∀ x ∈ es,WfO x) → ∀ x ∈ olW l es,WfO x
 | [],_,h => h
 | n :: l,es,h => by
  rw [olW]
  refine wf_walk l _ fun x hx => ?_
  rcases List.mem_append.1 hx with hx | hx
  ·exact h x (List.mem_of_mem_take hx)
  ·rw [List.mem_singleton] at hx
   subst hx
   exact wf_com n _ fun y hy => h y (List.mem_of_mem_drop hy)
def sumO (es : List Ol) : Nat:=(es.map List.length).sum
theorem sum_app (a b : List Ol) : sumO (a ++ b) = sumO a + sumO b:=by unfold sumO; rw [List.map_append,List.sum_append]
theorem com_len (n : Nd) (es : List Ol) : (comO n es).length = sumO es + 1:=by
 unfold comO
 rw [List.length_cons]
 congr 1
 induction es with
 | nil => rfl
 | cons l es ih =>
  rw [List.flatMap_cons,List.length_append,ih]
  unfold downO sumO
  simp
theorem sum_walk : ∀ (l : List Nd) (es : List Ol),sumO (olW l es) = sumO es + l.length
 | [],_ => rfl
 | n :: l,es => by
  rw [olW,sum_walk l,sum_app]
  have h1 : sumO [comO n (es.drop (es.length - belowS n))] = sumO (es.drop (es.length - belowS n)) + 1:=by
   show (comO n _).length + 0 = _
   rw [com_len]
  have h2 : sumO es = sumO (es.take (es.length - belowS n)) + sumO (es.drop (es.length - belowS n)):=by rw [← sum_app,List.take_append_drop]
  rw [h1,h2,List.length_cons]
  omega
theorem walk_lens : ∀ (l : List Nd) (es : List Ol) (fs : List En),es.length = fs.length → (olW l es).length = (comW l fs).length
 | [],_,_,h => h
 | n :: l,es,fs,h => by
  rw [olW,comW]
  exact walk_lens l _ _ (by simp [h])
theorem out_lines (t : List Nd) (ht : ∀ n ∈ t,NdC n) (h : checkS t = 0) : (outS t).length = t.length ∧ WfO (outS t):=by
 obtain ⟨e,he,-,-⟩:=tree_cn t ht h
 have hl:=walk_lens t [] [] rfl
 rw [he] at hl
 have hw:=wf_walk t [] (by simp)
 have hs:=sum_walk t []
 unfold outS
 cases ho : olW t [] with
 | nil => rw [ho] at hl; cases hl
 | cons x r =>
  rw [ho] at hl hw hs
  cases r with
  | cons y r => simp at hl
  | nil =>
   refine ⟨?_,hw x (by simp)⟩
   show x.length = t.length
   have : sumO [x] = x.length:=by show x.length + 0 = _; omega
   rw [this] at hs
   have h0 : sumO [] = 0:=rfl
   omega
end Go.Proofs.YtnbemkiplnanlaaGreatDoor
namespace Go.Proofs.YtnbemkiplnanlaaGreatDoor
open Go.RowKit
end Go.Proofs.YtnbemkiplnanlaaGreatDoor
namespace Go.Proofs.YtnbemkiplnanlaaGreatDoor
open Go.RowKit
end Go.Proofs.YtnbemkiplnanlaaGreatDoor
namespace Go.Proofs.YtnbemkiplnanlaaGreatDoor
open Go.RowKit
def rootsW : List Nd → Nat → List Nat → List Nat
 | [],_,rs => rs
 | n :: l,i,rs => rootsW l (i + 1) (rs.take (rs.length - belowS n) ++ [i])
def rootsAt (t : List Nd) (i : Nat) : List Nat:=rootsW (t.take i) 0 []
def kidsOf (rs : List Nat) (n : Nd) : List Nat:=rs.drop (rs.length - belowS n)
def kidsS (t : List Nd) (i : Nat) : List Nat:=match t[i]? with
 | none => []
 | some n => kidsOf (rootsAt t i) n
theorem roots_snoc : ∀ (l : List Nd) (n : Nd) (i : Nat) (rs : List Nat),rootsW (l ++ [n]) i rs = (rootsW l i rs).take ((rootsW l i rs).length - belowS n) ++ [i + l.length]
 | [],n,i,rs => rfl
 | m :: l,n,i,rs => by
  show rootsW (l ++ [n]) (i + 1) _ = _
  rw [roots_snoc l n (i + 1)]
  show _ = (rootsW l (i + 1) _).take _ ++ [i + (l.length + 1)]
  rw [show i + 1 + l.length = i + (l.length + 1) by omega]
  rfl
theorem roots_step {t : List Nd} {i : Nat} {n : Nd} (h : t[i]? = some n) : rootsAt t (i + 1) = (rootsAt t i).take ((rootsAt t i).length - belowS n) ++ [i]:=by
 obtain ⟨hi,hn⟩:=List.getElem?_eq_some_iff.1 h
 unfold rootsAt
 rw [List.take_succ_eq_append_getElem hi,hn,roots_snoc,List.length_take,Nat.min_eq_left (by omega),Nat.zero_add]
theorem kids_eq {t : List Nd} {i : Nat} {n : Nd} (h : t[i]? = some n) : kidsS t i = (rootsAt t i).drop ((rootsAt t i).length - belowS n):=by
 unfold kidsS
 rw [h]; rfl
theorem roots_lt (t : List Nd) : ∀ i,(rootsAt t i).Pairwise (· < ·) ∧ ∀ r ∈ rootsAt t i,r < i:=by
 intro i
 induction i with
 | zero => exact ⟨.nil,by intro r hr; cases hr⟩
 | succ i ih =>
  cases h : t[i]? with
  | none =>
   have hl : t.length ≤ i:=List.getElem?_eq_none_iff.1 h
   have e : rootsAt t (i + 1) = rootsAt t i:=by unfold rootsAt; rw [List.take_of_length_le hl,List.take_of_length_le (by omega)]
   rw [e]
   exact ⟨ih.1,fun r hr => Nat.lt_succ_of_lt (ih.2 r hr)⟩
  | some n =>
   rw [roots_step h]
   refine ⟨List.pairwise_append.2 ⟨ih.1.sublist (List.take_sublist _ _),List.pairwise_singleton _ _,fun a ha b hb => ?_⟩,fun r hr => ?_⟩
   ·rw [List.mem_singleton] at hb; subst hb
    exact ih.2 a (List.mem_of_mem_take ha)
   ·rcases List.mem_append.1 hr with hr | hr
    ·exact Nat.lt_succ_of_lt (ih.2 r (List.mem_of_mem_take hr))
    ·rw [List.mem_singleton] at hr; omega
theorem kids_lt (t : List Nd) (i : Nat) : ∀ k ∈ kidsS t i,k < i:=by
 intro k hk
 unfold kidsS at hk
 split at hk
 ·cases hk
 ·exact (roots_lt t i).2 k (List.mem_of_mem_drop hk)
def txAt (t : List Nd) (i : Nat) : Tx:=((txW (t.take (i + 1)) []).getLast?).getD ([],8)
theorem txW_snoc : ∀ (l : List Nd) (n : Nd) (xs : List Tx),txW (l ++ [n]) xs = (txW l xs).take ((txW l xs).length - belowS n) ++ [comT n ((txW l xs).drop ((txW l xs).length - belowS n))]
 | [],_,_ => rfl
 | _ :: l,n,_ => txW_snoc l n _
theorem tx_roots (t : List Nd) : ∀ i,i ≤ t.length → txW (t.take i) [] = (rootsAt t i).map (txAt t) ∧ ∀ n,t[i]? = some n → txAt t i = comT n ((kidsS t i).map (txAt t)):=by
 intro i
 induction i with
 | zero =>
  intro _
  refine ⟨rfl,fun n hn => ?_⟩
  obtain ⟨hi,e⟩:=List.getElem?_eq_some_iff.1 hn
  have e1 : txAt t 0 = ((txW (t.take 1) []).getLast?).getD ([],8):=rfl
  have e2 : t.take 1 = [n]:=by
   have:=List.take_succ_eq_append_getElem hi
   rw [e] at this
   simpa using this
  rw [e1,e2,kids_eq hn,show rootsAt t 0 = [] from rfl,List.drop_nil]
  show (([] : List Tx).take (0 - belowS n) ++ [_]).getLast?.getD _ = _
  rw [List.take_nil]
  show comT n (List.drop (0 - belowS n) []) = _
  rw [List.drop_nil]
  rfl
 | succ i ih =>
  intro hi
  obtain ⟨n,hn⟩ : ∃ n,t[i]? = some n:=⟨_,List.getElem?_eq_getElem (by omega)⟩
  obtain ⟨h1,h2⟩:=ih (by omega)
  obtain ⟨hl,e⟩:=List.getElem?_eq_some_iff.1 hn
  have h3 : txW (t.take (i + 1)) [] = (rootsAt t (i + 1)).map (txAt t):=by
   rw [roots_step hn,List.map_append,List.take_succ_eq_append_getElem hl,e,txW_snoc,h1]
   simp only [List.length_map,List.map_take,List.map_cons,List.map_nil]
   rw [h2 n hn,kids_eq hn,List.map_drop]
  refine ⟨h3,fun m hm => ?_⟩
  obtain ⟨hl2,e2⟩:=List.getElem?_eq_some_iff.1 hm
  show ((txW (t.take (i + 1 + 1)) []).getLast?).getD ([],8) = _
  rw [List.take_succ_eq_append_getElem hl2,e2,txW_snoc,h3,kids_eq hm]
  simp only [List.length_map]
  rw [List.map_drop]
  simp
theorem tx_eq {t : List Nd} {i : Nat} {n : Nd} (h : t[i]? = some n) : txAt t i = comT n ((kidsS t i).map (txAt t)) :=
 (tx_roots t i (Nat.le_of_lt (List.getElem?_eq_some_iff.1 h).1)).2 n h
def olAt (t : List Nd) (i : Nat) : Ol:=((olW (t.take (i + 1)) []).getLast?).getD []
theorem olW_snoc : ∀ (l : List Nd) (n : Nd) (xs : List Ol),olW (l ++ [n]) xs = (olW l xs).take ((olW l xs).length - belowS n) ++ [comO n ((olW l xs).drop ((olW l xs).length - belowS n))]
 | [],_,_ => rfl
 | _ :: l,n,_ => olW_snoc l n _
theorem ol_roots (t : List Nd) : ∀ i,i ≤ t.length → olW (t.take i) [] = (rootsAt t i).map (olAt t) ∧ ∀ n,t[i]? = some n → olAt t i = comO n ((kidsS t i).map (olAt t)):=by
 intro i
 induction i with
 | zero =>
  intro _
  refine ⟨rfl,fun n hn => ?_⟩
  obtain ⟨hi,e⟩:=List.getElem?_eq_some_iff.1 hn
  have e1 : olAt t 0 = ((olW (t.take 1) []).getLast?).getD []:=rfl
  have e2 : t.take 1 = [n]:=by
   have:=List.take_succ_eq_append_getElem hi
   rw [e] at this
   simpa using this
  rw [e1,e2,kids_eq hn,show rootsAt t 0 = [] from rfl,List.drop_nil]
  show (([] : List Ol).take (0 - belowS n) ++ [_]).getLast?.getD _ = _
  rw [List.take_nil]
  show comO n (List.drop (0 - belowS n) []) = _
  rw [List.drop_nil]
  rfl
 | succ i ih =>
  intro hi
  obtain ⟨n,hn⟩ : ∃ n,t[i]? = some n:=⟨_,List.getElem?_eq_getElem (by omega)⟩
  obtain ⟨h1,h2⟩:=ih (by omega)
  obtain ⟨hl,e⟩:=List.getElem?_eq_some_iff.1 hn
  have h3 : olW (t.take (i + 1)) [] = (rootsAt t (i + 1)).map (olAt t):=by
   rw [roots_step hn,List.map_append,List.take_succ_eq_append_getElem hl,e,olW_snoc,h1]
   simp only [List.length_map,List.map_take,List.map_cons,List.map_nil]
   rw [h2 n hn,kids_eq hn,List.map_drop]
  refine ⟨h3,fun m hm => ?_⟩
  obtain ⟨hl2,e2⟩:=List.getElem?_eq_some_iff.1 hm
  show ((olW (t.take (i + 1 + 1)) []).getLast?).getD [] = _
  rw [List.take_succ_eq_append_getElem hl2,e2,olW_snoc,h3,kids_eq hm]
  simp only [List.length_map]
  rw [List.map_drop]
  simp
theorem ol_eq {t : List Nd} {i : Nat} {n : Nd} (h : t[i]? = some n) : olAt t i = comO n ((kidsS t i).map (olAt t)) :=
 (ol_roots t i (Nat.le_of_lt (List.getElem?_eq_some_iff.1 h).1)).2 n h
theorem walk_roots (t : List Nd) : ∀ (l : List Nd) (i : Nat) (st st2 : List Pt),t.drop i = l → i ≤ t.length → walkW t i l st = .ok st2 → st.map (·.root) = rootsAt t i →
  st2.map (·.root) = rootsAt t t.length ∧ ∀ k n,i ≤ k → t[k]? = some n → (kidsS t k).length = belowS n
 | [],i,st,st2,hd,hi,h,hr => by
  rw [walkW] at h
  injection h with h
  have hl : t.length ≤ i:=by have:=congrArg List.length hd; rw [List.length_drop] at this; simp at this; omega
  obtain rfl : i = t.length:=by omega
  refine ⟨by rw [← h]; exact hr,fun k n hk hn => ?_⟩
  have:=(List.getElem?_eq_some_iff.1 hn).1
  omega
 | n :: l,i,st,st2,hd,hi,h,hr => by
  obtain ⟨hn,hd2⟩:=drop_at_ hd
  have hlt:=(List.getElem?_eq_some_iff.1 hn).1
  have hlen : st.length = (rootsAt t i).length:=by have:=congrArg List.length hr; rwa [List.length_map] at this
  rw [walkW] at h
  cases hs : stepW t st i n with
  | error c => rw [hs] at h; cases h
  | ok s1 =>
   rw [hs] at h
   unfold stepW at hs
   split at hs
   ·cases hs
   next hge =>
   split at hs
   ·cases hs
   split at hs
   ·cases hs
   injection hs with hs
   obtain ⟨g1,g2⟩:=walk_roots t l (i + 1) s1 st2 hd2 (by omega) h (by
    rw [roots_step hn,← hs,List.map_append,List.map_take,hr,hlen]
    rfl)
   refine ⟨g1,fun k m hk hm => ?_⟩
   by_cases e : k = i
   ·subst e
    rw [hn] at hm
    obtain rfl:=Option.some.inj hm
    rw [kids_eq hn,List.length_drop]
    omega
   ·exact g2 k m (by omega) hm
theorem tree_roots {t : List Nd} {p : Pt} (h : walkW t 0 t [] = .ok [p]) (h0 : t ≠ []) : rootsAt t t.length = [t.length - 1] ∧ (∀ k n,t[k]? = some n → (kidsS t k).length = belowS n) ∧ showT t = (txAt t (t.length - 1)).1 ∧ outS t = olAt t (t.length - 1):=by
 obtain ⟨g1,g2⟩:=walk_roots t t 0 [] [p] rfl (Nat.zero_le _) h rfl
 have hpos : 0 < t.length:=List.length_pos_iff.2 h0
 obtain ⟨n,hn⟩ : ∃ n,t[t.length - 1]? = some n:=⟨_,List.getElem?_eq_getElem (by omega)⟩
 have e : rootsAt t t.length = [t.length - 1]:=by
  have:=roots_step hn
  rw [show t.length - 1 + 1 = t.length by omega] at this
  rw [this] at g1 ⊢
  have hl:=congrArg List.length g1
  rw [List.length_append] at hl
  simp only [List.length_map,List.length_cons,List.length_nil] at hl
  have : (rootsAt t (t.length - 1)).take ((rootsAt t (t.length - 1)).length - belowS n) = []:=List.length_eq_zero_iff.1 (by omega)
  rw [this]; rfl
 refine ⟨e,fun k m hm => g2 k m (Nat.zero_le _) hm,?_,?_⟩
 ·have:=(tx_roots t t.length (Nat.le_refl _)).1
  rw [List.take_of_length_le (Nat.le_refl _),e] at this
  unfold showT
  rw [this]; rfl
 ·have:=(ol_roots t t.length (Nat.le_refl _)).1
  rw [List.take_of_length_le (Nat.le_refl _),e] at this
  unfold outS
  rw [this]; rfl
end Go.Proofs.YtnbemkiplnanlaaGreatDoor
