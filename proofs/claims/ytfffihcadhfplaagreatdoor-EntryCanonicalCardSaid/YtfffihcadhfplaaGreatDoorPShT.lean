/- Plain: every checked tree has canonical tokens, which are lexed and parsed back. No program stands here. Plain: the canonical text of a checked tree has its canonical tokens, and these are parsed as the tree. No program stands here. Plain: the canonical text as a function of the nodes. No program stands here. -/
import Derived.Test.YtfffihcadhfplaaGreatDoorPShO
namespace Go.Proofs.YtfffihcadhfplaaGreatDoor
open Go.RowKit
theorem drop_at_ {α:Type} {t:List α} {i:Nat} {n:α} {l:List α} (h:t.drop i=n::l):t[i]?=some n∧t.drop (i+1)=l:=by
 constructor
 ·have:=congrArg (·[0]?) h
  simpa using this
 ·have:=congrArg (List.drop 1) h
  rw [List.drop_drop] at this
  exact this
def comW:List Nd→List En→List En
 | [],es=>es
 | n::l,es=>comW l (es.take (es.length - belowS n)++[comE n (es.drop (es.length - belowS n))])
theorem walk_cn (t:List Nd) (ht:∀ n∈t,NdC n):∀ (l:List Nd) (i:Nat) (J:List Jt) (st2:List Pt),(∀ x∈J,JOk t x)→t.drop i=l→walkW t i l (J.map (·.1))=.ok st2 →
  ∃ J2:List Jt,st2=J2.map (·.1)∧(∀ x∈J2,JOk t x)∧J2.flatMap (·.2.2)=J.flatMap (·.2.2)++l∧J2.map (·.2.1)=comW l (J.map (·.2.1))
 | [],_,J,st2,hJ,_,h=>⟨J,by rw [walkW] at h; injection h with h; exact h.symm,hJ,by rw [List.append_nil],rfl⟩
 | n::l,i,J,st2,hJ,hd,h=>by
  obtain ⟨hi,hd2⟩:=drop_at_ hd
  have hnc:=ht n (List.mem_of_getElem? hi)
  rw [walkW] at h
  cases hs:stepW t (J.map (·.1)) i n with
  | error c=>rw [hs] at h; cases h
  | ok st =>
   rw [hs] at h
   unfold stepW at hs
   split at hs
   ·cases hs
   next hlen =>
   split at hs
   ·cases hs
   next hfit =>
   split at hs
   ·cases hs
   injection hs with hs
   rw [List.length_map] at hlen hfit hs
   rw [← List.map_drop] at hfit hs
   rw [← List.map_take] at hs
   obtain ⟨js,hjs⟩:∃ js,J.drop (J.length - belowS n)=js:=⟨_,rfl⟩
   rw [hjs] at hfit hs
   have hjl:js.length=belowS n:=by rw [← hjs,List.length_drop]; omega
   have hjo:∀ x∈js,JOk t x:=fun x hx=>hJ x (List.mem_of_mem_drop (hjs▸hx))
   obtain ⟨e,he,h3,h4⟩:=own_cn hnc t js hjl hjo (by simpa using hfit)
   have hok:JOk t (⟨i,deepS (js.map (·.1)),decide (n.kind=3)⟩,e,js.flatMap (·.2.2)++[n]):=by
    refine ⟨?_,?_⟩
    ·by_cases g:n.kind=3
     ·exact .inl ⟨decide_eq_true g,h3 g⟩
     ·exact .inr ⟨decide_eq_false g,h4 g⟩
    ·show (js.flatMap (·.2.2)++[n]).getLast?.map (·.kind)=some (kindAt t i)
     rw [List.getLast?_append]
     unfold kindAt
     rw [hi]
     rfl
   obtain ⟨J2,e1,e2,e3,e4⟩:=walk_cn t ht l (i+1) (J.take (J.length - belowS n)++[(⟨i,deepS (js.map (·.1)),decide (n.kind=3)⟩,e,js.flatMap (·.2.2)++[n])]) st2
    (fun x hx=>by
     rcases List.mem_append.1 hx with hx | hx
     ·exact hJ x (List.mem_of_mem_take hx)
     ·rw [List.mem_singleton] at hx; subst hx; exact hok) hd2 (by rw [List.map_append]; show walkW t (i+1) l (_++[_])=_; rw [hs]; exact h)
   refine ⟨J2,e1,e2,?_,?_⟩
   case refine_2 =>
    rw [e4,comW]
    simp only [List.map_append,List.map_take,List.length_map,List.map_cons,List.map_nil]
    rw [he,← hjs,List.map_drop]
   rw [e3,List.flatMap_append]
   have hsp:J.flatMap (·.2.2)=(J.take (J.length - belowS n)).flatMap (·.2.2)++js.flatMap (·.2.2):=by
    rw [← hjs,← List.flatMap_append,List.take_append_drop]
   rw [hsp]
   simp [List.append_assoc]
theorem walk_err (t:List Nd):∀ (l:List Nd) (i:Nat) (st:List Pt) (c:Int),walkW t i l st=.error c→¬ c=0
 | [],_,_,_,h=>by rw [walkW] at h; cases h
 | n::l,i,st,c,h=>by
  rw [walkW] at h
  cases hs:stepW t st i n with
  | ok st2=>rw [hs] at h; exact walk_err t l (i+1) st2 c h
  | error d =>
   rw [hs] at h
   injection h with h
   subst h
   unfold stepW at hs
   split at hs
   ·injection hs with hs; omega
   split at hs
   ·injection hs with hs; omega
   split at hs
   ·injection hs with hs; omega
   ·cases hs
theorem tree_cn (t:List Nd) (ht:∀ n∈t,NdC n) (h:checkS t=0):∃ e:En,comW t []=[e]∧Cn (.tr e.s) e.ts t 0∧∀ q∈e.ts,OkC q:=by
 unfold checkS at h
 split at h
 ·exact absurd h (by decide)
 split at h
 ·exact absurd h (by decide)
 split at h
 next hw=>exact absurd h hw
 next hw =>
 split at h
 ·exact absurd h (by decide)
 next hl =>
 have hw0:walkE t=0:=by simpa using hw
 unfold walkE at hw0
 cases hst:walkW t 0 t [] with
 | error c =>
  rw [hst] at hw0
  exact absurd hw0 (walk_err t t 0 [] c hst)
 | ok st =>
  rw [hst] at hw0
  simp only at hw0
  have h1:st.length=1:=by
   by_cases g:st.length=1
   ·exact g
   ·rw [if_neg g] at hw0; exact absurd hw0 (by decide)
  obtain ⟨J2,e1,e2,e3,e4⟩:=walk_cn t ht t 0 [] st (by simp) rfl hst
  rw [e1,List.length_map] at h1
  match J2,h1 with
  | [x],_ =>
   simp only [List.flatMap_cons,List.flatMap_nil,List.append_nil,List.nil_append] at e3
   have hx:=e2 x (by simp)
   rcases hx.1 with ⟨-,r,-,er,-⟩ | ⟨-,hc,ok⟩
   ·rw [← e3,er] at hl
    exact absurd rfl hl
   ·rw [e3] at hc
    exact ⟨_,e4.symm,hc,ok⟩
open Go.Lib (decDigits)
theorem place_app (a b:List Tk) (k:Nat):placeT k (a++b)=placeT k a++placeT (k+(txT a).length) b:=by
 induction a generalizing k with
 | nil=>rfl
 | cons t a ih =>
  show t.at k::placeT (k+(tkT t).length) (a++b)=_
  rw [ih,txT_cons,List.length_append,← Nat.add_assoc]
  rfl
theorem cn_place {m:Cm} {ts:List Tk} {ns:List Nd} {n:Nat} (h:Cn m ts ns n):∀ k,Cn m (placeT k ts) ns n:=by
 induction h with
 | val h1 h4=>intro k; exact .val (t:=Tk.at _ k) h1 h4
 | ref h5=>intro k; exact .ref (t:=Tk.at _ k) h5
 | neg h8 h2 h ih=>intro k; exact .neg (t:=Tk.at _ k) h8 h2 (ih _)
 | pct h8 h13 h ih=>intro k; rw [place_app]; exact .pct (t:=Tk.at _ _) h8 h13 (ih _)
 | bin h8 hk h1 h4 h g ih ig=>intro k; rw [place_app]; exact .bin (t:=Tk.at _ _) h8 hk h1 h4 (ih _) (ig _)
 | pow h8 h5 h g ih ig=>intro k; rw [place_app]; exact .pow (t:=Tk.at _ _) h8 h5 (ih _) (ig _)
 | @call t o c ts ns n h7 hf ho h hc h1 h2 hd ih =>
  intro k
  show Cn _ (t.at k::o.at _::placeT _ (ts++[c])) _ _
  rw [place_app]
  exact .call (t:=Tk.at t k) (o:=Tk.at o _) (c:=Tk.at c _) h7 hf ho (ih _) hc h1 h2 hd
 | bare hs h ih=>intro k; exact .bare hs (ih k)
 | @par l s o c ts ns ho hc h ih =>
  intro k
  show Cn _ (o.at k::placeT _ (ts++[c])) _ _
  rw [place_app]
  exact .par (o:=Tk.at o k) (c:=Tk.at c _) ho hc (ih _)
 | argE h ih=>intro k; exact .argE (ih k)
 | argC h hc g ih ig=>intro k; rw [place_app]; exact .argC (c:=Tk.at _ _) (ih _) hc (ig _)
 | rngE h6 hw=>intro k; exact .rngE (t:=Tk.at _ k) h6 hw
 | rngC h6 hw hc g ig=>intro k; exact .rngC (t:=Tk.at _ k) (c:=Tk.at _ _) h6 hw hc (ig _)
theorem wrd_plain (b:UInt8) (h:isWrd b=true):plainB b=true:=by
 unfold isWrd at h
 rw [Bool.or_eq_true] at h
 unfold plainB
 rw [decide_eq_true_eq]
 rcases h with h | h
 ·unfold isLet letV at h
  split at h
  ·omega
  ·split at h
   ·omega
   ·exact absurd h (by decide)
 ·have h2:48≤b.toNat∧b.toNat≤57:=of_decide_eq_true h
  omega
theorem dig_plain (b:UInt8) (h:isDig b=true):plainB b=true:=wrd_plain b (by unfold isWrd; rw [h,Bool.or_true])
theorem addr_plain (c r:Int) (h:validN c r=true):∀ b∈(formatS c r).1,plainB b=true:=by
 obtain ⟨b,w,e,-,hw,-⟩:=addr_text c r h
 rw [e]
 exact fun x hx=>wrd_plain x (hw x hx)
theorem flat_plain (t:List UInt8) (h:t.all plainB=true):∀ b∈t.flatMap quoteB,plainB b=true:=by
 intro b hb
 obtain ⟨c,hc,hb⟩:=List.mem_flatMap.1 hb
 have:=List.all_eq_true.1 h c hc
 unfold quoteB at hb
 split at hb
 ·simp only [List.mem_cons,List.not_mem_nil,or_false,or_self] at hb
  subst hb; decide
 ·rw [List.mem_singleton] at hb; subst hb; exact this
theorem tk_plain {t:Tk} (h:OkC t):∀ b∈tkT t,plainB b=true:=by
 cases h with
 | num n a h0 h1 =>
  intro b hb
  have hb:b∈decS n:=hb
  unfold decS at hb
  rw [if_neg (by omega),List.nil_append] at hb
  rcases List.mem_append.1 hb with hb | hb
  ·exact dig_plain b (List.all_eq_true.1 (dec_dig _) b hb)
  ·split at hb
   ·cases hb
   ·rcases List.mem_cons.1 hb with rfl | hb
    ·decide
    ·rw [four_eq _ (Nat.mod_lt _ (by decide))] at hb
     obtain ⟨j,hj⟩:=trim_split (fourD (n.natAbs % 10000))
     exact dig_plain b (four_dig (n.natAbs % 10000) (Nat.mod_lt _ (by decide)) b (by rw [hj]; exact List.mem_append_left _ hb))
 | text s a hp =>
  intro b hb
  have hb:b∈quoteS s:=hb
  unfold quoteS at hb
  rcases List.mem_cons.1 hb with rfl | hb
  ·decide
  rcases List.mem_append.1 hb with hb | hb
  ·exact flat_plain s hp b hb
  ·rw [List.mem_singleton] at hb; subst hb; decide
 | yes a=>intro b hb; exact List.all_eq_true.1 (show trueB.all plainB=true by decide) b hb
 | no a=>intro b hb; exact List.all_eq_true.1 (show falseB.all plainB=true by decide) b hb
 | err c a h1 h5 =>
  have h:c=1∨c=2∨c=3∨c=4∨c=5:=by omega
  intro b hb
  rcases h with rfl | rfl | rfl | rfl | rfl
  all_goals (refine List.all_eq_true.1 (?_:(tkT _).all plainB=true) b hb; rfl)
 | ref c r a h =>
  intro b hb
  have hb:b∈rngT ⟨c,r,c,r⟩:=hb
  unfold rngT at hb
  rw [if_pos ⟨rfl,rfl⟩,List.append_nil] at hb
  exact addr_plain c r h b hb
 | rng r a h hn =>
  intro b hb
  have hb:b∈rngT r:=hb
  unfold rngT at hb
  rw [if_neg hn] at hb
  unfold checkB at h
  simp only [Bool.and_eq_true,decide_eq_true_eq] at h
  rcases List.mem_append.1 hb with hb | hb
  ·exact addr_plain _ _ h.1.1.1 b hb
  rcases List.mem_cons.1 hb with rfl | hb
  ·decide
  ·exact addr_plain _ _ h.1.1.2 b hb
 | name s a h =>
  intro b hb
  have hb:b∈s:=hb
  unfold nameB at h
  simp only [Bool.and_eq_true] at h
  have:=List.all_eq_true.1 h.2 b hb
  rw [Bool.or_eq_true] at this
  rcases this with g | g
  ·unfold capB at g
   rw [decide_eq_true_eq] at g
   unfold plainB
   rw [decide_eq_true_eq]; omega
  ·exact dig_plain b g
 | op n a h1 h13 =>
  have g:n=1∨n=2∨n=3∨n=4∨n=5∨n=6∨n=7∨n=8∨n=9∨n=10∨n=11∨n=12∨n=13:=by omega
  intro b hb
  rcases g with rfl | rfl | rfl | rfl | rfl | rfl | rfl | rfl | rfl | rfl | rfl | rfl | rfl
  all_goals (refine List.all_eq_true.1 (?_:(tkT _).all plainB=true) b hb; rfl)
 | lp a=>intro b hb; exact List.all_eq_true.1 (show ([40]:List UInt8).all plainB=true by decide) b hb
 | rp a=>intro b hb; exact List.all_eq_true.1 (show ([41]:List UInt8).all plainB=true by decide) b hb
 | comma a=>intro b hb; exact List.all_eq_true.1 (show ([44]:List UInt8).all plainB=true by decide) b hb
theorem text_tokens {s:Nat} {ts:List Tk} {ns:List Nd} (h:Cn (.tr s) ts ns 0) (hk:∀ t∈ts,OkC t) (hl:(txT ts).length≤256):tokensS (txT ts)=(placeT 0 ts,0,0):=by
 have hp:∀ b∈txT ts,plainB b=true:=by
  intro b hb
  obtain ⟨t,ht,hb⟩:=List.mem_flatMap.1 hb
  exact tk_plain (hk t ht) b hb
 unfold tokensS
 rw [if_neg (by omega)]
 have hf:(txT ts).findIdx? (fun b=>!plainB b)=none:=by
  rw [List.findIdx?_eq_none_iff]
  intro b hb
  rw [hp b hb]; rfl
 rw [hf]
 simp only
 rw [(toks_lex (txT ts).length 0 (txT ts) (placeT 0 ts) (Nat.le_refl _)).2 (cn_lex h hk)]
theorem text_back {s:Nat} {ts:List Tk} {ns:List Nd} (h:Cn (.tr s) ts ns 0):Pk (.lv 1) (placeT 0 ts) [] ns 0:=cn_parse (cn_place h 0)
abbrev Tx:=List UInt8×Nat
def opT (l:Nat) (x:Tx):List UInt8:=if l≤x.2 then x.1 else 40::(x.1++[41])
def jnT:List Tx→List UInt8
 | []=>[]
 | [x]=>x.1
 | x::y::r=>x.1++44::jnT (y::r)
def ownT (n:Nd):List UInt8 :=
 if n.kind=1 then tkT (tkV n) else if n.kind=2 then rngT n.r else if n.kind=3 then rngT n.r else if n.kind=6 then opText n.op else nameF n.fn
def comT (n:Nd) (xs:List Tx):Tx :=
 if n.kind=1 then (ownT n,8)
 else if n.kind=2 then (ownT n,8)
 else if n.kind=3 then (ownT n,8)
 else if n.kind=4 then (45::opT 5 (xs.getD 0 ([],8)),5)
 else if n.kind=5 then (opT 7 (xs.getD 0 ([],8))++[37],7)
 else if n.kind=6 then (if n.op=5 then (opT 7 (xs.getD 0 ([],8))++(ownT n++opT 5 (xs.getD 1 ([],8))),6)
  else (opT (bindS n.op) (xs.getD 0 ([],8))++(ownT n++opT (bindS n.op+1) (xs.getD 1 ([],8))),bindS n.op))
 else (ownT n++40::(jnT xs++[41]),8)
def enT (e:En):Tx:=(txT e.ts,e.s)
theorem opT_pr (l:Nat) (e:En):txT (prO l e)=opT l (enT e):=by
 unfold prO opT enT
 by_cases h:l≤e.s
 ·rw [if_pos h,if_pos h]
 ·rw [if_neg h,if_neg h,txT_cons,txT_app]
  rfl
theorem jnT_ar:∀ es:List En,txT (arJ es)=jnT (es.map enT)
 | []=>rfl
 | [e]=>rfl
 | e::f::r=>by
  have ih:=jnT_ar (f::r)
  show txT (e.ts++tkC::arJ (f::r))=_
  rw [txT_app,txT_cons,ih]
  rfl
theorem getD_map (es:List En) (i:Nat):(es.map enT).getD i ([],8)=enT (es.getD i ⟨[],8⟩):=by
 rw [List.getD_eq_getElem?_getD,List.getD_eq_getElem?_getD,List.getElem?_map]
 cases es[i]? <;> rfl
theorem com_txt (n:Nd) (es:List En):enT (comE n es)=comT n (es.map enT):=by
 unfold comE comT ownT
 rw [getD_map,getD_map]
 by_cases h1:n.kind=1
 ·simp only [if_pos h1]
  show (txT [tkV n],8)=_
  rw [txT_cons]
  show (tkT (tkV n)++[],8)=_
  rw [List.append_nil]
 simp only [if_neg h1]
 by_cases h2:n.kind=2
 ·simp only [if_pos h2]
  show (rngT n.r++[],8)=_
  rw [List.append_nil]
 simp only [if_neg h2]
 by_cases h3:n.kind=3
 ·simp only [if_pos h3]
  show (rngT n.r++[],8)=_
  rw [List.append_nil]
 simp only [if_neg h3]
 by_cases h4:n.kind=4
 ·simp only [if_pos h4]
  show (txT (tkO 2::prO 5 _),5)=_
  rw [txT_cons,opT_pr]
  rfl
 simp only [if_neg h4]
 by_cases h5:n.kind=5
 ·simp only [if_pos h5]
  show (txT (prO 7 _++[tkO 13]),7)=_
  rw [txT_app,opT_pr]
  rfl
 simp only [if_neg h5]
 by_cases h6:n.kind=6
 ·simp only [if_pos h6]
  by_cases h:n.op=5
  ·simp only [if_pos h]
   show (txT (prO 7 _++tkO n.op::prO 5 _),6)=_
   rw [txT_app,txT_cons,opT_pr,opT_pr,h]
   rfl
  ·simp only [if_neg h]
   show (txT (prO _ _++tkO n.op::prO _ _),_)=_
   rw [txT_app,txT_cons,opT_pr,opT_pr]
   rfl
 simp only [if_neg h6]
 show (txT (tkN n.fn::tkL::(arJ es++[tkR])),8)=_
 rw [txT_cons,txT_cons,txT_app,jnT_ar]
 rfl
def txW:List Nd→List Tx→List Tx
 | [],xs=>xs
 | n::l,xs=>txW l (xs.take (xs.length - belowS n)++[comT n (xs.drop (xs.length - belowS n))])
theorem txW_com:∀ (l:List Nd) (es:List En),(comW l es).map enT=txW l (es.map enT)
 | [],_=>rfl
 | n::l,es=>by
  rw [comW,txW,txW_com l]
  simp only [List.map_append,List.map_take,List.map_cons,List.map_nil,List.length_map,com_txt,List.map_drop]
def showT (t:List Nd):List UInt8:=((txW t []).headD ([],8)).1
theorem show_back (t:List Nd) (ht:∀ n∈t,NdC n) (h:checkS t=0) (hl:(showT t).length≤256):∃ ts,tokensS (showT t)=(ts,0,0)∧Pk (.lv 1) ts [] t 0:=by
 obtain ⟨e,he,hc,hk⟩:=tree_cn t ht h
 have hx:showT t=txT e.ts:=by
  unfold showT
  have:=txW_com t []
  rw [he] at this
  rw [← show (List.map enT [e])=txW t [] from this]
  rfl
 rw [hx] at hl ⊢
 exact ⟨_,text_tokens hc hk hl,text_back hc⟩
