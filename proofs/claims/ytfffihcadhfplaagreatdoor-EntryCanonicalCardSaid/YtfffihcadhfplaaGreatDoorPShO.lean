/- Plain: the text of canonical tokens is read as these tokens. No program stands here. Plain: what dec.Parse makes of a number's text. No program stands here. Plain: a checked tree has canonical tokens. No program stands here. -/
import Derived.Test.YtfffihcadhfplaaGreatDoorPShL
import Derived.Test.YtfffihcadhfplaaGreatDoorPDecF
namespace Go.Proofs.YtfffihcadhfplaaGreatDoor
open Go.RowKit
open Go.Lib (decDigits)
def rngT (r:R4):List UInt8:=(formatS r.c1 r.r1).1++(if r.c1=r.c2∧r.r1=r.r2 then [] else 58::(formatS r.c2 r.r2).1)
def tkT (t:Tk):List UInt8 :=
 if t.kind=1 then decS t.num else if t.kind=2 then quoteS t.text else if t.kind=3 then (if t.num=1 then trueB else falseB)
 else if t.kind=4 then (errNames[t.num.toNat - 1]?).getD [] else if t.kind=5 then rngT t.r else if t.kind=6 then rngT t.r else if t.kind=7 then t.text
 else if t.kind=8 then opText t.num else if t.kind=9 then [40] else if t.kind=10 then [41] else [44]
inductive OkC:Tk→Prop
 | num (n:Int) (a:Nat) (h0:0≤n) (h1:n≤9223372036854775807):OkC ⟨1,n,[],R4.zero,a⟩
 | text (s:List UInt8) (a:Nat) (hp:s.all plainB=true):OkC ⟨2,0,s,R4.zero,a⟩
 | yes (a:Nat):OkC ⟨3,1,[],R4.zero,a⟩
 | no (a:Nat):OkC ⟨3,0,[],R4.zero,a⟩
 | err (c a:Nat) (h1:1≤c) (h5:c≤5):OkC ⟨4,(c:Int),[],R4.zero,a⟩
 | ref (c r:Int) (a:Nat) (h:validN c r=true):OkC ⟨5,0,[],⟨c,r,c,r⟩,a⟩
 | rng (r:R4) (a:Nat) (h:checkB r=true) (hn:¬ (r.c1=r.c2∧r.r1=r.r2)):OkC ⟨6,0,[],r,a⟩
 | name (s:List UInt8) (a:Nat) (h:nameB s=true):OkC ⟨7,0,s,R4.zero,a⟩
 | op (n:Int) (a:Nat) (h1:1≤n) (h13:n≤13):OkC ⟨8,n,[],R4.zero,a⟩
 | lp (a:Nat):OkC ⟨9,0,[],R4.zero,a⟩
 | rp (a:Nat):OkC ⟨10,0,[],R4.zero,a⟩
 | comma (a:Nat):OkC ⟨11,0,[],R4.zero,a⟩
def After (t:Tk) (y:List UInt8):Prop:=(t.kind≤6→Sep y)∧(t.kind=7→∃ r,y=40::r)∧(t.kind=8→t.num=9∨t.num=11→Opn y)
def Tk.at (t:Tk) (k:Nat):Tk:={ t with at_:=k }
theorem tok_of {t:Tk} (h:OkC t) (k:Nat) (y:List UInt8) (hy:After t y):tokS k (tkT t++y)=some (t.at k,(tkT t).length)∧tkT t≠[]:=by
 have ne:∀ {X:List UInt8} {q:Tk},tokS k (X++y)=some (q,X.length)→X≠[]:=by
  rintro X q g rfl
  have:=(tok_le g).1
  simp at this
 cases h with
 | num n a h0 h1=>have:=tok_num k n y h0 h1 (hy.1 (by simp)); exact ⟨this,ne this⟩
 | text s a hp=>have:=tok_text k s y (hy.1 (by simp)); exact ⟨this,ne this⟩
 | yes a=>exact ⟨tok_true k y (hy.1 (by simp)),by simp [tkT,trueB]⟩
 | no a=>exact ⟨tok_false k y (hy.1 (by simp)),by simp [tkT,falseB]⟩
 | err c a h1 h5 =>
  obtain ⟨x,e,g⟩:=tok_err k c y h1 h5
  have e2:tkT ⟨4,(c:Int),[],R4.zero,a⟩=x:=by
   show (errNames[((c:Int)).toNat - 1]?).getD []=x
   rw [Int.toNat_natCast,e]; rfl
  rw [e2]
  exact ⟨g,ne g⟩
 | ref c r a h =>
  have e2:tkT ⟨5,0,[],⟨c,r,c,r⟩,a⟩=(formatS c r).1:=by
   show rngT ⟨c,r,c,r⟩=_
   unfold rngT
   rw [if_pos ⟨rfl,rfl⟩,List.append_nil]
  rw [e2]
  have:=tok_ref k c r y h (hy.1 (by simp))
  exact ⟨this,ne this⟩
 | rng r a h hn =>
  obtain ⟨c1,r1,c2,r2⟩:=r
  have e2:tkT ⟨6,0,[],⟨c1,r1,c2,r2⟩,a⟩=(formatS c1 r1).1++58::(formatS c2 r2).1:=by
   show rngT ⟨c1,r1,c2,r2⟩=_
   unfold rngT
   rw [if_neg hn]
  unfold checkB at h
  simp only [Bool.and_eq_true,decide_eq_true_eq] at h
  have:=tok_range k c1 r1 c2 r2 y h.1.1.1 h.1.1.2 h.1.2 h.2 hn (hy.1 (by simp))
  rw [e2]
  have g:tokS k ((formatS c1 r1).1++58::(formatS c2 r2).1++y)=some (Tk.at ⟨6,0,[],⟨c1,r1,c2,r2⟩,a⟩ k,((formatS c1 r1).1++58::(formatS c2 r2).1).length):=by
   rw [List.append_assoc,List.cons_append,this]
   simp [Tk.at]
   omega
  exact ⟨g,ne g⟩
 | name s a h =>
  obtain ⟨r,rfl⟩:=hy.2.1 rfl
  have:=tok_name k s r h
  exact ⟨this,ne this⟩
 | op n a h1 h13=>have:=tok_op k n y h1 h13 (hy.2.2 rfl); exact ⟨this,ne this⟩
 | lp a=>exact ⟨tok_mark k 40 9 y (.inl ⟨rfl,rfl⟩),by simp [tkT]⟩
 | rp a=>exact ⟨tok_mark k 41 10 y (.inr (.inl ⟨rfl,rfl⟩)),by simp [tkT]⟩
 | comma a=>exact ⟨tok_mark k 44 11 y (.inr (.inr ⟨rfl,rfl⟩)),by simp [tkT]⟩
def txT (ts:List Tk):List UInt8:=ts.flatMap tkT
def placeT:Nat→List Tk→List Tk
 | _,[]=>[]
 | k,t::ts=>t.at k::placeT (k+(tkT t).length) ts
def Chain:List Tk→List UInt8→Prop
 | [],_=>True
 | t::ts,y=>OkC t∧After t (txT ts++y)∧Chain ts y
theorem txT_cons (t:Tk) (ts:List Tk):txT (t::ts)=tkT t++txT ts:=rfl
theorem txT_app (a b:List Tk):txT (a++b)=txT a++txT b:=by unfold txT; rw [List.flatMap_append]
theorem Chain.app {a b:List Tk} {y:List UInt8} (h:Chain a (txT b++y)) (g:Chain b y):Chain (a++b) y:=by
 induction a with
 | nil=>exact g
 | cons t a ih =>
  obtain ⟨h1,h2,h3⟩:=h
  exact ⟨h1,by show After t (txT (a++b)++y); rw [txT_app,List.append_assoc]; exact h2,ih h3⟩
theorem chain_lex:∀ (ts:List Tk) (k:Nat) (y:List UInt8),Chain ts y→Lex k (txT ts) (placeT k ts) y
 | [],k,y,_=>.nil k y
 | t::ts,k,y,⟨h1,h2,h3⟩=>by
  obtain ⟨g,gn⟩:=tok_of h1 k _ h2
  rw [txT_cons]
  show Lex k (tkT t++txT ts) (t.at k::placeT (k+(tkT t).length) ts) y
  have ih:=chain_lex ts (k+(tkT t).length) y h3
  cases hx:tkT t with
  | nil=>exact absurd hx gn
  | cons b x =>
   rw [hx] at g ih
   exact .tok g ih
theorem tok_61 (k:Nat) (r:List UInt8):∃ q,tokS k (61::r)=some q∧q.1.kind=8∧q.1.num=7:=by
 refine ⟨(⟨8,7,[],R4.zero,k⟩,1),?_,rfl,rfl⟩
 rw [tokS,if_neg (by decide),if_neg (by decide),if_neg (by decide)]; rfl
theorem tok_62 (k:Nat) (r:List UInt8):∃ q,tokS k (62::r)=some q∧q.1.kind=8∧11≤q.1.num:=by
 rw [tokS,if_neg (by decide),if_neg (by decide),if_neg (by decide)]
 by_cases h:r.head?=some 61
 ·exact ⟨(⟨8,12,[],R4.zero,k⟩,2),by simp [errS,errNames,errF,opS,h]; rfl,rfl,(by decide:(11:Int)≤12)⟩
 ·exact ⟨(⟨8,11,[],R4.zero,k⟩,1),by simp [errS,errNames,errF,opS,h]; rfl,rfl,(by decide:(11:Int)≤11)⟩
theorem fst_tok {t:Tk} (h:OkC t) (hk:t.kind=8→t.num=2) (b:UInt8) (x:List UInt8) (e:tkT t=b::x):b≠61∧b≠62:=by
 obtain ⟨y,hy⟩:∃ y,After t y:=by
  by_cases h7:t.kind=7
  ·exact ⟨[40],fun g=>by omega,fun _=>⟨[],rfl⟩,fun g=>by omega⟩
  ·exact ⟨[],fun _ b r e=>(by cases e),fun g=>absurd g h7,fun _ _ b r e=>(by cases e)⟩
 have g:=(tok_of h 0 y hy).1
 rw [e] at g
 constructor
 ·rintro rfl
  obtain ⟨q,h1,h2,h3⟩:=tok_61 0 (x++y)
  rw [List.cons_append,h1] at g
  obtain rfl:=Option.some.inj g
  have:=hk h2
  have h3':t.num=7:=h3
  omega
 ·rintro rfl
  obtain ⟨q,h1,h2,h3⟩:=tok_62 0 (x++y)
  rw [List.cons_append,h1] at g
  obtain rfl:=Option.some.inj g
  have:=hk h2
  have h3':11≤t.num:=h3
  omega
theorem sep_op {t:Tk} (h:OkC t) (h8:t.kind=8) (y:List UInt8):Sep (tkT t++y):=by
 cases h with
 | op n a h1 h13 =>
  have g:n=1∨n=2∨n=3∨n=4∨n=5∨n=6∨n=7∨n=8∨n=9∨n=10∨n=11∨n=12∨n=13:=by omega
  rcases g with rfl | rfl | rfl | rfl | rfl | rfl | rfl | rfl | rfl | rfl | rfl | rfl | rfl
  all_goals (intro b r e; obtain ⟨rfl,-⟩:=List.cons.inj e; decide)
 | _=>simp at h8
theorem mark_of {t:Tk} (_h:OkC t):(t.kind=9→tkT t=[40])∧(t.kind=10→tkT t=[41])∧(t.kind=11→tkT t=[44]):=by
 refine ⟨fun e => ?_,fun e => ?_,fun e => ?_⟩ <;> simp [tkT,e]
theorem sep_41 (y:List UInt8):Sep (41::y):=fun b r e=>by obtain ⟨rfl,-⟩:=List.cons.inj e; decide
theorem sep_44 (y:List UInt8):Sep (44::y):=fun b r e=>by obtain ⟨rfl,-⟩:=List.cons.inj e; decide
def Fst (ts:List Tk):Prop:=∀ y b r,txT ts++y=b::r→b≠61∧b≠62
theorem fst_cons {t:Tk} (h:OkC t) (hk:t.kind=8→t.num=2) (ts:List Tk):Fst (t::ts):=by
 intro y b r e
 obtain ⟨z,hz⟩:∃ z,After t z:=by
  by_cases h7:t.kind=7
  ·exact ⟨[40],fun g=>by omega,fun _=>⟨[],rfl⟩,fun g=>by omega⟩
  ·exact ⟨[],fun _ b r e=>(by cases e),fun g=>absurd g h7,fun _ _ b r e=>(by cases e)⟩
 have hn:=(tok_of h 0 z hz).2
 rw [txT_cons] at e
 cases hx:tkT t with
 | nil=>exact absurd hx hn
 | cons c x =>
  rw [hx] at e
  obtain ⟨rfl,-⟩:=List.cons.inj e
  exact fst_tok h hk c x hx
theorem Fst.app {a:List Tk} (h:Fst a) (_hn:a≠[]) (b:List Tk):Fst (a++b):=by
 intro y c r e
 rw [txT_app,List.append_assoc] at e
 exact h _ c r e
def CtM (m:Cm) (ts:List Tk):Prop:=(∀ y,Sep y→Chain ts y)∧ts≠[]∧match m with
 | .ar _ _=>True
 | _=>Fst ts
theorem after6 {t:Tk} (h:t.kind≤6) {y:List UInt8} (hy:Sep y):After t y:=⟨fun _=>hy,fun e=>by omega,fun e=>by omega⟩
theorem after8 {t:Tk} (h:t.kind=8) {y:List UInt8} (hy:Opn y):After t y:=⟨fun e=>by omega,fun e=>by omega,fun _ _=>hy⟩
theorem after9 {t:Tk} (h:9≤t.kind) (y:List UInt8):After t y:=⟨fun e=>by omega,fun e=>by omega,fun e=>by omega⟩
theorem cn_chain {m:Cm} {ts:List Tk} {ns:List Nd} {n:Nat} (h:Cn m ts ns n):(∀ t∈ts,OkC t)→CtM m ts:=by
 induction h with
 | @val t h1 h4=>intro hk; have ok:=hk t (by simp); exact ⟨fun y hy=>⟨ok,after6 (by omega) hy,trivial⟩,by simp,fst_cons ok (by omega) []⟩
 | @ref t h5=>intro hk; have ok:=hk t (by simp); exact ⟨fun y hy=>⟨ok,after6 (by omega) hy,trivial⟩,by simp,fst_cons ok (by omega) []⟩
 | @neg t ts ns h8 h2 h ih =>
  intro hk
  have ok:=hk t (by simp)
  obtain ⟨c,hn,hf⟩:=ih fun x hx=>hk x (by simp [hx])
  exact ⟨fun y hy=>⟨ok,after8 h8 (fun b r e=>hf y b r e),c y hy⟩,by simp,fst_cons ok (fun _=>h2) ts⟩
 | @pct t ts ns h8 h13 h ih =>
  intro hk
  have ok:=hk t (by simp)
  obtain ⟨c,hn,hf⟩:=ih fun x hx=>hk x (by simp [hx])
  refine ⟨fun y hy=>Chain.app (c _ ?_) ⟨ok,⟨fun e=>by omega,fun e=>by omega,fun _ e=>by omega⟩,trivial⟩,by simp,hf.app hn [t]⟩
  show Sep (txT [t]++y)
  rw [txT_cons,List.append_assoc]
  exact sep_op ok h8 _
 | @bin t k ts us ns ms h8 hk1 h1 h4 h g ih ig =>
  intro hk
  have ok:=hk t (by simp)
  obtain ⟨c,hn,hf⟩:=ih fun x hx=>hk x (by simp [hx])
  obtain ⟨c2,hn2,hf2⟩:=ig fun x hx=>hk x (by simp [hx])
  refine ⟨fun y hy=>Chain.app (c _ ?_) ⟨ok,after8 h8 (fun b r e=>hf2 y b r e),c2 y hy⟩,by simp,hf.app hn _⟩
  rw [txT_cons,List.append_assoc]
  exact sep_op ok h8 _
 | @pow t ts us ns ms h8 h5 h g ih ig =>
  intro hk
  have ok:=hk t (by simp)
  obtain ⟨c,hn,hf⟩:=ih fun x hx=>hk x (by simp [hx])
  obtain ⟨c2,hn2,hf2⟩:=ig fun x hx=>hk x (by simp [hx])
  refine ⟨fun y hy=>Chain.app (c _ ?_) ⟨ok,after8 h8 (fun b r e=>hf2 y b r e),c2 y hy⟩,by simp,hf.app hn _⟩
  rw [txT_cons,List.append_assoc]
  exact sep_op ok h8 _
 | @call t o c ts ns n h7 hf ho h hc h1 h2 hd ih =>
  intro hk
  have ok:=hk t (by simp)
  have oo:=hk o (by simp)
  have oc:=hk c (by simp)
  obtain ⟨ch,hn,-⟩:=ih fun x hx=>hk x (by simp [hx])
  refine ⟨fun y hy=>⟨ok,⟨fun e=>by omega,fun _=>⟨txT (ts++[c])++y,?_⟩,fun e=>by omega⟩,oo,after9 (by omega) _,Chain.app (ch _ ?_) ⟨oc,after9 (by omega) _,trivial⟩⟩,by simp,fst_cons ok (by omega) _⟩
  ·rw [txT_cons,(mark_of oo).1 ho]; rfl
  ·rw [txT_cons,(mark_of oc).2.1 hc]; exact sep_41 _
 | bare hs h ih=>intro hk; exact ih hk
 | @par l s o c ts ns ho hc h ih =>
  intro hk
  have oo:=hk o (by simp)
  have oc:=hk c (by simp)
  obtain ⟨ch,hn,-⟩:=ih fun x hx=>hk x (by simp [hx])
  refine ⟨fun y hy=>⟨oo,after9 (by omega) _,Chain.app (ch _ ?_) ⟨oc,after9 (by omega) _,trivial⟩⟩,by simp,fst_cons oo (by omega) _⟩
  rw [txT_cons,(mark_of oc).2.1 hc]; exact sep_41 _
 | argE h ih=>intro hk; obtain ⟨c,hn,-⟩:=ih hk; exact ⟨c,hn,trivial⟩
 | @argC fn i s c ts us ns ms m h hc g ih ig =>
  intro hk
  have oc:=hk c (by simp)
  obtain ⟨ch,hn,-⟩:=ih fun x hx=>hk x (by simp [hx])
  obtain ⟨c2,hn2,-⟩:=ig fun x hx=>hk x (by simp [hx])
  refine ⟨fun y hy=>Chain.app (ch _ ?_) ⟨oc,after9 (by omega) _,c2 y hy⟩,by simp,trivial⟩
  rw [txT_cons,(mark_of oc).2.2 hc]; exact sep_44 _
 | @rngE fn i t h6 hw=>intro hk; have ok:=hk t (by simp); exact ⟨fun y hy=>⟨ok,after6 (by omega) hy,trivial⟩,by simp,trivial⟩
 | @rngC fn i t c us ms m h6 hw hc g ig =>
  intro hk
  have ok:=hk t (by simp)
  have oc:=hk c (by simp)
  obtain ⟨c2,hn2,-⟩:=ig fun x hx=>hk x (by simp [hx])
  refine ⟨fun y hy=>⟨ok,after6 (by omega) ?_,oc,after9 (by omega) _,c2 y hy⟩,by simp,trivial⟩
  rw [txT_cons,(mark_of oc).2.2 hc]; exact sep_44 _
theorem cn_lex {s:Nat} {ts:List Tk} {ns:List Nd} (h:Cn (.tr s) ts ns 0) (hk:∀ t∈ts,OkC t):Lex 0 (txT ts) (placeT 0 ts) [] :=
 chain_lex ts 0 [] ((cn_chain h hk).1 [] fun b r e=>by cases e)
theorem len4 {p:List UInt8} {j:Nat} {f:Nat} (h:fourD f=p++List.replicate j 48):p.length+j=4:=by
 have:=congrArg List.length h
 rw [List.length_append,List.length_replicate] at this
 exact this.symm
theorem places4 {p:List UInt8} {j:Nat} (h:p.length+j=4):(p++zer5).take 4=p++List.replicate j 48∧upD p=false:=by
 match p,h with
 | [],h => obtain rfl : j = 4:=by simpa using h
           exact ⟨rfl,rfl⟩
 | [a],h => obtain rfl : j = 3:=by simp at h; omega
            exact ⟨rfl,rfl⟩
 | [a,b],h => obtain rfl : j = 2:=by simp at h; omega
              exact ⟨rfl,rfl⟩
 | [a,b,c],h => obtain rfl : j = 1:=by simp at h; omega
                exact ⟨rfl,rfl⟩
 | [a,b,c,d],h => obtain rfl : j = 0:=by simp at h; omega
                  exact ⟨rfl,rfl⟩
 | a::b::c::d::e::r,h=>simp at h; omega
theorem dec_cut (n:Int):∃ (b:UInt8) (w p:List UInt8) (j:Nat),isDig b=true∧decDigits (n.natAbs / 10000)=b::w∧(∀ x∈b::w,isDig x=true)∧p.length+j=4∧(∀ x∈p,isDig x=true)∧valD (b::w++(p++List.replicate j 48))=n.natAbs ∧
  decS n=(if n<0 then [45] else [])++(b::w)++if p=[] then [] else 46::p:=by
 obtain ⟨N,hN⟩:∃ N,n.natAbs=N:=⟨_,rfl⟩
 have hd:∃ b w,decDigits (N / 10000)=b::w:=by
  cases h:decDigits (N / 10000) with
  | nil=>rw [decDigits] at h; split at h <;> simp at h
  | cons b w=>exact ⟨b,w,rfl⟩
 obtain ⟨b,w,hd⟩:=hd
 have hq:∀ x∈b::w,isDig x=true:=by
  rw [← hd]
  exact fun x hx=>List.all_eq_true.1 (dec_dig _) x hx
 have hv:=vD_dec (N / 10000)
 rw [hd] at hv
 unfold decS
 rw [hN,hd]
 by_cases h0:N % 10000=0
 ·refine ⟨b,w,[],4,hq b (by simp),rfl,hq,rfl,by simp,?_,?_⟩
  ·rw [List.nil_append,zeros_val,hv]; omega
  ·rw [if_pos h0,if_pos rfl]
 ·rw [four_eq _ (by omega)]
  obtain ⟨j,hj⟩:=trim_split (fourD (N % 10000))
  have hne:trimZ (fourD (N % 10000))≠[]:=by
   intro g
   rw [g,List.nil_append] at hj
   have h1:=four_val [] (N % 10000) (by omega)
   have h2:=len4 (p:=[]) hj
   obtain rfl:j=4:=by simpa using h2
   rw [hj] at h1
   have h3:=zeros_val []
   rw [h3] at h1
   exact h0 (by have:valD []=0:=rfl; omega)
  refine ⟨b,w,trimZ (fourD (N % 10000)),j,hq b (by simp),rfl,hq,len4 hj,?_,?_,?_⟩
  ·intro x hx
   refine four_dig (N % 10000) (by omega) x ?_
   rw [hj]
   exact List.mem_append_left _ hx
  ·rw [← hj,four_val _ _ (by omega),hv]; omega
  ·rw [if_neg h0,if_neg hne]
theorem parD_dec (n:Int) (h1 : -9223372036854775807≤n) (h2:n≤9223372036854775807):parD (decS n)=(n,0):=by
 obtain ⟨b,w,p,j,hb,-,hq,hl,hp,hv,e⟩:=dec_cut n
 have hb45:b≠45:=by rintro rfl; exact absurd hb (by decide)
 have hu:unsgD (decS n)=(b::w)++(if p=[] then [] else 46::p)∧((decS n).head?=some 45↔n<0):=by
  rw [e]
  by_cases h:n<0
  ·rw [if_pos h]; exact ⟨rfl,fun _=>h,fun _=>rfl⟩
  ·rw [if_neg h]
   refine ⟨?_,fun g => ?_,fun g=>absurd g h⟩
   ·show (if some b=some 45 then _ else _)=_
    rw [if_neg (by simpa using hb45)]; rfl
   ·have g:some b=some 45:=g
    exact absurd (Option.some.inj g) hb45
 have hrest:stops isDig (if p=[] then [] else 46::p)=true:=by
  by_cases g:p=[]
  ·rw [if_pos g]; rfl
  ·rw [if_neg g]; rfl
 obtain ⟨g1,g2⟩:=take_stop isDig _ _ hq hrest
 rw [← hu.1] at g1 g2
 have hpl:plcD (if p=[] then [] else 46::p)=some p:=by
  by_cases g:p=[]
  ·rw [if_pos g,g]; rfl
  ·rw [if_neg g]
   exact if_pos ⟨rfl,g,List.all_eq_true.2 hp⟩
 rw [parD_ok (by rw [g1]; simp) (by rw [g2]; exact hpl),g1]
 have hm:magD (b::w) p=n.natAbs:=by
  unfold magD
  obtain ⟨e1,e2⟩:=places4 hl
  rw [e1,e2,hv]; rfl
 rw [hm,if_pos (show n.natAbs≤mostN by unfold mostN; omega)]
 by_cases h:n<0
 ·rw [if_pos (hu.2.2 h)]
  congr 1
  omega
 ·rw [if_neg fun g=>h (hu.2.1 g)]
  congr 1
  omega
theorem decS_head (n:Int):∃ (b:UInt8) (r:List UInt8),decS n=b::r∧45≤b.toNat∧b.toNat≤57:=by
 obtain ⟨b,w,p,j,hb,-,-,-,-,-,e⟩:=dec_cut n
 by_cases h:n<0
 ·rw [if_pos h] at e
  exact ⟨45,_,e,by decide,by decide⟩
 ·rw [if_neg h] at e
  have:=of_decide_eq_true hb
  exact ⟨b,_,e,by omega,this.2⟩
theorem decS_plain (n:Int):(decS n).all plainB=true:=by
 obtain ⟨b,w,p,j,hb,-,hq,-,hp,-,e⟩:=dec_cut n
 have key:∀ x,isDig x=true→plainB x=true:=by
  intro x hx
  have:=of_decide_eq_true hx
  exact decide_eq_true (by omega)
 rw [e,List.all_eq_true]
 intro x hx
 rw [List.mem_append,List.mem_append] at hx
 rcases hx with (hx | hx) | hx
 ·split at hx
  ·rw [List.mem_singleton] at hx; subst hx; decide
  ·cases hx
 ·exact key x (hq x hx)
 ·split at hx
  ·cases hx
  ·rcases List.mem_cons.1 hx with rfl | hx
   ·decide
   ·exact key x (hp x hx)
inductive NdC:Nd→Prop
 | num (n:Int) (h0:0≤n) (h1:n≤9223372036854775807):NdC ⟨1,1,n,[],R4.zero,0,0,0⟩
 | yes:NdC ⟨1,2,1,[],R4.zero,0,0,0⟩
 | no:NdC ⟨1,2,0,[],R4.zero,0,0,0⟩
 | text (s:List UInt8) (hp:s.all plainB=true):NdC ⟨1,3,0,s,R4.zero,0,0,0⟩
 | err (c:Nat) (h1:1≤c) (h5:c≤5):NdC ⟨1,4,(c:Int),[],R4.zero,0,0,0⟩
 | ref (c r:Int) (h:validN c r=true):NdC (ndRef ⟨c,r,c,r⟩)
 | rng (r:R4) (h:checkB r=true) (hn:¬ (r.c1=r.c2∧r.r1=r.r2)):NdC (ndRange r)
 | neg:NdC ndNeg
 | pct:NdC ndPct
 | bin (op:Int) (h1:1≤op) (h12:op≤12):NdC (ndBin op)
 | call (fn k:Nat) (h1:1≤fn) (h50:fn≤50) (ha:(arS fn).1≤k) (hb:k≤(arS fn).2):NdC (ndCall fn k)
structure En where
 ts:List Tk
 s:Nat
def tkL:Tk:=⟨9,0,[],R4.zero,0⟩
def tkR:Tk:=⟨10,0,[],R4.zero,0⟩
def tkC:Tk:=⟨11,0,[],R4.zero,0⟩
def tkO (n:Int):Tk:=⟨8,n,[],R4.zero,0⟩
def nameF (fn:Nat):List UInt8:=(fnNames[fn - 1]?).getD []
def tkN (fn:Nat):Tk:=⟨7,0,nameF fn,R4.zero,0⟩
theorem name_fn (fn:Nat) (h1:1≤fn) (h50:fn≤50):fnS (nameF fn)=fn∧nameB (nameF fn)=true:=by
 have key:∀ k:Fin 50,fnS (nameF (k.1+1))=k.1+1∧nameB (nameF (k.1+1))=true:=by decide +kernel
 have:=key ⟨fn - 1,by omega⟩
 simp only [show fn - 1+1=fn by omega] at this
 exact this
def prO (l:Nat) (e:En):List Tk:=if l≤e.s then e.ts else tkL::(e.ts++[tkR])
def arJ:List En→List Tk
 | []=>[]
 | [e]=>e.ts
 | e::f::r=>e.ts++tkC::arJ (f::r)
def TreeOk (e:En) (ns:List Nd):Prop:=Cn (.tr e.s) e.ts ns 0∧∀ t∈e.ts,OkC t
def RngOk (e:En) (ns:List Nd):Prop:=∃ r,e.ts=[⟨6,0,[],r,0⟩]∧ns=[ndRange r]∧OkC ⟨6,0,[],r,0⟩
theorem TreeOk.od {e:En} {ns:List Nd} (h:TreeOk e ns) (l:Nat):Cn (.od l) (prO l e) ns 0∧∀ t∈prO l e,OkC t:=by
 unfold prO
 by_cases g:l≤e.s
 ·rw [if_pos g]; exact ⟨.bare g h.1,h.2⟩
 ·rw [if_neg g]
  refine ⟨.par rfl rfl h.1,fun t ht => ?_⟩
  rcases List.mem_cons.1 ht with rfl | ht
  ·exact .lp 0
  rcases List.mem_append.1 ht with ht | ht
  ·exact h.2 t ht
  ·rw [List.mem_singleton] at ht; subst ht; exact .rp 0
abbrev Jt:=Pt×En×List Nd
def JOk (t:List Nd) (x:Jt):Prop:=((x.1.wide=true∧RngOk x.2.1 x.2.2)∨(x.1.wide=false∧TreeOk x.2.1 x.2.2))∧x.2.2.getLast?.map (·.kind)=some (kindAt t x.1.root)
theorem args_cn (t:List Nd) (fn k:Nat):∀ (js:List Jt) (i:Nat),js≠[]→(∀ x∈js,JOk t x)→fitsF t (ndCall fn k) i (js.map (·.1))=true →
  Cn (.ar fn i) (arJ (js.map (·.2.1))) (js.flatMap (·.2.2)) (i+js.length)∧∀ q∈arJ (js.map (·.2.1)),OkC q
 | [],_,h,_,_=>absurd rfl h
 | [x],i,_,hj,hf=>by
  have hx:=hj x (by simp)
  simp only [List.map,fitsF,Bool.and_true,fit1,Bool.and_eq_true] at hf
  simp only [List.map,arJ,List.flatMap_cons,List.flatMap_nil,List.append_nil,List.length_singleton]
  rcases hx.1 with ⟨hw,r,e1,e2,ok⟩ | ⟨hw,hc,ok⟩
  ·rw [hw] at hf
   have hwd:wideS fn i=true:=by simpa [isCall,ndCall] using hf.1
   rw [e1,e2]
   exact ⟨.rngE (t:=⟨6,0,[],r,0⟩) rfl hwd,fun q hq=>by rw [List.mem_singleton] at hq; subst hq; exact ok⟩
  ·exact ⟨.argE hc,ok⟩
 | x::y::js,i,_,hj,hf=>by
  have hx:=hj x (by simp)
  have hf1:fit1 t (ndCall fn k) i x.1=true∧fitsF t (ndCall fn k) (i+1) ((y::js).map (·.1))=true:=by
   have:=hf
   rw [List.map_cons,fitsF,Bool.and_eq_true] at this
   exact this
  obtain ⟨g1,g2⟩:=args_cn t fn k (y::js) (i+1) (by simp) (fun z hz=>hj z (by simp [List.mem_cons.1 hz])) hf1.2
  have e3:i+(x::y::js).length=i+1+(y::js).length:=by simp only [List.length_cons]; omega
  rw [e3,List.flatMap_cons]
  have h1:=hf1.1
  simp only [fit1,Bool.and_eq_true] at h1
  have ha:arJ ((x::y::js).map (·.2.1))=x.2.1.ts++tkC::arJ ((y::js).map (·.2.1)):=rfl
  rw [ha]
  rcases hx.1 with ⟨hw,r,e1,e2,ok⟩ | ⟨hw,hc,ok⟩
  ·rw [hw] at h1
   have hwd:wideS fn i=true:=by simpa [isCall,ndCall] using h1.1
   rw [e1,e2]
   refine ⟨.rngC (t:=⟨6,0,[],r,0⟩) (c:=tkC) rfl hwd rfl g1,fun q hq => ?_⟩
   rcases List.mem_cons.1 hq with rfl | hq
   ·exact ok
   rcases List.mem_cons.1 hq with rfl | hq
   ·exact .comma 0
   ·exact g2 q hq
  ·refine ⟨.argC hc rfl g1,fun q hq => ?_⟩
   rcases List.mem_append.1 hq with hq | hq
   ·exact ok q hq
   rcases List.mem_cons.1 hq with rfl | hq
   ·exact .comma 0
   ·exact g2 q hq
theorem fits_each (t:List Nd) (n:Nd):∀ (l:List Pt) (i:Nat),fitsF t n i l=true→∀ p∈l,(isCall n=false→p.wide=false)∧(isCall n=true→relS n.fn=true→kindAt t p.root=2∨kindAt t p.root=3)
 | [],_,_,p,hp=>by cases hp
 | q::l,i,h,p,hp=>by
  rw [fitsF,Bool.and_eq_true] at h
  rcases List.mem_cons.1 hp with rfl | hp
  ·have h1:=h.1
   simp only [fit1,Bool.and_eq_true] at h1
   refine ⟨fun g => ?_,fun g r => ?_⟩
   ·have:=h1.1
    rw [g] at this
    simpa using this
   ·have:=h1.2
    rw [g,r] at this
    simp at this
    omega
  ·exact fits_each t n l (i+1) h.2 p hp
theorem jtree {t:List Nd} {x:Jt} (h:JOk t x) (hw:x.1.wide=false):TreeOk x.2.1 x.2.2:=by
 rcases h.1 with ⟨g,-⟩ | ⟨-,g⟩
 ·rw [hw] at g; cases g
 ·exact g
theorem leaf_ok {q:Tk} {n:Nd} (ok:OkC q) (hk:1≤q.kind∧q.kind≤4) (e:ndVal q=n):TreeOk ⟨[q],8⟩ [n]:=by
 subst e
 exact ⟨.val hk.1 hk.2,fun t ht=>by rw [List.mem_singleton] at ht; subst ht; exact ok⟩
def tkV (n:Nd):Tk:=⟨if n.vk=3 then 2 else if n.vk=2 then 3 else n.vk,n.vn,n.vt,R4.zero,0⟩
def comE (n:Nd) (es:List En):En :=
 if n.kind=1 then ⟨[tkV n],8⟩
 else if n.kind=2 then ⟨[⟨5,0,[],n.r,0⟩],8⟩
 else if n.kind=3 then ⟨[⟨6,0,[],n.r,0⟩],8⟩
 else if n.kind=4 then ⟨tkO 2::prO 5 (es.getD 0 ⟨[],8⟩),5⟩
 else if n.kind=5 then ⟨prO 7 (es.getD 0 ⟨[],8⟩)++[tkO 13],7⟩
 else if n.kind=6 then (if n.op=5 then ⟨prO 7 (es.getD 0 ⟨[],8⟩)++tkO n.op::prO 5 (es.getD 1 ⟨[],8⟩),6⟩
  else ⟨prO (bindS n.op) (es.getD 0 ⟨[],8⟩)++tkO n.op::prO (bindS n.op+1) (es.getD 1 ⟨[],8⟩),bindS n.op⟩)
 else ⟨tkN n.fn::tkL::(arJ es++[tkR]),8⟩
theorem own_cn {n:Nd} (hn:NdC n) (t:List Nd) (js:List Jt) (hl:js.length=belowS n) (hj:∀ x∈js,JOk t x) (hf:fitsF t n 0 (js.map (·.1))=true) :
  ∃ e:En,e=comE n (js.map (·.2.1))∧(n.kind=3→RngOk e (js.flatMap (·.2.2)++[n]))∧(n.kind≠3→TreeOk e (js.flatMap (·.2.2)++[n])):=by
 have hfa:=fits_each t n _ 0 hf
 have none:js.length=0→js=[]:=List.length_eq_zero_iff.1
 cases hn with
 | num m h0 h1=>obtain rfl:=none hl; exact ⟨⟨[⟨1,m,[],R4.zero,0⟩],8⟩,rfl,fun g=>by simp at g,fun _=>leaf_ok (.num m 0 h0 h1) ⟨by simp,by simp⟩ (by simp [ndVal])⟩
 | yes=>obtain rfl:=none hl; exact ⟨⟨[⟨3,1,[],R4.zero,0⟩],8⟩,rfl,fun g=>by simp at g,fun _=>leaf_ok (.yes 0) ⟨by simp,by simp⟩ (by simp [ndVal])⟩
 | no=>obtain rfl:=none hl; exact ⟨⟨[⟨3,0,[],R4.zero,0⟩],8⟩,rfl,fun g=>by simp at g,fun _=>leaf_ok (.no 0) ⟨by simp,by simp⟩ (by simp [ndVal])⟩
 | text s hp=>obtain rfl:=none hl; exact ⟨⟨[⟨2,0,s,R4.zero,0⟩],8⟩,rfl,fun g=>by simp at g,fun _=>leaf_ok (.text s 0 hp) ⟨by simp,by simp⟩ (by simp [ndVal])⟩
 | err c h1 h5=>obtain rfl:=none hl; exact ⟨⟨[⟨4,(c:Int),[],R4.zero,0⟩],8⟩,rfl,fun g=>by simp at g,fun _=>leaf_ok (.err c 0 h1 h5) ⟨by simp,by simp⟩ (by simp [ndVal])⟩
 | ref c r h =>
  obtain rfl:=none hl
  exact ⟨⟨[⟨5,0,[],⟨c,r,c,r⟩,0⟩],8⟩,rfl,fun g=>by simp [ndRef] at g,fun _=>⟨.ref (t:=⟨5,0,[],⟨c,r,c,r⟩,0⟩) rfl,fun q hq=>by rw [List.mem_singleton] at hq; subst hq; exact .ref c r 0 h⟩⟩
 | rng r h hne =>
  obtain rfl:=none hl
  exact ⟨⟨[⟨6,0,[],r,0⟩],8⟩,rfl,fun _=>⟨r,rfl,rfl,.rng r 0 h hne⟩,fun g=>absurd rfl g⟩
 | neg =>
  match js,hl with
  | [x],_ =>
   have hx:=(jtree (hj x (by simp)) ((hfa x.1 (by simp)).1 rfl)).od 5
   refine ⟨⟨tkO 2::prO 5 x.2.1,5⟩,rfl,fun g=>by simp [ndNeg] at g,fun _=>⟨?_,fun q hq => ?_⟩⟩
   ·simpa using Cn.neg (t:=tkO 2) rfl rfl hx.1
   ·rcases List.mem_cons.1 hq with rfl | hq
    ·exact .op 2 0 (by decide) (by decide)
    ·exact hx.2 q hq
 | pct =>
  match js,hl with
  | [x],_ =>
   have hx:=(jtree (hj x (by simp)) ((hfa x.1 (by simp)).1 rfl)).od 7
   refine ⟨⟨prO 7 x.2.1++[tkO 13],7⟩,rfl,fun g=>by simp [ndPct] at g,fun _=>⟨?_,fun q hq => ?_⟩⟩
   ·simpa using Cn.pct (t:=tkO 13) rfl rfl hx.1
   ·rcases List.mem_append.1 hq with hq | hq
    ·exact hx.2 q hq
    ·rw [List.mem_singleton] at hq; subst hq; exact .op 13 0 (by decide) (by decide)
 | bin op h1 h12 =>
  match js,hl with
  | [x,y],_ =>
   have tx:=jtree (hj x (by simp)) ((hfa x.1 (by simp)).1 rfl)
   have ty:=jtree (hj y (by simp)) ((hfa y.1 (by simp)).1 rfl)
   have mem:∀ {a b:List Tk},(∀ q∈a,OkC q)→(∀ q∈b,OkC q)→∀ q∈a++tkO op::b,OkC q:=by
    intro a b ha hb q hq
    rcases List.mem_append.1 hq with hq | hq
    ·exact ha q hq
    rcases List.mem_cons.1 hq with rfl | hq
    ·exact .op op 0 h1 (by omega)
    ·exact hb q hq
   by_cases h5:op=5
   ·have hx:=tx.od 7
    have hy:=ty.od 5
    refine ⟨⟨prO 7 x.2.1++tkO op::prO 5 y.2.1,6⟩,(if_pos h5).symm,fun g=>by simp [ndBin] at g,fun _=>⟨?_,mem hx.2 hy.2⟩⟩
    have:=Cn.pow (t:=tkO op) rfl h5 hx.1 hy.1
    rw [← h5] at this
    simpa using this
   ·obtain ⟨k,hk⟩:∃ k,bindS op=k:=⟨_,rfl⟩
    have hk4:1≤k∧k≤4:=by
     rw [← hk]
     have:op=1∨op=2∨op=3∨op=4∨op=6∨op=7∨op=8∨op=9∨op=10∨op=11∨op=12:=by omega
     rcases this with rfl | rfl | rfl | rfl | rfl | rfl | rfl | rfl | rfl | rfl | rfl <;> decide
    have hx:=tx.od k
    have hy:=ty.od (k+1)
    refine ⟨⟨prO k x.2.1++tkO op::prO (k+1) y.2.1,k⟩,by rw [← hk]; exact (if_neg h5).symm,fun g=>by simp [ndBin] at g,fun _=>⟨?_,mem hx.2 hy.2⟩⟩
    have:=Cn.bin (t:=tkO op) rfl hk hk4.1 hk4.2 hx.1 hy.1
    simpa [tkO] using this
 | call fn k h1 h50 ha hb =>
  obtain ⟨f1,f2⟩:=name_fn fn h1 h50
  have hlk:js.length=k:=by rw [hl]; rfl
  have hne:js≠[]:=by
   rintro rfl
   have:=ar_pos fn
   simp at hlk
   omega
  obtain ⟨g1,g2⟩:=args_cn t fn k js 0 hne hj hf
  rw [Nat.zero_add,hlk] at g1
  refine ⟨⟨tkN fn::tkL::(arJ (js.map (·.2.1))++[tkR]),8⟩,rfl,fun g=>by simp [ndCall] at g,fun _=>⟨?_,fun q hq => ?_⟩⟩
  ·have hd:46≤fn→((js.flatMap (·.2.2)).getLast?.map (·.kind))=some 2∨((js.flatMap (·.2.2)).getLast?.map (·.kind))=some 3:=by
    intro h46
    obtain ⟨init,x,rfl⟩:∃ init x,js=init++[x]:=⟨js.dropLast,js.getLast hne,(List.dropLast_concat_getLast hne).symm⟩
    have hx:=hj x (by simp)
    have hr:=(hfa x.1 (by simp)).2 rfl (by show relS fn=true; unfold relS; rw [decide_eq_true_eq]; omega)
    rw [List.flatMap_append,List.flatMap_cons,List.flatMap_nil,List.append_nil]
    obtain ⟨v,hv⟩:∃ v,x.2.2.getLast?=some v:=by
     cases hz:x.2.2.getLast? with
     | none=>have:=hx.2; rw [hz] at this; cases this
     | some v=>exact ⟨v,rfl⟩
    have h2:=hx.2
    rw [hv] at h2
    rw [List.getLast?_append,hv,Option.some_or,h2]
    rcases hr with hr | hr
    ·exact .inl (congrArg some hr)
    ·exact .inr (congrArg some hr)
   have:=Cn.call (t:=tkN fn) (o:=tkL) (c:=tkR) rfl (by show fnS (nameF fn)≠0; rw [f1]; omega) rfl (ts:=arJ (js.map (·.2.1))) (ns:=js.flatMap (·.2.2)) (n:=k) (by show Cn (.ar (fnS (nameF fn)) 0) _ _ _; rw [f1]; exact g1) rfl (by show (arS (fnS (nameF fn))).1≤k; rw [f1]; exact ha) (by show k≤(arS (fnS (nameF fn))).2; rw [f1]; exact hb) (by show 46≤fnS (nameF fn)→_; rw [f1]; exact hd)
   have e:fnS (tkN fn).text=fn:=f1
   rw [e] at this
   exact this
  ·rcases List.mem_cons.1 hq with rfl | hq
   ·exact .name _ 0 f2
   rcases List.mem_cons.1 hq with rfl | hq
   ·exact .lp 0
   rcases List.mem_append.1 hq with hq | hq
   ·exact g2 q hq
   ·rw [List.mem_singleton] at hq; subst hq; exact .rp 0
