/- Plain: the text of a token is read as the token. No program stands here. Plain: the texts of ranges and of numbers are read as the tokens. No program stands here. Plain: the texts of numbers are read as the tokens. No program stands here. How long numbers and operators are as text. -/
import Derived.Test.YtfffihcadhfplaaGreatDoorPLexD
import Derived.Test.YtfffihcadhfplaaGreatDoorPLexP
import Derived.Test.YtfffihcadhfplaaGreatDoorPDecF
namespace Go.Proofs.YtfffihcadhfplaaGreatDoor
open Go.RowKit
def sepB (b:UInt8):Bool:=[37,38,41,42,43,44,45,47,60,61,62,94].contains b
def Sep (l:List UInt8):Prop:=∀ b r,l=b::r→sepB b=true
theorem sep_no:∀ b:UInt8,sepB b=true→isWrd b=false∧b≠34∧b≠40∧b≠46∧b≠58∧isDig b=false:=by
 intro b h
 unfold sepB at h
 simp only [List.contains_eq_mem,List.mem_cons,List.not_mem_nil,or_false,decide_eq_true_eq] at h
 rcases h with rfl | rfl | rfl | rfl | rfl | rfl | rfl | rfl | rfl | rfl | rfl | rfl <;> decide
theorem take_stop (p:UInt8→Bool) (w r:List UInt8) (hw:∀ b∈w,p b=true) (hr:stops p r=true):(w++r).takeWhile p=w∧(w++r).dropWhile p=r:=by
 induction w with
 | nil =>
  cases r with
  | nil=>exact ⟨rfl,rfl⟩
  | cons b r =>
   have hb:p b=false:=by simpa [stops] using hr
   exact ⟨by simp [hb],by simp [hb]⟩
 | cons c w ih =>
  have hc:=hw c (by simp)
  obtain ⟨h1,h2⟩:=ih fun b hb=>hw b (by simp [hb])
  exact ⟨by rw [List.cons_append,List.takeWhile_cons,if_pos hc,h1],by rw [List.cons_append,List.dropWhile_cons,if_pos hc,h2]⟩
theorem Sep.stop {r:List UInt8} (h:Sep r):stops isWrd r=true:=by
 cases r with
 | nil=>rfl
 | cons b r=>simp [stops,(sep_no b (h b r rfl)).1]
theorem Sep.paren {r:List UInt8} (h:Sep r):r.head?≠some 40:=by
 cases r with
 | nil=>simp
 | cons b r=>intro e; exact (sep_no b (h b r rfl)).2.2.1 (Option.some.inj e)
theorem unqS_ne {b:UInt8} {r:List UInt8} (hb:b≠34) (hr:r≠[]):unqS (b::r)=(unqS r).map fun x=>(b::x.1,x.2+1):=by
 cases r with
 | nil=>exact absurd rfl hr
 | cons c r=>rw [unqS,if_neg hb]
theorem unqS_two (r:List UInt8):unqS (34::34::r)=(unqS r).map fun x=>(34::x.1,x.2+2):=by rw [unqS,if_pos rfl,if_pos rfl]
theorem unqS_end {r:List UInt8} (h:Sep r):unqS (34::r)=some ([],1):=by
 cases r with
 | nil=>rw [unqS,if_pos rfl]
 | cons c r=>rw [unqS,if_pos rfl,if_neg (sep_no c (h c r rfl)).2.1]
theorem unqS_back (t r:List UInt8) (h:Sep r):unqS (t.flatMap quoteB++34::r)=some (t,(t.flatMap quoteB).length+1):=by
 induction t with
 | nil=>exact unqS_end h
 | cons b t ih =>
  rw [List.flatMap_cons,List.append_assoc]
  by_cases hb:b=34
  ·have hq:quoteB b=[34,34]:=by unfold quoteB; rw [if_pos hb]
   subst hb
   rw [hq]
   show unqS (34::34::(t.flatMap quoteB++34::r))=_
   rw [unqS_two,ih]
   simp
  ·have hq:quoteB b=[b]:=by unfold quoteB; rw [if_neg hb]
   rw [hq]
   show unqS (b::(t.flatMap quoteB++34::r))=_
   rw [unqS_ne hb (by simp),ih]
   simp
theorem tok_text (k:Nat) (t r:List UInt8) (h:Sep r):tokS k (quoteS t++r)=some (⟨2,0,t,R4.zero,k⟩,(quoteS t).length):=by
 unfold quoteS
 show tokS k (34::(t.flatMap quoteB++[34]++r))=_
 rw [tokS,if_neg (by decide),if_pos rfl,List.append_assoc]
 show (unqS (t.flatMap quoteB++34::r)).map _=_
 rw [unqS_back t r h]
 simp
theorem let_rng (b:UInt8) (h:isLet b=true):65≤b.toNat:=by
 unfold isLet letV at h
 split at h
 ·omega
 ·split at h
  ·omega
  ·exact absurd h (by decide)
theorem tok_word {w r:List UInt8} {b:UInt8} (k:Nat) (hb:isLet b=true) (hw:∀ c∈b::w,isWrd c=true) (hr:stops isWrd r=true) :
  tokS k ((b::w)++r)=wordS ((b::w)++r) k∧((b::w)++r).takeWhile isWrd=b::w∧((b::w)++r).dropWhile isWrd=r:=by
 obtain ⟨h1,h2⟩:=take_stop isWrd (b::w) r hw hr
 refine ⟨?_,h1,h2⟩
 show tokS k (b::(w++r))=_
 have hd:isDig b=false:=by
  have:=let_rng b hb
  cases hq:isDig b
  ·rfl
  ·have h2:48≤b.toNat∧b.toNat≤57:=of_decide_eq_true hq
   omega
 rw [tokS,hd,if_neg (by decide),if_neg (by rintro rfl; exact absurd hb (by decide)),if_pos hb]
 rfl
theorem cap_up {b:UInt8} (h:capB b=true∨isDig b=true):upB b=b:=by
 have hl:b.toNat≤90:=by
  rcases h with h | h
  ·unfold capB at h; rw [decide_eq_true_eq] at h; exact h.2
  ·have h2:48≤b.toNat∧b.toNat≤57:=of_decide_eq_true h
   omega
 unfold upB
 rw [if_neg]
 omega
theorem tok_true (k:Nat) (r:List UInt8) (h:Sep r):tokS k (trueB++r)=some (⟨3,1,[],R4.zero,k⟩,4):=by
 obtain ⟨h1,h2,h3⟩:=tok_word (w:=[82,85,69]) (b:=84) (r:=r) k (by decide) (by decide) h.stop
 show tokS k ((84::[82,85,69])++r)=_
 rw [h1]
 unfold wordS
 simp only [h2,h3,if_neg h.paren]
 rfl
theorem tok_false (k:Nat) (r:List UInt8) (h:Sep r):tokS k (falseB++r)=some (⟨3,0,[],R4.zero,k⟩,5):=by
 obtain ⟨h1,h2,h3⟩:=tok_word (w:=[65,76,83,69]) (b:=70) (r:=r) k (by decide) (by decide) h.stop
 show tokS k ((70::[65,76,83,69])++r)=_
 rw [h1]
 unfold wordS
 simp only [h2,h3,if_neg h.paren]
 rfl
theorem tok_err (k:Nat) (c:Nat) (r:List UInt8) (h1:1≤c) (h5:c≤5):∃ x,errNames[c - 1]?=some x∧tokS k (x++r)=some (⟨4,(c:Int),[],R4.zero,k⟩,x.length):=by
 have h:c=1∨c=2∨c=3∨c=4∨c=5:=by omega
 rcases h with rfl | rfl | rfl | rfl | rfl
 all_goals refine ⟨_,rfl,?_⟩
 all_goals (show tokS k (35::_)=_; rw [tokS,if_neg (by decide),if_neg (by decide),if_neg (by decide)]; rfl)
def Opn (l:List UInt8):Prop:=∀ b r,l=b::r→b≠61∧b≠62
theorem tok_op (k:Nat) (n:Int) (r:List UInt8) (h1:1≤n) (h13:n≤13) (hr:n=9∨n=11→Opn r):tokS k (opText n++r)=some (⟨8,n,[],R4.zero,k⟩,(opText n).length):=by
 have h:n=1∨n=2∨n=3∨n=4∨n=5∨n=6∨n=7∨n=8∨n=9∨n=10∨n=11∨n=12∨n=13:=by omega
 have e61:n=9∨n=11→r.head?≠some 61∧r.head?≠some 62:=by
  intro g
  have hr2:=hr g
  cases r with
  | nil=>simp
  | cons b r=>exact ⟨fun e=>(hr2 b r rfl).1 (Option.some.inj e),fun e=>(hr2 b r rfl).2 (Option.some.inj e)⟩
 rcases h with rfl | rfl | rfl | rfl | rfl | rfl | rfl | rfl | rfl | rfl | rfl | rfl | rfl
 case inr.inr.inr.inr.inr.inr.inr.inr.inl=>have e:=e61 (.inl rfl); show tokS k (60::r)=_; rw [tokS,if_neg (by decide),if_neg (by decide),if_neg (by decide)]; simp [errS,errNames,errF,opS,e.1,e.2]; rfl
 case inr.inr.inr.inr.inr.inr.inr.inr.inr.inr.inl=>have e:=e61 (.inr rfl); show tokS k (62::r)=_; rw [tokS,if_neg (by decide),if_neg (by decide),if_neg (by decide)]; simp [errS,errNames,errF,opS,e.1]; rfl
 all_goals (show tokS k (_::_)=_; rw [tokS,if_neg (by decide),if_neg (by decide),if_neg (by decide)]; rfl)
theorem tok_mark (k:Nat) (b:UInt8) (c:Nat) (r:List UInt8) (h:(b=40∧c=9)∨(b=41∧c=10)∨(b=44∧c=11)):tokS k (b::r)=some (⟨c,0,[],R4.zero,k⟩,1):=by
 rcases h with ⟨rfl,rfl⟩ | ⟨rfl,rfl⟩ | ⟨rfl,rfl⟩
 all_goals (rw [tokS,if_neg (by decide),if_neg (by decide),if_neg (by decide)]; rfl)
theorem tok_name (k:Nat) (t r:List UInt8) (h:nameB t=true):tokS k (t++40::r)=some (⟨7,0,t,R4.zero,k⟩,t.length):=by
 unfold nameB at h
 simp only [Bool.and_eq_true] at h
 obtain ⟨⟨h1,-⟩,h2⟩:=h
 cases t with
 | nil=>cases h1
 | cons b t =>
  have hcd:∀ c∈b::t,capB c=true∨isDig c=true:=fun c hc=>by simpa using List.all_eq_true.1 h2 c hc
  have hw:∀ c∈b::t,isWrd c=true:=fun c hc=>by
   unfold isWrd
   rcases hcd c hc with q | q
   ·have:isLet c=true:=by
     unfold capB at q
     rw [decide_eq_true_eq] at q
     unfold isLet letV
     rw [if_pos (by omega)]
     simp <;> omega
    rw [this]; rfl
   ·rw [q,Bool.or_true]
  have hb:isLet b=true:=by
   have q:capB b=true:=h1
   unfold capB at q
   rw [decide_eq_true_eq] at q
   unfold isLet letV
   rw [if_pos (by omega)]
   simp <;> omega
  obtain ⟨g1,g2,g3⟩:=tok_word k hb hw (r:=40::r) (show (!isWrd 40)=true by decide)
  rw [g1]
  unfold wordS
  simp only [g2,g3]
  rw [if_pos (show (40::r).head?=some 40 from rfl)]
  have hm:(b::t).map upB=b::t:=by
   conv=>rhs; rw [← List.map_id (b::t)]
   exact List.map_congr_left fun c hc=>cap_up (hcd c hc)
  rw [hm]
open Go.Lib (decDigits)
theorem parseS_none (b:UInt8) (w:List UInt8) (h:isLet b=false):parseS (b::w)=(0,0,4):=by
 have e:(b::w).takeWhile isLet=[]:=by rw [List.takeWhile_cons,h]; rfl
 unfold parseS
 simp only [e,true_or,if_true]
theorem addr_text (c r:Int) (h:validN c r=true):∃ b w,(formatS c r).1=b::w∧isLet b=true∧(∀ x∈b::w,isWrd x=true)∧parseS ((b::w).map upB)=(c,r,0):=by
 have hp:=parse_format c r h
 have hu:=(parse_ok (formatS c r).1 (by rw [hp])).2
 rw [hp] at hu
 have hf:formatS c r=(lettersN c.toNat++decDigits r.toNat,0):=by unfold formatS; rw [if_pos h]
 have hw:∀ x∈(formatS c r).1,isWrd x=true:=by
  rw [hf]
  intro x hx
  unfold isWrd
  rcases List.mem_append.1 hx with q | q
  ·rw [letters_let _ x q]; rfl
  ·rw [List.all_eq_true.1 (dec_dig _) x q,Bool.or_true]
 cases hL:(formatS c r).1 with
 | nil=>rw [hL] at hp; exact absurd (show (parseS []).2.2=0 from congrArg (·.2.2) hp) (by decide)
 | cons b w =>
  rw [hL] at hp hu hw
  refine ⟨b,w,rfl,?_,hw,by rw [← hu]; exact hp⟩
  cases hb:isLet b with
  | true=>rfl
  | false=>rw [parseS_none b w hb] at hp; exact absurd (show (4:Int)=0 from congrArg (·.2.2) hp) (by decide)
theorem no_bool {u:List UInt8} {c r:Int} (h:parseS u=(c,r,0)):u≠trueB∧u≠falseB:=by
 constructor
 ·rintro rfl; exact absurd (show (parseS trueB).2.2=0 from congrArg (·.2.2) h) (by decide)
 ·rintro rfl; exact absurd (show (parseS falseB).2.2=0 from congrArg (·.2.2) h) (by decide)
theorem Sep.colon {r:List UInt8} (h:Sep r):secondS r=none:=by
 cases r with
 | nil=>rfl
 | cons b r=>rw [secondS,if_neg (sep_no b (h b r rfl)).2.2.2.2.1]
theorem tok_ref (k:Nat) (c r:Int) (y:List UInt8) (h:validN c r=true) (hs:Sep y):tokS k ((formatS c r).1++y)=some (⟨5,0,[],⟨c,r,c,r⟩,k⟩,(formatS c r).1.length):=by
 obtain ⟨b,w,e,hb,hw,hp⟩:=addr_text c r h
 rw [e]
 obtain ⟨g1,g2,g3⟩:=tok_word k hb hw hs.stop
 rw [g1]
 unfold wordS
 have hn:=no_bool hp
 simp only [g2,g3,if_neg hs.paren,if_neg hn.1,if_neg hn.2,hp,ne_eq,not_true_eq_false,if_false,hs.colon]
 simp [rectS]
theorem tok_range (k:Nat) (c1 r1 c2 r2:Int) (y:List UInt8) (h1:validN c1 r1=true) (h2:validN c2 r2=true) (hc:c1≤c2) (hr:r1≤r2) (hne:¬ (c1=c2∧r1=r2)) (hs:Sep y) :
  tokS k ((formatS c1 r1).1++58::((formatS c2 r2).1++y))=some (⟨6,0,[],⟨c1,r1,c2,r2⟩,k⟩,(formatS c1 r1).1.length+1+(formatS c2 r2).1.length):=by
 obtain ⟨b,w,e,hb,hw,hp⟩:=addr_text c1 r1 h1
 obtain ⟨b2,w2,e2,hb2,hw2,hp2⟩:=addr_text c2 r2 h2
 rw [e,e2]
 obtain ⟨g1,g2,g3⟩:=tok_word k hb hw (r:=58::((b2::w2)++y)) (show (!isWrd 58)=true by decide)
 obtain ⟨t1,t2⟩:=take_stop isWrd (b2::w2) y hw2 hs.stop
 rw [g1]
 unfold wordS
 have hn:=no_bool hp
 have h58:(58::((b2::w2)++y)).head?≠some 40:=by simp
 have hsec:secondS (58::((b2::w2)++y))=some (c2,r2,(b2::w2).length):=by
  rw [secondS,if_pos rfl]
  unfold addrS
  simp only [t1,t2,hp2]
  rw [if_pos]
  exact ⟨by simpa using hb2,trivial,hs.paren⟩
 simp only [g2,g3,if_neg h58,if_neg hn.1,if_neg hn.2,hp,ne_eq,not_true_eq_false,if_false,hsec,if_neg hne]
 simp [rectS,Int.min_eq_left hc,Int.min_eq_left hr,Int.max_eq_right hc,Int.max_eq_right hr]
theorem vD_snoc (l:List UInt8) (b:UInt8):valD (l++[b])=10 * valD l+(b.toNat - 48):=by unfold valD; rw [List.foldl_append]; rfl
theorem vD_dig (l:List UInt8) (d:Nat) (h:d<10):valD (l++[UInt8.ofNat (48+d)])=10 * valD l+d:=by
 rw [vD_snoc,UInt8.toNat_ofNat']; omega
theorem vD_dec (m:Nat):valD (decDigits m)=m:=by
 induction m using Nat.strongRecOn with
 | _ u ih =>
  by_cases hu:u<10
  ·rw [decDigits,dif_pos hu]
   exact (vD_dig [] u hu).trans (by show 10 * 0+u=u; omega)
  ·rw [decDigits,dif_neg hu,vD_dig _ _ (by omega),ih (u / 10) (by omega)]; omega
theorem dD_step (m:Nat) (h:10≤m):decDigits m=decDigits (m / 10)++[UInt8.ofNat (48+m % 10)]:=by
 conv=>lhs; rw [decDigits,dif_neg (by omega)]
def fourD (f:Nat):List UInt8:=[UInt8.ofNat (48+f / 1000),UInt8.ofNat (48+f / 100 % 10),UInt8.ofNat (48+f / 10 % 10),UInt8.ofNat (48+f % 10)]
theorem four_eq (f:Nat) (h:f<10000):(decDigits (10000+f)).drop 1=fourD f:=by
 rw [dD_step _ (by omega),dD_step _ (by omega),dD_step _ (by omega),dD_step _ (by omega)]
 have e:(10000+f) / 10 / 10 / 10 / 10=1:=by omega
 rw [e,show decDigits 1=[49] from by rw [decDigits,dif_pos (by decide)]; rfl]
 unfold fourD
 rw [show (10000+f) / 10 / 10 / 10 % 10=f / 1000 by omega,show (10000+f) / 10 / 10 % 10=f / 100 % 10 by omega,show (10000+f) / 10 % 10=f / 10 % 10 by omega,show (10000+f) % 10=f % 10 by omega]
 rfl
theorem four_val (w:List UInt8) (f:Nat) (h:f<10000):valD (w++fourD f)=valD w * 10000+f:=by
 unfold fourD
 rw [show ∀ a b c d:UInt8,w++[a,b,c,d]=(((w++[a])++[b])++[c])++[d] from fun _ _ _ _=>by simp,vD_dig _ _ (by omega),vD_dig _ _ (by omega),vD_dig _ _ (by omega),vD_dig _ _ (by omega)]
 omega
theorem four_dig (f:Nat) (h:f<10000):∀ b∈fourD f,isDig b=true:=by
 intro b hb
 unfold fourD at hb
 simp only [List.mem_cons,List.not_mem_nil,or_false] at hb
 rcases hb with rfl | rfl | rfl | rfl
 all_goals (show decide _=true; rw [decide_eq_true_eq,UInt8.toNat_ofNat']; omega)
theorem trim_split (l:List UInt8):∃ j,l=trimZ l++List.replicate j 48:=by
 obtain ⟨h1,h2,-⟩:=run_split (· == 48) l.reverse
 refine ⟨(l.reverse.takeWhile (· == 48)).length,?_⟩
 have e:l.reverse.takeWhile (· == 48)=List.replicate (l.reverse.takeWhile (· == 48)).length 48:=List.eq_replicate_iff.2 ⟨rfl,fun b hb=>by simpa using h2 b hb⟩
 have h3:=congrArg List.reverse h1
 rw [List.reverse_reverse,List.reverse_append] at h3
 conv=>lhs; rw [h3]
 unfold trimZ
 congr 1
 conv=>lhs; rw [e]
 rw [List.reverse_replicate]
theorem Sep.dig {y:List UInt8} (h:Sep y):stops isDig y=true∧placesS y=[]:=by
 cases y with
 | nil=>exact ⟨rfl,rfl⟩
 | cons b r =>
  have:=sep_no b (h b r rfl)
  exact ⟨by simp [stops,this.2.2.2.2.2],by rw [placesS,if_neg this.2.2.2.1]⟩
theorem zeros_val (w:List UInt8):valD (w++List.replicate 4 48)=valD w * 10000:=by
 have:=four_val w 0 (by decide)
 rw [show fourD 0=List.replicate 4 48 from rfl] at this
 rw [this,Nat.add_zero]
theorem tok_num (k:Nat) (a:Int) (y:List UInt8) (h0:0≤a) (h1:a≤9223372036854775807) (hs:Sep y):tokS k (decS a++y)=some (⟨1,a,[],R4.zero,k⟩,(decS a).length):=by
 obtain ⟨n,rfl⟩:∃ n:Nat,a=n:=⟨a.toNat,by omega⟩
 have hq:∀ b∈decDigits (n / 10000),isDig b=true:=fun b hb=>List.all_eq_true.1 (dec_dig _) b hb
 have key:∀ (p:List UInt8) (j:Nat),(p=[]∧j=4∧n % 10000=0∨(p≠[]∧fourD (n % 10000)=p++List.replicate j 48))→decS (n:Int)=decDigits (n / 10000)++(if p=[] then [] else 46::p)→(p≠[]→∀ b∈p,isDig b=true) →
   tokS k (decS (n:Int)++y)=some (⟨1,(n:Int),[],R4.zero,k⟩,(decS (n:Int)).length):=by
  intro p j hp e hpd
  have hlen:p.length+j=4:=by
   rcases hp with ⟨rfl,rfl,-⟩ | ⟨-,g⟩
   ·rfl
   ·have:=congrArg List.length g
    rw [List.length_append,List.length_replicate] at this
    exact this.symm
  have hval:numV (decDigits (n / 10000)) p=n:=by
   unfold numV
   rw [show 4 - p.length=j by omega]
   rcases hp with ⟨rfl,rfl,g⟩ | ⟨-,g⟩
   ·rw [List.append_nil,zeros_val,vD_dec]; omega
   ·rw [List.append_assoc,← g,four_val _ _ (by omega),vD_dec]; omega
  have hnum:numS (decDigits (n / 10000)++((if p=[] then [] else 46::p)++y))=some ((n:Int),(decDigits (n / 10000)).length+if p=[] then 0 else p.length+1):=by
   have hrest:stops isDig ((if p=[] then [] else 46::p)++y)=true:=by
    by_cases g:p=[]
    ·rw [if_pos g]; exact hs.dig.1
    ·rw [if_neg g]; rfl
   have hpl:placesS ((if p=[] then [] else 46::p)++y)=p:=by
    by_cases g:p=[]
    ·rw [if_pos g,g]; exact hs.dig.2
    ·rw [if_neg g]
     show placesS (46::(p++y))=p
     rw [placesS,if_pos rfl]
     exact (take_stop isDig p y (hpd g) hs.dig.1).1
   obtain ⟨g1,g2⟩:=take_stop isDig _ _ hq hrest
   unfold numS
   simp only [g1,g2,hpl,hval]
   rw [if_neg]
   rintro (g | g | g)
   ·have:=vD_dec (n / 10000)
    rw [g] at this
    rw [decDigits] at g
    split at g <;> simp at g
   ·omega
   ·omega
  rw [e,List.append_assoc]
  cases hd:decDigits (n / 10000) with
  | nil=>rw [decDigits] at hd; split at hd <;> simp at hd
  | cons b w =>
   rw [hd] at hnum hq
   have hb:=hq b (by simp)
   show tokS k (b::(w++_))=_
   rw [tokS,if_pos hb]
   show (numS ((b::w)++_)).map _=_
   rw [hnum]
   by_cases g:p=[]
   ·simp [g]
   ·simp [g]
    omega
 have hdec:decS (n:Int)=decDigits (n / 10000)++(if n % 10000=0 then [] else 46::trimZ (fourD (n % 10000))):=by
  unfold decS
  rw [if_neg (by omega),Int.natAbs_natCast,four_eq (n % 10000) (by omega)]
  rfl
 by_cases hf:n % 10000=0
 ·refine key [] 4 (.inl ⟨rfl,rfl,hf⟩) ?_ (fun g=>absurd rfl g)
  rw [hdec,if_pos hf,if_pos rfl]
 ·obtain ⟨j,hj⟩:=trim_split (fourD (n % 10000))
  have hne:trimZ (fourD (n % 10000))≠[]:=by
   intro g
   rw [g,List.nil_append] at hj
   have hv:=four_val [] (n % 10000) (by omega)
   have hl:=congrArg List.length hj
   rw [List.length_replicate] at hl
   have:j=4:=hl.symm
   rw [List.nil_append,hj,this] at hv
   have hz:valD (List.replicate 4 48)=0:=by decide
   rw [hz] at hv
   have:valD []=0:=rfl
   omega
  refine key (trimZ (fourD (n % 10000))) j (.inr ⟨hne,hj⟩) ?_ (fun _ b hb => ?_)
  ·rw [hdec,if_neg hf,if_neg hne]
  ·exact four_dig (n % 10000) (by omega) b (by rw [hj]; exact List.mem_append_left _ hb)
theorem trimZ_len (l:List UInt8):(trimZ l).length≤l.length:=by
 unfold trimZ
 rw [List.length_reverse]
 refine Nat.le_trans (List.dropWhile_suffix _).length_le ?_
 rw [List.length_reverse]
 exact Nat.le_refl _
theorem decS_len (n:Int) (h1 : -9223372036854775808≤n) (h2:n≤9223372036854775807):(decS n).length≤60:=by
 unfold decS
 have e1:=digits_le (n.natAbs / 10000) (by omega)
 have e2:=digits_le (10000+n.natAbs % 10000) (by omega)
 have e3:=trimZ_len ((decDigits (10000+n.natAbs % 10000)).drop 1)
 rw [List.length_drop] at e3
 rw [List.length_append,List.length_append]
 have e4:(if n<0 then [45] else []:List UInt8).length≤1:=by split <;> simp
 have e5:(if n.natAbs % 10000=0 then [] else 46::trimZ ((decDigits (10000+n.natAbs % 10000)).drop 1):List UInt8).length≤21:=by
  split
  ·simp
  ·rw [List.length_cons]; omega
 omega
theorem ite_len {p:Prop} [Decidable p] {a b:List UInt8} (ha:a.length≤2) (hb:b.length≤2):(if p then a else b).length≤2:=by
 split
 ·exact ha
 ·exact hb
theorem opText_len (n:Int):(opText n).length≤2:=by
 unfold opText
 iterate 13 (refine ite_len (by decide) ?_)
 decide
