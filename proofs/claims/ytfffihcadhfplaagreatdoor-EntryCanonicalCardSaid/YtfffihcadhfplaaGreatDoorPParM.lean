/- Plain: the nodes of an accepted list of tokens are such as a formula may hold. Plain: a formula is parsed, or has its fault at one of its bytes, or at its end. No program stands here. Towards tree.walk: rows of parts, steps, tree.nothing. Plain: values and slices of flat types that were handed in: their cells. No program stands here. -/
import Derived.Test.YtfffihcadhfplaaGreatDoorPParK
import Derived.Test.YtfffihcadhfplaaGreatDoorPLexP
import Derived.Test.YtfffihcadhfplaaGreatDoorPTreA
import Derived.Test.YtfffihcadhfplaaGreatDoorPTreB
import Derived.IntWalk
import Derived.Deep.Slices
import Derived.ChangeArms
namespace Go.Proofs.YtfffihcadhfplaaGreatDoor
open Go.RowKit
theorem ok_bare {t:Tk} {n:Int} {x:List UInt8} {r:R4} (h:bareB { t with num:=n,text:=x,r:=r }=true):n=0∧x=[]∧r=R4.zero:=by
 obtain ⟨a,b,c,d⟩:=r
 simp only [bareB,Bool.and_eq_true,decide_eq_true_eq,List.isEmpty_iff] at h
 obtain ⟨⟨h1,h2⟩,h3,h4,h5,h6⟩:=h
 subst h1 h2 h3 h4 h5 h6
 exact ⟨rfl,rfl,rfl⟩
theorem ok_kind {t:Tk} (h:okT t=true):1≤t.kind∧t.kind≤11:=by
 unfold okT at h
 repeat' split at h
 all_goals first | omega | (simp only [Bool.and_eq_true,decide_eq_true_eq] at h; omega)
theorem ok_val {t:Tk} (h:okT t=true) (h1:1≤t.kind) (h4:t.kind≤4):goodNd (ndVal t):=by
 obtain ⟨k,n,x,r,a⟩:=t
 simp only [] at h1 h4
 have hk:k=1∨k=2∨k=3∨k=4:=by omega
 unfold okT at h
 rcases hk with rfl | rfl | rfl | rfl
 ·simp only [if_true,Bool.and_eq_true,decide_eq_true_eq] at h
  obtain ⟨h2,h3⟩:=h
  obtain ⟨-,rfl,-⟩:=ok_bare (t:=⟨1,n,x,r,a⟩) h3
  exact .inl ⟨1,n,[],rfl,.inl ⟨rfl,h2,rfl⟩⟩
 ·simp only [Nat.reduceEqDiff,if_false,if_true,Bool.and_eq_true,decide_eq_true_eq] at h
  obtain ⟨⟨⟨h2,h3⟩,-⟩,h5⟩:=h
  exact .inl ⟨3,0,x,rfl,.inr (.inr (.inl ⟨rfl,rfl,h3,h2⟩))⟩
 ·simp only [Nat.reduceEqDiff,if_false,if_true,Bool.and_eq_true,decide_eq_true_eq] at h
  obtain ⟨h2,h3⟩:=h
  obtain ⟨-,rfl,-⟩:=ok_bare (t:=⟨3,n,x,r,a⟩) h3
  exact .inl ⟨2,n,[],rfl,.inr (.inl ⟨rfl,h2,rfl⟩)⟩
 ·simp only [Nat.reduceEqDiff,if_false,if_true,Bool.and_eq_true,decide_eq_true_eq] at h
  obtain ⟨h2,h3⟩:=h
  obtain ⟨-,rfl,-⟩:=ok_bare (t:=⟨4,n,x,r,a⟩) h3
  exact .inl ⟨4,n,[],rfl,.inr (.inr (.inr ⟨rfl,h2,rfl⟩))⟩
theorem ok_ref {t:Tk} (h:okT t=true) (h5:t.kind=5):goodNd (ndRef t.r):=by
 obtain ⟨k,n,x,r,a⟩:=t
 simp only [] at h5
 subst h5
 simp only [okT,Nat.reduceEqDiff,if_false,if_true,Bool.and_eq_true,oneB,decide_eq_true_eq] at h
 exact .inr (.inl ⟨r,rfl,h.1.1,h.1.2⟩)
theorem ok_range {t:Tk} (h:okT t=true) (h6:t.kind=6):goodNd (ndRange t.r):=by
 obtain ⟨k,n,x,r,a⟩:=t
 simp only [] at h6
 subst h6
 simp only [okT,Nat.reduceEqDiff,if_false,if_true,Bool.and_eq_true,oneB,Bool.not_eq_true',decide_eq_false_iff_not] at h
 exact .inr (.inr (.inl ⟨r,rfl,h.1.1,h.1.2⟩))
theorem ok_op {t:Tk} (h:okT t=true) (h8:t.kind=8):1≤t.num∧t.num≤13:=by
 obtain ⟨k,n,x,r,a⟩:=t
 simp only [] at h8
 subst h8
 simp only [okT,Nat.reduceEqDiff,if_false,if_true,Bool.and_eq_true,decide_eq_true_eq] at h
 exact h.1
def okM:Md→Prop
 | .ops k=>k≤4
 | _=>True
theorem Pk.sub {m:Md} {ts u:List Tk} {ns:List Nd} {n:Nat} (h:Pk m ts u ns n):∀ t∈u,t∈ts:=by
 obtain ⟨c,rfl,_⟩:=h.soft
 intro t ht
 simp [ht]
theorem good_snoc {ns:List Nd} {x:Nd} (h:∀ y∈ns,goodNd y) (hx:goodNd x):∀ y∈ns++[x],goodNd y:=by
 intro y hy
 rcases List.mem_append.1 hy with hy | hy
 ·exact h y hy
 ·simp at hy; subst hy; exact hx
theorem good_app {ns ms:List Nd} (h:∀ y∈ns,goodNd y) (g:∀ y∈ms,goodNd y):∀ y∈ns++ms,goodNd y:=by
 intro y hy
 rcases List.mem_append.1 hy with hy | hy
 ·exact h y hy
 ·exact g y hy
theorem good_cons {ms:List Nd} {x:Nd} (hx:goodNd x) (g:∀ y∈ms,goodNd y):∀ y∈x::ms,goodNd y:=by
 intro y hy
 rcases List.mem_cons.1 hy with rfl | hy
 ·exact hx
 ·exact g y hy
theorem good_bin {op:Int} (h1:1≤op) (h2:op≤12):goodNd (ndBin op):=.inr (.inr (.inr (.inr (.inr (.inl ⟨op,rfl,h1,h2⟩)))))
theorem good_neg:goodNd ndNeg:=.inr (.inr (.inr (.inl rfl)))
theorem good_pct:goodNd ndPct:=.inr (.inr (.inr (.inr (.inl rfl))))
theorem Pk.good {m:Md} {ts u:List Tk} {ns:List Nd} {n:Nat} (h:Pk m ts u ns n):okM m→(∀ t∈ts,okT t=true)→∀ x∈ns,goodNd x:=by
 induction h with
 | lv5 _ _ ih=>intro _ hg; exact ih trivial hg
 | lv hk h _ ih1 ih2 =>
  intro _ hg
  exact good_app (ih1 trivial hg) (ih2 (by simp only [okM]; omega) fun t ht=>hg t (h.sub t ht))
 | nil=>intro _ _; simp
 | stop=>intro _ _; simp
 | @op k t ts u v ns ms n m h8 hk h _ ih1 ih2 =>
  intro hm hg
  simp only [okM] at hm
  have ht:=ok_op (hg t (by simp)) h8
  have h13:t.num≠13:=by
   intro e
   rw [e] at hk
   simp [bindS] at hk
   omega
  exact good_app (ih1 trivial fun t ht=>hg t (by simp [ht])) (good_cons (good_bin ht.1 (by omega)) (ih2 hm fun t ht=>hg t (by simp [h.sub t ht])))
 | neg _ _ _ ih=>intro _ hg; exact good_snoc (ih trivial fun t ht=>hg t (by simp [ht])) good_neg
 | bare _ _ _ ih=>intro _ hg; exact ih trivial hg
 | pow _ h _ _ _ ih1 ih2 =>
  intro _ hg
  exact good_app (ih1 trivial hg) (good_snoc (ih2 trivial fun t ht=>hg t (h.sub t (by simp [ht]))) (good_bin (by decide) (by decide)))
 | pc _ ih =>
  intro _ hg
  refine good_app (ih trivial hg) fun y hy => ?_
  rw [(List.mem_replicate.1 hy).2]
  exact good_pct
 | val h1 h4=>intro _ hg; exact good_cons (ok_val (hg _ (by simp)) h1 h4) (by simp)
 | ref h5=>intro _ hg; exact good_cons (ok_ref (hg _ (by simp)) h5) (by simp)
 | par _ _ _ ih=>intro _ hg; exact ih trivial fun t ht=>hg t (by simp [ht])
 | @call t o c ts u ns n h7 hf ho h hc h1 h2 hd ih =>
  intro _ hg
  have:=fn_le t.text
  refine good_snoc (ih trivial fun t ht=>hg t (by simp [ht])) (.inr (.inr (.inr (.inr (.inr (.inr ⟨_,n,rfl,by omega,this,h1,h2⟩))))))
 | argE _ _ _ ih=>intro _ hg; exact ih trivial hg
 | argC _ h _ _ ih1 ih2=>intro _ hg; exact good_app (ih1 trivial hg) (ih2 trivial fun t ht=>hg t (h.sub t (by simp [ht])))
 | rngE h6=>intro _ hg; exact good_cons (ok_range (hg _ (by simp)) h6) (by simp)
 | rngC h6 _ _ _ ih=>intro _ hg; exact good_cons (ok_range (hg _ (by simp)) h6) (ih trivial fun t ht=>hg t (by simp [ht]))
theorem Lex.len {k:Nat} {u:List UInt8} {l:List Tk} {y:List UInt8} (h:Lex k u l y):l.length≤u.length:=by
 induction h with
 | nil=>simp
 | blank _ ih=>simp; omega
 | tok _ _ ih=>simp; omega
theorem tokens_ok {L:List UInt8} {ts:List Tk} {a:Int} (h:tokensS L=(ts,a,0)):a=0∧L.length≤256∧(∀ b∈L,plainB b=true)∧Lex 0 L ts []:=by
 unfold tokensS at h
 split at h
 ·simp at h
 ·rename_i h256
  split at h
  ·simp at h
  ·rename_i hf
   split at h
   ·rename_i l hl
    simp only [Prod.mk.injEq,and_true] at h
    obtain ⟨rfl,rfl⟩:=h
    refine ⟨rfl,by omega,?_,(toks_lex _ _ _ _ (Nat.le_refl _)).1 hl⟩
    intro b hb
    have:=List.findIdx?_eq_none_iff.1 hf b hb
    simpa using this
   ·simp at h
theorem tokens_good {L:List UInt8} {ts:List Tk} {a:Int} (h:tokensS L=(ts,a,0)):∀ t∈ts,okT t=true:=by
 obtain ⟨_,h1,h2,h3⟩:=tokens_ok h
 exact h3.ok (by simpa using h1) (by simpa using h2)
def formR (e:Nat):Rs→List Nd×Int×Int
 | .bad a c=>([],a,c)
 | .ok u ns _=>if hkS u≠0 then ([],(hdS e u).at_,4) else if checkS ns≠0 then ([],0,checkS ns) else (ns,0,0)
def parT (l:List UInt8) (ts:List Tk):Option Rs:=parF l.length (12 * ts.length+needM (.lv 1)) (.lv 1) ts
def formS (l:List UInt8):List Nd×Int×Int :=
 if (tokensS l).2.2≠0 then ([],(tokensS l).2.1,(tokensS l).2.2)
 else match parT l (tokensS l).1 with
  | none=>([],0,0)
  | some r=>formR l.length r
theorem form_lex {L:List UInt8} {ts:List Tk} {a e:Int} (h:tokensS L=(ts,a,e)) (he:e≠0):formS L=([],a,e):=by
 unfold formS
 rw [h,if_pos he]
theorem form_of {L:List UInt8} {ts:List Tk} {a:Int} (h:tokensS L=(ts,a,0)):∃ r,parT L ts=some r∧formS L=formR L.length r:=by
 obtain ⟨r,hr⟩:=par_some (e:=L.length) (12 * ts.length+needM (.lv 1)) (.lv 1) ts (Nat.le_refl _) (by rintro k ⟨⟩; omega) (by simp)
 refine ⟨r,hr,?_⟩
 unfold formS
 rw [h,if_neg (by simp)]
 simp only [parT,hr]
theorem hk_pos {u:List Tk} (h:∀ t∈u,okT t=true):hkS u≠0↔u≠[]:=by
 cases u with
 | nil=>simp [hkS]
 | cons t u =>
  have:=ok_kind (h t (by simp))
  simp only [hkS,ne_eq,reduceCtorEq,not_false_eq_true,iff_true]
  omega
theorem toks_err:∀ (f k:Nat) (s:List UInt8) (i:Nat),toksF f k s=.error i→k≤i∧i<k+s.length
 | 0,_,_,_,h=>by simp [toksF] at h
 | _+1,_,[],_,h=>by simp [toksF] at h
 | f+1,k,b::r,i,h=>by
  rw [toksF] at h
  split at h
  ·have:=toks_err f _ _ _ h
   simp only [List.length_cons]
   omega
  ·split at h
   ·simp only [Except.error.injEq] at h
    subst h
    simp
   ·rename_i t n ht
    have hn:=tok_le ht
    cases hr:toksF f (k+n) ((b::r).drop n) with
    | error j =>
     rw [hr] at h
     simp only [Except.map,Except.error.injEq] at h
     subst h
     have:=toks_err f _ _ _ hr
     rw [List.length_drop] at this
     omega
    | ok l=>rw [hr] at h; simp [Except.map] at h
theorem tokens_cases (L:List UInt8):(∃ a e,tokensS L=([],a,e)∧e≠0∧0≤a∧a≤L.length)∨∃ ts,tokensS L=(ts,0,0):=by
 unfold tokensS
 split
 ·exact .inl ⟨0,5,rfl,by decide,by omega,by omega⟩
 ·split
  ·rename_i i hf
   have hi:=(List.findIdx?_eq_some_iff_getElem.1 hf).1
   exact .inl ⟨i,4,rfl,by decide,by omega,by omega⟩
  ·split
   ·exact .inr ⟨_,rfl⟩
   ·rename_i i ht
    have:=toks_err _ _ _ _ ht
    exact .inl ⟨i,4,rfl,by decide,by omega,by omega⟩
theorem lies_le {L:List UInt8} {ts us:List Tk} {a:Nat} (h:Lex 0 L ts []) (hl:Lies L.length us a) (hs:∀ t∈us,t∈ts):a≤L.length:=by
 rcases hl with rfl | ⟨t,ht,rfl⟩
 ·exact Nat.le_refl _
 ·obtain ⟨i,hi⟩:=List.getElem?_of_mem (hs t ht)
  exact Nat.le_of_lt (gaps_at h i t hi).1
theorem form_cases (L:List UInt8):(∃ a e,formS L=([],a,e)∧e≠0∧0≤a∧a≤L.length) ∨
  ∃ ts ns n,formS L=(ns,0,0)∧tokensS L=(ts,0,0)∧Pk (.lv 1) ts [] ns n∧checkS ns=0:=by
 rcases tokens_cases L with ⟨a,e,h,he,h1,h2⟩ | ⟨ts,h⟩
 ·exact .inl ⟨a,e,form_lex h he,he,h1,h2⟩
 ·obtain ⟨r,hr,hf⟩:=form_of h
  obtain ⟨_,h256,hpl,hlex⟩:=tokens_ok h
  rw [hf]
  unfold parT at hr
  cases r with
  | bad a c =>
   obtain ⟨hl,hc⟩:=par_bad _ _ _ _ _ hr
   refine .inl ⟨a,c,rfl,?_,by omega,?_⟩
   ·rcases hc with rfl | rfl | rfl <;> decide
   ·have:=lies_le hlex hl (fun _ h=>h)
    omega
  | ok u ns n =>
   have hp:=par_pk _ _ _ _ _ _ hr
   simp only [formR]
   by_cases hu:hkS u=0
   ·have hu2:u=[]:=Classical.byContradiction fun e=>absurd hu ((hk_pos fun t ht=>tokens_good h t (hp.sub t ht)).2 e)
    subst hu2
    rw [if_neg (by simp [hkS])]
    by_cases hc:checkS ns=0
    ·rw [if_neg (by rw [hc]; decide)]
     exact .inr ⟨ts,ns,n,rfl,h,hp,hc⟩
    ·rw [if_pos hc]
     exact .inl ⟨0,checkS ns,rfl,hc,by omega,by omega⟩
   ·rw [if_pos hu]
    refine .inl ⟨_,4,rfl,by decide,by omega,?_⟩
    have:=lies_le hlex (lies_hd u) hp.sub
    omega
theorem form_pk {L:List UInt8} {ts:List Tk} {ns:List Nd} {n:Nat} (h:tokensS L=(ts,0,0)) (hp:Pk (.lv 1) ts [] ns n) (hc:checkS ns=0):formS L=(ns,0,0):=by
 obtain ⟨r,hr,hf⟩:=form_of h
 obtain ⟨f,hg⟩:=pk_par hp L.length
 unfold parT at hr
 obtain rfl:=par_one hr hg
 rw [hf]
 simp only [formR]
 rw [if_neg (by simp [hkS]),if_neg (by rw [hc]; decide)]
theorem info_part:(Tryz.prog.info? 176).map (fun i=>(i.zero,i.size,i.bytes))=some (some (.agg #[.int .i64 0,.int .i64 0,.bool false]),3,24):=by kernel_rfl
theorem info_int':(Tryz.prog.info? 3).map (fun i=>(i.zero,i.size,i.bytes))=some (some (.int .i64 0),1,8):=by kernel_rfl
theorem own_take {w:World} {base:Nat} {e:TypeId} {s n cap g k:Nat} {xs:List Value} (h:w.ownsRow base e s (.slice (some ⟨g,0,none⟩) n cap) n xs) (hk:k≤n):w.ownsRow base e s (.slice (some ⟨g,0,none⟩) k cap) k (xs.take (k * s)):=by
 obtain ⟨hl,h2⟩:=h
 rcases h2 with ⟨h3,_⟩ | ⟨g',cap',cur,h3,h4,h5,h6,h7,h8,h9⟩
 ·cases h3
 ·simp only [Value.slice.injEq,Option.some.injEq,Addr.mk.injEq,true_and,and_true] at h3
  obtain ⟨rfl,rfl⟩:=h3
  have hks:k * s≤n * s:=Nat.mul_le_mul_right s hk
  refine ⟨by rw [List.length_take,hl]; omega,.inr ⟨g,cap,cur,rfl,h4,h5,by omega,h7,h8,?_⟩⟩
  rw [← h9,List.take_take]
  congr 1
  omega
theorem ptCells_len (l:List Pt):(ptCells l).length=l.length * 3:=by
 induction l with
 | nil=>rfl
 | cons n l ih=>simp only [ptCells,List.flatMap_cons,List.length_append,List.length_cons] at ih ⊢; rw [ih]; simp [ptRow]; omega
theorem ptCells_take (l:List Pt) (k:Nat) (h:k≤l.length):(ptCells l).take (k * 3)=ptCells (l.take k):=by
 conv=>lhs; rw [← List.take_append_drop k l]
 unfold ptCells
 rw [List.flatMap_append]
 have h2:=ptCells_len (l.take k)
 unfold ptCells at h2
 rw [List.length_take,Nat.min_eq_left h] at h2
 rw [← h2,List.take_left]
theorem ptCells_snoc (l:List Pt) (p:Pt):ptCells (l++[p])=ptCells l++ptRow p:=by simp [ptCells]
theorem ptCells_at (l:List Pt) (i:Nat) (p:Pt) (h:l[i]?=some p) (j:Nat) (v:Value) (hj:(ptRow p)[j]?=some v):(ptCells l)[i * 3+j]?=some v:=by
 obtain ⟨hi,rfl⟩:=List.getElem?_eq_some_iff.1 h
 have h1:ptCells l=ptCells (l.take i)++(ptRow l[i]++ptCells (l.drop (i+1))):=by
  have e:l=l.take i++l[i]::l.drop (i+1):=by rw [← List.drop_eq_getElem_cons hi,List.take_append_drop]
  unfold ptCells
  conv=>lhs; rw [e]
  rw [List.flatMap_append,List.flatMap_cons]
 have h2:=ptCells_len (l.take i)
 rw [List.length_take,Nat.min_eq_left (by omega)] at h2
 have hj3:j<3:=by
  have:=(List.getElem?_eq_some_iff.1 hj).1
  simpa [ptRow] using this
 rw [h1,List.getElem?_append_right (by omega),h2,Nat.add_sub_cancel_left,List.getElem?_append_left (by simpa [ptRow] using hj3)]
 exact hj
def StkV (sv:Value) (n:Nat):Prop:=(sv=.slice none 0 0∧n=0)∨∃ g cap,sv=.slice (some ⟨g,0,none⟩) n cap∧0<n∧n≤cap∧cap≤maxLen
def Wlk (t:List Nd) (i:Nat) (st:List Pt):Prop:=walkW t 0 t []=walkW t i (t.drop i) st∧∀ p∈st,p.root<i∧p.depth≤32
theorem Wlk.bad {t:List Nd} {i:Nat} {st:List Pt} {e:Int} (h:Wlk t i st) (hi:i<t.length) (hs:stepW t st i t[i]=.error e):walkE t=e:=by
 obtain ⟨h1,_⟩:=h
 unfold walkE
 rw [h1,List.drop_eq_getElem_cons hi,walkW,hs]
theorem Wlk.next {t:List Nd} {i:Nat} {st st2:List Pt} (h:Wlk t i st) (hi:i<t.length) (hs:stepW t st i t[i]=.ok st2):Wlk t (i+1) st2:=by
 obtain ⟨h1,h2⟩:=h
 refine ⟨by rw [h1,List.drop_eq_getElem_cons hi,walkW,hs],?_⟩
 unfold stepW at hs
 split at hs
 ·cases hs
 ·split at hs
  ·cases hs
  ·split at hs
   ·cases hs
   ·rename_i h32
    cases hs
    intro p hp
    rcases List.mem_append.1 hp with hp | hp
    ·have:=h2 p (List.mem_of_mem_take hp)
     omega
    ·simp at hp
     subst hp
     exact ⟨by simp,by simp only []; omega⟩
theorem rows_drop {w:World} {base g m cap:Nat} {st:List Pt} (h:w.ownsRow base 176 3 (.slice (some ⟨g,0,none⟩) m cap) m (ptCells st)) (d:Nat):RowsAt w (some ⟨g,d * 3,none⟩) 3 ((st.drop d).map ptRow):=by
 intro _
 have hc:=@World.ownsRow.cells _ _ _ _ _ _ _ h
 refine ⟨g,d * 3,rfl,(h.lt g rfl).2,fun i r hi j v hj => ?_⟩
 rw [List.getElem?_map,List.getElem?_drop] at hi
 cases hp:st[d+i]? with
 | none=>rw [hp] at hi; simp at hi
 | some p =>
  rw [hp] at hi
  simp at hi
  subst hi
  have h9:=hc rfl ((d+i) * 3+j) v (ptCells_at st (d+i) p hp j v hj)
  rw [show (⟨g,0,none⟩:Addr).add ((d+i) * 3+j)=⟨g,d * 3+(i * 3+j),none⟩ by unfold Addr.add; split <;> simp_all <;> omega] at h9
  exact h9
theorem rows_nil (w:World) (a:Option Addr) (s:Nat):RowsAt w a s (([]:List Pt).map ptRow):=fun h=>absurd rfl h
theorem good_fn {n:Nd} (h:goodNd n) (h7:n.kind=7):1≤n.fn∧n.fn≤50:=by
 rcases h with ⟨vk,vn,vt,rfl,hv⟩ | ⟨r,rfl,_⟩ | ⟨r,rfl,_⟩ | rfl | rfl | ⟨op,rfl,_⟩ | ⟨fn,k,rfl,h1,h2,_⟩
 ·simp at h7
 ·simp [ndRef] at h7
 ·simp [ndRange] at h7
 ·simp [ndNeg] at h7
 ·simp [ndPct] at h7
 ·simp [ndBin] at h7
 ·exact ⟨h1,h2⟩
section
variable {t:List Nd} {st:List Pt} {i k d:Nat} {n:Nd}
theorem step_short (hk:belowS n=k) (h:st.length<k):stepW t st i n=.error 4:=by unfold stepW; rw [hk,if_pos h]
theorem step_unfit (hk:belowS n=k) (h:¬ st.length<k) (hd:st.length - k=d) (hf:fitsF t n 0 (st.drop d)=false):stepW t st i n=.error 4:=by unfold stepW; rw [hk,if_neg h,hd,if_pos hf]
theorem step_deep (hk:belowS n=k) (h:¬ st.length<k) (hd:st.length - k=d) (hf:fitsF t n 0 (st.drop d)=true) (h32:32<deepS (st.drop d)):stepW t st i n=.error 9:=by
 unfold stepW; rw [hk,if_neg h,hd,if_neg (by rw [hf]; decide),if_pos h32]
theorem step_ok (hk:belowS n=k) (h:¬ st.length<k) (hd:st.length - k=d) (hf:fitsF t n 0 (st.drop d)=true) (h32:¬ 32<deepS (st.drop d)):stepW t st i n=.ok (st.take d++[⟨i,deepS (st.drop d),decide (n.kind=3)⟩]):=by
 unfold stepW; rw [hk,if_neg h,hd,if_neg (by rw [hf]; decide),if_neg h32]
end
theorem stk_of_own {w:World} {base g n cap:Nat} {e:TypeId} {xs:List Value} (h:w.ownsRow base e 3 (.slice (some ⟨g,0,none⟩) n cap) n xs) (hn:0<n):StkV (.slice (some ⟨g,0,none⟩) n cap) n:=by
 rcases h.2 with ⟨h3,_⟩ | ⟨g',cap',cur,h3,h4,h5,h6,h7,h8,h9⟩
 ·cases h3
 ·simp only [Value.slice.injEq,Option.some.injEq,Addr.mk.injEq,true_and,and_true] at h3
  have hcap:cap'=cap:=h3.2.symm
  refine Or.inr (Exists.intro g (Exists.intro cap (And.intro rfl (And.intro hn (And.intro ?_ ?_)))))
  ·rw [← hcap]; exact h6
  ·rw [← hcap]; exact h7
theorem beq3 (x:Nat):((x:Int) == 3)=decide (x=3):=by rw [Bool.eq_iff_iff]; simp; omega
theorem stk_snoc {w0 w:World} {ps:List Pers} {g cap d:Nat} {xs:List Value} {l:List Pt} {p:Pt} (h:OkRow w0 ps 176 3 (.slice (some ⟨g,0,none⟩) (d+1) cap) (d+1) xs w) (hl:l.length=d):StkV (.slice (some ⟨g,0,none⟩) (d+1) cap) (l++[p]).length:=by
 rw [List.length_append,hl]
 exact stk_of_own h.own (by simp)
theorem deep_snoc (l:List Pt) (p:Pt):deepS (l++[p])=max (deepS l) (p.depth+1):=by simp [deepS]
theorem tree_nothing (i d:Int) (v:Value) (w:World) :
  Calls Tryz.prog 89 #[.int .i64 i,v,.int .i64 d] w fun e w'=>e=.returned (.tuple #[])∧w'=w:=by
 go_enter Tryz.func89,Tryz.ntmps89
 go_wp2_with fail
 first
  | go_end0
  | refine bodyPost_ret (results_none rfl _ _ _) rfl ?_
 exact ⟨rfl,rfl⟩
open Go.RowKit
inductive Lf
 | int (k:IntKind)
 | str
 | bool
def Lf.ok:Lf→Value→Prop
 | .int k,v=>∃ n,v=.int k n∧(Lit.int k n).wf=true
 | .str,v=>∃ s:ByteArray,v=.string s∧s.size≤maxLen
 | .bool,v=>∃ b,v=.bool b
def OkL:List Lf→List Value→Prop
 | [],[]=>True
 | l::ls,v::vs=>l.ok v∧OkL ls vs
 | _,_=>False
theorem OkL.app:∀ {a b:List Lf} {u v:List Value},OkL a u→OkL b v→OkL (a++b) (u++v)
 | [],_,[],_,_,h=>h
 | _::_,_,_::_,_,⟨h1,h2⟩,h=>⟨h1,OkL.app h2 h⟩
theorem OkL.len:∀ {a:List Lf} {u:List Value},OkL a u→u.length=a.length
 | [],[],_=>rfl
 | _::_,_::_,⟨_,h⟩=>by rw [List.length_cons,List.length_cons,OkL.len h]
def offs:Nat→List (Field×List Lf)→Prop
 | _,[]=>True
 | n,p::ps=>p.1.offset=n∧offs (n+p.2.length) ps
inductive Flat (P:Program):TypeId→List Lf→Prop
 | int {t:TypeId} {k:IntKind} (h:P.underlying t=some (.int k)):Flat P t [.int k]
 | str {t:TypeId} (h:P.underlying t=some .string):Flat P t [.str]
 | bool {t:TypeId} (h:P.underlying t=some .bool):Flat P t [.bool]
 | struct {t : TypeId} {fs : Array Field} (ps : List (Field × List Lf)) (h : P.underlying t = some (.struct fs)) (hp : ps.map (·.1) = fs.toList) (ho : offs 0 ps) (hf : ∀ p ∈ ps,Flat P p.1.type p.2) (hc : ∀ p ∈ ps,P.cellsOf p.1.type = p.2.length)
   (hn:P.cellsOf t=(ps.flatMap (·.2)).length):Flat P t (ps.flatMap (·.2))
def allF (P:Program):List Field→List (List Lf)→Prop
 | [],[]=>True
 | f::fs,l::ls=>(Flat P f.type l∧P.cellsOf f.type=l.length)∧allF P fs ls
 | _,_=>False
theorem allF.zip {P:Program}:∀ {fs:List Field} {ls:List (List Lf)},allF P fs ls→(fs.zip ls).map (·.1)=fs∧(∀ p∈fs.zip ls,Flat P p.1.type p.2∧P.cellsOf p.1.type=p.2.length)∧(fs.zip ls).flatMap (·.2)=ls.flatten
 | [],[],_=>⟨rfl,(fun p hp=>by cases hp),rfl⟩
 | f::fs,l::ls,⟨h1,h2⟩=>by
  obtain ⟨a,b,c⟩:=allF.zip h2
  refine ⟨by rw [List.zip_cons_cons,List.map_cons,a],fun p hp => ?_,by rw [List.zip_cons_cons,List.flatMap_cons,c,List.flatten_cons]⟩
  rw [List.zip_cons_cons] at hp
  rcases List.mem_cons.1 hp with rfl | hp
  ·exact h1
  ·exact b p hp
