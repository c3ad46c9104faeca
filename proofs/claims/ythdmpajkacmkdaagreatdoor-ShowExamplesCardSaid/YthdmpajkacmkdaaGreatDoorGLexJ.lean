/- Rows of strings, and strings.Join of them. Plain: the canonical tokens of a tree, and that they are parsed back. No program stands here. The contract of the lexer's text. -/
import Derived.Test.YthdmpajkacmkdaaGreatDoorGAddrP
import Derived.Test.YthdmpajkacmkdaaGreatDoorGLexI
import Derived.Test.YthdmpajkacmkdaaGreatDoorGShelf
import Derived.Test.YthdmpajkacmkdaaGreatDoorGParK
import Derived.Test.YthdmpajkacmkdaaGreatDoorGLexG
import Derived.Test.YthdmpajkacmkdaaGreatDoorGTg
import Derived.Deep.DeepCutAuto
namespace Go.Proofs.YthdmpajkacmkdaaGreatDoor
open Go.RowKit Go.Proofs.Tryz
def byt (l:List UInt8):ByteArray:=⟨l.toArray⟩
def bH (l:List (List UInt8)):List Value:=l.map fun x=>.string (byt x)
theorem mg (l:List (List UInt8)) (x:List UInt8):bH (l++[x])=bH l++[.string (byt x)]:=by simp [bH]
theorem rJ (l:List (List UInt8)):(l.map byt).map (·.data.toList)=l:=by
 rw [List.map_map]
 have:((fun x:ByteArray=>x.data.toList)∘byt)=id:=by funext x; rfl
 rw [this,List.map_id]
theorem qH {w:World} {g n cap:Nat} (l:List (List UInt8)) (c:UInt8) (hc:∀ (j:Nat) x,(bH l)[j]?=some x→w.cell? ⟨g,j,none⟩=some x) (hg:g<w.heap.size) (hn:l.length=n) (hcap:n≤cap) (hl:l.length≤100000)
  (hlen:(Lib.join l [c]).length≤140737488355328) :
  Calls prog 45 #[.slice (some ⟨g,0,none⟩) n cap,.string ⟨#[c]⟩] w fun e w'=>e=.returned (.string ⟨(Lib.join l [c]).toArray⟩)∧Below w.heap.size w w':=by
 subst hn
 have h:=Tryz.strings_Join g 0 cap (l.map byt) ⟨#[c]⟩ w (fun j x hx=>by
  rw [Nat.zero_add]
  refine hc j _ ?_
  unfold bH
  rw [List.getElem?_map] at hx ⊢
  obtain ⟨y,hy,rfl⟩:=Option.map_eq_some_iff.1 hx
  rw [hy]; rfl) hg (by simp; omega) (by simpa using hcap) (by rw [rJ]; exact hlen)
 rw [rJ,List.length_map] at h
 exact h
theorem vg {w:World} {base:Nat} {v:Value} (l:List (List UInt8)) (c:UInt8) (h:w.ownsRow base 9 1 v l.length (bH l)) (hne:l≠[]) (hl:l.length≤100000) (hlen:(Lib.join l [c]).length≤140737488355328) :
  Calls prog 45 #[v,.string ⟨#[c]⟩] w fun e w'=>e=.returned (.string ⟨(Lib.join l [c]).toArray⟩)∧Below w.heap.size w w':=by
 have hc:=@World.ownsRow.cells _ _ _ _ _ _ _ h
 have hlt:=h.lt
 rcases h.2 with ⟨rfl,h0⟩ | ⟨g,cap,cur,rfl,h4,h5,h6,h7,h8,h9⟩
 ·exact absurd (List.length_eq_zero_iff.1 h0) hne
 refine qH l c (fun j x hx => ?_) (hlt g rfl).2 rfl h6 hl hlen
 have h10:=hc rfl j x hx
 rw [show (⟨g,0,none⟩:Addr).add j=⟨g,0+j,none⟩ by unfold Addr.add; split <;> simp_all,Nat.zero_add] at h10
 exact h10
inductive Cm
 | tr (s:Nat)
 | od (l:Nat)
 | ar (fn i:Nat)
inductive Cn:Cm→List Tk→List Nd→Nat→Prop
 | val {t:Tk} (h1:1≤t.kind) (h4:t.kind≤4):Cn (.tr 8) [t] [fF t] 0
 | ref {t:Tk} (h5:t.kind=5):Cn (.tr 8) [t] [cL t.r] 0
 | neg {t:Tk} {ts:List Tk} {ns:List Nd} (h8:t.kind=8) (h2:t.num=2) (h:Cn (.od 5) ts ns 0):Cn (.tr 5) (t::ts) (ns++[ck]) 0
 | pct {t:Tk} {ts:List Tk} {ns:List Nd} (h8:t.kind=8) (h13:t.num=13) (h:Cn (.od 7) ts ns 0):Cn (.tr 7) (ts++[t]) (ns++[bS]) 0
 | bin {t : Tk} {k : Nat} {ts us : List Tk} {ns ms : List Nd} (h8 : t.kind = 8) (hk : aJ t.num = k) (h1 : 1 ≤ k) (h4 : k ≤ 4) (h : Cn (.od k) ts ns 0) (g : Cn (.od (k + 1)) us ms 0) :
   Cn (.tr k) (ts++t::us) (ns++(ms++[aI t.num])) 0
 | pow {t:Tk} {ts us:List Tk} {ns ms:List Nd} (h8:t.kind=8) (h5:t.num=5) (h:Cn (.od 7) ts ns 0) (g:Cn (.od 5) us ms 0):Cn (.tr 6) (ts++t::us) (ns++(ms++[aI 5])) 0
 | call {t o c : Tk} {ts : List Tk} {ns : List Nd} {n : Nat} (h7 : t.kind = 7) (hf : fnS t.text ≠ 0) (ho : o.kind = 9) (h : Cn (.ar (fnS t.text) 0) ts ns n) (hc : c.kind = 10)
   (h1:(arS (fnS t.text)).1≤n) (h2:n≤(arS (fnS t.text)).2) (hd:46≤fnS t.text→(ns.getLast?.map (·.kind))=some 2∨(ns.getLast?.map (·.kind))=some 3) :
   Cn (.tr 8) (t::o::(ts++[c])) (ns++[bI (fnS t.text) n]) 0
 | bare {l s:Nat} {ts:List Tk} {ns:List Nd} (hs:l≤s) (h:Cn (.tr s) ts ns 0):Cn (.od l) ts ns 0
 | par {l s:Nat} {o c:Tk} {ts:List Tk} {ns:List Nd} (ho:o.kind=9) (hc:c.kind=10) (h:Cn (.tr s) ts ns 0):Cn (.od l) (o::(ts++[c])) ns 0
 | argE {fn i s:Nat} {ts:List Tk} {ns:List Nd} (h:Cn (.tr s) ts ns 0):Cn (.ar fn i) ts ns (i+1)
 | argC {fn i s:Nat} {c:Tk} {ts us:List Tk} {ns ms:List Nd} {m:Nat} (h:Cn (.tr s) ts ns 0) (hc:c.kind=11) (g:Cn (.ar fn (i+1)) us ms m):Cn (.ar fn i) (ts++c::us) (ns++ms) m
 | rngE {fn i:Nat} {t:Tk} (h6:t.kind=6) (hw:b8 fn i=true):Cn (.ar fn i) [t] [aM t.r] (i+1)
 | rngC {fn i:Nat} {t c:Tk} {us:List Tk} {ms:List Nd} {m:Nat} (h6:t.kind=6) (hw:b8 fn i=true) (hc:c.kind=11) (g:Cn (.ar fn (i+1)) us ms m):Cn (.ar fn i) (t::c::us) (aM t.r::ms) m
def Fol (u:List Tk) (k:Nat):Prop:=∀ t r,u=t::r→¬ (t.kind=8∧k<aJ t.num)
theorem Fol.mono {u:List Tk} {k l:Nat} (h:Fol u k) (hl:k≤l):Fol u l:=fun t r e g=>h t r e ⟨g.1,by omega⟩
theorem Fol.nil (k:Nat):Fol [] k:=fun t r e=>by cases e
theorem Fol.cons {t:Tk} {r:List Tk} {k:Nat} (h:¬ (t.kind=8∧k<aJ t.num)):Fol (t::r) k:=fun t2 r2 e=>by obtain ⟨rfl,rfl⟩:=List.cons.inj e; exact h
def PrP (ts:List Tk) (ns:List Nd):Prop:=∃ n,∀ u,Pk .pr (ts++u) u ns n
def PcP (ts:List Tk) (ns:List Nd):Prop:=∃ ts0 qs ns0,ts=ts0++qs∧ns=ns0++List.replicate qs.length bS∧(∀ q∈qs,q.kind=8∧q.num=13)∧PrP ts0 ns0
def SgP (ts:List Tk) (ns:List Nd):Prop:=∀ u,Fol u 5→∃ n,Pk .sg (ts++u) u ns n
def CtP (k:Nat) (ts:List Tk) (ns:List Nd):Prop:=∀ u v ms m,Fol u k→Pk (.ops k) u v ms m→Pk (.lv k) (ts++u) v (ns++ms) m
def Str (l:Nat) (ts:List Tk) (ns:List Nd):Prop:=(7≤l→PcP ts ns)∧(5≤l→SgP ts ns)∧∀ k,1≤k→k≤4→k≤l→CtP k ts ns
theorem BZ {ts u:List Tk} {ns:List Nd} {n:Nat} (h:Pk .pr ts u ns n):bE ts 2=false:=by
 cases h <;> simp [bE] <;> omega
theorem yS (qs u:List Tk) (hq:∀ q∈qs,q.kind=8∧q.num=13) (hu:Fol u 6):cF (qs++u)=(u,qs.length):=by
 induction qs with
 | nil =>
  cases u with
  | nil=>rfl
  | cons t r =>
   have:=hu t r rfl
   show cF (t::r)=_
   rw [cF,if_neg]
   ·rfl
   rintro ⟨h8,h13⟩
   exact this ⟨h8,by rw [h13]; decide⟩
 | cons q qs ih =>
  show cF (q::(qs++u))=_
  rw [cF,if_pos (hq q (by simp)),ih fun x hx=>hq x (by simp [hx])]
  rfl
theorem PcP.pc {ts:List Tk} {ns:List Nd} (h:PcP ts ns) (u:List Tk) (hu:Fol u 6):∃ n,Pk .pc (ts++u) u ns n∧bE (ts++u) 2=false:=by
 obtain ⟨ts0,qs,ns0,rfl,rfl,hq,n,hp⟩:=h
 have h1:=hp (qs++u)
 have h2:=Pk.pc h1
 rw [yS qs u hq hu] at h2
 exact ⟨0,by rw [List.append_assoc]; exact h2,by rw [List.append_assoc]; exact BZ h1⟩
theorem AI {u:List Tk} {k:Nat} {op:Int} (h:Fol u k) (hk:k<aJ op):bE u op=false:=by
 cases u with
 | nil=>rfl
 | cons t r =>
  cases hq:bE (t::r) op with
  | false=>rfl
  | true =>
   simp only [bE,decide_eq_true_eq] at hq
   exact absurd ⟨hq.1,by rw [hq.2]; exact hk⟩ (h t r rfl)
theorem PcP.sg {ts:List Tk} {ns:List Nd} (h:PcP ts ns):SgP ts ns:=fun u hu=>by
 obtain ⟨n,h1,h2⟩:=h.pc u (hu.mono (by decide))
 exact ⟨0,.bare h2 h1 (AI hu (by decide))⟩
theorem PrP.pc {ts:List Tk} {ns:List Nd} (h:PrP ts ns):PcP ts ns:=⟨ts,[],ns,by simp,by simp,by simp,h⟩
theorem ops_stop (u:List Tk) (k j:Nat) (h:Fol u k) (hj:k<j):Pk (.ops j) u u [] 0:=by
 cases u with
 | nil=>exact .nil
 | cons t r=>exact .stop fun g=>h t r rfl ⟨g.1,by omega⟩
theorem SgP.up {ts:List Tk} {ns:List Nd} (h:SgP ts ns) (u:List Tk) (hu:Fol u 4):∃ n,Pk (.lv 5) (ts++u) u ns n:=by
 obtain ⟨n,g⟩:=h u (hu.mono (by decide))
 exact ⟨n,.lv5 (Nat.le_refl _) g⟩
theorem CtP.up {ts:List Tk} {ns:List Nd} {k:Nat} (h:CtP (k+1) ts ns) (u:List Tk) (hu:Fol u k):∃ n,Pk (.lv (k+1)) (ts++u) u ns n:=by
 have g:=h u u [] 0 (hu.mono (by omega)) (ops_stop u k (k+1) hu (by omega))
 rw [List.append_nil] at g
 exact ⟨0,g⟩
theorem zQ {ts:List Tk} {ns:List Nd} {k:Nat} (hk:k≤4) (h:∀ u,Fol u k→∃ n,Pk (.lv (k+1)) (ts++u) u ns n):CtP k ts ns:=fun u v ms m hu g=>by
 obtain ⟨n,h1⟩:=h u hu
 exact .lv (by omega) h1 g
theorem CtP.down {ts:List Tk} {ns:List Nd} {k:Nat} (h:CtP k ts ns) (hk:k≤4):∀ d j,j+d=k→CtP j ts ns
 | 0,j,e=>by
  obtain rfl:j=k:=by omega
  exact h
 | d+1,j,e=>zQ (by omega) (fun u hu=>(CtP.down h hk d (j+1) (by omega)).up u hu)
theorem SgP.ct {ts:List Tk} {ns:List Nd} (h:SgP ts ns) (k:Nat) (hk:k≤4):CtP k ts ns :=
 (zQ (k:=4) (Nat.le_refl _) (fun u hu=>h.up u hu)).down (Nat.le_refl _) (4 - k) k (by omega)
theorem Str.mono {ts:List Tk} {ns:List Nd} {l s:Nat} (h:Str s ts ns) (hl:l≤s):Str l ts ns:=⟨fun g=>h.1 (by omega),fun g=>h.2.1 (by omega),fun k h1 h4 hk=>h.2.2 k h1 h4 (by omega)⟩
theorem Str.up {ts:List Tk} {ns:List Nd} {k:Nat} (h:Str (k+1) ts ns) (h4:k≤4) (u:List Tk) (hu:Fol u k):∃ n,Pk (.lv (k+1)) (ts++u) u ns n:=by
 by_cases e:k=4
 ·subst e; exact (h.2.1 (Nat.le_refl _)).up u hu
 exact (h.2.2 (k+1) (by omega) (by omega) (Nat.le_refl _)).up u hu
set_option maxRecDepth 100000
set_option maxHeartbeats 4000000
def iL (l:List UInt8) (i:Nat):Option (Tk×Nat):=if l.head?=some 34 then (be (l.drop 1)).map fun x=>(⟨2,0,x.1,R4.zero,i⟩,x.2+1) else none
theorem nj:∀ (m:Nat) (l t:List UInt8) (n:Nat),l.length≤m→be l=some (t,n)→t.length+1≤n:=by
 intro m
 induction m with
 | zero =>
  intro l t n hl hu
  obtain rfl:=List.length_eq_zero_iff.1 (Nat.le_zero.1 hl)
  simp [be] at hu
 | succ m ih =>
  intro l t n hl hu
  match l,hl,hu with
  | [b],_,hu =>
   rw [ed] at hu
   split at hu
   ·simp at hu
    obtain ⟨rfl,rfl⟩:=hu
    simp
   simp at hu
  | b::c::r,hl,hu =>
   rw [cj] at hu
   split at hu
   ·split at hu
    ·cases h9:be r with
     | none=>rw [h9] at hu; simp at hu
     | some y =>
      rw [h9] at hu
      simp only [Option.map_some,Option.some.injEq,Prod.mk.injEq] at hu
      obtain ⟨rfl,rfl⟩:=hu
      have:=ih r y.1 y.2 (by simp at hl; omega) h9
      simp; omega
    simp at hu
    obtain ⟨rfl,rfl⟩:=hu
    simp
   cases h9:be (c::r) with
   | none=>rw [h9] at hu; simp at hu
   | some y =>
    rw [h9] at hu
    simp only [Option.map_some,Option.some.injEq,Prod.mk.injEq] at hu
    obtain ⟨rfl,rfl⟩:=hu
    have:=ih (c::r) y.1 y.2 (by simp at hl ⊢; omega) h9
    simp; omega
def fm (s:ByteArray) (a k:Nat):Prop:=(be (s.data.toList.drop a)).map (·.2)=(be (s.data.toList.drop k)).map fun p=>p.2+(k - a)
theorem fm.step {s : ByteArray} {a k : Nat} (h : fm s a k) (ha : a ≤ k) (hk : k < s.size) (h1 : s[k]'hk ≠ 34) : fm s a (k + 1):=by
 have hsl:s.data.toList.length=s.size:=by rw [Array.length_toList]; rfl
 have hd : s.data.toList.drop k = s[k]'hk :: s.data.toList.drop (k + 1):=List.drop_eq_getElem_cons (by omega)
 unfold fm at h ⊢
 rw [h,hd]
 cases hr:s.data.toList.drop (k+1) with
 | nil=>rw [ed,if_neg h1]; rfl
 | cons c r =>
  rw [cj,if_neg h1]
  cases be (c::r) with
  | none=>rfl
  | some y=>simp; omega
theorem fm.pair {s : ByteArray} {a k : Nat} (h : fm s a k) (ha : a ≤ k) (hk : k + 1 < s.size) (h1 : s[k]'(by omega) = 34) (h2 : s[k + 1]'hk = 34) : fm s a (k + 2):=by
 have hsl:s.data.toList.length=s.size:=by rw [Array.length_toList]; rfl
 have hd : s.data.toList.drop k = s[k]'(by omega) :: s[k + 1]'hk :: s.data.toList.drop (k + 2):=by
  rw [List.drop_eq_getElem_cons (by omega),List.drop_eq_getElem_cons (by omega)]
  rfl
 unfold fm at h ⊢
 rw [h,hd,cj,if_pos h1,if_pos h2]
 cases be (s.data.toList.drop (k+2)) with
 | none=>rfl
 | some y=>simp; omega
theorem fm.last {s : ByteArray} {a k : Nat} (h : fm s a k) (ha : a ≤ k) (hk : k < s.size) (h1 : s[k]'hk = 34) (h2 : ∀ h : k + 1 < s.size,s[k + 1]'h ≠ 34) : ∃ t,be (s.data.toList.drop a) = some (t,k + 1 - a):=by
 have hsl:s.data.toList.length=s.size:=by rw [Array.length_toList]; rfl
 have hu:be (s.data.toList.drop k)=some ([],1):=by
  have hd : s.data.toList.drop k = s[k]'hk :: s.data.toList.drop (k + 1):=List.drop_eq_getElem_cons (by omega)
  rw [hd]
  by_cases hk1:k+1<s.size
  ·have hd2 : s.data.toList.drop (k + 1) = s[k + 1]'hk1 :: s.data.toList.drop (k + 2):=List.drop_eq_getElem_cons (by omega)
   rw [hd2,cj,if_pos h1,if_neg (h2 hk1)]
  rw [List.drop_eq_nil_of_le (by omega),ed,if_pos h1]
 unfold fm at h
 rw [hu] at h
 cases hv:be (s.data.toList.drop a) with
 | none=>rw [hv] at h; simp at h
 | some y =>
  rw [hv] at h
  simp at h
  exact ⟨y.1,by rw [show k+1 - a=y.2 by omega]⟩
theorem fm.out {s:ByteArray} {a:Nat} (h:fm s a s.size):be (s.data.toList.drop a)=none:=by
 have hsl:s.data.toList.length=s.size:=by rw [Array.length_toList]; rfl
 unfold fm at h
 have hd:s.data.toList.drop s.size=[]:=List.drop_eq_nil_of_le (by omega)
 rw [hd] at h
 cases hv:be (s.data.toList.drop a) with
 | none=>rfl
 | some y=>rw [hv] at h; simp [be] at h
theorem gh {s : ByteArray} {i : Nat} (hi : i < s.size) : aV s i = s[i]'hi :: s.data.toList.drop (i + 1):=List.drop_eq_getElem_cons (by rw [Array.length_toList]; exact hi)
theorem Bq {s : ByteArray} {i : Nat} (hi : i < s.size) (h : s[i]'hi ≠ 34) : iL (aV s i) i = none:=by
 unfold iL
 rw [gh hi,if_neg (by simpa using h)]
theorem wF {s : ByteArray} {i : Nat} (hi : i < s.size) (h : s[i]'hi = 34) (h2 : be (s.data.toList.drop (i + 1)) = none) : iL (aV s i) i = none:=by
 unfold iL
 rw [gh hi,if_pos (by simpa using h)]
 simp [h2]
theorem sy {s : ByteArray} {i n : Nat} {t : List UInt8} (hi : i < s.size) (h : s[i]'hi = 34) (h2 : be (s.data.toList.drop (i + 1)) = some (t,n)) : iL (aV s i) i = some (⟨2,0,t,R4.zero,i⟩,n + 1):=by
 unfold iL
 rw [gh hi,if_pos (by simpa using h)]
 simp [h2]
theorem sx {s : ByteArray} {i k : Nat} {t : List UInt8} (hi : i < s.size) (hk : i + 1 ≤ k) (hks : k < s.size) (h : s[i]'hi = 34) (h2 : be (s.data.toList.drop (i + 1)) = some (t,k + 1 - (i + 1))) :
  ∃ x,(s.extract i (k+1)).data.toList=34::x∧be x=some (t,x.length):=by
 have hsl:s.data.toList.length=s.size:=by rw [Array.length_toList]; rfl
 refine ⟨(s.data.toList.drop (i+1)).take (k - i),?_,?_⟩
 ·rw [Lib.extract_data]
  show (aV s i).take (k+1 - i)=_
  rw [gh hi,h,show k+1 - i=(k - i)+1 by omega,List.take_succ_cons]
 have hl:((s.data.toList.drop (i+1)).take (k - i)).length=k - i:=by rw [List.length_take,List.length_drop]; omega
 rw [hl]
 have h3:be ((s.data.toList.drop (i+1)).take (k - i)++(s.data.toList.drop (i+1)).drop (k - i))=some (t,((s.data.toList.drop (i+1)).take (k - i)).length):=by
  rw [List.take_append_drop,hl,h2]
  congr 2
  omega
 have h4:=ni _ _ _ [] t (Nat.le_refl _) h3 (by simp)
 rw [List.append_nil,hl] at h4
 exact h4
theorem pu (s:ByteArray) (rb i:Nat) (w:World) (hs:s.size≤256) (hi:i<s.size) (hp:s.data.toList.all aB=true) (hr:w.cell? ⟨rb,0,none⟩=some (.string s)) :
  Calls prog 68 #[.pointer (some ⟨rb,0,none⟩),.int .i64 (i:Int)] w fun e w'=>e=.returned (hH (iL (aV s i) i))∧Below w.heap.size w w':=by
 have hh:=fH hr
 have H0:=Lib.hid hh
 clear hh
 have HP:=keep hp
 clear hp
 by_cases h1 : ((s[i]'hi).toNat : Int) = 34
 ·have h34 : s[i]'hi = 34:=by rw [← UInt8.toNat_inj]; show _ = 34; omega
  have H34:=keep h34
  have hb34 : (((s[i]'hi).toNat : Int) != 34) = false:=by rw [h1]; rfl
  clear h34 h1
  have F1:=H0.out.sees
  simp only [sees,aa,ag,Nat.add_zero] at F1
  obtain ⟨⟨z0,c00,-⟩,-⟩:=F1
  go_enter func68,ntmps68
  go_wp2_with fail
  have y2:=z0
  clear z0 c00
  have H3:=Lib.hid (H0.out.var w.heap.size 66 [.int .u8 0,.int .i64 0,.string ⟨#[]⟩,.int .i64 0,.int .i64 0,.int .i64 0,.int .i64 0,.int .i64 0] rfl)
  clear H0
  generalize (w.alloc (.cells #[.int .u8 0,.int .i64 0,.string ⟨#[]⟩,.int .i64 0,.int .i64 0,.int .i64 0,.int .i64 0,.int .i64 0] 66))=W4 at H3 ⊢
  clear hb34
  go_loopw [6] (fun iv wr=>∃ k:Nat,i+1≤k∧k≤s.size∧iv=.int .i64 (k:Int)∧bh (fm s (i+1) k)∧Hid (Ok w [ah (w.heap.size) 66 [.int .u8 0,.int .i64 0,.string ⟨#[]⟩,.int .i64 0,.int .i64 0,.int .i64 0,.int .i64 0,.int .i64 0],aa rb 0 [.string s]] wr)) (fun iv _=>s.size - (intOf iv).toNat)
  case atStart=>exact ⟨i+1,Nat.le_refl _,hi,by go_num,keep (by unfold fm; simp),H3⟩
  case round =>
   clear H3
   obtain ⟨k,hk1,hk,rfl,HK,HR⟩:=hrel
   obtain ⟨wp,rfl⟩:∃ wp:World,wp=wr:=⟨_,rfl⟩
   by_cases hlt:(k:Int)<s.size
   ·have hks:k<s.size:=by omega
    by_cases h3 : ((s[k]'hks).toNat : Int) = 34
    ·have h3' : s[k]'hks = 34:=by rw [← UInt8.toNat_inj]; show _ = 34; omega
     have H3:=keep h3'
     have hb3 : (((s[k]'hks).toNat : Int) != 34) = false:=by rw [h3]; rfl
     clear h3 h3'
     have ht1:((k:Int)+1).toNat=k+1:=by omega
     by_cases h4:(k:Int)+1<s.size
     ·have hks1:k+1<s.size:=by omega
      by_cases h5 : ((s[k + 1]'hks1).toNat : Int) = 34
      ·have h5' : s[k + 1]'hks1 = 34:=by rw [← UInt8.toNat_inj]; show _ = 34; omega
       have H5:=keep h5'
       have hb5 : (((s[k + 1]'hks1).toNat : Int) == 34) = true:=by rw [h5]; rfl
       clear h5 h5'
       have F5:=sE HR
       go_wp2_with fail
       go_roundw
       case rel=>exact ⟨k+2,by omega,by omega,by go_num,keep (fm.pair HK.out hk1 hks1 H3.out H5.out),HR⟩
       case measure=>simp [intOf]; omega
      have h5' : s[k + 1]'hks1 ≠ 34:=by intro e; rw [e] at h5; exact h5 rfl
      have H5:=keep h5'
      have hb5 : (((s[k + 1]'hks1).toNat : Int) == 34) = false:=by simpa using h5
      clear h5 h5'
      obtain ⟨t,hu⟩:=fm.last HK.out hk1 hks H3.out (fun _=>H5.out)
      obtain ⟨x,hx1,hx2⟩:=sx hi hk1 hks H34.out hu
      have hsh:=nj _ _ _ _ (Nat.le_refl _) hu
      have HRES:=keep (sy hi H34.out hu)
      have hpe:(s.extract i (k+1)).data.toList.all aB=true:=by
       rw [List.all_eq_true]
       intro b hb
       rw [Lib.extract_data] at hb
       exact List.all_eq_true.1 HP.out b (List.mem_of_mem_drop (List.mem_of_mem_take hb))
      have HX1:=keep hx1
      have HX2:=keep hx2
      have HPE:=keep hpe
      have hik:(i:Int)≤(k:Int)+1:=by omega
      have hk1s:(k:Int)+1≤s.size:=by omega
      have htl:t.length≤256:=by omega
      have hres2:(k:Int)+1 - (i:Int)=((k+1 - (i+1)+1:Nat):Int):=by omega
      have HR2:=keep hres2
      clear hu hx1 hx2 hpe hsh hres2
      have F5:=sE HR
      go_wp2_with fail
      refine cM (iM (s.extract i (k+1)) x t _ (by simp; omega) HX1.out HX2.out HPE.out htl) HR fun w6 H8=>?_
      clear F5 HR
      have F9:=sE H8
      go_wp2_with fail
      have hK:=H8.out.get (ah (w.heap.size) 66 [.int .u8 0,.int .i64 0,.string ⟨#[]⟩,.int .i64 0,.int .i64 0,.int .i64 0,.int .i64 0,.int .i64 0]) (by simp)
      have hB:=H8.out.bel
      have hE:=(((((((((show Blk w6 (w.heap.size) 66 _ from hK).set_ 0 (.int .u8 2)).set_ 1 (.int .i64 0)).set_ 2 (.string ⟨t.toArray⟩)).set_ 3 (.int .i64 0)).set_ 4 (.int .i64 0)).set_ 5 (.int .i64 0)).set_ 6 (.int .i64 0)).set_ 7 (.int .i64 (i:Int)))
      refine bodyPost_ret (v:=.tuple #[.agg #[.int .u8 2,.int .i64 0,.string ⟨t.toArray⟩,.int .i64 0,.int .i64 0,.int .i64 0,.int .i64 0,.int .i64 (i:Int)],.int .i64 ((k:Int)+1 - (i:Int))]) (by simp [results,results68,go_sem,hE.cell]) rfl ⟨by rw [HRES.out,HR2.out]; rfl,(sC (sC (sC (sC (sC (sC (sC (sC hB _) _) _) _) _) _) _) _)⟩
     obtain ⟨t,hu⟩:=fm.last HK.out hk1 hks H3.out (fun h=>absurd h (by omega))
     obtain ⟨x,hx1,hx2⟩:=sx hi hk1 hks H34.out hu
     have hsh:=nj _ _ _ _ (Nat.le_refl _) hu
     have HRES:=keep (sy hi H34.out hu)
     have hpe:(s.extract i (k+1)).data.toList.all aB=true:=by
      rw [List.all_eq_true]
      intro b hb
      rw [Lib.extract_data] at hb
      exact List.all_eq_true.1 HP.out b (List.mem_of_mem_drop (List.mem_of_mem_take hb))
     have HX1:=keep hx1
     have HX2:=keep hx2
     have HPE:=keep hpe
     have hik:(i:Int)≤(k:Int)+1:=by omega
     have hk1s:(k:Int)+1≤s.size:=by omega
     have htl:t.length≤256:=by omega
     have hres2:(k:Int)+1 - (i:Int)=((k+1 - (i+1)+1:Nat):Int):=by omega
     have HR2:=keep hres2
     clear hu hx1 hx2 hpe hsh hres2
     have F5:=sE HR
     go_wp2_with fail
     refine cM (iM (s.extract i (k+1)) x t _ (by simp; omega) HX1.out HX2.out HPE.out htl) HR fun w6 H8=>?_
     clear F5 HR
     have F9:=sE H8
     go_wp2_with fail
     have hK:=H8.out.get (ah (w.heap.size) 66 [.int .u8 0,.int .i64 0,.string ⟨#[]⟩,.int .i64 0,.int .i64 0,.int .i64 0,.int .i64 0,.int .i64 0]) (by simp)
     have hB:=H8.out.bel
     have hE:=(((((((((show Blk w6 (w.heap.size) 66 _ from hK).set_ 0 (.int .u8 2)).set_ 1 (.int .i64 0)).set_ 2 (.string ⟨t.toArray⟩)).set_ 3 (.int .i64 0)).set_ 4 (.int .i64 0)).set_ 5 (.int .i64 0)).set_ 6 (.int .i64 0)).set_ 7 (.int .i64 (i:Int)))
     refine bodyPost_ret (v:=.tuple #[.agg #[.int .u8 2,.int .i64 0,.string ⟨t.toArray⟩,.int .i64 0,.int .i64 0,.int .i64 0,.int .i64 0,.int .i64 (i:Int)],.int .i64 ((k:Int)+1 - (i:Int))]) (by simp [results,results68,go_sem,hE.cell]) rfl ⟨by rw [HRES.out,HR2.out]; rfl,(sC (sC (sC (sC (sC (sC (sC (sC hB _) _) _) _) _) _) _) _)⟩
    have h3' : s[k]'hks ≠ 34:=by intro e; rw [e] at h3; exact h3 rfl
    have H3:=keep h3'
    have hb3 : (((s[k]'hks).toNat : Int) != 34) = true:=by simpa using h3
    clear h3 h3'
    have F5:=sE HR
    go_wp2_with fail
    go_roundw
    case rel=>exact ⟨k+1,by omega,by omega,by go_num,keep (fm.step HK.out hk1 hks H3.out),HR⟩
    case measure=>simp [intOf]; omega
   have hke:k=s.size:=by omega
   subst hke
   have HN:=keep (fm.out HK.out)
   have F5:=sE HR
   go_wp2_with fail
   have hK:=HR.out.get (ah (w.heap.size) 66 [.int .u8 0,.int .i64 0,.string ⟨#[]⟩,.int .i64 0,.int .i64 0,.int .i64 0,.int .i64 0,.int .i64 0]) (by simp)
   have hB:=HR.out.bel
   have hE:=(((((((((show Blk wp (w.heap.size) 66 _ from hK).set_ 0 (.int .u8 0)).set_ 1 (.int .i64 0)).set_ 2 (.string ⟨#[]⟩)).set_ 3 (.int .i64 0)).set_ 4 (.int .i64 0)).set_ 5 (.int .i64 0)).set_ 6 (.int .i64 0)).set_ 7 (.int .i64 0))
   refine bodyPost_ret (v:=.tuple #[.agg #[.int .u8 0,.int .i64 0,.string ⟨#[]⟩,.int .i64 0,.int .i64 0,.int .i64 0,.int .i64 0,.int .i64 0],.int .i64 0]) (by simp [results,results68,go_sem,hE.cell]) rfl ⟨by rw [wF hi H34.out HN.out]; rfl,(sC (sC (sC (sC (sC (sC (sC (sC hB _) _) _) _) _) _) _) _)⟩
 have h34 : s[i]'hi ≠ 34:=by intro e; rw [e] at h1; exact h1 rfl
 have H34:=keep h34
 have hb34 : (((s[i]'hi).toNat : Int) != 34) = true:=by simpa using h1
 clear h34 h1
 have F1:=H0.out.sees
 simp only [sees,aa,ag,Nat.add_zero] at F1
 obtain ⟨⟨z0,c00,-⟩,-⟩:=F1
 go_enter func68,ntmps68
 go_upto_region 1 with fail
 have y2:=z0
 clear z0 c00
 have H3:=Lib.hid (H0.out.var w.heap.size 66 [.int .u8 0,.int .i64 0,.string ⟨#[]⟩,.int .i64 0,.int .i64 0,.int .i64 0,.int .i64 0,.int .i64 0] rfl)
 clear H0
 generalize (w.alloc (.cells #[.int .u8 0,.int .i64 0,.string ⟨#[]⟩,.int .i64 0,.int .i64 0,.int .i64 0,.int .i64 0,.int .i64 0] 66))=W4 at H3 ⊢
 have F5:=H3.out.sees
 simp only [sees,ah,aa,ag,Nat.add_zero,ac,Nat.reduceAdd] at F5
 obtain ⟨⟨⟨z0,fz0⟩,c00,c01,c02,c03,c04,c05,c06,c07,-⟩,⟨z1,c10,-⟩,-⟩:=F5
 go_wp2_with fail
 have hK:=H3.out.get (ah (w.heap.size) 66 [.int .u8 0,.int .i64 0,.string ⟨#[]⟩,.int .i64 0,.int .i64 0,.int .i64 0,.int .i64 0,.int .i64 0]) (by simp)
 have hB:=H3.out.bel
 have hE:=(((((((((show Blk W4 (w.heap.size) 66 _ from hK).set_ 0 (.int .u8 0)).set_ 1 (.int .i64 0)).set_ 2 (.string ⟨#[]⟩)).set_ 3 (.int .i64 0)).set_ 4 (.int .i64 0)).set_ 5 (.int .i64 0)).set_ 6 (.int .i64 0)).set_ 7 (.int .i64 0))
 refine bodyPost_ret (v:=.tuple #[.agg #[.int .u8 0,.int .i64 0,.string ⟨#[]⟩,.int .i64 0,.int .i64 0,.int .i64 0,.int .i64 0,.int .i64 0],.int .i64 0]) (by simp [results,results68,go_sem,hE.cell]) rfl ⟨by rw [Bq hi H34.out]; rfl,(sC (sC (sC (sC (sC (sC (sC (sC hB _) _) _) _) _) _) _) _)⟩
