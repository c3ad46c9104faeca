/- Contracts of package addr's and its reference's small functions: Less, Index. Contracts of package addr's At and Letters and of their references. Contracts of package addr's Format and of its reference. Condition: the library's table of powers of ten holds what its initialiser lays. The library's table of powers of ten, out of the row's list. Plain: what parsing a list of tokens comes to. No program stands here. Plain: the numbers of tokens are in range. -/
import Derived.Test.YtfffihcadhfplaaGreatDoorPIterV
import Derived.Test.YtfffihcadhfplaaGreatDoorPShelf
import Derived.Test.YtfffihcadhfplaaGreatDoorPAddrP
import Derived.Lib.SmallJoins
import Derived.Lib.AppendIntMem
import Derived.LaidSub
import Derived.Test.YtfffihcadhfplaaGreatDoorPLexP
namespace Go.Proofs.YtfffihcadhfplaaGreatDoor
open Go.RowKit
theorem encode_small (n:Nat) (h:n<128):Utf8.encode (n:Int)=⟨#[UInt8.ofNat n]⟩:=by
 have hv:Utf8.valid (n:Int)=true:=by simp [Utf8.valid]; omega
 simp only [Utf8.encode,hv,if_true,Int.toNat_natCast]
 rw [if_pos (by omega)]
theorem bytes_append (x y:List UInt8):((⟨x.toArray⟩:ByteArray)++⟨y.toArray⟩)=⟨(x++y).toArray⟩:=ByteArray.mk_append_mk x y
theorem lettersC_bad (c:Int) (h:¬ (1≤c∧c≤1024)):lettersC c=([],3):=by unfold lettersC; rw [if_neg h]
theorem lettersC_good (n:Nat) (h:1≤(n:Int)∧(n:Int)≤1024):lettersC n=(lettersN n,0):=by unfold lettersC; rw [if_pos h,Int.toNat_natCast]
theorem letter_step (n m:Nat) (acc:List UInt8) (h:lettersN n=lettersN m++acc) (h0:0<m):lettersN n=lettersN ((m - 1) / 26)++(UInt8.ofNat (65+(m - 1) % 26)::acc):=by
 rw [h,lettersN_pos m h0]; simp
theorem addr_Letters (c:Int) (w:World) (_h0 : -9223372036854775808≤c) (_h1:c≤9223372036854775807) :
  Calls Tryz.prog 153 #[.int .i64 c] w fun e w'=>e=.returned (.tuple #[.string ⟨(lettersC c).1.toArray⟩,.int .i64 (lettersC c).2])∧w=w':=by
 rcases (show c<1∨(1≤c∧1024<c)∨(1≤c∧c≤1024) from by omega) with h | ⟨h0,h⟩ | ⟨h0,h⟩
 ·rw [lettersC_bad c (by omega)]
  go_enter Tryz.func153,Tryz.ntmps153
  go_wp2
  go_ret2
  exact ⟨rfl,rfl⟩
 ·rw [lettersC_bad c (by omega)]
  go_enter Tryz.func153,Tryz.ntmps153
  go_wp2
  go_ret2
  exact ⟨rfl,rfl⟩
 ·obtain ⟨n,rfl⟩:=Int.eq_ofNat_of_zero_le (show 0≤c from by omega)
  rw [lettersC_good n ⟨h0,h⟩]
  go_enter Tryz.func153,Tryz.ntmps153
  go_wp2
  go_loop [0,4] (fun k s=>∃ (m:Nat) (acc:List UInt8),m≤n∧acc.length+m≤1024∧k=.int .i64 m∧s=.string ⟨acc.toArray⟩∧lettersN n=lettersN m++acc) (fun k _=>(intOf k).toNat)
  case atStart=>exact ⟨n,[],Nat.le_refl _,by simp; omega,rfl,rfl,by simp⟩
  case round =>
   obtain ⟨m,acc,hm,hl,rfl,rfl,hacc⟩:=hrel
   have HA:=Lib.hid hacc
   clear hacc
   rcases Nat.eq_zero_or_pos m with h0 | h0
   ·subst h0
    go_wp2
    go_ret2
    have e:=HA.out
    rw [lettersN_zero,List.nil_append] at e
    rw [e]
    exact ⟨rfl,rfl⟩
   ·have henc:Utf8.encode (65+((m:Int) - 1) % 26)=⟨#[65+UInt8.ofNat ((m - 1) % 26)]⟩:=by
     rw [show (65+((m:Int) - 1) % 26)=((65+(m - 1) % 26:Nat):Int) from by omega,encode_small _ (by omega)]; simp
    go_wp2
    go_round
    case measure=>simp [intOf]; omega
    case rel =>
     refine ⟨(m - 1) / 26,(65+UInt8.ofNat ((m - 1) % 26))::acc,by omega,by simp; omega,by congr 1; omega,congrArg Value.string (bytes_append [_] acc),?_⟩
     have:=letter_step n m acc HA.out h0
     rwa [show UInt8.ofNat (65+(m - 1) % 26)=65+UInt8.ofNat ((m - 1) % 26) from by simp] at this
def Pow (w : World) : Prop := Lib.TabIs Tryz.prog w "internal/strconv.uint64pow10" .u64 Lib.pow10Tab
theorem gPow : Tryz.prog.globalNamed "internal/strconv.uint64pow10" = some 4 := by kernel_rfl
theorem Pow.below {w w':World} (h:Pow w) (hb:Below w.heap.size w w'):Pow w':=Joins.tab_stays gPow h hb (Nat.le_refl _)
theorem Itoa (n:Int) (h0:0≤n) (h1:n≤9223372036854775807) (w:World) (hp:Pow w) :
  Calls Tryz.prog 154 #[.int .i64 n] w fun e w'=>e=.returned (.string ⟨(Lib.decDigits n.toNat).toArray⟩)∧Below w.heap.size w w' :=
 (Tryz.strconv_Itoa n (by omega) h1 w hp).mono fun e w' ⟨he,k,os,hw⟩=>by
  refine ⟨?_,hw▸Lib.below_grow _ _ (Nat.le_refl _) k os⟩
  rw [he,Lib.itoa,if_neg (by omega)]
theorem lettersN_len (n:Nat) (h:n≤1024):(lettersN n).length≤1024:=by
 have key:∀ n:Nat,(lettersN n).length≤n:=by
  intro n
  induction n using Nat.strongRecOn with
  | _ n ih =>
   rcases Nat.eq_zero_or_pos n with rfl | hp
   ·simp [lettersN_zero]
   ·rw [lettersN_pos n hp,List.length_append]
    have:=ih ((n - 1) / 26) (by omega)
    simp; omega
 exact Nat.le_trans (key n) h
theorem dec_len (n:Nat) (h:n≤1024):(Lib.decDigits n).length≤1025:=by
 have key:∀ n:Nat,(Lib.decDigits n).length≤n+1:=by
  intro n
  induction n using Nat.strongRecOn with
  | _ n ih =>
   by_cases hp:n<10
   ·rw [dec_small hp]; simp
   ·rw [dec_big hp,List.length_append]
    have:=ih (n / 10) (by omega)
    simp; omega
 exact Nat.le_trans (key n) (by omega)
theorem formatS_bad (c r:Int) (h:validN c r=false):formatS c r=([],3):=by unfold formatS; rw [if_neg (by simp [h])]
theorem formatS_good (c r:Int) (h:validN c r=true):formatS c r=(lettersN c.toNat++Lib.decDigits r.toNat,0):=by unfold formatS; rw [if_pos h]
theorem validN_parts {c r:Int} (h:validN c r=true):1≤c∧c≤1024∧1≤r∧r≤1024:=by simpa [validN] using h
theorem addr_Format (c r:Int) (w:World) (hp:Pow w) :
  Calls Tryz.prog 141 #[.agg #[.int .i64 c,.int .i64 r]] w fun e w'=>e=.returned (.tuple #[.string ⟨(formatS c r).1.toArray⟩,.int .i64 (formatS c r).2])∧Below w.heap.size w w':=by
 have HP:=Lib.hid hp
 clear hp
 cases hv:validN c r
 ·rw [formatS_bad c r hv]
  have H:=Lib.hid hv
  clear hv
  go_enter Tryz.func141,Tryz.ntmps141
  go_wp2_with fail
  refine (addr_Valid _ _ _).mono ?_
  rintro e w' ⟨rfl,hb⟩
  rw [H.out]
  have HB:=Lib.hid hb
  clear hb
  go_wp2_with fail
  go_ret2
  exact ⟨rfl,((Below.refl _ _).alloc (Nat.le_refl _) _).trans (HB.out.mono (by simp))⟩
 ·rw [formatS_good c r hv]
  obtain ⟨h1,h2,h3,h4⟩:=validN_parts hv
  have H:=Lib.hid hv
  clear hv
  go_enter Tryz.func141,Tryz.ntmps141
  go_wp2_with fail
  refine (addr_Valid _ _ _).mono ?_
  rintro e w1 ⟨rfl,hb⟩
  rw [H.out]
  have hc0:=hb.cell (p:=⟨w.heap.size,0,none⟩) (by simp)
  have hc1:=hb.cell (p:=⟨w.heap.size,1,none⟩) (by simp)
  have HB:=Lib.hid (((Below.refl w.heap.size w).alloc (Nat.le_refl _) _).trans (hb.mono (by simp)))
  clear hb
  go_wp2_with fail
  refine (addr_Letters _ _ (by omega) (by omega)).mono ?_
  rintro e w2 ⟨rfl,rfl⟩
  rw [show lettersC c=(lettersN c.toNat,0) from by unfold lettersC; rw [if_pos ⟨h1,h2⟩]]
  have hl:=lettersN_len c.toNat (by omega)
  generalize hlc:lettersN c.toNat=lc at hl ⊢
  have HLC:=Lib.hid hlc
  clear hlc
  go_wp2_with fail
  refine (Itoa _ (by omega) (by omega) _ (HP.out.below HB.out)).mono ?_
  rintro e w2 ⟨rfl,hb2⟩
  have hd:=dec_len r.toNat (by omega)
  generalize hlr:Lib.decDigits r.toNat=lr at hd ⊢
  have HLR:=Lib.hid hlr
  clear hlr
  have HB2:=Lib.hid (HB.out.trans (hb2.mono HB.out.size))
  clear hb2
  go_wp2_with fail
  go_ret2
  exact ⟨by rw [bytes_append,HLC.out,HLR.out]; rfl,HB2.out⟩
theorem pow_type:(Tryz.prog.globals[4]?).map (·.type)=some 220:=by kernel_rfl
theorem pow_cells:Tryz.prog.cellsOf 220=20:=by kernel_rfl
theorem u64_cells:Tryz.prog.cellsOf 103=1:=by kernel_rfl
theorem pow_of_one {W : World} (h : laidMet Tryz.prog [("internal/strconv.uint64pow10", Lib.tabData .u64 Lib.pow10Tab)] W) : Pow W :=
 Lib.tabIs_of_head gPow pow_type Tryz.underlying220 Tryz.underlying103 u64_cells pow_cells h
theorem pow_datum:(Rows.laid_internal_strconv_uint64pow10:DataW Unit)=Lib.tabData .u64 Lib.pow10Tab:=by kernel_rfl
theorem pow_of_laid {W:World} {l:List (String×DataW Unit)} (h:laidMetH Tryz.prog l W)
  (hl : l.filter (fun x => x.1 == "internal/strconv.uint64pow10") = [("internal/strconv.uint64pow10", Rows.laid_internal_strconv_uint64pow10)]) : Pow W := by
 have h2 := h.filter (fun x => x.1 == "internal/strconv.uint64pow10")
 rw [hl,pow_datum] at h2
 exact pow_of_one h2
structure Nd where
 kind:Nat
 vk:Nat
 vn:Int
 vt:List UInt8
 r:R4
 op:Int
 fn:Nat
 n:Nat
def ndVal (t:Tk):Nd:=⟨1,if t.kind=2 then 3 else if t.kind=3 then 2 else t.kind,if t.kind=2 then 0 else t.num,if t.kind=2 then t.text else [],R4.zero,0,0,0⟩
def ndRef (r:R4):Nd:=⟨2,0,0,[],r,0,0,0⟩
def ndRange (r:R4):Nd:=⟨3,0,0,[],r,0,0,0⟩
def ndNeg:Nd:=⟨4,0,0,[],R4.zero,0,0,0⟩
def ndPct:Nd:=⟨5,0,0,[],R4.zero,0,0,0⟩
def ndBin (op:Int):Nd:=⟨6,0,0,[],R4.zero,op,0,0⟩
def ndCall (fn n:Nat):Nd:=⟨7,0,0,[],R4.zero,0,fn,n⟩
def bindS (op:Int):Nat :=
 if 7≤op∧op≤12 then 1 else if op=6 then 2 else if op=1∨op=2 then 3 else if op=3∨op=4 then 4 else if op=5 then 6 else if op=13 then 7 else 0
def fnNames:List (List UInt8):=[[65,66,83],[83,73,71,78],[73,78,84],[84,82,85,78,67],[82,79,85,78,68],[77,79,68],[80,79,87,69,82],[83,81,82,84],[83,85,77],[80,82,79,68,85,67,84],[67,79,85,78,84],[67,79,85,78,84,65],[67,79,85,78,84,66,76,65,78,75],[65,86,69,82,65,71,69],[77,73,78],[77,65,88],[77,69,68,73,65,78],[76,65,82,71,69],[83,77,65,76,76],[73,70],[65,78,68],[79,82],[88,79,82],[78,79,84],[73,70,69,82,82,79,82],[73,83,69,82,82,79,82],[73,83,66,76,65,78,75],[73,83,78,85,77,66,69,82],[73,83,84,69,88,84],[67,72,79,79,83,69],[76,69,78],[76,69,70,84],[82,73,71,72,84],[77,73,68],[85,80,80,69,82],[76,79,87,69,82],[84,82,73,77],[67,79,78,67,65,84],[82,69,80,84],[69,88,65,67,84],[70,73,78,68],[86,65,76,85,69],[73,78,68,69,88],[77,65,84,67,72],[67,79,85,78,84,73,70],[68,83,85,77],[68,67,79,85,78,84],[68,65,86,71],[68,77,73,78],[68,77,65,88]]
def fnS (t:List UInt8):Nat:=match fnNames.findIdx? (· == t) with
 | some i=>i+1
 | none=>0
def arS (fn:Nat):Nat×Nat :=
 if fn∈[5,6,7,25,39,40,18,19,45,44] then (2,2)
 else if fn∈[20,41,43] then (2,3)
 else if fn∈[32,33] then (1,2)
 else if fn=34 then (3,3)
 else if fn∈[21,22,23,38,9,10,11,12,14,15,16,17] then (1,16)
 else if fn=30 then (2,16)
 else (1,1)
def wideS (fn i:Nat):Bool :=
 if (arS fn).2≤i then false
 else if fn∈[9,10,11,12,14,15,16,17] then true
 else if fn=44 then i == 1
 else if fn∈[18,19,45,43,13] then i == 0
 else decide (46≤fn∧fn≤50)
def hdS (e:Nat):List Tk→Tk
 | []=>⟨0,0,[],R4.zero,e⟩
 | t::_=>t
def isOp (ts:List Tk) (op:Int):Bool:=match ts with
 | []=>false
 | t::_=>decide (t.kind=8∧t.num=op)
inductive Rs
 | bad (at_:Nat) (e:Int)
 | ok (ts:List Tk) (ns:List Nd) (n:Nat)
def pctS:List Tk→List Tk×Nat
 | []=>([],0)
 | t::ts=>if t.kind=8∧t.num=13 then ((pctS ts).1,(pctS ts).2+1) else (t::ts,0)
inductive Md
 | lv (k:Nat)
 | ops (k:Nat)
 | sg
 | pc
 | pr
 | args (fn i:Nat)
def seqR (x:Option Rs) (g:List Tk→Nat→Option Rs):Option Rs:=match x with
 | none=>none
 | some (.bad a c)=>some (.bad a c)
 | some (.ok ts ns n)=>match g ts n with
  | none=>none
  | some (.bad a c)=>some (.bad a c)
  | some (.ok ts' ns' n')=>some (.ok ts' (ns++ns') n')
def closeR (e fn at_:Nat) (x:Option Rs):Option Rs:=match x with
 | none=>none
 | some (.bad a c)=>some (.bad a c)
 | some (.ok ts ns n) =>
  if (hdS e ts).kind≠10 then some (.bad (hdS e ts).at_ 4)
  else if n<(arS fn).1∨(arS fn).2<n then some (.bad at_ 11)
  else if 46≤fn∧(ns.getLast?.map (·.kind))≠some 2∧(ns.getLast?.map (·.kind))≠some 3 then some (.bad at_ 4)
  else some (.ok (ts.drop 1) (ns++[ndCall fn n]) n)
def parF (e:Nat):Nat→Md→List Tk→Option Rs
 | 0,_,_=>none
 | f+1,.lv k,ts=>if 5≤k then parF e f .sg ts else seqR (parF e f (.lv (k+1)) ts) fun ts _=>parF e f (.ops k) ts
 | _+1,.ops _,[]=>some (.ok [] [] 0)
 | f+1,.ops k,t::ts =>
  if t.kind=8∧bindS t.num=k then seqR (parF e f (.lv (k+1)) ts) fun ts2 _=>seqR (some (.ok ts2 [ndBin t.num] 0)) fun ts3 _=>parF e f (.ops k) ts3
  else some (.ok (t::ts) [] 0)
 | f+1,.sg,ts =>
  if isOp ts 2 then seqR (parF e f .sg (ts.drop 1)) fun ts2 _=>some (.ok ts2 [ndNeg] 0)
  else seqR (parF e f .pc ts) fun ts2 _ =>
   if isOp ts2 5 then seqR (parF e f .sg (ts2.drop 1)) fun ts3 _=>some (.ok ts3 [ndBin 5] 0) else some (.ok ts2 [] 0)
 | f+1,.pc,ts=>seqR (parF e f .pr ts) fun ts2 _=>some (.ok (pctS ts2).1 (List.replicate (pctS ts2).2 ndPct) 0)
 | _+1,.pr,[]=>some (.bad e 4)
 | f+1,.pr,t::ts =>
  if 1≤t.kind∧t.kind≤4 then some (.ok ts [ndVal t] 0)
  else if t.kind=5 then some (.ok ts [ndRef t.r] 0)
  else if t.kind=9 then seqR (parF e f (.lv 1) ts) fun ts2 _=>if (hdS e ts2).kind=10 then some (.ok (ts2.drop 1) [] 0) else some (.bad (hdS e ts2).at_ 4)
  else if t.kind=7 then
   if fnS t.text=0 then some (.bad t.at_ 10)
   else if (hdS e ts).kind≠9 then some (.bad (hdS e ts).at_ 4)
   else closeR e (fnS t.text) t.at_ (if (hdS e (ts.drop 1)).kind=10 then some (.ok (ts.drop 1) [] 0) else parF e f (.args (fnS t.text) 0) (ts.drop 1))
  else some (.bad t.at_ 4)
 | f+1,.args fn i,ts =>
  seqR (if (hdS e ts).kind≠6 then parF e f (.lv 1) ts else if wideS fn i then some (.ok (ts.drop 1) [ndRange (hdS e ts).r] 0) else some (.bad (hdS e ts).at_ 4)) fun ts2 _ =>
   if (hdS e ts2).kind=11 then parF e f (.args fn (i+1)) (ts2.drop 1) else some (.ok ts2 [] (i+1))
theorem pct_len:∀ ts:List Tk,(pctS ts).1.length≤ts.length
 | []=>Nat.le_refl _
 | t::ts=>by
  rw [pctS]
  split
  ·exact Nat.le_trans (pct_len ts) (by simp)
  ·exact Nat.le_refl _
theorem seq_ok {x:Option Rs} {g:List Tk→Nat→Option Rs} {ts:List Tk} {ns:List Nd} {n:Nat} (h:seqR x g=some (.ok ts ns n)) :
  ∃ ts1 ns1 n1 ns2,x=some (.ok ts1 ns1 n1)∧g ts1 n1=some (.ok ts ns2 n)∧ns=ns1++ns2:=by
 unfold seqR at h
 split at h
 ·simp at h
 ·simp at h
 ·rename_i ts1 ns1 n1
  split at h
  ·simp at h
  ·simp at h
  ·rename_i ts2 ns2 n2 hg
   simp only [Option.some.injEq,Rs.ok.injEq] at h
   obtain ⟨rfl,rfl,rfl⟩:=h
   exact ⟨ts1,ns1,n1,ns2,rfl,hg,rfl⟩
theorem close_ok {e fn a:Nat} {x:Option Rs} {ts:List Tk} {ns:List Nd} {n:Nat} (h:closeR e fn a x=some (.ok ts ns n)) :
  ∃ ts1 ns1,x=some (.ok ts1 ns1 n)∧(hdS e ts1).kind=10∧ts=ts1.drop 1∧ns=ns1++[ndCall fn n]∧(arS fn).1≤n∧n≤(arS fn).2∧(46≤fn→(ns1.getLast?.map (·.kind))=some 2∨(ns1.getLast?.map (·.kind))=some 3):=by
 unfold closeR at h
 split at h
 ·simp at h
 ·simp at h
 ·rename_i ts1 ns1 n1
  split at h
  ·simp at h
  ·rename_i h1
   split at h
   ·simp at h
   ·rename_i h2
    split at h
    ·simp at h
    ·rename_i h3
     simp only [Option.some.injEq,Rs.ok.injEq] at h
     obtain ⟨rfl,rfl,rfl⟩:=h
     refine ⟨ts1,ns1,rfl,by simpa using h1,rfl,rfl,by omega,by omega,fun h46 => ?_⟩
     by_cases h4:(ns1.getLast?.map (·.kind))=some 2
     ·exact .inl h4
     ·refine .inr ?_
      by_cases h5:(ns1.getLast?.map (·.kind))=some 3
      ·exact h5
      ·exact absurd ⟨h46,h4,h5⟩ h3
theorem par_len {e:Nat}:∀ (f:Nat) (m:Md) (ts ts':List Tk) (ns:List Nd) (n:Nat),parF e f m ts=some (.ok ts' ns n)→ts'.length≤ts.length
 | 0,_,_,_,_,_,h=>by simp [parF] at h
 | f+1,.lv k,ts,ts',ns,n,h=>by
  rw [parF] at h
  split at h
  ·exact par_len f _ _ _ _ _ h
  ·obtain ⟨t1,_,_,_,h1,h2,_⟩:=seq_ok h
   exact Nat.le_trans (par_len f _ _ _ _ _ h2) (par_len f _ _ _ _ _ h1)
 | f+1,.ops k,[],ts',ns,n,h=>by
  simp only [parF,Option.some.injEq,Rs.ok.injEq] at h
  obtain ⟨rfl,_,_⟩:=h
  exact Nat.le_refl _
 | f+1,.ops k,t::ts,ts',ns,n,h=>by
  rw [parF] at h
  split at h
  ·obtain ⟨t1,_,_,_,h1,h2,_⟩:=seq_ok h
   obtain ⟨t2,_,_,_,h3,h4,_⟩:=seq_ok h2
   simp only [Option.some.injEq,Rs.ok.injEq] at h3
   obtain ⟨rfl,_,_⟩:=h3
   exact Nat.le_trans (par_len f _ _ _ _ _ h4) (Nat.le_trans (par_len f _ _ _ _ _ h1) (by simp))
  ·simp only [Option.some.injEq,Rs.ok.injEq] at h
   obtain ⟨rfl,_,_⟩:=h
   exact Nat.le_refl _
 | f+1,.sg,ts,ts',ns,n,h=>by
  rw [parF] at h
  split at h
  ·obtain ⟨t1,_,_,_,h1,h2,_⟩:=seq_ok h
   simp only [Option.some.injEq,Rs.ok.injEq] at h2
   obtain ⟨rfl,_,_⟩:=h2
   exact Nat.le_trans (par_len f _ _ _ _ _ h1) (by simp)
  ·obtain ⟨t1,_,_,_,h1,h2,_⟩:=seq_ok h
   have h0:=par_len f _ _ _ _ _ h1
   split at h2
   ·obtain ⟨t3,_,_,_,h3,h4,_⟩:=seq_ok h2
    simp only [Option.some.injEq,Rs.ok.injEq] at h4
    obtain ⟨rfl,_,_⟩:=h4
    have h5:=par_len f _ _ _ _ _ h3
    simp at h5
    omega
   ·simp only [Option.some.injEq,Rs.ok.injEq] at h2
    obtain ⟨rfl,_,_⟩:=h2
    exact h0
 | f+1,.pc,ts,ts',ns,n,h=>by
  rw [parF] at h
  obtain ⟨t1,_,_,_,h1,h2,_⟩:=seq_ok h
  simp only [Option.some.injEq,Rs.ok.injEq] at h2
  obtain ⟨rfl,_,_⟩:=h2
  exact Nat.le_trans (pct_len t1) (par_len f _ _ _ _ _ h1)
 | f+1,.pr,[],ts',ns,n,h=>by simp [parF] at h
 | f+1,.pr,t::ts,ts',ns,n,h=>by
  rw [parF] at h
  split at h
  ·simp only [Option.some.injEq,Rs.ok.injEq] at h
   obtain ⟨rfl,_,_⟩:=h
   simp
  split at h
  ·simp only [Option.some.injEq,Rs.ok.injEq] at h
   obtain ⟨rfl,_,_⟩:=h
   simp
  split at h
  ·obtain ⟨t1,_,_,_,h1,h2,_⟩:=seq_ok h
   have h0:=par_len f _ _ _ _ _ h1
   split at h2
   ·simp only [Option.some.injEq,Rs.ok.injEq] at h2
    obtain ⟨rfl,_,_⟩:=h2
    simp; omega
   ·simp at h2
  split at h
  ·split at h
   ·simp at h
   split at h
   ·simp at h
   obtain ⟨t1,_,h1,_,rfl,_⟩:=close_ok h
   split at h1
   ·simp only [Option.some.injEq,Rs.ok.injEq] at h1
    obtain ⟨rfl,_,_⟩:=h1
    simp; omega
   ·have h0:=par_len f _ _ _ _ _ h1
    simp at h0
    simp; omega
  ·simp at h
 | f+1,.args fn i,ts,ts',ns,n,h=>by
  rw [parF] at h
  obtain ⟨t1,_,_,_,h1,h2,_⟩:=seq_ok h
  have h3:t1.length≤ts.length:=by
   split at h1
   ·exact par_len f _ _ _ _ _ h1
   ·split at h1
    ·simp only [Option.some.injEq,Rs.ok.injEq] at h1
     obtain ⟨rfl,_,_⟩:=h1
     simp
    ·simp at h1
  split at h2
  ·have h0:=par_len f _ _ _ _ _ h2
   simp at h0
   omega
  ·simp only [Option.some.injEq,Rs.ok.injEq] at h2
   obtain ⟨rfl,_,_⟩:=h2
   exact h3
def needM:Md→Nat
 | .lv k=>11 - k
 | .ops _=>1
 | .sg=>4
 | .pc=>3
 | .pr=>2
 | .args _ _=>11
theorem seq_some {x:Option Rs} {g:List Tk→Nat→Option Rs} (hx:∃ r,x=some r) (hg:∀ ts ns n,x=some (.ok ts ns n)→∃ r,g ts n=some r):∃ r,seqR x g=some r:=by
 obtain ⟨r,rfl⟩:=hx
 unfold seqR
 cases r with
 | bad a c=>exact ⟨_,rfl⟩
 | ok ts ns n =>
  obtain ⟨r2,h2⟩:=hg ts ns n rfl
  simp only [h2]
  cases r2 <;> exact ⟨_,rfl⟩
theorem close_some {e fn a:Nat} {x:Option Rs} (hx:∃ r,x=some r):∃ r,closeR e fn a x=some r:=by
 obtain ⟨r,rfl⟩:=hx
 unfold closeR
 cases r with
 | bad a c=>exact ⟨_,rfl⟩
 | ok ts ns n =>
  simp only []
  split
  ·exact ⟨_,rfl⟩
  split
  ·exact ⟨_,rfl⟩
  split <;> exact ⟨_,rfl⟩
theorem drop_hd {e k:Nat} {ts:List Tk} (h:(hdS e ts).kind=k) (hk:k≠0):(ts.drop 1).length+1=ts.length:=by
 cases ts with
 | nil=>exact absurd h.symm hk
 | cons t ts=>simp
theorem drop_op {ts:List Tk} {op:Int} (h:isOp ts op=true):(ts.drop 1).length+1=ts.length:=by
 cases ts with
 | nil=>simp [isOp] at h
 | cons t ts=>simp
theorem par_some {e:Nat}:∀ (f:Nat) (m:Md) (ts:List Tk),12 * ts.length+needM m≤f→(∀ k,m=.lv k→k≤5)→(∀ k,m=.ops k→k≤4)→∃ r,parF e f m ts=some r
 | 0,m,ts,h,hl,_=>by
  cases m with
  | lv k=>have:=hl k rfl; simp only [needM] at h; omega
  | ops k=>simp only [needM] at h; omega
  | sg=>simp only [needM] at h; omega
  | pc=>simp only [needM] at h; omega
  | pr=>simp only [needM] at h; omega
  | args fn i=>simp only [needM] at h; omega
 | f+1,.lv k,ts,h,hl,_=>by
  have hk:=hl k rfl
  simp only [needM] at h
  rw [parF]
  split
  ·exact par_some f _ _ (by simp only [needM]; omega) (by simp) (by simp)
  ·refine seq_some (par_some f _ _ (by simp only [needM]; omega) (by rintro j ⟨⟩; omega) (by simp)) fun ts1 ns n h1 => ?_
   have:=par_len f _ _ _ _ _ h1
   exact par_some f _ _ (by simp only [needM]; omega) (by simp) (by rintro j ⟨⟩; omega)
 | f+1,.ops k,[],h,_,_=>⟨_,by rw [parF]⟩
 | f+1,.ops k,t::ts,h,_,hl=>by
  have hk:=hl k rfl
  simp only [needM,List.length_cons] at h
  rw [parF]
  split
  ·refine seq_some (par_some f _ _ (by simp only [needM]; omega) (by rintro j ⟨⟩; omega) (by simp)) fun ts1 ns n h1 => ?_
   have:=par_len f _ _ _ _ _ h1
   refine seq_some ⟨_,rfl⟩ fun ts2 ns2 n2 h2 => ?_
   simp only [Option.some.injEq,Rs.ok.injEq] at h2
   obtain ⟨rfl,_,_⟩:=h2
   exact par_some f _ _ (by simp only [needM]; omega) (by simp) (by rintro j ⟨⟩; omega)
  ·exact ⟨_,rfl⟩
 | f+1,.sg,ts,h,_,_=>by
  simp only [needM] at h
  rw [parF]
  split
  ·rename_i ho
   have:=drop_op ho
   exact seq_some (par_some f _ _ (by simp only [needM]; omega) (by simp) (by simp)) fun _ _ _ _=>⟨_,rfl⟩
  ·refine seq_some (par_some f _ _ (by simp only [needM]; omega) (by simp) (by simp)) fun ts1 ns n h1 => ?_
   have:=par_len f _ _ _ _ _ h1
   split
   ·rename_i ho
    have:=drop_op ho
    exact seq_some (par_some f _ _ (by simp only [needM]; omega) (by simp) (by simp)) fun _ _ _ _=>⟨_,rfl⟩
   ·exact ⟨_,rfl⟩
 | f+1,.pc,ts,h,_,_=>by
  simp only [needM] at h
  rw [parF]
  exact seq_some (par_some f _ _ (by simp only [needM]; omega) (by simp) (by simp)) fun _ _ _ _=>⟨_,rfl⟩
 | f+1,.pr,[],h,_,_=>⟨_,by rw [parF]⟩
 | f+1,.pr,t::ts,h,_,_=>by
  simp only [needM,List.length_cons] at h
  rw [parF]
  split
  ·exact ⟨_,rfl⟩
  split
  ·exact ⟨_,rfl⟩
  split
  ·refine seq_some (par_some f _ _ (by simp only [needM]; omega) (by rintro j ⟨⟩; omega) (by simp)) fun _ _ _ _ => ?_
   split <;> exact ⟨_,rfl⟩
  split
  ·split
   ·exact ⟨_,rfl⟩
   split
   ·exact ⟨_,rfl⟩
   refine close_some ?_
   split
   ·exact ⟨_,rfl⟩
   ·refine par_some f _ _ ?_ (by simp) (by simp)
    simp only [needM,List.length_drop]
    omega
  ·exact ⟨_,rfl⟩
 | f+1,.args fn i,ts,h,_,_=>by
  simp only [needM] at h
  rw [parF]
  refine seq_some ?_ fun ts1 ns n h1 => ?_
  ·split
   ·exact par_some f _ _ (by simp only [needM]; omega) (by rintro j ⟨⟩; omega) (by simp)
   ·split <;> exact ⟨_,rfl⟩
  ·have h3:ts1.length≤ts.length:=by
    split at h1
    ·exact par_len f _ _ _ _ _ h1
    ·split at h1
     ·simp only [Option.some.injEq,Rs.ok.injEq] at h1
      obtain ⟨rfl,_,_⟩:=h1
      simp
     ·simp at h1
   split
   ·rename_i hc
    have:=drop_hd hc (by decide)
    exact par_some f _ _ (by simp only [needM]; omega) (by simp) (by simp)
   ·exact ⟨_,rfl⟩
theorem seq_mono {x y:Option Rs} {g k:List Tk→Nat→Option Rs} {r:Rs} (h:seqR x g=some r) (hx:∀ r,x=some r→y=some r) (hg:∀ ts n r,g ts n=some r→k ts n=some r):seqR y k=some r:=by
 unfold seqR at h ⊢
 cases x with
 | none=>simp at h
 | some q =>
  rw [hx q rfl]
  cases q with
  | bad a c=>exact h
  | ok ts ns n =>
   simp only [] at h ⊢
   cases hq:g ts n with
   | none=>rw [hq] at h; simp at h
   | some q2=>rw [hq] at h; rw [hg ts n q2 hq]; exact h
theorem close_mono {e fn a:Nat} {x y:Option Rs} {r:Rs} (h:closeR e fn a x=some r) (hx:∀ r,x=some r→y=some r):closeR e fn a y=some r:=by
 cases x with
 | none=>simp [closeR] at h
 | some q=>rw [hx q rfl]; exact h
theorem par_mono {e:Nat}:∀ (f:Nat) (m:Md) (ts:List Tk) (r:Rs),parF e f m ts=some r→parF e (f+1) m ts=some r
 | 0,_,_,_,h=>by simp [parF] at h
 | f+1,.lv k,ts,r,h=>by
  rw [parF] at h ⊢
  split at h
  ·rename_i hk; rw [if_pos hk]; exact par_mono f _ _ _ h
  ·rename_i hk; rw [if_neg hk]; exact seq_mono h (fun r=>par_mono f _ _ r) fun ts n r=>par_mono f _ _ r
 | f+1,.ops k,[],r,h=>by rw [parF] at h ⊢; exact h
 | f+1,.ops k,t::ts,r,h=>by
  rw [parF] at h ⊢
  split at h
  ·rename_i hk; rw [if_pos hk]
   exact seq_mono h (fun r=>par_mono f _ _ r) fun ts n r h2=>seq_mono h2 (fun _ h=>h) fun ts n r=>par_mono f _ _ r
  ·rename_i hk; rw [if_neg hk]; exact h
 | f+1,.sg,ts,r,h=>by
  rw [parF] at h ⊢
  split at h
  ·rename_i hk; rw [if_pos hk]; exact seq_mono h (fun r=>par_mono f _ _ r) fun _ _ _ h=>h
  ·rename_i hk; rw [if_neg hk]
   refine seq_mono h (fun r=>par_mono f _ _ r) fun ts n r h2 => ?_
   split at h2
   ·rename_i hk; rw [if_pos hk]; exact seq_mono h2 (fun r=>par_mono f _ _ r) fun _ _ _ h=>h
   ·rename_i hk; rw [if_neg hk]; exact h2
 | f+1,.pc,ts,r,h=>by
  rw [parF] at h ⊢
  exact seq_mono h (fun r=>par_mono f _ _ r) fun _ _ _ h=>h
 | f+1,.pr,[],r,h=>by rw [parF] at h ⊢; exact h
 | f+1,.pr,t::ts,r,h=>by
  rw [parF] at h ⊢
  split at h
  ·rename_i hk; rw [if_pos hk]; exact h
  rename_i hk; rw [if_neg hk]
  split at h
  ·rename_i hk; rw [if_pos hk]; exact h
  rename_i hk; rw [if_neg hk]
  split at h
  ·rename_i hk; rw [if_pos hk]; exact seq_mono h (fun r=>par_mono f _ _ r) fun _ _ _ h=>h
  rename_i hk; rw [if_neg hk]
  split at h
  ·rename_i hk; rw [if_pos hk]
   split at h
   ·rename_i hk; rw [if_pos hk]; exact h
   rename_i hk; rw [if_neg hk]
   split at h
   ·rename_i hk; rw [if_pos hk]; exact h
   rename_i hk; rw [if_neg hk]
   refine close_mono h fun r h2 => ?_
   split at h2
   ·rename_i hk; rw [if_pos hk]; exact h2
   ·rename_i hk; rw [if_neg hk]; exact par_mono f _ _ _ h2
  ·rename_i hk; rw [if_neg hk]; exact h
 | f+1,.args fn i,ts,r,h=>by
  rw [parF] at h ⊢
  refine seq_mono h (fun r h1 => ?_) fun ts n r h2 => ?_
  ·split at h1
   ·rename_i hk; rw [if_pos hk]; exact par_mono f _ _ _ h1
   ·rename_i hk; rw [if_neg hk]; exact h1
  ·split at h2
   ·rename_i hk; rw [if_pos hk]; exact par_mono f _ _ _ h2
   ·rename_i hk; rw [if_neg hk]; exact h2
theorem par_more {e f g:Nat} {m:Md} {ts:List Tk} {r:Rs} (h:parF e f m ts=some r) (hg:f≤g):parF e g m ts=some r:=by
 obtain ⟨d,rfl⟩:=Nat.le.dest hg
 induction d with
 | zero=>exact h
 | succ d ih=>exact par_mono _ _ _ _ (ih (by omega))
theorem par_one {e f g:Nat} {m:Md} {ts:List Tk} {r q:Rs} (h:parF e f m ts=some r) (k:parF e g m ts=some q):r=q:=by
 have h1:=par_more h (Nat.le_max_left f g)
 have h2:=par_more k (Nat.le_max_right f g)
 rw [h1] at h2
 exact Option.some.inj h2
set_option maxRecDepth 100000
set_option maxHeartbeats 4000000
section
open Go.RowKit
theorem tok_num_in {k:Nat} {l:List UInt8} {t:Tk} {n:Nat} (h:tokS k l=some (t,n)):0≤t.num∧t.num≤9223372036854775807:=by
 cases l with
 | nil=>cases h
 | cons b r =>
  rw [tok_cons] at h
  split at h
  ·obtain ⟨⟨v,m⟩,hx,e⟩:=Option.map_eq_some_iff.1 h
   obtain ⟨rfl,-⟩:=Prod.mk.inj e
   obtain ⟨w,p,-,-,-,-,-,rfl,hv,-⟩:=num_parts hx
   show 0≤((numV w p:Nat):Int)∧((numV w p:Nat):Int)≤9223372036854775807
   omega
  ·split at h
   ·obtain ⟨⟨v,m⟩,hx,e⟩:=Option.map_eq_some_iff.1 h
    obtain ⟨rfl,-⟩:=Prod.mk.inj e
    exact (by decide:(0:Int)≤0∧(0:Int)≤9223372036854775807)
   ·split at h
    ·unfold wordS at h
     simp only at h
     split at h
     ·obtain ⟨rfl,-⟩:=Prod.mk.inj (Option.some.inj h); exact (by decide:(0:Int)≤0∧(0:Int)≤9223372036854775807)
     ·split at h
      ·obtain ⟨rfl,-⟩:=Prod.mk.inj (Option.some.inj h); exact (by decide:(0:Int)≤1∧(1:Int)≤9223372036854775807)
      ·split at h
       ·obtain ⟨rfl,-⟩:=Prod.mk.inj (Option.some.inj h); exact (by decide:(0:Int)≤0∧(0:Int)≤9223372036854775807)
       ·split at h
        ·cases h
        ·split at h
         ·obtain ⟨rfl,-⟩:=Prod.mk.inj (Option.some.inj h); exact (by decide:(0:Int)≤0∧(0:Int)≤9223372036854775807)
         ·obtain ⟨rfl,-⟩:=Prod.mk.inj (Option.some.inj h); exact (by decide:(0:Int)≤0∧(0:Int)≤9223372036854775807)
    ·split at h
     ·rename_i c m he
      obtain ⟨rfl,-⟩:=Prod.mk.inj (Option.some.inj h)
      obtain ⟨i,x,hi,hc,-⟩:=err_parts _ _ he
      have h5:i<5:=(List.getElem?_eq_some_iff.1 hi).1
      show 0≤((c:Nat):Int)∧((c:Nat):Int)≤9223372036854775807
      omega
     ·obtain ⟨⟨c,v,m⟩,hx,e⟩:=Option.map_eq_some_iff.1 h
      obtain ⟨rfl,-⟩:=Prod.mk.inj e
      show 0≤v∧v≤9223372036854775807
      have key:∀ x∈opTab,(0:Int)≤x.2.2∧x.2.2≤9223372036854775807:=by decide
      rw [op_cons] at hx
      split at hx
      ·split at hx
       ·cases hx; decide
       ·split at hx
        ·cases hx; decide
        ·cases hx; decide
      ·split at hx
       ·split at hx
        ·cases hx; decide
        ·cases hx; decide
       ·obtain ⟨y,hy,e⟩:=Option.map_eq_some_iff.1 hx
        obtain ⟨-,e2⟩:=Prod.mk.inj e
        obtain ⟨e3,-⟩:=Prod.mk.inj e2
        rw [← e3]
        exact key y (List.mem_of_find?_eq_some hy)
theorem Lex.nums {k:Nat} {s:List UInt8} {l:List Tk} {y:List UInt8} (h:Lex k s l y):∀ t∈l,0≤t.num∧t.num≤9223372036854775807:=by
 induction h with
 | nil=>simp
 | blank _ ih=>exact ih
 | tok h _ ih =>
  intro t ht
  rcases List.mem_cons.1 ht with rfl | ht
  ·exact tok_num_in h
  ·exact ih t ht
end
