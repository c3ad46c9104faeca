/- Contracts of package val at errors. The table of the errors' names, off the row's condition. Plain: what parsing a list of tokens comes to. No program stands here. Plain: the numbers of tokens are in range. What the library's variables must hold: the names of the errors, the powers of ten, MaxLen. The rows' own conditions as facts of the world. -/
import Derived.Test.YtdplcdhpnmcdjaaGreatDoorEAddrP
import Derived.Test.YtdplcdhpnmcdjaaGreatDoorETg
import Derived.Test.YtdplcdhpnmcdjaaGreatDoorELexP
import Derived.Deep.DeepCutAuto
import Derived.Lib.LaidTab
import Derived.Stop.LaidErr
import Derived.LaidLaws
import Derived.LaidSub
import Derived.Test.YtdplcdhpnmcdjaaGreatDoorEIterV
import Derived.Test.YtdplcdhpnmcdjaaGreatDoorEShelf
namespace Go.Proofs.YtdplcdhpnmcdjaaGreatDoor
set_option maxRecDepth 100000
set_option maxHeartbeats 1000000
section
open Go.RowKit Go.Proofs.Tryz
def aB:List (List UInt8):=[[],[35,68,73,86,47,48,33],[35,86,65,76,85,69,33],[35,78,85,77,33],[35,78,47,65],[35,82,69,70,33],[35,67,89,67,76,69,33],[35,68,69,78,73,69,68]]
def Words (w:World):Prop:=0+0<w.heap.size∧∀ i<8,w.cell? ⟨0,i,none⟩=some (.string ⟨(aB[i]?.getD []).toArray⟩)
theorem Words.below {w w':World} (h:Words w) (hb:Below w.heap.size w w'):Words w' :=
 ⟨Nat.lt_of_lt_of_le h.1 hb.size,fun i hi=>bn hb (h.2 i hi)⟩
theorem aU (c:Int) (h1:1≤c) (h2:c≤7) (w:World) :
  Calls prog 38 #[.int .i64 c] w fun e w'=>e=.returned (.agg #[.int .u8 4,.int .i64 c,.string ⟨#[]⟩])∧Below w.heap.size w w':=by
 have H0:=Lib.hid (Ok.start w)
 have hc:¬ c<1:=by omega
 have hc2:¬ c>7:=by omega
 go_enter func38,ntmps38
 go_upto_region 1 with fail
 have H1:=Lib.hid (H0.out.var w.heap.size 35 [.int .u8 0,.int .i64 0,.string ⟨#[]⟩] rfl)
 clear H0
 generalize (w.alloc (.cells #[.int .u8 0,.int .i64 0,.string ⟨#[]⟩] 35))=W2 at H1 ⊢
 have F3:=sE H1
 go_wp2_with fail
 have hK:=H1.out.get (af (w.heap.size) 35 [.int .u8 0,.int .i64 0,.string ⟨#[]⟩]) (by simp)
 have hB:=H1.out.bel
 have hE:=((((show Blk W2 (w.heap.size) 35 _ from hK).set_ 0 (.int .u8 4)).set_ 1 (.int .i64 c)).set_ 2 (.string ⟨#[]⟩))
 refine bodyPost_ret (v:=.agg #[.int .u8 4,.int .i64 c,.string ⟨#[]⟩]) (by simp [results,results38,go_sem,hE.cell]) rfl ⟨rfl,(sC (sC (sC hB _) _) _)⟩
theorem kx (c:Int) (h1:1≤c) (h2:c≤6) (w:World) :
  Calls prog 37 #[.agg #[.int .u8 4,.int .i64 c,.string ⟨#[]⟩]] w fun e w'=>e=.returned (.int .i64 0)∧Below w.heap.size w w':=by
 have H1:=Lib.hid ((Ok.start w).alloc w.heap.size 35 [.int .u8 4,.int .i64 c,.string ⟨#[]⟩] rfl)
 have hc:(1:Int)≤c:=h1
 go_enter func37,ntmps37
 go_wp2_with fail
 generalize (w.alloc (.cells #[.int .u8 4,.int .i64 c,.string ⟨#[]⟩] 35))=W2 at H1 ⊢
 go_ret
 exact ⟨rfl,H1.out.bel⟩
theorem ic (c:Int) (h1:1≤c) (h2:c≤7) (w:World) (hw:Words w) :
  Calls prog 39 #[.agg #[.int .u8 4,.int .i64 c,.string ⟨#[]⟩]] w fun e w'=>e=.returned (.string ⟨(aB[c.toNat]?.getD []).toArray⟩)∧Below w.heap.size w w':=by
 have HW:=Lib.hid hw
 clear hw
 have H1:=Lib.hid ((Ok.start w).alloc w.heap.size 35 [.int .u8 4,.int .i64 c,.string ⟨#[]⟩] rfl)
 by_cases h7:c=7
 ·subst h7
  go_enter func39,ntmps39
  go_wp2_with fail
  generalize (w.alloc (.cells #[.int .u8 4,.int .i64 7,.string ⟨#[]⟩] 35))=W2 at H1 ⊢
  refine wp_region_held_drew (S:=fun W=>Ok w [ac (w.heap.size) 35 [.int .u8 4,.int .i64 7,.string ⟨#[]⟩]] W) (by kernel_rfl) H1.out.drew (fun hHeld => ?_)
  refine wt3 0 ?_
  refine wal 1 fun K hK => ?_
  go_simp
  refine (aU 7 (by decide) (by decide) _).mono ?_
  rintro e w4 ⟨rfl,hb5⟩
  go_wp2_with fail
  refine hK.out _ _ (hHeld.below hb5) (fun hHeld => ?_)
  clear hK K
  refine wn ?_
  refine wt3 2 ?_
  refine wt3 3 ?_
  refine wsk 4 ?_
  refine wsk 5 ?_
  refine wsk 6 ?_
  refine wsk 7 ?_
  refine wsk 8 ?_
  refine wsk 9 ?_
  refine wsk 10 ?_
  refine wsk 11 ?_
  refine wt3 12 ?_
  refine wpAnyH_done (by kernel_rfl) ?_ _
  clear H1
  have H6:=Lib.hid hHeld
  clear hHeld
  have hw2:=Words.below HW.out (al (Below.refl _ _) H6.out.bel)
  have hcell:=hw2.2 7 (by omega)
  have hlt:=hw2.1
  clear hw2
  have F7:=sE H6
  go_wp2_with fail
  go_ret
  exact ⟨rfl,H6.out.bel⟩
 have h6:c≤6:=by omega
 have h7b:(c == 7)=false:=by simpa using h7
 go_enter func39,ntmps39
 go_wp2_with fail
 generalize (w.alloc (.cells #[.int .u8 4,.int .i64 c,.string ⟨#[]⟩] 35))=W2 at H1 ⊢
 refine wp_region_held_drew (S:=fun W=>Ok w [ac (w.heap.size) 35 [.int .u8 4,.int .i64 c,.string ⟨#[]⟩]] W) (by kernel_rfl) H1.out.drew (fun hHeld => ?_)
 refine wt3 0 ?_
 refine wal 1 fun K hK => ?_
 go_simp
 refine (aU 7 (by decide) (by decide) _).mono ?_
 rintro e w4 ⟨rfl,hb5⟩
 go_wp2_with fail
 refine hK.out _ _ (hHeld.below hb5) (fun hHeld => ?_)
 clear hK K
 refine wn ?_
 refine wt3 2 ?_
 refine wt3 3 ?_
 refine wt3 4 ?_
 refine wt3 5 ?_
 refine wt3 6 ?_
 refine wt3 7 ?_
 refine wt3 8 ?_
 refine wal 9 fun K hK => ?_
 go_simp
 refine (kx c h1 h6 _).mono ?_
 rintro e w6 ⟨rfl,hb7⟩
 go_wp2_with fail
 refine hK.out _ _ (hHeld.below hb7) (fun hHeld => ?_)
 clear hK K
 refine wn ?_
 refine wt3 10 ?_
 refine wt3 11 ?_
 refine wt3 12 ?_
 refine wpAnyH_done (by kernel_rfl) ?_ _
 clear H1
 have H8:=Lib.hid hHeld
 clear hHeld
 have hw2:=Words.below HW.out (al (Below.refl _ _) H8.out.bel)
 have hcell:=hw2.2 c.toNat (by omega)
 have hlt:=hw2.1
 have hct:((c.toNat:Nat):Int)=c:=by omega
 have hc7:c<8:=by omega
 clear hw2
 have F9:=sE H8
 go_wp2_with fail
 go_ret
 exact ⟨rfl,H8.out.bel⟩
end
section
open Go.RowKit Go.Proofs.Tryz
def ou {H:Type} (zs:List (List UInt8)):DataW H:=.agg (zs.map fun z=>.lit (.string z))
theorem m9:(Rows.laid_louvre_val_words:DataW Unit)=ou aB:=by kernel_rfl
theorem kf : prog.globalNamed "louvre/val.words" = some 0 := by kernel_rfl
theorem oJ:(prog.globals[0]?).map (·.type)=some 105:=by kernel_rfl
theorem m8:prog.cellsOf 105=8:=by kernel_rfl
theorem qO:prog.cellsOf 9=1:=by kernel_rfl
theorem kh {H:Type} {enc:TypeId×Value→H} {P:Program} {w:World} {base:Nat} {sp:Nat→Bool} {held:Bool} {fuel:Nat} {t e:TypeId} {n:Nat} {cs:List Value} {zs:List (List UInt8)} {p:List MemPlace}
  (ht:P.underlying t=some (.array n e)) (he:P.underlying e=some .string) (hce:P.cellsOf e=1) (hct:P.cellsOf t=n)
  (h:DataW.trod enc P w base sp held fuel t cs=some (ou zs,p)):cs=zs.map fun z=>Value.string ⟨z.toArray⟩:=by
 cases fuel with
 | zero=>simp [DataW.trod] at h
 | succ fuel =>
  simp only [DataW.trod,ht,hce,hct,Nat.mul_one] at h
  split at h
  ·rename_i hl
   obtain ⟨xs,hm,hx⟩:=Option.map_eq_some_iff.1 h
   have hxs:xs.map (·.1)=zs.map fun z=>(DataW.lit (.string z):DataW H):=by
    have:=congrArg Prod.fst hx
    simpa [ou] using this
   have hxl:xs.length=n:=by simpa using Lib.mapM_length hm
   have hzl:zs.length=n:=by
    have:=congrArg List.length hxs
    simp at this
    omega
   apply List.ext_getElem?
   intro i
   by_cases hi:i<n
   ·obtain ⟨b,hb,hf⟩:=Lib.mapM_at hm i i (by simp [hi])
    have h2:(xs.map (·.1))[i]?=some b.1:=by simp [hb]
    rw [hxs] at h2
    simp only [List.getElem?_map,Option.map_eq_some_iff] at h2
    obtain ⟨z,hz,hzb⟩:=h2
    have h1:cs[i]?=some (.string ⟨z.toArray⟩):=by
     obtain ⟨b',hc,hb',_⟩:=DataW.trod_string he hf
     have h3:=hzb.symm▸congrArg Prod.fst hb'
     simp only [DataW.lit.injEq,Lit.string.injEq] at h3
     have h4:b'=⟨z.toArray⟩:=by rw [h3]
     rw [← h4]
     have:=congrArg (·[0]?) hc
     simpa [List.getElem?_take,List.getElem?_drop] using this
    simp [h1,hz]
   rw [List.getElem?_eq_none (by omega),List.getElem?_eq_none (by simp; omega)]
  cases h
theorem sH {W : World} {l : List (String × DataW Unit)} (h : laidMetH prog l W) (hl : l.filter (fun x => x.1 == "louvre/val.words") = [("louvre/val.words", Rows.laid_louvre_val_words)]) (_hS : W.ShapedOpen prog) : Words W := by
 have h2 := h.filter (fun x => x.1 == "louvre/val.words")
 rw [hl,m9] at h2
 obtain ⟨ps,⟨g',t',cs,fuel,p,q,hg',ht',hvar,hd,_,_⟩,_⟩:=((laidMetH_iff ..).1 h2).1
 obtain rfl:=Option.some.inj (kf.symm.trans hg')
 obtain rfl:=Option.some.inj (oJ.symm.trans ht')
 have hcs:=kh underlying105 underlying9 qO m8 hd
 have hc:∀ i<8,W.cell? ⟨0,i,none⟩=some (.string ⟨(aB[i]?.getD []).toArray⟩):=by
  intro i hi
  have h9:=World.var?_cell kf hvar i
  rw [← Array.getElem?_toList,hcs] at h9
  rw [h9]
  have h8:aB.length=8:=by decide
  simp [List.getElem?_eq_getElem (show i<aB.length by omega)]
 refine ⟨?_,hc⟩
 have:=World.block_lt_of_cell? W _ (hc 0 (by decide))
 simpa using this
end
structure Nd where
 kind:Nat
 vk:Nat
 vn:Int
 vt:List UInt8
 r:R4
 op:Int
 fn:Nat
 n:Nat
def o6 (t:Tk):Nd:=⟨1,if t.kind=2 then 3 else if t.kind=3 then 2 else t.kind,if t.kind=2 then 0 else t.num,if t.kind=2 then t.text else [],R4.zero,0,0,0⟩
def eu (r:R4):Nd:=⟨2,0,0,[],r,0,0,0⟩
def cj (r:R4):Nd:=⟨3,0,0,[],r,0,0,0⟩
def fz:Nd:=⟨4,0,0,[],R4.zero,0,0,0⟩
def dt:Nd:=⟨5,0,0,[],R4.zero,0,0,0⟩
def cN (op:Int):Nd:=⟨6,0,0,[],R4.zero,op,0,0⟩
def da (fn n:Nat):Nd:=⟨7,0,0,[],R4.zero,0,fn,n⟩
def aT (op:Int):Nat :=
 if 7≤op∧op≤12 then 1 else if op=6 then 2 else if op=1∨op=2 then 3 else if op=3∨op=4 then 4 else if op=5 then 6 else if op=13 then 7 else 0
def dx:List (List UInt8):=[[65,66,83],[83,73,71,78],[73,78,84],[84,82,85,78,67],[82,79,85,78,68],[77,79,68],[80,79,87,69,82],[83,81,82,84],[83,85,77],[80,82,79,68,85,67,84],[67,79,85,78,84],[67,79,85,78,84,65],[67,79,85,78,84,66,76,65,78,75],[65,86,69,82,65,71,69],[77,73,78],[77,65,88],[77,69,68,73,65,78],[76,65,82,71,69],[83,77,65,76,76],[73,70],[65,78,68],[79,82],[88,79,82],[78,79,84],[73,70,69,82,82,79,82],[73,83,69,82,82,79,82],[73,83,66,76,65,78,75],[73,83,78,85,77,66,69,82],[73,83,84,69,88,84],[67,72,79,79,83,69],[76,69,78],[76,69,70,84],[82,73,71,72,84],[77,73,68],[85,80,80,69,82],[76,79,87,69,82],[84,82,73,77],[67,79,78,67,65,84],[82,69,80,84],[69,88,65,67,84],[70,73,78,68],[86,65,76,85,69],[73,78,68,69,88],[77,65,84,67,72],[67,79,85,78,84,73,70],[68,83,85,77],[68,67,79,85,78,84],[68,65,86,71],[68,77,73,78],[68,77,65,88]]
def fnS (t:List UInt8):Nat:=match dx.findIdx? (· == t) with
 | some i=>i+1
 | none=>0
def arS (fn:Nat):Nat×Nat :=
 if fn∈[5,6,7,25,39,40,18,19,45,44] then (2,2)
 else if fn∈[20,41,43] then (2,3)
 else if fn∈[32,33] then (1,2)
 else if fn=34 then (3,3)
 else if fn∈[21,22,23,38,9,10,11,12,14,15,16,17] then (1,16)
 else if fn=30 then (2,16)
 else (1,1)
def cE (fn i:Nat):Bool :=
 if (arS fn).2≤i then false
 else if fn∈[9,10,11,12,14,15,16,17] then true
 else if fn=44 then i == 1
 else if fn∈[18,19,45,43,13] then i == 0
 else decide (46≤fn∧fn≤50)
def hdS (e:Nat):List Tk→Tk
 | []=>⟨0,0,[],R4.zero,e⟩
 | t::_=>t
def bO (ts:List Tk) (op:Int):Bool:=match ts with
 | []=>false
 | t::_=>decide (t.kind=8∧t.num=op)
inductive Rs
 | bad (at_:Nat) (e:Int)
 | ok (ts:List Tk) (ns:List Nd) (n:Nat)
def cr:List Tk→List Tk×Nat
 | []=>([],0)
 | t::ts=>if t.kind=8∧t.num=13 then ((cr ts).1,(cr ts).2+1) else (t::ts,0)
inductive Md
 | lv (k:Nat)
 | ops (k:Nat)
 | sg
 | pc
 | pr
 | args (fn i:Nat)
def fe (x:Option Rs) (g:List Tk→Nat→Option Rs):Option Rs:=match x with
 | none=>none
 | some (.bad a c)=>some (.bad a c)
 | some (.ok ts ns n)=>match g ts n with
  | none=>none
  | some (.bad a c)=>some (.bad a c)
  | some (.ok ts' ns' n')=>some (.ok ts' (ns++ns') n')
def dH (e fn at_:Nat) (x:Option Rs):Option Rs:=match x with
 | none=>none
 | some (.bad a c)=>some (.bad a c)
 | some (.ok ts ns n) =>
  if (hdS e ts).kind≠10 then some (.bad (hdS e ts).at_ 4)
  else if n<(arS fn).1∨(arS fn).2<n then some (.bad at_ 11)
  else if 46≤fn∧(ns.getLast?.map (·.kind))≠some 2∧(ns.getLast?.map (·.kind))≠some 3 then some (.bad at_ 4)
  else some (.ok (ts.drop 1) (ns++[da fn n]) n)
def ap (e:Nat):Nat→Md→List Tk→Option Rs
 | 0,_,_=>none
 | f+1,.lv k,ts=>if 5≤k then ap e f .sg ts else fe (ap e f (.lv (k+1)) ts) fun ts _=>ap e f (.ops k) ts
 | _+1,.ops _,[]=>some (.ok [] [] 0)
 | f+1,.ops k,t::ts =>
  if t.kind=8∧aT t.num=k then fe (ap e f (.lv (k+1)) ts) fun ts2 _=>fe (some (.ok ts2 [cN t.num] 0)) fun ts3 _=>ap e f (.ops k) ts3
  else some (.ok (t::ts) [] 0)
 | f+1,.sg,ts =>
  if bO ts 2 then fe (ap e f .sg (ts.drop 1)) fun ts2 _=>some (.ok ts2 [fz] 0)
  else fe (ap e f .pc ts) fun ts2 _ =>
   if bO ts2 5 then fe (ap e f .sg (ts2.drop 1)) fun ts3 _=>some (.ok ts3 [cN 5] 0) else some (.ok ts2 [] 0)
 | f+1,.pc,ts=>fe (ap e f .pr ts) fun ts2 _=>some (.ok (cr ts2).1 (List.replicate (cr ts2).2 dt) 0)
 | _+1,.pr,[]=>some (.bad e 4)
 | f+1,.pr,t::ts =>
  if 1≤t.kind∧t.kind≤4 then some (.ok ts [o6 t] 0)
  else if t.kind=5 then some (.ok ts [eu t.r] 0)
  else if t.kind=9 then fe (ap e f (.lv 1) ts) fun ts2 _=>if (hdS e ts2).kind=10 then some (.ok (ts2.drop 1) [] 0) else some (.bad (hdS e ts2).at_ 4)
  else if t.kind=7 then
   if fnS t.text=0 then some (.bad t.at_ 10)
   else if (hdS e ts).kind≠9 then some (.bad (hdS e ts).at_ 4)
   else dH e (fnS t.text) t.at_ (if (hdS e (ts.drop 1)).kind=10 then some (.ok (ts.drop 1) [] 0) else ap e f (.args (fnS t.text) 0) (ts.drop 1))
  else some (.bad t.at_ 4)
 | f+1,.args fn i,ts =>
  fe (if (hdS e ts).kind≠6 then ap e f (.lv 1) ts else if cE fn i then some (.ok (ts.drop 1) [cj (hdS e ts).r] 0) else some (.bad (hdS e ts).at_ 4)) fun ts2 _ =>
   if (hdS e ts2).kind=11 then ap e f (.args fn (i+1)) (ts2.drop 1) else some (.ok ts2 [] (i+1))
theorem pg:∀ ts:List Tk,(cr ts).1.length≤ts.length
 | []=>Nat.le_refl _
 | t::ts=>by
  rw [cr]
  split
  ·exact Nat.le_trans (pg ts) (by simp)
  exact Nat.le_refl _
theorem seq_ok {x:Option Rs} {g:List Tk→Nat→Option Rs} {ts:List Tk} {ns:List Nd} {n:Nat} (h:fe x g=some (.ok ts ns n)) :
  ∃ ts1 ns1 n1 ns2,x=some (.ok ts1 ns1 n1)∧g ts1 n1=some (.ok ts ns2 n)∧ns=ns1++ns2:=by
 unfold fe at h
 split at h
 ·simp at h
 ·simp at h
 rename_i ts1 ns1 n1
 split at h
 ·simp at h
 ·simp at h
 rename_i ts2 ns2 n2 hg
 simp only [Option.some.injEq,Rs.ok.injEq] at h
 obtain ⟨rfl,rfl,rfl⟩:=h
 exact ⟨ts1,ns1,n1,ns2,rfl,hg,rfl⟩
theorem gM {e fn a:Nat} {x:Option Rs} {ts:List Tk} {ns:List Nd} {n:Nat} (h:dH e fn a x=some (.ok ts ns n)) :
  ∃ ts1 ns1,x=some (.ok ts1 ns1 n)∧(hdS e ts1).kind=10∧ts=ts1.drop 1∧ns=ns1++[da fn n]∧(arS fn).1≤n∧n≤(arS fn).2∧(46≤fn→(ns1.getLast?.map (·.kind))=some 2∨(ns1.getLast?.map (·.kind))=some 3):=by
 unfold dH at h
 split at h
 ·simp at h
 ·simp at h
 rename_i ts1 ns1 n1
 split at h
 ·simp at h
 rename_i h1
 split at h
 ·simp at h
 rename_i h2
 split at h
 ·simp at h
 rename_i h3
 simp only [Option.some.injEq,Rs.ok.injEq] at h
 obtain ⟨rfl,rfl,rfl⟩:=h
 refine ⟨ts1,ns1,rfl,by simpa using h1,rfl,rfl,by omega,by omega,fun h46 => ?_⟩
 by_cases h4:(ns1.getLast?.map (·.kind))=some 2
 ·exact .inl h4
 refine .inr ?_
 by_cases h5:(ns1.getLast?.map (·.kind))=some 3
 ·exact h5
 exact absurd ⟨h46,h4,h5⟩ h3
theorem bI {e:Nat}:∀ (f:Nat) (m:Md) (ts ts':List Tk) (ns:List Nd) (n:Nat),ap e f m ts=some (.ok ts' ns n)→ts'.length≤ts.length
 | 0,_,_,_,_,_,h=>by simp [ap] at h
 | f+1,.lv k,ts,ts',ns,n,h=>by
  rw [ap] at h
  split at h
  ·exact bI f _ _ _ _ _ h
  obtain ⟨t1,_,_,_,h1,h2,_⟩:=seq_ok h
  exact Nat.le_trans (bI f _ _ _ _ _ h2) (bI f _ _ _ _ _ h1)
 | f+1,.ops k,[],ts',ns,n,h=>by
  simp only [ap,Option.some.injEq,Rs.ok.injEq] at h
  obtain ⟨rfl,_,_⟩:=h
  exact Nat.le_refl _
 | f+1,.ops k,t::ts,ts',ns,n,h=>by
  rw [ap] at h
  split at h
  ·obtain ⟨t1,_,_,_,h1,h2,_⟩:=seq_ok h
   obtain ⟨t2,_,_,_,h3,h4,_⟩:=seq_ok h2
   simp only [Option.some.injEq,Rs.ok.injEq] at h3
   obtain ⟨rfl,_,_⟩:=h3
   exact Nat.le_trans (bI f _ _ _ _ _ h4) (Nat.le_trans (bI f _ _ _ _ _ h1) (by simp))
  simp only [Option.some.injEq,Rs.ok.injEq] at h
  obtain ⟨rfl,_,_⟩:=h
  exact Nat.le_refl _
 | f+1,.sg,ts,ts',ns,n,h=>by
  rw [ap] at h
  split at h
  ·obtain ⟨t1,_,_,_,h1,h2,_⟩:=seq_ok h
   simp only [Option.some.injEq,Rs.ok.injEq] at h2
   obtain ⟨rfl,_,_⟩:=h2
   exact Nat.le_trans (bI f _ _ _ _ _ h1) (by simp)
  obtain ⟨t1,_,_,_,h1,h2,_⟩:=seq_ok h
  have h0:=bI f _ _ _ _ _ h1
  split at h2
  ·obtain ⟨t3,_,_,_,h3,h4,_⟩:=seq_ok h2
   simp only [Option.some.injEq,Rs.ok.injEq] at h4
   obtain ⟨rfl,_,_⟩:=h4
   have h5:=bI f _ _ _ _ _ h3
   simp at h5
   omega
  simp only [Option.some.injEq,Rs.ok.injEq] at h2
  obtain ⟨rfl,_,_⟩:=h2
  exact h0
 | f+1,.pc,ts,ts',ns,n,h=>by
  rw [ap] at h
  obtain ⟨t1,_,_,_,h1,h2,_⟩:=seq_ok h
  simp only [Option.some.injEq,Rs.ok.injEq] at h2
  obtain ⟨rfl,_,_⟩:=h2
  exact Nat.le_trans (pg t1) (bI f _ _ _ _ _ h1)
 | f+1,.pr,[],ts',ns,n,h=>by simp [ap] at h
 | f+1,.pr,t::ts,ts',ns,n,h=>by
  rw [ap] at h
  split at h
  ·simp only [Option.some.injEq,Rs.ok.injEq] at h
   obtain ⟨rfl,_,_⟩:=h
   simp
  split at h
  ·simp only [Option.some.injEq,Rs.ok.injEq] at h
   obtain ⟨rfl,_,_⟩:=h
   simp
  split at h
  ·obtain ⟨t1,_,_,_,h1,h2,_⟩:=seq_ok h
   have h0:=bI f _ _ _ _ _ h1
   split at h2
   ·simp only [Option.some.injEq,Rs.ok.injEq] at h2
    obtain ⟨rfl,_,_⟩:=h2
    simp; omega
   simp at h2
  split at h
  ·split at h
   ·simp at h
   split at h
   ·simp at h
   obtain ⟨t1,_,h1,_,rfl,_⟩:=gM h
   split at h1
   ·simp only [Option.some.injEq,Rs.ok.injEq] at h1
    obtain ⟨rfl,_,_⟩:=h1
    simp; omega
   have h0:=bI f _ _ _ _ _ h1
   simp at h0
   simp; omega
  simp at h
 | f+1,.args fn i,ts,ts',ns,n,h=>by
  rw [ap] at h
  obtain ⟨t1,_,_,_,h1,h2,_⟩:=seq_ok h
  have h3:t1.length≤ts.length:=by
   split at h1
   ·exact bI f _ _ _ _ _ h1
   split at h1
   ·simp only [Option.some.injEq,Rs.ok.injEq] at h1
    obtain ⟨rfl,_,_⟩:=h1
    simp
   simp at h1
  split at h2
  ·have h0:=bI f _ _ _ _ _ h2
   simp at h0
   omega
  simp only [Option.some.injEq,Rs.ok.injEq] at h2
  obtain ⟨rfl,_,_⟩:=h2
  exact h3
def bM:Md→Nat
 | .lv k=>11 - k
 | .ops _=>1
 | .sg=>4
 | .pc=>3
 | .pr=>2
 | .args _ _=>11
theorem cW {x:Option Rs} {g:List Tk→Nat→Option Rs} (hx:∃ r,x=some r) (hg:∀ ts ns n,x=some (.ok ts ns n)→∃ r,g ts n=some r):∃ r,fe x g=some r:=by
 obtain ⟨r,rfl⟩:=hx
 unfold fe
 cases r with
 | bad a c=>exact ⟨_,rfl⟩
 | ok ts ns n =>
  obtain ⟨r2,h2⟩:=hg ts ns n rfl
  simp only [h2]
  cases r2 <;> exact ⟨_,rfl⟩
theorem close_some {e fn a:Nat} {x:Option Rs} (hx:∃ r,x=some r):∃ r,dH e fn a x=some r:=by
 obtain ⟨r,rfl⟩:=hx
 unfold dH
 cases r with
 | bad a c=>exact ⟨_,rfl⟩
 | ok ts ns n =>
  simp only []
  split
  ·exact ⟨_,rfl⟩
  split
  ·exact ⟨_,rfl⟩
  split <;> exact ⟨_,rfl⟩
theorem fP {e k:Nat} {ts:List Tk} (h:(hdS e ts).kind=k) (hk:k≠0):(ts.drop 1).length+1=ts.length:=by
 cases ts with
 | nil=>exact absurd h.symm hk
 | cons t ts=>simp
theorem fQ {ts:List Tk} {op:Int} (h:bO ts op=true):(ts.drop 1).length+1=ts.length:=by
 cases ts with
 | nil=>simp [bO] at h
 | cons t ts=>simp
theorem bJ {e:Nat}:∀ (f:Nat) (m:Md) (ts:List Tk),12 * ts.length+bM m≤f→(∀ k,m=.lv k→k≤5)→(∀ k,m=.ops k→k≤4)→∃ r,ap e f m ts=some r
 | 0,m,ts,h,hl,_=>by
  cases m with
  | lv k=>have:=hl k rfl; simp only [bM] at h; omega
  | ops k=>simp only [bM] at h; omega
  | sg=>simp only [bM] at h; omega
  | pc=>simp only [bM] at h; omega
  | pr=>simp only [bM] at h; omega
  | args fn i=>simp only [bM] at h; omega
 | f+1,.lv k,ts,h,hl,_=>by
  have hk:=hl k rfl
  simp only [bM] at h
  rw [ap]
  split
  ·exact bJ f _ _ (by simp only [bM]; omega) (by simp) (by simp)
  refine cW (bJ f _ _ (by simp only [bM]; omega) (by rintro j ⟨⟩; omega) (by simp)) fun ts1 ns n h1 => ?_
  have:=bI f _ _ _ _ _ h1
  exact bJ f _ _ (by simp only [bM]; omega) (by simp) (by rintro j ⟨⟩; omega)
 | f+1,.ops k,[],h,_,_=>⟨_,by rw [ap]⟩
 | f+1,.ops k,t::ts,h,_,hl=>by
  have hk:=hl k rfl
  simp only [bM,List.length_cons] at h
  rw [ap]
  split
  ·refine cW (bJ f _ _ (by simp only [bM]; omega) (by rintro j ⟨⟩; omega) (by simp)) fun ts1 ns n h1 => ?_
   have:=bI f _ _ _ _ _ h1
   refine cW ⟨_,rfl⟩ fun ts2 ns2 n2 h2 => ?_
   simp only [Option.some.injEq,Rs.ok.injEq] at h2
   obtain ⟨rfl,_,_⟩:=h2
   exact bJ f _ _ (by simp only [bM]; omega) (by simp) (by rintro j ⟨⟩; omega)
  exact ⟨_,rfl⟩
 | f+1,.sg,ts,h,_,_=>by
  simp only [bM] at h
  rw [ap]
  split
  ·rename_i ho
   have:=fQ ho
   exact cW (bJ f _ _ (by simp only [bM]; omega) (by simp) (by simp)) fun _ _ _ _=>⟨_,rfl⟩
  refine cW (bJ f _ _ (by simp only [bM]; omega) (by simp) (by simp)) fun ts1 ns n h1 => ?_
  have:=bI f _ _ _ _ _ h1
  split
  ·rename_i ho
   have:=fQ ho
   exact cW (bJ f _ _ (by simp only [bM]; omega) (by simp) (by simp)) fun _ _ _ _=>⟨_,rfl⟩
  exact ⟨_,rfl⟩
 | f+1,.pc,ts,h,_,_=>by
  simp only [bM] at h
  rw [ap]
  exact cW (bJ f _ _ (by simp only [bM]; omega) (by simp) (by simp)) fun _ _ _ _=>⟨_,rfl⟩
 | f+1,.pr,[],h,_,_=>⟨_,by rw [ap]⟩
 | f+1,.pr,t::ts,h,_,_=>by
  simp only [bM,List.length_cons] at h
  rw [ap]
  split
  ·exact ⟨_,rfl⟩
  split
  ·exact ⟨_,rfl⟩
  split
  ·refine cW (bJ f _ _ (by simp only [bM]; omega) (by rintro j ⟨⟩; omega) (by simp)) fun _ _ _ _ => ?_
   split <;> exact ⟨_,rfl⟩
  split
  ·split
   ·exact ⟨_,rfl⟩
   split
   ·exact ⟨_,rfl⟩
   refine close_some ?_
   split
   ·exact ⟨_,rfl⟩
   refine bJ f _ _ ?_ (by simp) (by simp)
   simp only [bM,List.length_drop]
   omega
  exact ⟨_,rfl⟩
 | f+1,.args fn i,ts,h,_,_=>by
  simp only [bM] at h
  rw [ap]
  refine cW ?_ fun ts1 ns n h1 => ?_
  ·split
   ·exact bJ f _ _ (by simp only [bM]; omega) (by rintro j ⟨⟩; omega) (by simp)
   split <;> exact ⟨_,rfl⟩
  have h3:ts1.length≤ts.length:=by
   split at h1
   ·exact bI f _ _ _ _ _ h1
   split at h1
   ·simp only [Option.some.injEq,Rs.ok.injEq] at h1
    obtain ⟨rfl,_,_⟩:=h1
    simp
   simp at h1
  split
  ·rename_i hc
   have:=fP hc (by decide)
   exact bJ f _ _ (by simp only [bM]; omega) (by simp) (by simp)
  exact ⟨_,rfl⟩
set_option maxRecDepth 100000
set_option maxHeartbeats 4000000
section
open Go.RowKit
theorem ox {k:Nat} {l:List UInt8} {t:Tk} {n:Nat} (h:ee k l=some (t,n)):0≤t.num∧t.num≤9223372036854775807:=by
 cases l with
 | nil=>cases h
 | cons b r =>
  rw [cZ] at h
  split at h
  ·obtain ⟨⟨v,m⟩,hx,e⟩:=Option.map_eq_some_iff.1 h
   obtain ⟨rfl,-⟩:=Prod.mk.inj e
   obtain ⟨w,p,-,-,-,-,-,rfl,hv,-⟩:=fV hx
   show 0≤((cA w p:Nat):Int)∧((cA w p:Nat):Int)≤9223372036854775807
   omega
  split at h
  ·obtain ⟨⟨v,m⟩,hx,e⟩:=Option.map_eq_some_iff.1 h
   obtain ⟨rfl,-⟩:=Prod.mk.inj e
   exact (by decide:(0:Int)≤0∧(0:Int)≤9223372036854775807)
  split at h
  ·unfold bU at h
   simp only at h
   split at h
   ·obtain ⟨rfl,-⟩:=Prod.mk.inj (Option.some.inj h); exact (by decide:(0:Int)≤0∧(0:Int)≤9223372036854775807)
   split at h
   ·obtain ⟨rfl,-⟩:=Prod.mk.inj (Option.some.inj h); exact (by decide:(0:Int)≤1∧(1:Int)≤9223372036854775807)
   split at h
   ·obtain ⟨rfl,-⟩:=Prod.mk.inj (Option.some.inj h); exact (by decide:(0:Int)≤0∧(0:Int)≤9223372036854775807)
   split at h
   ·cases h
   split at h
   ·obtain ⟨rfl,-⟩:=Prod.mk.inj (Option.some.inj h); exact (by decide:(0:Int)≤0∧(0:Int)≤9223372036854775807)
   obtain ⟨rfl,-⟩:=Prod.mk.inj (Option.some.inj h); exact (by decide:(0:Int)≤0∧(0:Int)≤9223372036854775807)
  split at h
  ·rename_i c m he
   obtain ⟨rfl,-⟩:=Prod.mk.inj (Option.some.inj h)
   obtain ⟨i,x,hi,hc,-⟩:=ej _ _ he
   have h5:i<5:=(List.getElem?_eq_some_iff.1 hi).1
   show 0≤((c:Nat):Int)∧((c:Nat):Int)≤9223372036854775807
   omega
  obtain ⟨⟨c,v,m⟩,hx,e⟩:=Option.map_eq_some_iff.1 h
  obtain ⟨rfl,-⟩:=Prod.mk.inj e
  show 0≤v∧v≤9223372036854775807
  have key:∀ x∈iP,(0:Int)≤x.2.2∧x.2.2≤9223372036854775807:=by decide
  rw [bQ] at hx
  split at hx
  ·split at hx
   ·cases hx; decide
   split at hx
   ·cases hx; decide
   cases hx; decide
  split at hx
  ·split at hx
   ·cases hx; decide
   cases hx; decide
  obtain ⟨y,hy,e⟩:=Option.map_eq_some_iff.1 hx
  obtain ⟨-,e2⟩:=Prod.mk.inj e
  obtain ⟨e3,-⟩:=Prod.mk.inj e2
  rw [← e3]
  exact key y (List.mem_of_find?_eq_some hy)
theorem Lex.nums {k:Nat} {s:List UInt8} {l:List Tk} {y:List UInt8} (h:Lex k s l y):∀ t∈l,0≤t.num∧t.num≤9223372036854775807:=by
 induction h with
 | nil=>simp
 | blank _ ih=>exact ih
 | tok h _ ih =>
  intro t ht
  rcases List.mem_cons.1 ht with rfl | ht
  ·exact ox h
  exact ih t ht
end
open Go.RowKit
def dm (w:World):Prop:=Words w∧Pow w∧∃ m,w.cell? ⟨1,0,none⟩=some (.int .i64 m)
theorem dm.below {w w':World} (h:dm w) (hb:Below w.heap.size w w'):dm w' :=
 ⟨h.1.below hb,h.2.1.below hb,h.2.2.imp fun _ hm=>bn hb hm⟩
open Go.RowKit Go.Proofs.Tryz
theorem rr {W:World} {l:List (String×DataW Unit)} (h:laidMetH prog l W) (hS:W.ShapedOpen prog)
  (hl : l.filter (fun x => x.1 == "louvre/val.words") = [("louvre/val.words", Rows.laid_louvre_val_words)])
  (hp : l.filter (fun x => x.1 == "internal/strconv.uint64pow10") = [("internal/strconv.uint64pow10", Rows.laid_internal_strconv_uint64pow10)]) : dm W :=
 ⟨sH h hl hS,mH h hp,Tryz.laysM143.s1_3 W hS⟩
