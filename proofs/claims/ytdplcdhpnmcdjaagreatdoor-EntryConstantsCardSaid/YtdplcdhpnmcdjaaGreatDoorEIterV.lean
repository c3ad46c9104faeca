/- Contracts of package addr's and its reference's small functions: Less, Index. Contracts of Has, One and Inside, package rect's and the reference's. Contracts of package addr's At and Letters and of their references. Contracts of package addr's Format and of its reference. Condition: the library's table of powers of ten holds what its initialiser lays. A loop over an iterator that writes no captured cell: one value a round, nobody leaves early (XIter's like). No program stands here. The library's table of powers of ten, out of the row's list. -/
import Derived.Test.YtdplcdhpnmcdjaaGreatDoorEAddrP
import Derived.Test.YtdplcdhpnmcdjaaGreatDoorEShelf
import Derived.Test.YtdplcdhpnmcdjaaGreatDoorETg
import Derived.Deep.RegionHeld3
import Derived.Lib.SmallJoins
import Derived.Lib.AppendIntMem
import Derived.RangeFuncNested
import Derived.RangeFuncBound
import Derived.RangeFuncCalls
import Derived.RangeFuncLeaves
import Derived.RangeFuncBox
import Derived.Shelf.Abstract
import Derived.OwnWalkIn
import Derived.TacticsInMore
import Derived.LoopNIn
import Derived.LoopIn
import Derived.Maps.AppendAt
import Derived.LaidSub
namespace Go.Proofs.YtdplcdhpnmcdjaaGreatDoor
open Go.RowKit
open Go.RowKit Go.Proofs.Tryz
theorem lk (n:Nat) (h:n<128):Utf8.encode (n:Int)=⟨#[UInt8.ofNat n]⟩:=by
 have hv:Utf8.valid (n:Int)=true:=by simp [Utf8.valid]; omega
 simp only [Utf8.encode,hv,if_true,Int.toNat_natCast]
 rw [if_pos (by omega)]
theorem bytes_append (x y:List UInt8):((⟨x.toArray⟩:ByteArray)++⟨y.toArray⟩)=⟨(x++y).toArray⟩:=ByteArray.mk_append_mk x y
theorem gR (c:Int) (h:¬ (1≤c∧c≤1024)):dj c=([],3):=by unfold dj; rw [if_neg h]
theorem kk (n:Nat) (h:1≤(n:Int)∧(n:Int)≤1024):dj n=(aW n,0):=by unfold dj; rw [if_pos h,Int.toNat_natCast]
theorem mo (n m:Nat) (acc:List UInt8) (h:aW n=aW m++acc) (h0:0<m):aW n=aW ((m - 1) / 26)++(UInt8.ofNat (65+(m - 1) % 26)::acc):=by
 rw [h,eL m h0]; simp
theorem lf (c:Int) (w:World) (_h0 : -9223372036854775808≤c) (_h1:c≤9223372036854775807) :
  Calls prog 188 #[.int .i64 c] w fun e w'=>e=.returned (.tuple #[.string ⟨(dj c).1.toArray⟩,.int .i64 (dj c).2])∧w=w':=by
 rcases (show c<1∨(1≤c∧1024<c)∨(1≤c∧c≤1024) from by omega) with h | ⟨h0,h⟩ | ⟨h0,h⟩
 ·rw [gR c (by omega)]
  go_enter func188,ntmps188
  go_wp2
  go_ret2
  exact ⟨rfl,rfl⟩
 ·rw [gR c (by omega)]
  go_enter func188,ntmps188
  go_wp2
  go_ret2
  exact ⟨rfl,rfl⟩
 obtain ⟨n,rfl⟩:=Int.eq_ofNat_of_zero_le (show 0≤c from by omega)
 rw [kk n ⟨h0,h⟩]
 go_enter func188,ntmps188
 go_wp2
 go_loop [0,4] (fun k s=>∃ (m:Nat) (acc:List UInt8),m≤n∧acc.length+m≤1024∧k=.int .i64 m∧s=.string ⟨acc.toArray⟩∧aW n=aW m++acc) (fun k _=>(intOf k).toNat)
 case atStart=>exact ⟨n,[],Nat.le_refl _,by simp; omega,rfl,rfl,by simp⟩
 case round =>
  obtain ⟨m,acc,hm,hl,rfl,rfl,hacc⟩:=hrel
  have HA:=Lib.hid hacc
  clear hacc
  rcases Nat.eq_zero_or_pos m with h0 | h0
  ·subst h0
   go_wp2
   go_ret2
   have e:=HA.out
   rw [gi,List.nil_append] at e
   rw [e]
   exact ⟨rfl,rfl⟩
  have henc:Utf8.encode (65+((m:Int) - 1) % 26)=⟨#[65+UInt8.ofNat ((m - 1) % 26)]⟩:=by
   rw [show (65+((m:Int) - 1) % 26)=((65+(m - 1) % 26:Nat):Int) from by omega,lk _ (by omega)]; simp
  go_wp2
  go_round
  case measure=>simp [intOf]; omega
  case rel =>
   refine ⟨(m - 1) / 26,(65+UInt8.ofNat ((m - 1) % 26))::acc,by omega,by simp; omega,by congr 1; omega,congrArg Value.string (bytes_append [_] acc),?_⟩
   have:=mo n m acc HA.out h0
   rwa [show UInt8.ofNat (65+(m - 1) % 26)=65+UInt8.ofNat ((m - 1) % 26) from by simp] at this
def Pow (w : World) : Prop := Lib.TabIs prog w "internal/strconv.uint64pow10" .u64 Lib.pow10Tab
theorem x7 : prog.globalNamed "internal/strconv.uint64pow10" = some 4 := by kernel_rfl
theorem Pow.below {w w':World} (h:Pow w) (hb:Below w.heap.size w w'):Pow w':=Joins.tab_stays x7 h hb (Nat.le_refl _)
theorem yM (n:Int) (h0:0≤n) (h1:n≤9223372036854775807) (w:World) (hp:Pow w) :
  Calls prog 189 #[.int .i64 n] w fun e w'=>e=.returned (.string ⟨(Lib.decDigits n.toNat).toArray⟩)∧Below w.heap.size w w' :=
 (Tryz.strconv_Itoa n (by omega) h1 w hp).mono fun e w' ⟨he,k,os,hw⟩=>by
  refine ⟨?_,hw▸Lib.below_grow _ _ (Nat.le_refl _) k os⟩
  rw [he,Lib.itoa,if_neg (by omega)]
theorem gS (n:Nat) (h:n≤1024):(aW n).length≤1024:=by
 have key:∀ n:Nat,(aW n).length≤n:=by
  intro n
  induction n using Nat.strongRecOn with
  | _ n ih =>
   rcases Nat.eq_zero_or_pos n with rfl | hp
   ·simp [gi]
   rw [eL n hp,List.length_append]
   have:=ih ((n - 1) / 26) (by omega)
   simp; omega
 exact Nat.le_trans (key n) h
theorem oT (n:Nat) (h:n≤1024):(Lib.decDigits n).length≤1025:=by
 have key:∀ n:Nat,(Lib.decDigits n).length≤n+1:=by
  intro n
  induction n using Nat.strongRecOn with
  | _ n ih =>
   by_cases hp:n<10
   ·rw [il hp]; simp
   rw [lj hp,List.length_append]
   have:=ih (n / 10) (by omega)
   simp; omega
 exact Nat.le_trans (key n) (by omega)
theorem iM (c r:Int) (h:ba c r=false):bG c r=([],3):=by unfold bG; rw [if_neg (by simp [h])]
theorem gO (c r:Int) (h:ba c r=true):bG c r=(aW c.toNat++Lib.decDigits r.toNat,0):=by unfold bG; rw [if_pos h]
theorem ij {c r:Int} (h:ba c r=true):1≤c∧c≤1024∧1≤r∧r≤1024:=by simpa [ba] using h
theorem fj (c r:Int) (w:World) (hp:Pow w) :
  Calls prog 142 #[.agg #[.int .i64 c,.int .i64 r]] w fun e w'=>e=.returned (.tuple #[.string ⟨(bG c r).1.toArray⟩,.int .i64 (bG c r).2])∧Below w.heap.size w w':=by
 have HP:=Lib.hid hp
 clear hp
 cases hv:ba c r
 ·rw [iM c r hv]
  have H:=Lib.hid hv
  clear hv
  go_enter func142,ntmps142
  go_wp2_with fail
  refine (dG _ _ _).mono ?_
  rintro e w' ⟨rfl,hb⟩
  rw [H.out]
  have HB:=Lib.hid hb
  clear hb
  go_wp2_with fail
  go_ret2
  exact ⟨rfl,((Below.refl _ _).alloc (Nat.le_refl _) _).trans (HB.out.mono (by simp))⟩
 rw [gO c r hv]
 obtain ⟨h1,h2,h3,h4⟩:=ij hv
 have H:=Lib.hid hv
 clear hv
 go_enter func142,ntmps142
 go_wp2_with fail
 refine (dG _ _ _).mono ?_
 rintro e w1 ⟨rfl,hb⟩
 rw [H.out]
 have hc0:=hb.cell (p:=⟨w.heap.size,0,none⟩) (by simp)
 have hc1:=hb.cell (p:=⟨w.heap.size,1,none⟩) (by simp)
 have HB:=Lib.hid (((Below.refl w.heap.size w).alloc (Nat.le_refl _) _).trans (hb.mono (by simp)))
 clear hb
 go_wp2_with fail
 refine (lf _ _ (by omega) (by omega)).mono ?_
 rintro e w2 ⟨rfl,rfl⟩
 rw [show dj c=(aW c.toNat,0) from by unfold dj; rw [if_pos ⟨h1,h2⟩]]
 have hl:=gS c.toNat (by omega)
 generalize hlc:aW c.toNat=lc at hl ⊢
 have HLC:=Lib.hid hlc
 clear hlc
 go_wp2_with fail
 refine (yM _ (by omega) (by omega) _ (HP.out.below HB.out)).mono ?_
 rintro e w2 ⟨rfl,hb2⟩
 have hd:=oT r.toNat (by omega)
 generalize hlr:Lib.decDigits r.toNat=lr at hd ⊢
 have HLR:=Lib.hid hlr
 clear hlr
 have HB2:=Lib.hid (HB.out.trans (hb2.mono HB.out.size))
 clear hb2
 go_wp2_with fail
 go_ret2
 exact ⟨by rw [bytes_append,HLC.out,HLR.out]; rfl,HB2.out⟩
def sI (F:Fence) (m:Nat) (P:Program) (l:Nat) (os:List Nat) (xs:List Value) (J:List Value→World→Prop):Prop :=
 ∀ (pre:List Value) (x:Value) (W1:World),J pre W1→pre++[x] <+: xs→YieldAt F m P l #[x] W1 fun e W'=>e=.returned (.bool true)∧J (pre++[x]) W'∧∀ o∈os,W'.heap[o]?=W1.heap[o]?
def nf (F:Fence) (n:Nat) (P:Program) (gf:Nat) (lb:Array Value) (os:List Nat) (K:World→Prop) (xs:List Value) (w:World):Prop :=
 ∀ (l:Nat) (J:List Value→World→Prop) (W:World),(∀ pre W,J pre W→K W)→(∀ pre W,J pre W→J pre W.drew)→sI F (n - 1) P l os xs J→(∀ o∈os,W.heap[o]?=w.heap[o]?)→J [] W →
  CallsIn F n P gf (#[.func (.yield l) #[] #[]]++lb) W fun e W'=>(∃ v,e=.returned v)∧J xs W'
theorem gZ {F:Fence} {n:Nat} {P:Program} {g:Operand} {ps:Array Tmp} {assign body:Code} {Q:Exit→Act→World→Prop} {a:Act} {w:World}
  (hro:F.round=none) (h1:1≤n) {gf:Nat} {lb:Array Value} (hg:a.eval g=.func (.func gf) #[] lb) (hFg:F.fn gf) (eg:∀ args w,(callFunc gf args).run P w=.ok (.enter gf args) w)
  (xs:List Value) (hps:ps.size=1) (os:List Nat) (ho:∀ o∈os,o<w.heap.size) {K:World→Prop} (hseq:nf F (n - 1) P gf lb os K xs w)
  (I:List Value→World→Prop)
  (hIp:∀ pre W l ob ob',I pre W→w.heap.size≤l→W.heap[l]?=some ob→ob.isCells=false→I pre (W.putObj l ob'))
  (hIa:∀ pre W ob,I pre W→I pre (W.alloc ob)) (hId:∀ pre W,I pre W→I pre W.drew) (hIK:∀ pre W,I pre W→K W) (h0:I [] w) (a₁:Value→Act)
  (hassign:∀ (l:Nat) (x:Value) (W:World) (K:Act→World→Prop),K (a₁ x) W →
   assign.wpIn (F.inRound l) (n - 1 - 1) P (Exit.then K (fun _ _ _=>False)) { tmps:=(ps.zip #[x]).foldl (fun t (p,v)=>t.setIfInBounds p v) a.tmps,defers:=[] } W)
  (hbody:∀ (l:Nat) (pre:List Value) (x:Value) (W:World),w.heap.size≤l→I pre W→(∀ o∈os,o<W.heap.size)→pre++[x] <+: xs →
   body.wpIn (F.inRound l) (n - 1 - 1) P (wC fun W'=>KeepsFrom w.heap.size W W'∧I (pre++[x]) W'∧∀ o∈os,W'.heap[o]?=W.heap[o]?) (a₁ x) W)
  (hdone:∀ (D:Nat) (W:World),w.heap.size≤D→I xs W→W.heap[D]?=some (.deferred (some []))→Q .normal { a with defers:={ target:=.collected D,args:=#[] }::a.defers } W) :
  (Code.rangeFunc g ps assign body).wpIn F n P Q a w:=by
 refine wpIn_rangeFunc fun fn hfn => ?_
 rw [hro]
 obtain ⟨L,hL⟩:∃ L:LoopState→Option Code→Loop,L=fun st pe=>{ state:=st,pending:=pe,fn,tmps:=a.tmps,params:=ps,assign,body,defers:=w.heap.size }:=⟨_,rfl⟩
 obtain ⟨W1,hW1⟩:=ex ((w.alloc (.deferred (some []))).alloc (.loop (L .ready none)))
 have hl:W1.heap[w.heap.size+1]?=some (.loop (L .ready none)):=by
  rw [← hW1]
  have:=World.alloc_heap_new (w.alloc (.deferred (some []))) (.loop (L .ready none))
  rwa [World.size_alloc] at this
 have hd:W1.heap[w.heap.size]?=some (.deferred (some [])):=by
  rw [← hW1]
  exact (Below.heap_alloc _ _ _ (by simp)).trans (World.alloc_heap_new w _)
 have hoo:∀ o∈os,W1.heap[o]?=w.heap[o]?:=by
  intro o hox
  have hlt:=ho o hox
  rw [← hW1]
  exact (Below.heap_alloc _ _ _ (by simp; omega)).trans (Below.heap_alloc w _ _ hlt)
 refine ⟨w.heap.size+1,[{ target:=.collected w.heap.size,args:=#[] }],W1,{ target:=.fn (.func gf) lb,args:=#[.func (.yield (w.heap.size+1)) #[] #[]] },W1,gf,
  #[.func (.yield (w.heap.size+1)) #[] #[]]++lb,W1,?_,?_,?_,?_,fun _=>h1,?_⟩
 ·rw [← hW1,hL]
  exact run_enterLoop_outer _ _ _ _ _
 ·simp only [resolve,hg]
  simp [go_sem]
 ·intro f' hf'
  simp [Target.leads] at hf'
  subst hf'
  exact hFg
 ·simp [invoke,go_sem,eg]
 refine (hseq (w.heap.size+1) (fun pre W=>I pre W∧W.heap[w.heap.size+1]?=some (.loop (L .ready none))∧W.heap[w.heap.size]?=some (.deferred (some []))∧∀ o∈os,o<W.heap.size) W1
  (fun pre W h=>hIK pre W h.1)
  (fun pre W h=>⟨hId pre W h.1,h.2⟩) ?_ hoo ⟨by rw [← hW1]; exact hIa _ _ _ (hIa _ _ _ h0),hl,hd,fun o hox=>by have:=ho o hox; rw [← hW1]; simp; omega⟩).mono ?_
 ·rintro pre x W ⟨hi,hl,hd,hoW⟩ hpx
  have hlt:w.heap.size+1<W.heap.size:=(Array.getElem?_eq_some_iff.1 hl).1
  have hy:=run_yield (P:=P) (args:=#[x]) hl (by rw [hL]; exact hps.symm)
  rw [hL] at hy
  refine ⟨fn,_,assign,body,hy,roundIn_of_wpIn hfn (hassign _ x W _ ⟨_,run_beginRound hl (by rw [hL]),?_⟩)⟩
  clear hy
  have hl2:(W.putObj (w.heap.size+1) (.loop { L .ready none with state:=.busy })).heap[w.heap.size+1]?=some (.loop { L .ready none with state:=.busy }):=World.putObj_heap_same hlt
  have hd2:(W.putObj (w.heap.size+1) (.loop { L .ready none with state:=.busy })).heap[w.heap.size]?=some (.deferred (some [])):=(World.putObj_heap_other (by omega)).trans hd
  have ho2:∀ o∈os,(W.putObj (w.heap.size+1) (.loop { L .ready none with state:=.busy })).heap[o]?=W.heap[o]?:=fun o hox=>World.putObj_heap_other (by have:=ho o hox; omega)
  refine wpIn_mono (hbody _ pre x _ (by omega) (hIp _ _ _ _ _ hi (by omega) hl rfl) (fun o hox=>by simpa using hoW o hox) hpx) ?_
  rintro e a3 W3 hp
  cases e with
  | normal =>
   obtain ⟨hk3,hi3,ho3⟩:=hp
   have hl3:=hk3.same _ _ (by omega) hl2 rfl
   have hd3:=hk3.same _ _ (Nat.le_refl _) hd2 rfl
   have hr:=run_endRound (P:=P) none hl3
   have hoW3:∀ o∈os,o<W3.heap.size:=fun o hox=>Nat.lt_of_lt_of_le (by simpa using hoW o hox) hk3.size
   refine ⟨_,_,hr,rfl,⟨hIp _ _ _ _ _ hi3 (by omega) hl3 rfl,?_,(World.putObj_heap_other (by omega)).trans hd3,fun o hox=>by simpa using hoW3 o hox⟩,fun o hox=>(World.putObj_heap_other (by have:=ho o hox; omega)).trans ((ho3 o hox).trans (ho2 o hox))⟩
   rw [World.putObj_heap_same (Array.getElem?_eq_some_iff.1 hl3).1,hL]
   rfl
  | ret=>exact hp.elim
  | exit id=>exact hp.elim
  | goto t=>exact hp.elim
  | panic ch=>exact hp.elim
  | outgrown=>exact hp.elim
 rintro e W2 ⟨⟨v,rfl⟩,hi,hl,hd,_⟩
 have hr:=run_endLoop (P:=P) hl (by rw [hL]; simp)
 rw [show (L .ready none).pending=none from by rw [hL]] at hr
 exact ⟨none,_,hr,hdone _ _ (Nat.le_refl _) (hIp _ _ _ _ _ hi (by omega) hl rfl) ((World.putObj_heap_other (by omega)).trans hd)⟩
theorem rU:(prog.globals[4]?).map (·.type)=some 260:=by kernel_rfl
theorem qo:prog.cellsOf 260=20:=by kernel_rfl
theorem qG:prog.cellsOf 143=1:=by kernel_rfl
theorem nW {W : World} (h : laidMet prog [("internal/strconv.uint64pow10", Lib.tabData .u64 Lib.pow10Tab)] W) : Pow W :=
 Lib.tabIs_of_head x7 rU underlying260 underlying143 qG qo h
theorem qp:(Rows.laid_internal_strconv_uint64pow10:DataW Unit)=Lib.tabData .u64 Lib.pow10Tab:=by kernel_rfl
theorem mH {W:World} {l:List (String×DataW Unit)} (h:laidMetH prog l W)
  (hl : l.filter (fun x => x.1 == "internal/strconv.uint64pow10") = [("internal/strconv.uint64pow10", Rows.laid_internal_strconv_uint64pow10)]) : Pow W := by
 have h2 := h.filter (fun x => x.1 == "internal/strconv.uint64pow10")
 rw [hl,qp] at h2
 exact nW h2
