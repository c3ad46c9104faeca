/- Plain: nodes of any kind, and what tree.Check says of them. No program stands here. show.signs: the map of the operators. Plain: the nodes of an accepted list of tokens are such as a formula may hold. -/
import Derived.Test.YtdplcdhpnmcdjaaGreatDoorKTreA
import Derived.Test.YtdplcdhpnmcdjaaGreatDoorKParK
import Derived.Test.YtdplcdhpnmcdjaaGreatDoorKTg
import Derived.Test.YtdplcdhpnmcdjaaGreatDoorKLexP
namespace Go.Proofs.YtdplcdhpnmcdjaaGreatDoor
open Go.RowKit
structure NdA where
 kind:Nat
 vk:Nat
 vn:Int
 vt:List UInt8
 r:R4
 op:Int
 fn:Nat
 n:Int
def NdA.nd (a:NdA):Nd:=⟨a.kind,a.vk,a.vn,a.vt,a.r,a.op,a.fn,a.n.toNat⟩
def dv (a:NdA):List Value:=[.int .u8 a.kind,.int .u8 a.vk,.int .i64 a.vn,.string ⟨a.vt.toArray⟩,.int .i64 a.r.c1,.int .i64 a.r.r1,.int .i64 a.r.c2,.int .i64 a.r.r2,.int .i64 a.op,.int .u8 a.fn,.int .i64 a.n]
def aA (a:NdA):Value:=.agg (dv a).toArray
def Nd.any (n:Nd):NdA:=⟨n.kind,n.vk,n.vn,n.vt,n.r,n.op,n.fn,(n.n:Int)⟩
theorem jg (n:Nd):n.any.nd=n:=by obtain ⟨a,b,c,d,e,f,g,h⟩:=n; rfl
def noV (a:NdA):Prop:=a.vk=0∧a.vn=0∧a.vt=[]
def noE (a:NdA):Prop:=a.op=0∧a.fn=0∧a.n=0
def okA (a:NdA):Prop :=
 (a.kind=1∧eW a.vk a.vn a.vt∧a.r=R4.zero∧noE a) ∨
 (a.kind=2∧noV a∧aG a.r=true∧(a.r.c1=a.r.c2∧a.r.r1=a.r.r2)∧noE a) ∨
 (a.kind=3∧noV a∧aG a.r=true∧¬ (a.r.c1=a.r.c2∧a.r.r1=a.r.r2)∧noE a) ∨
 ((a.kind=4∨a.kind=5)∧noV a∧a.r=R4.zero∧noE a) ∨
 (a.kind=6∧noV a∧a.r=R4.zero∧(1≤a.op∧a.op≤12)∧a.fn=0∧a.n=0) ∨
 (a.kind=7∧noV a∧a.r=R4.zero∧a.op=0∧0≤a.n)
open Classical in
noncomputable def ay (a:NdA):Int :=
 if okA a then (if a.kind=7 then (if a.fn=0∨50<a.fn then 10 else if a.n<((arS a.fn).1:Nat)∨((arS a.fn).2:Nat)<a.n then 11 else 0) else 0) else 2
theorem aN {a:NdA} (h:¬ okA a):ay a=2:=if_neg h
theorem bl {a:NdA} (h:okA a) (h7:a.kind≠7):ay a=0:=by unfold ay; rw [if_pos h,if_neg h7]
theorem kA {a:NdA} (h:okA a) (h7:a.kind=7) (hf:a.fn=0∨50<a.fn):ay a=10:=by unfold ay; rw [if_pos h,if_pos h7,if_pos hf]
theorem gr {a:NdA} (h:okA a) (h7:a.kind=7) (hf:¬ (a.fn=0∨50<a.fn)) (hn:a.n<((arS a.fn).1:Nat)∨((arS a.fn).2:Nat)<a.n):ay a=11:=by
 unfold ay; rw [if_pos h,if_pos h7,if_neg hf,if_pos hn]
theorem jy {a:NdA} (h:okA a) (h7:a.kind=7) (hf:¬ (a.fn=0∨50<a.fn)) (hn:¬ (a.n<((arS a.fn).1:Nat)∨((arS a.fn).2:Nat)<a.n)):ay a=0:=by
 unfold ay; rw [if_pos h,if_pos h7,if_neg hf,if_neg hn]
theorem dX {a:NdA} (h:ay a=0):aL a.nd∧0≤a.n∧a=a.nd.any:=by
 by_cases hok:okA a
 ·obtain ⟨k,vk,vn,vt,r,op,fn,n⟩:=a
  have key:aL (NdA.nd ⟨k,vk,vn,vt,r,op,fn,n⟩)∧0≤n:=by
   rcases hok with ⟨h1,hv,h2,h3,h4,h5⟩ | ⟨h1,⟨a1,a2,a3⟩,h2,h3,b1,b2,b3⟩ | ⟨h1,⟨a1,a2,a3⟩,h2,h3,b1,b2,b3⟩ | ⟨h1,⟨a1,a2,a3⟩,h2,b1,b2,b3⟩ | ⟨h1,⟨a1,a2,a3⟩,h2,h3,b2,b3⟩ | ⟨h1,⟨a1,a2,a3⟩,h2,b1,b3⟩
   ·simp only [] at h1 hv h2 h3 h4 h5
    subst h1 h2 h3 h4 h5
    exact ⟨.inl ⟨vk,vn,vt,rfl,hv⟩,Int.le_refl _⟩
   ·simp only [] at h1 a1 a2 a3 h2 h3 b1 b2 b3
    subst h1 a1 a2 a3 b1 b2 b3
    exact ⟨.inr (.inl ⟨r,rfl,h2,h3.1,h3.2⟩),Int.le_refl _⟩
   ·simp only [] at h1 a1 a2 a3 h2 h3 b1 b2 b3
    subst h1 a1 a2 a3 b1 b2 b3
    exact ⟨.inr (.inr (.inl ⟨r,rfl,h2,h3⟩)),Int.le_refl _⟩
   ·simp only [] at h1 a1 a2 a3 h2 b1 b2 b3
    subst a1 a2 a3 h2 b1 b2 b3
    rcases h1 with rfl | rfl
    ·exact ⟨.inr (.inr (.inr (.inl rfl))),Int.le_refl _⟩
    exact ⟨.inr (.inr (.inr (.inr (.inl rfl)))),Int.le_refl _⟩
   ·simp only [] at h1 a1 a2 a3 h2 h3 b2 b3
    subst h1 a1 a2 a3 h2 b2 b3
    exact ⟨.inr (.inr (.inr (.inr (.inr (.inl ⟨op,rfl,h3.1,h3.2⟩))))),Int.le_refl _⟩
   simp only [] at h1 a1 a2 a3 h2 b1 b3
   subst h1 a1 a2 a3 h2 b1
   by_cases hf:fn=0∨50<fn
   ·rw [kA (.inr (.inr (.inr (.inr (.inr ⟨rfl,⟨rfl,rfl,rfl⟩,rfl,rfl,b3⟩))))) rfl hf] at h
    exact absurd h (by decide)
   by_cases hn:n<((arS fn).1:Nat)∨((arS fn).2:Nat)<n
   ·rw [gr (.inr (.inr (.inr (.inr (.inr ⟨rfl,⟨rfl,rfl,rfl⟩,rfl,rfl,b3⟩))))) rfl hf hn] at h
    exact absurd h (by decide)
   exact ⟨.inr (.inr (.inr (.inr (.inr (.inr ⟨fn,n.toNat,rfl,by omega,by omega,by omega,by omega⟩))))),b3⟩
  refine ⟨key.1,key.2,?_⟩
  have h2:0≤n:=key.2
  have:((n.toNat:Nat):Int)=n:=by omega
  unfold Nd.any NdA.nd
  simp only [this]
 rw [aN hok] at h
 exact absurd h (by decide)
theorem ft {n:Nd} (h:aL n):ay n.any=0:=by
 rcases h with ⟨vk,vn,vt,rfl,hv⟩ | ⟨r,rfl,h1,h2,h3⟩ | ⟨r,rfl,h1,h2⟩ | rfl | rfl | ⟨op,rfl,h1,h2⟩ | ⟨fn,k,rfl,h1,h2,h3,h4⟩
 ·exact bl (.inl ⟨rfl,hv,rfl,rfl,rfl,rfl⟩) (by decide:(1:Nat)≠7)
 ·exact bl (.inr (.inl ⟨rfl,⟨rfl,rfl,rfl⟩,h1,⟨h2,h3⟩,rfl,rfl,rfl⟩)) (by decide:(2:Nat)≠7)
 ·exact bl (.inr (.inr (.inl ⟨rfl,⟨rfl,rfl,rfl⟩,h1,h2,rfl,rfl,rfl⟩))) (by decide:(3:Nat)≠7)
 ·exact bl (.inr (.inr (.inr (.inl ⟨.inl rfl,⟨rfl,rfl,rfl⟩,rfl,rfl,rfl,rfl⟩)))) (by decide:(4:Nat)≠7)
 ·exact bl (.inr (.inr (.inr (.inl ⟨.inr rfl,⟨rfl,rfl,rfl⟩,rfl,rfl,rfl,rfl⟩)))) (by decide:(5:Nat)≠7)
 ·exact bl (.inr (.inr (.inr (.inr (.inl ⟨rfl,⟨rfl,rfl,rfl⟩,rfl,⟨h1,h2⟩,rfl,rfl⟩))))) (by decide:(6:Nat)≠7)
 refine jy (.inr (.inr (.inr (.inr (.inr ⟨rfl,⟨rfl,rfl,rfl⟩,rfl,rfl,?_⟩))))) rfl ?_ ?_
 ·show (0:Int)≤(k:Int); omega
 ·show ¬ (fn=0∨50<fn); omega
 show ¬ ((k:Int)<((arS fn).1:Nat)∨((arS fn).2:Nat)<(k:Int)); omega
noncomputable def c8 (T:List Nd):Nat→List NdA→List Pt→Except Int (List Pt)
 | _,[],st=>.ok st
 | i,a::l,st=>if ay a≠0 then .error (ay a) else match stepW T st i a.nd with
  | .error e=>.error e
  | .ok st2=>c8 T (i+1) l st2
noncomputable def ci (t:List NdA):Int:=match c8 (t.map NdA.nd) 0 t [] with
 | .error e=>e
 | .ok st=>if st.length=1 then 0 else 4
noncomputable def aI (t:List NdA):Int :=
 if 256<t.length then 5 else if t=[] then 4 else if ci t≠0 then ci t else if t.getLast?.map (·.kind)=some 3 then 4 else 0
theorem gG (T:List Nd):∀ (l:List NdA) (i:Nat) (st:List Pt),(∀ a∈l,ay a=0)→c8 T i l st=dT T i (l.map NdA.nd) st
 | [],_,_,_=>rfl
 | a::l,i,st,h=>by
  rw [c8,List.map_cons,dT,if_neg (by rw [h a (by simp)]; decide)]
  cases stepW T st i a.nd with
  | error e=>rfl
  | ok st2=>exact gG T l (i+1) st2 fun x hx=>h x (by simp [hx])
theorem m7 (T:List Nd):∀ (l:List NdA) (i:Nat) (st st2:List Pt),c8 T i l st=.ok st2→∀ a∈l,ay a=0
 | [],_,_,_,_=>by simp
 | a::l,i,st,st2,h=>by
  rw [c8] at h
  by_cases h0:ay a=0
  ·rw [if_neg (by rw [h0]; decide)] at h
   cases hs:stepW T st i a.nd with
   | error e=>rw [hs] at h; cases h
   | ok s1 =>
    rw [hs] at h
    intro x hx
    rcases List.mem_cons.1 hx with rfl | hx
    ·exact h0
    exact m7 T l (i+1) s1 st2 h x hx
  rw [if_pos h0] at h; cases h
theorem kW (T:List Nd):∀ (l:List NdA) (i:Nat) (st:List Pt) (c:Int),c8 T i l st=.error c→c≠0
 | [],_,_,_,h=>by rw [c8] at h; cases h
 | a::l,i,st,c,h=>by
  rw [c8] at h
  by_cases h0:ay a=0
  ·rw [if_neg (by rw [h0]; decide)] at h
   cases hs:stepW T st i a.nd with
   | error e =>
    rw [hs] at h
    injection h with h
    subst h
    unfold stepW at hs
    split at hs
    ·injection hs with hs; omega
    split at hs
    ·injection hs with hs; omega
    split at hs
    ·injection hs with hs; omega
    cases hs
   | ok s1=>rw [hs] at h; exact kW T l (i+1) s1 c h
  rw [if_pos h0] at h
  injection h with h
  rw [← h]; exact h0
theorem m6 {t:List NdA} (h:ci t=0):∃ st,c8 (t.map NdA.nd) 0 t []=.ok st∧st.length=1:=by
 unfold ci at h
 cases hw:c8 (t.map NdA.nd) 0 t [] with
 | error c=>rw [hw] at h; exact absurd h (kW _ _ _ _ _ hw)
 | ok st =>
  rw [hw] at h
  refine ⟨st,rfl,?_⟩
  simp only [] at h
  split at h
  ·assumption
  exact absurd h (by decide)
theorem m5 {t:List NdA} (h:∀ a∈t,ay a=0):ci t=kV (t.map NdA.nd):=by
 unfold ci kV
 rw [gG _ _ _ _ h]
 cases dT (t.map NdA.nd) 0 (t.map NdA.nd) [] <;> rfl
theorem iJ {t:List NdA} (h:∀ a∈t,ay a=0):aI t=dp (t.map NdA.nd):=by
 unfold aI dp
 rw [m5 h,List.length_map,List.getLast?_map,Option.map_map]
 have e:(t=[])=(t.map NdA.nd=[]):=by simp
 simp only [e]
 rfl
theorem fk {t:List NdA} (h:aI t=0):(∀ a∈t,ay a=0)∧dp (t.map NdA.nd)=0∧t≠[]∧t.length≤256∧∃ p,c8 (t.map NdA.nd) 0 t []=.ok [p]:=by
 have h1:¬ 256<t.length:=by intro g; unfold aI at h; rw [if_pos g] at h; exact absurd h (by decide)
 have h2:¬ t=[]:=by intro g; unfold aI at h; rw [if_neg h1,if_pos g] at h; exact absurd h (by decide)
 have h3:ci t=0:=by
  apply Classical.byContradiction
  intro g
  unfold aI at h
  rw [if_neg h1,if_neg h2,if_pos g] at h
  exact g h
 obtain ⟨st,hw,hl⟩:=m6 h3
 have hg:=m7 _ _ _ _ _ hw
 refine ⟨hg,by rw [← iJ hg]; exact h,h2,by omega,?_⟩
 obtain ⟨p,rfl⟩:=List.length_eq_one_iff.1 hl
 exact ⟨p,hw⟩
theorem lB (l:List Nd):(l.map Nd.any).map NdA.nd=l:=by
 rw [List.map_map]
 conv=>rhs; rw [← List.map_id l]
 exact List.map_congr_left fun n _=>jg n
theorem gm {l:List Nd} (h:∀ n∈l,aL n):aI (l.map Nd.any)=dp l:=by
 rw [iJ,lB]
 intro a ha
 obtain ⟨n,hn,rfl⟩:=List.mem_map.1 ha
 exact ft (h n hn)
set_option maxRecDepth 100000
set_option maxHeartbeats 4000000
open Go.RowKit Go.Proofs.Tryz
def sgT:List (List UInt8):=[[43],[45],[42],[47],[94],[38],[61],[60,62],[60],[60,61],[62],[62,61]]
def sgE (n:Nat):Array MapEntry:=((List.range n).map fun i=>{ key:=.int .i64 ((i+1:Nat):Int),val:=.string ⟨(sgT[i]?.getD []).toArray⟩,born:=i }).toArray
theorem bB:prog.underlying 114=some (.map 2 9):=by kernel_rfl
theorem bA:prog.underlying 2=some (.int .i64):=by kernel_rfl
theorem Ab (n:Nat) (k:Int) (s:ByteArray) (h:(sgE n).push { key:=.int .i64 k,val:=.string s,born:=n }=sgE (n+1):=by rfl) (hf:Instr.findNow (.int .i64) (.int .i64 k) (sgE n).toList 0=some none:=by rfl) (w:World) :
  (Instr.mapUpdate 114 (.map (some w.heap.size)) (.int .i64 k) (.string s)).run prog (w.alloc (.map (sgE n) n))=.ok () (w.alloc (.map (sgE (n+1)) (n+1))):=by
 rw [← h]
 exact bb _ _ _ _ bB bA _ _ _ _ (by simp [MapKept.IsKey]) hf w
theorem oo (w:World) :
  Calls prog 90 #[] w fun e w'=>e=.returned (.map (some w.heap.size))∧w'=w.alloc (.map (sgE 12) 12):=by
 have hmm:=@run_makeMap prog
 have g1:=Ab 0 1 { data:=#[43] }
 rw [show sgE 0=#[] from rfl] at g1
 have g2:=Ab 1 2 { data:=#[45] }
 have g3:=Ab 2 3 { data:=#[42] }
 have g4:=Ab 3 4 { data:=#[47] }
 have g5:=Ab 4 5 { data:=#[94] }
 have g6:=Ab 5 6 { data:=#[38] }
 have g7:=Ab 6 7 { data:=#[61] }
 have g8:=Ab 7 8 { data:=#[60,62] }
 have g9:=Ab 8 9 { data:=#[60] }
 have g10:=Ab 9 10 { data:=#[60,61] }
 have g11:=Ab 10 11 { data:=#[62] }
 have g12:=Ab 11 12 { data:=#[62,61] }
 go_enter func90,ntmps90
 go_wp2_with fail
 go_ret
 exact ⟨rfl,rfl⟩
theorem vi (op:Int) (h1:1≤op) (h12:op≤12) (r:Nat) (w:World) (hb:w.heap[r]?=some (.map (sgE 12) 12)):(Instr.lookup 114 (.map (some r)) (.int .i64 op) false).run prog w=.ok (.string ⟨(fA op).toArray⟩) w:=by
 have h:op=1∨op=2∨op=3∨op=4∨op=5∨op=6∨op=7∨op=8∨op=9∨op=10∨op=11∨op=12:=by omega
 rcases h with rfl | rfl | rfl | rfl | rfl | rfl | rfl | rfl | rfl | rfl | rfl | rfl
 all_goals first | exact cG (i:=0) _ _ _ _ bB bA hb _ _ (by simp [MapKept.IsKey]) rfl | exact cG (i:=1) _ _ _ _ bB bA hb _ _ (by simp [MapKept.IsKey]) rfl | exact cG (i:=2) _ _ _ _ bB bA hb _ _ (by simp [MapKept.IsKey]) rfl | exact cG (i:=3) _ _ _ _ bB bA hb _ _ (by simp [MapKept.IsKey]) rfl | exact cG (i:=4) _ _ _ _ bB bA hb _ _ (by simp [MapKept.IsKey]) rfl | exact cG (i:=5) _ _ _ _ bB bA hb _ _ (by simp [MapKept.IsKey]) rfl | exact cG (i:=6) _ _ _ _ bB bA hb _ _ (by simp [MapKept.IsKey]) rfl | exact cG (i:=7) _ _ _ _ bB bA hb _ _ (by simp [MapKept.IsKey]) rfl | exact cG (i:=8) _ _ _ _ bB bA hb _ _ (by simp [MapKept.IsKey]) rfl | exact cG (i:=9) _ _ _ _ bB bA hb _ _ (by simp [MapKept.IsKey]) rfl | exact cG (i:=10) _ _ _ _ bB bA hb _ _ (by simp [MapKept.IsKey]) rfl | exact cG (i:=11) _ _ _ _ bB bA hb _ _ (by simp [MapKept.IsKey]) rfl
theorem lC {t:Tk} {n:Int} {x:List UInt8} {r:R4} (h:cT { t with num:=n,text:=x,r:=r }=true):n=0∧x=[]∧r=R4.zero:=by
 obtain ⟨a,b,c,d⟩:=r
 simp only [cT,Bool.and_eq_true,decide_eq_true_eq,List.isEmpty_iff] at h
 obtain ⟨⟨h1,h2⟩,h3,h4,h5,h6⟩:=h
 subst h1 h2 h3 h4 h5 h6
 exact ⟨rfl,rfl,rfl⟩
theorem u0 {t:Tk} (h:okT t=true):1≤t.kind∧t.kind≤11:=by
 unfold okT at h
 repeat' split at h
 all_goals first | omega | (simp only [Bool.and_eq_true,decide_eq_true_eq] at h; omega)
theorem wT {t:Tk} (h:okT t=true) (h1:1≤t.kind) (h4:t.kind≤4):aL (o6 t):=by
 obtain ⟨k,n,x,r,a⟩:=t
 simp only [] at h1 h4
 have hk:k=1∨k=2∨k=3∨k=4:=by omega
 unfold okT at h
 rcases hk with rfl | rfl | rfl | rfl
 ·simp only [if_true,Bool.and_eq_true,decide_eq_true_eq] at h
  obtain ⟨h2,h3⟩:=h
  obtain ⟨-,rfl,-⟩:=lC (t:=⟨1,n,x,r,a⟩) h3
  exact .inl ⟨1,n,[],rfl,.inl ⟨rfl,h2,rfl⟩⟩
 ·simp only [Nat.reduceEqDiff,if_false,if_true,Bool.and_eq_true,decide_eq_true_eq] at h
  obtain ⟨⟨⟨h2,h3⟩,-⟩,h5⟩:=h
  exact .inl ⟨3,0,x,rfl,.inr (.inr (.inl ⟨rfl,rfl,h3,h2⟩))⟩
 ·simp only [Nat.reduceEqDiff,if_false,if_true,Bool.and_eq_true,decide_eq_true_eq] at h
  obtain ⟨h2,h3⟩:=h
  obtain ⟨-,rfl,-⟩:=lC (t:=⟨3,n,x,r,a⟩) h3
  exact .inl ⟨2,n,[],rfl,.inr (.inl ⟨rfl,h2,rfl⟩)⟩
 simp only [Nat.reduceEqDiff,if_false,if_true,Bool.and_eq_true,decide_eq_true_eq] at h
 obtain ⟨h2,h3⟩:=h
 obtain ⟨-,rfl,-⟩:=lC (t:=⟨4,n,x,r,a⟩) h3
 exact .inl ⟨4,n,[],rfl,.inr (.inr (.inr ⟨rfl,h2,rfl⟩))⟩
theorem wS {t:Tk} (h:okT t=true) (h5:t.kind=5):aL (eu t.r):=by
 obtain ⟨k,n,x,r,a⟩:=t
 simp only [] at h5
 subst h5
 simp only [okT,Nat.reduceEqDiff,if_false,if_true,Bool.and_eq_true,mx,decide_eq_true_eq] at h
 exact .inr (.inl ⟨r,rfl,h.1.1,h.1.2⟩)
theorem mw {t:Tk} (h:okT t=true) (h6:t.kind=6):aL (cj t.r):=by
 obtain ⟨k,n,x,r,a⟩:=t
 simp only [] at h6
 subst h6
 simp only [okT,Nat.reduceEqDiff,if_false,if_true,Bool.and_eq_true,mx,Bool.not_eq_true',decide_eq_false_iff_not] at h
 exact .inr (.inr (.inl ⟨r,rfl,h.1.1,h.1.2⟩))
theorem ya {t:Tk} (h:okT t=true) (h8:t.kind=8):1≤t.num∧t.num≤13:=by
 obtain ⟨k,n,x,r,a⟩:=t
 simp only [] at h8
 subst h8
 simp only [okT,Nat.reduceEqDiff,if_false,if_true,Bool.and_eq_true,decide_eq_true_eq] at h
 exact h.1
def okM:Md→Prop
 | .ops k=>k≤4
 | _=>True
theorem Pk.sub {m:Md} {ts u:List Tk} {ns:List Nd} {n:Nat} (h:Pk m ts u ns n):∀ t∈u,t∈ts:=by
 obtain ⟨c,rfl,_⟩:=h.soft
 intro t ht
 simp [ht]
theorem io {ns:List Nd} {x:Nd} (h:∀ y∈ns,aL y) (hx:aL x):∀ y∈ns++[x],aL y:=by
 intro y hy
 rcases List.mem_append.1 hy with hy | hy
 ·exact h y hy
 simp at hy; subst hy; exact hx
theorem fq {ns ms:List Nd} (h:∀ y∈ns,aL y) (g:∀ y∈ms,aL y):∀ y∈ns++ms,aL y:=by
 intro y hy
 rcases List.mem_append.1 hy with hy | hy
 ·exact h y hy
 exact g y hy
theorem em {ms:List Nd} {x:Nd} (hx:aL x) (g:∀ y∈ms,aL y):∀ y∈x::ms,aL y:=by
 intro y hy
 rcases List.mem_cons.1 hy with rfl | hy
 ·exact hx
 exact g y hy
theorem mi {op:Int} (h1:1≤op) (h2:op≤12):aL (cN op):=.inr (.inr (.inr (.inr (.inr (.inl ⟨op,rfl,h1,h2⟩)))))
theorem ry:aL fz:=.inr (.inr (.inr (.inl rfl)))
theorem rz:aL dt:=.inr (.inr (.inr (.inr (.inl rfl))))
theorem Pk.good {m:Md} {ts u:List Tk} {ns:List Nd} {n:Nat} (h:Pk m ts u ns n):okM m→(∀ t∈ts,okT t=true)→∀ x∈ns,aL x:=by
 induction h with
 | lv5 _ _ ih=>intro _ hg; exact ih trivial hg
 | lv hk h _ ih1 ih2 =>
  intro _ hg
  exact fq (ih1 trivial hg) (ih2 (by simp only [okM]; omega) fun t ht=>hg t (h.sub t ht))
 | nil=>intro _ _; simp
 | stop=>intro _ _; simp
 | @op k t ts u v ns ms n m h8 hk h _ ih1 ih2 =>
  intro hm hg
  simp only [okM] at hm
  have ht:=ya (hg t (by simp)) h8
  have h13:t.num≠13:=by
   intro e
   rw [e] at hk
   simp [aT] at hk
   omega
  exact fq (ih1 trivial fun t ht=>hg t (by simp [ht])) (em (mi ht.1 (by omega)) (ih2 hm fun t ht=>hg t (by simp [h.sub t ht])))
 | neg _ _ _ ih=>intro _ hg; exact io (ih trivial fun t ht=>hg t (by simp [ht])) ry
 | bare _ _ _ ih=>intro _ hg; exact ih trivial hg
 | pow _ h _ _ _ ih1 ih2 =>
  intro _ hg
  exact fq (ih1 trivial hg) (io (ih2 trivial fun t ht=>hg t (h.sub t (by simp [ht]))) (mi (by decide) (by decide)))
 | pc _ ih =>
  intro _ hg
  refine fq (ih trivial hg) fun y hy => ?_
  rw [(List.mem_replicate.1 hy).2]
  exact rz
 | val h1 h4=>intro _ hg; exact em (wT (hg _ (by simp)) h1 h4) (by simp)
 | ref h5=>intro _ hg; exact em (wS (hg _ (by simp)) h5) (by simp)
 | par _ _ _ ih=>intro _ hg; exact ih trivial fun t ht=>hg t (by simp [ht])
 | @call t o c ts u ns n h7 hf ho h hc h1 h2 hd ih =>
  intro _ hg
  have:=rx t.text
  refine io (ih trivial fun t ht=>hg t (by simp [ht])) (.inr (.inr (.inr (.inr (.inr (.inr ⟨_,n,rfl,by omega,this,h1,h2⟩))))))
 | argE _ _ _ ih=>intro _ hg; exact ih trivial hg
 | argC _ h _ _ ih1 ih2=>intro _ hg; exact fq (ih1 trivial hg) (ih2 trivial fun t ht=>hg t (h.sub t (by simp [ht])))
 | rngE h6=>intro _ hg; exact em (mw (hg _ (by simp)) h6) (by simp)
 | rngC h6 _ _ _ ih=>intro _ hg; exact em (mw (hg _ (by simp)) h6) (ih trivial fun t ht=>hg t (by simp [ht]))
theorem Lex.len {k:Nat} {u:List UInt8} {l:List Tk} {y:List UInt8} (h:Lex k u l y):l.length≤u.length:=by
 induction h with
 | nil=>simp
 | blank _ ih=>simp; omega
 | tok _ _ ih=>simp; omega
theorem fZ {L:List UInt8} {ts:List Tk} {a:Int} (h:aM L=(ts,a,0)):a=0∧L.length≤256∧(∀ b∈L,aj b=true)∧Lex 0 L ts []:=by
 unfold aM at h
 split at h
 ·simp at h
 rename_i h256
 split at h
 ·simp at h
 rename_i hf
 split at h
 ·rename_i l hl
  simp only [Prod.mk.injEq,and_true] at h
  obtain ⟨rfl,rfl⟩:=h
  refine ⟨rfl,by omega,?_,(se _ _ _ _ (Nat.le_refl _)).1 hl⟩
  intro b hb
  have:=List.findIdx?_eq_none_iff.1 hf b hb
  simpa using this
 simp at h
theorem fJ {L:List UInt8} {ts:List Tk} {a:Int} (h:aM L=(ts,a,0)):∀ t∈ts,okT t=true:=by
 obtain ⟨_,h1,h2,h3⟩:=fZ h
 exact h3.ok (by simpa using h1) (by simpa using h2)
def kB (e:Nat):Rs→List Nd×Int×Int
 | .bad a c=>([],a,c)
 | .ok u ns _=>if hkS u≠0 then ([],(hdS e u).at_,4) else if dp ns≠0 then ([],0,dp ns) else (ns,0,0)
def rS (l:List UInt8) (ts:List Tk):Option Rs:=ap l.length (12 * ts.length+bM (.lv 1)) (.lv 1) ts
def bo (l:List UInt8):List Nd×Int×Int :=
 if (aM l).2.2≠0 then ([],(aM l).2.1,(aM l).2.2)
 else match rS l (aM l).1 with
  | none=>([],0,0)
  | some r=>kB l.length r
theorem mg {L:List UInt8} {ts:List Tk} {a e:Int} (h:aM L=(ts,a,e)) (he:e≠0):bo L=([],a,e):=by
 unfold bo
 rw [h,if_pos he]
theorem oX {L:List UInt8} {ts:List Tk} {a:Int} (h:aM L=(ts,a,0)):∃ r,rS L ts=some r∧bo L=kB L.length r:=by
 obtain ⟨r,hr⟩:=bJ (e:=L.length) (12 * ts.length+bM (.lv 1)) (.lv 1) ts (Nat.le_refl _) (by rintro k ⟨⟩; omega) (by simp)
 refine ⟨r,hr,?_⟩
 unfold bo
 rw [h,if_neg (by simp)]
 simp only [rS,hr]
theorem rA {u:List Tk} (h:∀ t∈u,okT t=true):hkS u≠0↔u≠[]:=by
 cases u with
 | nil=>simp [hkS]
 | cons t u =>
  have:=u0 (h t (by simp))
  simp only [hkS,ne_eq,reduceCtorEq,not_false_eq_true,iff_true]
  omega
