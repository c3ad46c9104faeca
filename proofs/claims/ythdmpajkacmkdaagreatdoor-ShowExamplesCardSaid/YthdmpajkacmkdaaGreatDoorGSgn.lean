/- Plain: nodes of any kind, and what tree.Check says of them. No program stands here. show.signs: the map of the operators. -/
import Derived.Test.YthdmpajkacmkdaaGreatDoorGTreA
import Derived.Test.YthdmpajkacmkdaaGreatDoorGParK
import Derived.Test.YthdmpajkacmkdaaGreatDoorGSxp
namespace Go.Proofs.YthdmpajkacmkdaaGreatDoor
open Go.RowKit
structure NdA where
 kind:Nat
 vk:Nat
 vn:Int
 vt:List UInt8
 r:R4
 op:Int
 fn:Nat
 n:Int
def NdA.nd (a:NdA):Nd:=⟨a.kind,a.vk,a.vn,a.vt,a.r,a.op,a.fn,a.n.toNat⟩
def bf (a:NdA):List Value:=[.int .u8 a.kind,.int .u8 a.vk,.int .i64 a.vn,.string ⟨a.vt.toArray⟩,.int .i64 a.r.c1,.int .i64 a.r.r1,.int .i64 a.r.c2,.int .i64 a.r.r2,.int .i64 a.op,.int .u8 a.fn,.int .i64 a.n]
def aA (a:NdA):Value:=.agg (bf a).toArray
def Nd.any (n:Nd):NdA:=⟨n.kind,n.vk,n.vn,n.vt,n.r,n.op,n.fn,(n.n:Int)⟩
theorem lF (n:Nd):n.any.nd=n:=by obtain ⟨a,b,c,d,e,f,g,h⟩:=n; rfl
theorem A5 (a:NdA) (h:0≤a.n):bj a.nd=bf a:=by
 obtain ⟨k,vk,vn,vt,r,op,fn,n⟩:=a
 have h:0≤n:=h
 have:((n.toNat:Nat):Int)=n:=by omega
 unfold bj bf NdA.nd
 simp only [this]
def noV (a:NdA):Prop:=a.vk=0∧a.vn=0∧a.vt=[]
def noE (a:NdA):Prop:=a.op=0∧a.fn=0∧a.n=0
def okA (a:NdA):Prop :=
 (a.kind=1∧dF a.vk a.vn a.vt∧a.r=R4.zero∧noE a) ∨
 (a.kind=2∧noV a∧aG a.r=true∧(a.r.c1=a.r.c2∧a.r.r1=a.r.r2)∧noE a) ∨
 (a.kind=3∧noV a∧aG a.r=true∧¬ (a.r.c1=a.r.c2∧a.r.r1=a.r.r2)∧noE a) ∨
 ((a.kind=4∨a.kind=5)∧noV a∧a.r=R4.zero∧noE a) ∨
 (a.kind=6∧noV a∧a.r=R4.zero∧(1≤a.op∧a.op≤12)∧a.fn=0∧a.n=0) ∨
 (a.kind=7∧noV a∧a.r=R4.zero∧a.op=0∧0≤a.n)
open Classical in
noncomputable def ay (a:NdA):Int :=
 if okA a then (if a.kind=7 then (if a.fn=0∨50<a.fn then 10 else if a.n<((arS a.fn).1:Nat)∨((arS a.fn).2:Nat)<a.n then 11 else 0) else 0) else 2
theorem aT {a:NdA} (h:¬ okA a):ay a=2:=if_neg h
theorem bp {a:NdA} (h:okA a) (h7:a.kind≠7):ay a=0:=by unfold ay; rw [if_pos h,if_neg h7]
theorem j3 {a:NdA} (h:okA a) (h7:a.kind=7) (hf:a.fn=0∨50<a.fn):ay a=10:=by unfold ay; rw [if_pos h,if_pos h7,if_pos hf]
theorem fX {a:NdA} (h:okA a) (h7:a.kind=7) (hf:¬ (a.fn=0∨50<a.fn)) (hn:a.n<((arS a.fn).1:Nat)∨((arS a.fn).2:Nat)<a.n):ay a=11:=by
 unfold ay; rw [if_pos h,if_pos h7,if_neg hf,if_pos hn]
theorem jb {a:NdA} (h:okA a) (h7:a.kind=7) (hf:¬ (a.fn=0∨50<a.fn)) (hn:¬ (a.n<((arS a.fn).1:Nat)∨((arS a.fn).2:Nat)<a.n)):ay a=0:=by
 unfold ay; rw [if_pos h,if_pos h7,if_neg hf,if_neg hn]
theorem cW {a:NdA} (h:ay a=0):aL a.nd∧0≤a.n∧a=a.nd.any:=by
 by_cases hok:okA a
 ·obtain ⟨k,vk,vn,vt,r,op,fn,n⟩:=a
  have key:aL (NdA.nd ⟨k,vk,vn,vt,r,op,fn,n⟩)∧0≤n:=by
   rcases hok with ⟨h1,hv,h2,h3,h4,h5⟩ | ⟨h1,⟨a1,a2,a3⟩,h2,h3,b1,b2,b3⟩ | ⟨h1,⟨a1,a2,a3⟩,h2,h3,b1,b2,b3⟩ | ⟨h1,⟨a1,a2,a3⟩,h2,b1,b2,b3⟩ | ⟨h1,⟨a1,a2,a3⟩,h2,h3,b2,b3⟩ | ⟨h1,⟨a1,a2,a3⟩,h2,b1,b3⟩
   ·simp only [] at h1 hv h2 h3 h4 h5
    subst h1 h2 h3 h4 h5
    exact ⟨.inl ⟨vk,vn,vt,rfl,hv⟩,Int.le_refl _⟩
   ·simp only [] at h1 a1 a2 a3 h2 h3 b1 b2 b3
    subst h1 a1 a2 a3 b1 b2 b3
    exact ⟨.inr (.inl ⟨r,rfl,h2,h3.1,h3.2⟩),Int.le_refl _⟩
   ·simp only [] at h1 a1 a2 a3 h2 h3 b1 b2 b3
    subst h1 a1 a2 a3 b1 b2 b3
    exact ⟨.inr (.inr (.inl ⟨r,rfl,h2,h3⟩)),Int.le_refl _⟩
   ·simp only [] at h1 a1 a2 a3 h2 b1 b2 b3
    subst a1 a2 a3 h2 b1 b2 b3
    rcases h1 with rfl | rfl
    ·exact ⟨.inr (.inr (.inr (.inl rfl))),Int.le_refl _⟩
    exact ⟨.inr (.inr (.inr (.inr (.inl rfl)))),Int.le_refl _⟩
   ·simp only [] at h1 a1 a2 a3 h2 h3 b2 b3
    subst h1 a1 a2 a3 h2 b2 b3
    exact ⟨.inr (.inr (.inr (.inr (.inr (.inl ⟨op,rfl,h3.1,h3.2⟩))))),Int.le_refl _⟩
   simp only [] at h1 a1 a2 a3 h2 b1 b3
   subst h1 a1 a2 a3 h2 b1
   by_cases hf:fn=0∨50<fn
   ·rw [j3 (.inr (.inr (.inr (.inr (.inr ⟨rfl,⟨rfl,rfl,rfl⟩,rfl,rfl,b3⟩))))) rfl hf] at h
    exact absurd h (by decide)
   by_cases hn:n<((arS fn).1:Nat)∨((arS fn).2:Nat)<n
   ·rw [fX (.inr (.inr (.inr (.inr (.inr ⟨rfl,⟨rfl,rfl,rfl⟩,rfl,rfl,b3⟩))))) rfl hf hn] at h
    exact absurd h (by decide)
   exact ⟨.inr (.inr (.inr (.inr (.inr (.inr ⟨fn,n.toNat,rfl,by omega,by omega,by omega,by omega⟩))))),b3⟩
  refine ⟨key.1,key.2,?_⟩
  have h2:0≤n:=key.2
  have:((n.toNat:Nat):Int)=n:=by omega
  unfold Nd.any NdA.nd
  simp only [this]
 rw [aT hok] at h
 exact absurd h (by decide)
theorem ff {n:Nd} (h:aL n):ay n.any=0:=by
 rcases h with ⟨vk,vn,vt,rfl,hv⟩ | ⟨r,rfl,h1,h2,h3⟩ | ⟨r,rfl,h1,h2⟩ | rfl | rfl | ⟨op,rfl,h1,h2⟩ | ⟨fn,k,rfl,h1,h2,h3,h4⟩
 ·exact bp (.inl ⟨rfl,hv,rfl,rfl,rfl,rfl⟩) (by decide:(1:Nat)≠7)
 ·exact bp (.inr (.inl ⟨rfl,⟨rfl,rfl,rfl⟩,h1,⟨h2,h3⟩,rfl,rfl,rfl⟩)) (by decide:(2:Nat)≠7)
 ·exact bp (.inr (.inr (.inl ⟨rfl,⟨rfl,rfl,rfl⟩,h1,h2,rfl,rfl,rfl⟩))) (by decide:(3:Nat)≠7)
 ·exact bp (.inr (.inr (.inr (.inl ⟨.inl rfl,⟨rfl,rfl,rfl⟩,rfl,rfl,rfl,rfl⟩)))) (by decide:(4:Nat)≠7)
 ·exact bp (.inr (.inr (.inr (.inl ⟨.inr rfl,⟨rfl,rfl,rfl⟩,rfl,rfl,rfl,rfl⟩)))) (by decide:(5:Nat)≠7)
 ·exact bp (.inr (.inr (.inr (.inr (.inl ⟨rfl,⟨rfl,rfl,rfl⟩,rfl,⟨h1,h2⟩,rfl,rfl⟩))))) (by decide:(6:Nat)≠7)
 refine jb (.inr (.inr (.inr (.inr (.inr ⟨rfl,⟨rfl,rfl,rfl⟩,rfl,rfl,?_⟩))))) rfl ?_ ?_
 ·show (0:Int)≤(k:Int); omega
 ·show ¬ (fn=0∨50<fn); omega
 show ¬ ((k:Int)<((arS fn).1:Nat)∨((arS fn).2:Nat)<(k:Int)); omega
noncomputable def cu (T:List Nd):Nat→List NdA→List Pt→Except Int (List Pt)
 | _,[],st=>.ok st
 | i,a::l,st=>if ay a≠0 then .error (ay a) else match stepW T st i a.nd with
  | .error e=>.error e
  | .ok st2=>cu T (i+1) l st2
noncomputable def bO (t:List NdA):Int:=match cu (t.map NdA.nd) 0 t [] with
 | .error e=>e
 | .ok st=>if st.length=1 then 0 else 4
noncomputable def aC (t:List NdA):Int :=
 if 256<t.length then 5 else if t=[] then 4 else if bO t≠0 then bO t else if t.getLast?.map (·.kind)=some 3 then 4 else 0
theorem jh (T:List Nd):∀ (l:List NdA) (i:Nat) (st:List Pt),(∀ a∈l,ay a=0)→cu T i l st=cQ T i (l.map NdA.nd) st
 | [],_,_,_=>rfl
 | a::l,i,st,h=>by
  rw [cu,List.map_cons,cQ,if_neg (by rw [h a (by simp)]; decide)]
  cases stepW T st i a.nd with
  | error e=>rfl
  | ok st2=>exact jh T l (i+1) st2 fun x hx=>h x (by simp [hx])
theorem pU (T:List Nd):∀ (l:List NdA) (i:Nat) (st st2:List Pt),cu T i l st=.ok st2→∀ a∈l,ay a=0
 | [],_,_,_,_=>by simp
 | a::l,i,st,st2,h=>by
  rw [cu] at h
  by_cases h0:ay a=0
  ·rw [if_neg (by rw [h0]; decide)] at h
   cases hs:stepW T st i a.nd with
   | error e=>rw [hs] at h; cases h
   | ok s1 =>
    rw [hs] at h
    intro x hx
    rcases List.mem_cons.1 hx with rfl | hx
    ·exact h0
    exact pU T l (i+1) s1 st2 h x hx
  rw [if_pos h0] at h; cases h
theorem kD (T:List Nd):∀ (l:List NdA) (i:Nat) (st:List Pt) (c:Int),cu T i l st=.error c→c≠0
 | [],_,_,_,h=>by rw [cu] at h; cases h
 | a::l,i,st,c,h=>by
  rw [cu] at h
  by_cases h0:ay a=0
  ·rw [if_neg (by rw [h0]; decide)] at h
   cases hs:stepW T st i a.nd with
   | error e =>
    rw [hs] at h
    injection h with h
    subst h
    unfold stepW at hs
    split at hs
    ·injection hs with hs; omega
    split at hs
    ·injection hs with hs; omega
    split at hs
    ·injection hs with hs; omega
    cases hs
   | ok s1=>rw [hs] at h; exact kD T l (i+1) s1 c h
  rw [if_pos h0] at h
  injection h with h
  rw [← h]; exact h0
theorem pT {t:List NdA} (h:bO t=0):∃ st,cu (t.map NdA.nd) 0 t []=.ok st∧st.length=1:=by
 unfold bO at h
 cases hw:cu (t.map NdA.nd) 0 t [] with
 | error c=>rw [hw] at h; exact absurd h (kD _ _ _ _ _ hw)
 | ok st =>
  rw [hw] at h
  refine ⟨st,rfl,?_⟩
  simp only [] at h
  split at h
  ·assumption
  exact absurd h (by decide)
theorem pS {t:List NdA} (h:∀ a∈t,ay a=0):bO t=lk (t.map NdA.nd):=by
 unfold bO lk
 rw [jh _ _ _ _ h]
 cases cQ (t.map NdA.nd) 0 (t.map NdA.nd) [] <;> rfl
theorem kH {t:List NdA} (h:∀ a∈t,ay a=0):aC t=de (t.map NdA.nd):=by
 unfold aC de
 rw [pS h,List.length_map,List.getLast?_map,Option.map_map]
 have e:(t=[])=(t.map NdA.nd=[]):=by simp
 simp only [e]
 rfl
theorem eY {t:List NdA} (h:aC t=0):(∀ a∈t,ay a=0)∧de (t.map NdA.nd)=0∧t≠[]∧t.length≤256∧∃ p,cu (t.map NdA.nd) 0 t []=.ok [p]:=by
 have h1:¬ 256<t.length:=by intro g; unfold aC at h; rw [if_pos g] at h; exact absurd h (by decide)
 have h2:¬ t=[]:=by intro g; unfold aC at h; rw [if_neg h1,if_pos g] at h; exact absurd h (by decide)
 have h3:bO t=0:=by
  apply Classical.byContradiction
  intro g
  unfold aC at h
  rw [if_neg h1,if_neg h2,if_pos g] at h
  exact g h
 obtain ⟨st,hw,hl⟩:=pT h3
 have hg:=pU _ _ _ _ _ hw
 refine ⟨hg,by rw [← kH hg]; exact h,h2,by omega,?_⟩
 obtain ⟨p,rfl⟩:=List.length_eq_one_iff.1 hl
 exact ⟨p,hw⟩
theorem jA (l:List Nd):(l.map Nd.any).map NdA.nd=l:=by
 rw [List.map_map]
 conv=>rhs; rw [← List.map_id l]
 exact List.map_congr_left fun n _=>lF n
theorem iX {l:List Nd} (h:∀ n∈l,aL n):aC (l.map Nd.any)=de l:=by
 rw [kH,jA]
 intro a ha
 obtain ⟨n,hn,rfl⟩:=List.mem_map.1 ha
 exact ff (h n hn)
set_option maxRecDepth 100000
set_option maxHeartbeats 4000000
open Go.RowKit Go.Proofs.Tryz
def nY:Array MapEntry:=#[{ key:=.int .i64 1,val:=.string { data:=#[43] },born:=0 },{ key:=.int .i64 2,val:=.string { data:=#[45] },born:=1 },{ key:=.int .i64 3,val:=.string { data:=#[42] },born:=2 },{ key:=.int .i64 4,val:=.string { data:=#[47] },born:=3 },{ key:=.int .i64 5,val:=.string { data:=#[94] },born:=4 },{ key:=.int .i64 6,val:=.string { data:=#[38] },born:=5 },{ key:=.int .i64 7,val:=.string { data:=#[61] },born:=6 },{ key:=.int .i64 8,val:=.string { data:=#[60,62] },born:=7 },{ key:=.int .i64 9,val:=.string { data:=#[60] },born:=8 },{ key:=.int .i64 10,val:=.string { data:=#[60,61] },born:=9 },{ key:=.int .i64 11,val:=.string { data:=#[62] },born:=10 },{ key:=.int .i64 12,val:=.string { data:=#[62,61] },born:=11 }]
theorem bN:prog.underlying 101=some (.map 2 9):=by kernel_rfl
theorem bM:prog.underlying 2=some (.int .i64):=by kernel_rfl
theorem C2 (w:World):(Instr.mapUpdate 101 (.map (some w.heap.size)) (.int .i64 1) (.string { data:=#[43] })).run prog (w.alloc (.map #[] 0))=.ok () (w.alloc (.map #[{ key:=.int .i64 1,val:=.string { data:=#[43] },born:=0 }] 1)) :=
 bV _ _ _ _ bN bM _ _ _ _ (by simp [MapKept.IsKey]) rfl w
theorem C3 (w:World):(Instr.mapUpdate 101 (.map (some w.heap.size)) (.int .i64 2) (.string { data:=#[45] })).run prog (w.alloc (.map #[{ key:=.int .i64 1,val:=.string { data:=#[43] },born:=0 }] 1))=.ok () (w.alloc (.map #[{ key:=.int .i64 1,val:=.string { data:=#[43] },born:=0 },{ key:=.int .i64 2,val:=.string { data:=#[45] },born:=1 }] 2)) :=
 bV _ _ _ _ bN bM _ _ _ _ (by simp [MapKept.IsKey]) rfl w
theorem C5 (w:World):(Instr.mapUpdate 101 (.map (some w.heap.size)) (.int .i64 3) (.string { data:=#[42] })).run prog (w.alloc (.map #[{ key:=.int .i64 1,val:=.string { data:=#[43] },born:=0 },{ key:=.int .i64 2,val:=.string { data:=#[45] },born:=1 }] 2))=.ok () (w.alloc (.map #[{ key:=.int .i64 1,val:=.string { data:=#[43] },born:=0 },{ key:=.int .i64 2,val:=.string { data:=#[45] },born:=1 },{ key:=.int .i64 3,val:=.string { data:=#[42] },born:=2 }] 3)) :=
 bV _ _ _ _ bN bM _ _ _ _ (by simp [MapKept.IsKey]) rfl w
theorem C6 (w:World):(Instr.mapUpdate 101 (.map (some w.heap.size)) (.int .i64 4) (.string { data:=#[47] })).run prog (w.alloc (.map #[{ key:=.int .i64 1,val:=.string { data:=#[43] },born:=0 },{ key:=.int .i64 2,val:=.string { data:=#[45] },born:=1 },{ key:=.int .i64 3,val:=.string { data:=#[42] },born:=2 }] 3))=.ok () (w.alloc (.map #[{ key:=.int .i64 1,val:=.string { data:=#[43] },born:=0 },{ key:=.int .i64 2,val:=.string { data:=#[45] },born:=1 },{ key:=.int .i64 3,val:=.string { data:=#[42] },born:=2 },{ key:=.int .i64 4,val:=.string { data:=#[47] },born:=3 }] 4)) :=
 bV _ _ _ _ bN bM _ _ _ _ (by simp [MapKept.IsKey]) rfl w
theorem C7 (w:World):(Instr.mapUpdate 101 (.map (some w.heap.size)) (.int .i64 5) (.string { data:=#[94] })).run prog (w.alloc (.map #[{ key:=.int .i64 1,val:=.string { data:=#[43] },born:=0 },{ key:=.int .i64 2,val:=.string { data:=#[45] },born:=1 },{ key:=.int .i64 3,val:=.string { data:=#[42] },born:=2 },{ key:=.int .i64 4,val:=.string { data:=#[47] },born:=3 }] 4))=.ok () (w.alloc (.map #[{ key:=.int .i64 1,val:=.string { data:=#[43] },born:=0 },{ key:=.int .i64 2,val:=.string { data:=#[45] },born:=1 },{ key:=.int .i64 3,val:=.string { data:=#[42] },born:=2 },{ key:=.int .i64 4,val:=.string { data:=#[47] },born:=3 },{ key:=.int .i64 5,val:=.string { data:=#[94] },born:=4 }] 5)) :=
 bV _ _ _ _ bN bM _ _ _ _ (by simp [MapKept.IsKey]) rfl w
theorem C8 (w:World):(Instr.mapUpdate 101 (.map (some w.heap.size)) (.int .i64 6) (.string { data:=#[38] })).run prog (w.alloc (.map #[{ key:=.int .i64 1,val:=.string { data:=#[43] },born:=0 },{ key:=.int .i64 2,val:=.string { data:=#[45] },born:=1 },{ key:=.int .i64 3,val:=.string { data:=#[42] },born:=2 },{ key:=.int .i64 4,val:=.string { data:=#[47] },born:=3 },{ key:=.int .i64 5,val:=.string { data:=#[94] },born:=4 }] 5))=.ok () (w.alloc (.map #[{ key:=.int .i64 1,val:=.string { data:=#[43] },born:=0 },{ key:=.int .i64 2,val:=.string { data:=#[45] },born:=1 },{ key:=.int .i64 3,val:=.string { data:=#[42] },born:=2 },{ key:=.int .i64 4,val:=.string { data:=#[47] },born:=3 },{ key:=.int .i64 5,val:=.string { data:=#[94] },born:=4 },{ key:=.int .i64 6,val:=.string { data:=#[38] },born:=5 }] 6)) :=
 bV _ _ _ _ bN bM _ _ _ _ (by simp [MapKept.IsKey]) rfl w
theorem C9 (w:World):(Instr.mapUpdate 101 (.map (some w.heap.size)) (.int .i64 7) (.string { data:=#[61] })).run prog (w.alloc (.map #[{ key:=.int .i64 1,val:=.string { data:=#[43] },born:=0 },{ key:=.int .i64 2,val:=.string { data:=#[45] },born:=1 },{ key:=.int .i64 3,val:=.string { data:=#[42] },born:=2 },{ key:=.int .i64 4,val:=.string { data:=#[47] },born:=3 },{ key:=.int .i64 5,val:=.string { data:=#[94] },born:=4 },{ key:=.int .i64 6,val:=.string { data:=#[38] },born:=5 }] 6))=.ok () (w.alloc (.map #[{ key:=.int .i64 1,val:=.string { data:=#[43] },born:=0 },{ key:=.int .i64 2,val:=.string { data:=#[45] },born:=1 },{ key:=.int .i64 3,val:=.string { data:=#[42] },born:=2 },{ key:=.int .i64 4,val:=.string { data:=#[47] },born:=3 },{ key:=.int .i64 5,val:=.string { data:=#[94] },born:=4 },{ key:=.int .i64 6,val:=.string { data:=#[38] },born:=5 },{ key:=.int .i64 7,val:=.string { data:=#[61] },born:=6 }] 7)) :=
 bV _ _ _ _ bN bM _ _ _ _ (by simp [MapKept.IsKey]) rfl w
theorem Da (w:World):(Instr.mapUpdate 101 (.map (some w.heap.size)) (.int .i64 8) (.string { data:=#[60,62] })).run prog (w.alloc (.map #[{ key:=.int .i64 1,val:=.string { data:=#[43] },born:=0 },{ key:=.int .i64 2,val:=.string { data:=#[45] },born:=1 },{ key:=.int .i64 3,val:=.string { data:=#[42] },born:=2 },{ key:=.int .i64 4,val:=.string { data:=#[47] },born:=3 },{ key:=.int .i64 5,val:=.string { data:=#[94] },born:=4 },{ key:=.int .i64 6,val:=.string { data:=#[38] },born:=5 },{ key:=.int .i64 7,val:=.string { data:=#[61] },born:=6 }] 7))=.ok () (w.alloc (.map #[{ key:=.int .i64 1,val:=.string { data:=#[43] },born:=0 },{ key:=.int .i64 2,val:=.string { data:=#[45] },born:=1 },{ key:=.int .i64 3,val:=.string { data:=#[42] },born:=2 },{ key:=.int .i64 4,val:=.string { data:=#[47] },born:=3 },{ key:=.int .i64 5,val:=.string { data:=#[94] },born:=4 },{ key:=.int .i64 6,val:=.string { data:=#[38] },born:=5 },{ key:=.int .i64 7,val:=.string { data:=#[61] },born:=6 },{ key:=.int .i64 8,val:=.string { data:=#[60,62] },born:=7 }] 8)) :=
 bV _ _ _ _ bN bM _ _ _ _ (by simp [MapKept.IsKey]) rfl w
theorem Db (w:World):(Instr.mapUpdate 101 (.map (some w.heap.size)) (.int .i64 9) (.string { data:=#[60] })).run prog (w.alloc (.map #[{ key:=.int .i64 1,val:=.string { data:=#[43] },born:=0 },{ key:=.int .i64 2,val:=.string { data:=#[45] },born:=1 },{ key:=.int .i64 3,val:=.string { data:=#[42] },born:=2 },{ key:=.int .i64 4,val:=.string { data:=#[47] },born:=3 },{ key:=.int .i64 5,val:=.string { data:=#[94] },born:=4 },{ key:=.int .i64 6,val:=.string { data:=#[38] },born:=5 },{ key:=.int .i64 7,val:=.string { data:=#[61] },born:=6 },{ key:=.int .i64 8,val:=.string { data:=#[60,62] },born:=7 }] 8))=.ok () (w.alloc (.map #[{ key:=.int .i64 1,val:=.string { data:=#[43] },born:=0 },{ key:=.int .i64 2,val:=.string { data:=#[45] },born:=1 },{ key:=.int .i64 3,val:=.string { data:=#[42] },born:=2 },{ key:=.int .i64 4,val:=.string { data:=#[47] },born:=3 },{ key:=.int .i64 5,val:=.string { data:=#[94] },born:=4 },{ key:=.int .i64 6,val:=.string { data:=#[38] },born:=5 },{ key:=.int .i64 7,val:=.string { data:=#[61] },born:=6 },{ key:=.int .i64 8,val:=.string { data:=#[60,62] },born:=7 },{ key:=.int .i64 9,val:=.string { data:=#[60] },born:=8 }] 9)) :=
 bV _ _ _ _ bN bM _ _ _ _ (by simp [MapKept.IsKey]) rfl w
theorem Ca (w:World):(Instr.mapUpdate 101 (.map (some w.heap.size)) (.int .i64 10) (.string { data:=#[60,61] })).run prog (w.alloc (.map #[{ key:=.int .i64 1,val:=.string { data:=#[43] },born:=0 },{ key:=.int .i64 2,val:=.string { data:=#[45] },born:=1 },{ key:=.int .i64 3,val:=.string { data:=#[42] },born:=2 },{ key:=.int .i64 4,val:=.string { data:=#[47] },born:=3 },{ key:=.int .i64 5,val:=.string { data:=#[94] },born:=4 },{ key:=.int .i64 6,val:=.string { data:=#[38] },born:=5 },{ key:=.int .i64 7,val:=.string { data:=#[61] },born:=6 },{ key:=.int .i64 8,val:=.string { data:=#[60,62] },born:=7 },{ key:=.int .i64 9,val:=.string { data:=#[60] },born:=8 }] 9))=.ok () (w.alloc (.map #[{ key:=.int .i64 1,val:=.string { data:=#[43] },born:=0 },{ key:=.int .i64 2,val:=.string { data:=#[45] },born:=1 },{ key:=.int .i64 3,val:=.string { data:=#[42] },born:=2 },{ key:=.int .i64 4,val:=.string { data:=#[47] },born:=3 },{ key:=.int .i64 5,val:=.string { data:=#[94] },born:=4 },{ key:=.int .i64 6,val:=.string { data:=#[38] },born:=5 },{ key:=.int .i64 7,val:=.string { data:=#[61] },born:=6 },{ key:=.int .i64 8,val:=.string { data:=#[60,62] },born:=7 },{ key:=.int .i64 9,val:=.string { data:=#[60] },born:=8 },{ key:=.int .i64 10,val:=.string { data:=#[60,61] },born:=9 }] 10)) :=
 bV _ _ _ _ bN bM _ _ _ _ (by simp [MapKept.IsKey]) rfl w
theorem Cb (w:World):(Instr.mapUpdate 101 (.map (some w.heap.size)) (.int .i64 11) (.string { data:=#[62] })).run prog (w.alloc (.map #[{ key:=.int .i64 1,val:=.string { data:=#[43] },born:=0 },{ key:=.int .i64 2,val:=.string { data:=#[45] },born:=1 },{ key:=.int .i64 3,val:=.string { data:=#[42] },born:=2 },{ key:=.int .i64 4,val:=.string { data:=#[47] },born:=3 },{ key:=.int .i64 5,val:=.string { data:=#[94] },born:=4 },{ key:=.int .i64 6,val:=.string { data:=#[38] },born:=5 },{ key:=.int .i64 7,val:=.string { data:=#[61] },born:=6 },{ key:=.int .i64 8,val:=.string { data:=#[60,62] },born:=7 },{ key:=.int .i64 9,val:=.string { data:=#[60] },born:=8 },{ key:=.int .i64 10,val:=.string { data:=#[60,61] },born:=9 }] 10))=.ok () (w.alloc (.map #[{ key:=.int .i64 1,val:=.string { data:=#[43] },born:=0 },{ key:=.int .i64 2,val:=.string { data:=#[45] },born:=1 },{ key:=.int .i64 3,val:=.string { data:=#[42] },born:=2 },{ key:=.int .i64 4,val:=.string { data:=#[47] },born:=3 },{ key:=.int .i64 5,val:=.string { data:=#[94] },born:=4 },{ key:=.int .i64 6,val:=.string { data:=#[38] },born:=5 },{ key:=.int .i64 7,val:=.string { data:=#[61] },born:=6 },{ key:=.int .i64 8,val:=.string { data:=#[60,62] },born:=7 },{ key:=.int .i64 9,val:=.string { data:=#[60] },born:=8 },{ key:=.int .i64 10,val:=.string { data:=#[60,61] },born:=9 },{ key:=.int .i64 11,val:=.string { data:=#[62] },born:=10 }] 11)) :=
 bV _ _ _ _ bN bM _ _ _ _ (by simp [MapKept.IsKey]) rfl w
theorem Cc (w:World):(Instr.mapUpdate 101 (.map (some w.heap.size)) (.int .i64 12) (.string { data:=#[62,61] })).run prog (w.alloc (.map #[{ key:=.int .i64 1,val:=.string { data:=#[43] },born:=0 },{ key:=.int .i64 2,val:=.string { data:=#[45] },born:=1 },{ key:=.int .i64 3,val:=.string { data:=#[42] },born:=2 },{ key:=.int .i64 4,val:=.string { data:=#[47] },born:=3 },{ key:=.int .i64 5,val:=.string { data:=#[94] },born:=4 },{ key:=.int .i64 6,val:=.string { data:=#[38] },born:=5 },{ key:=.int .i64 7,val:=.string { data:=#[61] },born:=6 },{ key:=.int .i64 8,val:=.string { data:=#[60,62] },born:=7 },{ key:=.int .i64 9,val:=.string { data:=#[60] },born:=8 },{ key:=.int .i64 10,val:=.string { data:=#[60,61] },born:=9 },{ key:=.int .i64 11,val:=.string { data:=#[62] },born:=10 }] 11))=.ok () (w.alloc (.map #[{ key:=.int .i64 1,val:=.string { data:=#[43] },born:=0 },{ key:=.int .i64 2,val:=.string { data:=#[45] },born:=1 },{ key:=.int .i64 3,val:=.string { data:=#[42] },born:=2 },{ key:=.int .i64 4,val:=.string { data:=#[47] },born:=3 },{ key:=.int .i64 5,val:=.string { data:=#[94] },born:=4 },{ key:=.int .i64 6,val:=.string { data:=#[38] },born:=5 },{ key:=.int .i64 7,val:=.string { data:=#[61] },born:=6 },{ key:=.int .i64 8,val:=.string { data:=#[60,62] },born:=7 },{ key:=.int .i64 9,val:=.string { data:=#[60] },born:=8 },{ key:=.int .i64 10,val:=.string { data:=#[60,61] },born:=9 },{ key:=.int .i64 11,val:=.string { data:=#[62] },born:=10 },{ key:=.int .i64 12,val:=.string { data:=#[62,61] },born:=11 }] 12)) :=
 bV _ _ _ _ bN bM _ _ _ _ (by simp [MapKept.IsKey]) rfl w
theorem rf (w:World) :
  Calls prog 77 #[] w fun e w'=>e=.returned (.map (some w.heap.size))∧w'=w.alloc (.map nY 12):=by
 have hmm:=@run_makeMap prog
 have g1:=C2
 have g2:=C3
 have g3:=C5
 have g4:=C6
 have g5:=C7
 have g6:=C8
 have g7:=C9
 have g8:=Da
 have g9:=Db
 have g10:=Ca
 have g11:=Cb
 have g12:=Cc
 go_enter func77,ntmps77
 go_wp2_with fail
 go_ret
 exact ⟨rfl,rfl⟩
theorem zg (op:Int) (h1:1≤op) (h12:op≤12) (r:Nat) (w:World) (hb:w.heap[r]?=some (.map nY 12)):(Instr.lookup 101 (.map (some r)) (.int .i64 op) false).run prog w=.ok (.string ⟨(dS op).toArray⟩) w:=by
 have h:op=1∨op=2∨op=3∨op=4∨op=5∨op=6∨op=7∨op=8∨op=9∨op=10∨op=11∨op=12:=by omega
 rcases h with rfl | rfl | rfl | rfl | rfl | rfl | rfl | rfl | rfl | rfl | rfl | rfl
 ·exact dq (i:=0) _ _ _ _ bN bM hb _ _ (by simp [MapKept.IsKey]) rfl
 ·exact dq (i:=1) _ _ _ _ bN bM hb _ _ (by simp [MapKept.IsKey]) rfl
 ·exact dq (i:=2) _ _ _ _ bN bM hb _ _ (by simp [MapKept.IsKey]) rfl
 ·exact dq (i:=3) _ _ _ _ bN bM hb _ _ (by simp [MapKept.IsKey]) rfl
 ·exact dq (i:=4) _ _ _ _ bN bM hb _ _ (by simp [MapKept.IsKey]) rfl
 ·exact dq (i:=5) _ _ _ _ bN bM hb _ _ (by simp [MapKept.IsKey]) rfl
 ·exact dq (i:=6) _ _ _ _ bN bM hb _ _ (by simp [MapKept.IsKey]) rfl
 ·exact dq (i:=7) _ _ _ _ bN bM hb _ _ (by simp [MapKept.IsKey]) rfl
 ·exact dq (i:=8) _ _ _ _ bN bM hb _ _ (by simp [MapKept.IsKey]) rfl
 ·exact dq (i:=9) _ _ _ _ bN bM hb _ _ (by simp [MapKept.IsKey]) rfl
 ·exact dq (i:=10) _ _ _ _ bN bM hb _ _ (by simp [MapKept.IsKey]) rfl
 exact dq (i:=11) _ _ _ _ bN bM hb _ _ (by simp [MapKept.IsKey]) rfl
