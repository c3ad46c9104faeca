/- Plain: nodes of any kind, and what tree.Check says of them. No program stands here. show.signs: the map of the operators. -/
import Derived.Test.YtdplcdhpnmcdjaaGreatDoorFTreA
import Derived.Test.YtdplcdhpnmcdjaaGreatDoorFParK
import Derived.Test.YtdplcdhpnmcdjaaGreatDoorFTg
namespace Go.Proofs.YtdplcdhpnmcdjaaGreatDoor
open Go.RowKit
structure NdA where
 kind:Nat
 vk:Nat
 vn:Int
 vt:List UInt8
 r:R4
 op:Int
 fn:Nat
 n:Int
def NdA.nd (a:NdA):Nd:=⟨a.kind,a.vk,a.vn,a.vt,a.r,a.op,a.fn,a.n.toNat⟩
def bd (a:NdA):List Value:=[.int .u8 a.kind,.int .u8 a.vk,.int .i64 a.vn,.string ⟨a.vt.toArray⟩,.int .i64 a.r.c1,.int .i64 a.r.r1,.int .i64 a.r.c2,.int .i64 a.r.r2,.int .i64 a.op,.int .u8 a.fn,.int .i64 a.n]
def aA (a:NdA):Value:=.agg (bd a).toArray
def Nd.any (n:Nd):NdA:=⟨n.kind,n.vk,n.vn,n.vt,n.r,n.op,n.fn,(n.n:Int)⟩
theorem kW (n:Nd):n.any.nd=n:=by obtain ⟨a,b,c,d,e,f,g,h⟩:=n; rfl
theorem AD (a:NdA) (h:0≤a.n):bj a.nd=bd a:=by
 obtain ⟨k,vk,vn,vt,r,op,fn,n⟩:=a
 have h:0≤n:=h
 have:((n.toNat:Nat):Int)=n:=by omega
 unfold bj bd NdA.nd
 simp only [this]
def noV (a:NdA):Prop:=a.vk=0∧a.vn=0∧a.vt=[]
def noE (a:NdA):Prop:=a.op=0∧a.fn=0∧a.n=0
def okA (a:NdA):Prop :=
 (a.kind=1∧dD a.vk a.vn a.vt∧a.r=R4.zero∧noE a) ∨
 (a.kind=2∧noV a∧aE a.r=true∧(a.r.c1=a.r.c2∧a.r.r1=a.r.r2)∧noE a) ∨
 (a.kind=3∧noV a∧aE a.r=true∧¬ (a.r.c1=a.r.c2∧a.r.r1=a.r.r2)∧noE a) ∨
 ((a.kind=4∨a.kind=5)∧noV a∧a.r=R4.zero∧noE a) ∨
 (a.kind=6∧noV a∧a.r=R4.zero∧(1≤a.op∧a.op≤12)∧a.fn=0∧a.n=0) ∨
 (a.kind=7∧noV a∧a.r=R4.zero∧a.op=0∧0≤a.n)
open Classical in
noncomputable def aw (a:NdA):Int :=
 if okA a then (if a.kind=7 then (if a.fn=0∨50<a.fn then 10 else if a.n<((arS a.fn).1:Nat)∨((arS a.fn).2:Nat)<a.n then 11 else 0) else 0) else 2
theorem aR {a:NdA} (h:¬ okA a):aw a=2:=if_neg h
theorem bp {a:NdA} (h:okA a) (h7:a.kind≠7):aw a=0:=by unfold aw; rw [if_pos h,if_neg h7]
theorem jI {a:NdA} (h:okA a) (h7:a.kind=7) (hf:a.fn=0∨50<a.fn):aw a=10:=by unfold aw; rw [if_pos h,if_pos h7,if_pos hf]
theorem fO {a:NdA} (h:okA a) (h7:a.kind=7) (hf:¬ (a.fn=0∨50<a.fn)) (hn:a.n<((arS a.fn).1:Nat)∨((arS a.fn).2:Nat)<a.n):aw a=11:=by
 unfold aw; rw [if_pos h,if_pos h7,if_neg hf,if_pos hn]
theorem iM {a:NdA} (h:okA a) (h7:a.kind=7) (hf:¬ (a.fn=0∨50<a.fn)) (hn:¬ (a.n<((arS a.fn).1:Nat)∨((arS a.fn).2:Nat)<a.n)):aw a=0:=by
 unfold aw; rw [if_pos h,if_pos h7,if_neg hf,if_neg hn]
theorem cU {a:NdA} (h:aw a=0):aJ a.nd∧0≤a.n∧a=a.nd.any:=by
 by_cases hok:okA a
 ·obtain ⟨k,vk,vn,vt,r,op,fn,n⟩:=a
  have key:aJ (NdA.nd ⟨k,vk,vn,vt,r,op,fn,n⟩)∧0≤n:=by
   rcases hok with ⟨h1,hv,h2,h3,h4,h5⟩ | ⟨h1,⟨a1,a2,a3⟩,h2,h3,b1,b2,b3⟩ | ⟨h1,⟨a1,a2,a3⟩,h2,h3,b1,b2,b3⟩ | ⟨h1,⟨a1,a2,a3⟩,h2,b1,b2,b3⟩ | ⟨h1,⟨a1,a2,a3⟩,h2,h3,b2,b3⟩ | ⟨h1,⟨a1,a2,a3⟩,h2,b1,b3⟩
   ·simp only [] at h1 hv h2 h3 h4 h5
    subst h1 h2 h3 h4 h5
    exact ⟨.inl ⟨vk,vn,vt,rfl,hv⟩,Int.le_refl _⟩
   ·simp only [] at h1 a1 a2 a3 h2 h3 b1 b2 b3
    subst h1 a1 a2 a3 b1 b2 b3
    exact ⟨.inr (.inl ⟨r,rfl,h2,h3.1,h3.2⟩),Int.le_refl _⟩
   ·simp only [] at h1 a1 a2 a3 h2 h3 b1 b2 b3
    subst h1 a1 a2 a3 b1 b2 b3
    exact ⟨.inr (.inr (.inl ⟨r,rfl,h2,h3⟩)),Int.le_refl _⟩
   ·simp only [] at h1 a1 a2 a3 h2 b1 b2 b3
    subst a1 a2 a3 h2 b1 b2 b3
    rcases h1 with rfl | rfl
    ·exact ⟨.inr (.inr (.inr (.inl rfl))),Int.le_refl _⟩
    exact ⟨.inr (.inr (.inr (.inr (.inl rfl)))),Int.le_refl _⟩
   ·simp only [] at h1 a1 a2 a3 h2 h3 b2 b3
    subst h1 a1 a2 a3 h2 b2 b3
    exact ⟨.inr (.inr (.inr (.inr (.inr (.inl ⟨op,rfl,h3.1,h3.2⟩))))),Int.le_refl _⟩
   simp only [] at h1 a1 a2 a3 h2 b1 b3
   subst h1 a1 a2 a3 h2 b1
   by_cases hf:fn=0∨50<fn
   ·rw [jI (.inr (.inr (.inr (.inr (.inr ⟨rfl,⟨rfl,rfl,rfl⟩,rfl,rfl,b3⟩))))) rfl hf] at h
    exact absurd h (by decide)
   by_cases hn:n<((arS fn).1:Nat)∨((arS fn).2:Nat)<n
   ·rw [fO (.inr (.inr (.inr (.inr (.inr ⟨rfl,⟨rfl,rfl,rfl⟩,rfl,rfl,b3⟩))))) rfl hf hn] at h
    exact absurd h (by decide)
   exact ⟨.inr (.inr (.inr (.inr (.inr (.inr ⟨fn,n.toNat,rfl,by omega,by omega,by omega,by omega⟩))))),b3⟩
  refine ⟨key.1,key.2,?_⟩
  have h2:0≤n:=key.2
  have:((n.toNat:Nat):Int)=n:=by omega
  unfold Nd.any NdA.nd
  simp only [this]
 rw [aR hok] at h
 exact absurd h (by decide)
theorem eW {n:Nd} (h:aJ n):aw n.any=0:=by
 rcases h with ⟨vk,vn,vt,rfl,hv⟩ | ⟨r,rfl,h1,h2,h3⟩ | ⟨r,rfl,h1,h2⟩ | rfl | rfl | ⟨op,rfl,h1,h2⟩ | ⟨fn,k,rfl,h1,h2,h3,h4⟩
 ·exact bp (.inl ⟨rfl,hv,rfl,rfl,rfl,rfl⟩) (by decide:(1:Nat)≠7)
 ·exact bp (.inr (.inl ⟨rfl,⟨rfl,rfl,rfl⟩,h1,⟨h2,h3⟩,rfl,rfl,rfl⟩)) (by decide:(2:Nat)≠7)
 ·exact bp (.inr (.inr (.inl ⟨rfl,⟨rfl,rfl,rfl⟩,h1,h2,rfl,rfl,rfl⟩))) (by decide:(3:Nat)≠7)
 ·exact bp (.inr (.inr (.inr (.inl ⟨.inl rfl,⟨rfl,rfl,rfl⟩,rfl,rfl,rfl,rfl⟩)))) (by decide:(4:Nat)≠7)
 ·exact bp (.inr (.inr (.inr (.inl ⟨.inr rfl,⟨rfl,rfl,rfl⟩,rfl,rfl,rfl,rfl⟩)))) (by decide:(5:Nat)≠7)
 ·exact bp (.inr (.inr (.inr (.inr (.inl ⟨rfl,⟨rfl,rfl,rfl⟩,rfl,⟨h1,h2⟩,rfl,rfl⟩))))) (by decide:(6:Nat)≠7)
 refine iM (.inr (.inr (.inr (.inr (.inr ⟨rfl,⟨rfl,rfl,rfl⟩,rfl,rfl,?_⟩))))) rfl ?_ ?_
 ·show (0:Int)≤(k:Int); omega
 ·show ¬ (fn=0∨50<fn); omega
 show ¬ ((k:Int)<((arS fn).1:Nat)∨((arS fn).2:Nat)<(k:Int)); omega
noncomputable def cn (T:List Nd):Nat→List NdA→List Pt→Except Int (List Pt)
 | _,[],st=>.ok st
 | i,a::l,st=>if aw a≠0 then .error (aw a) else match stepW T st i a.nd with
  | .error e=>.error e
  | .ok st2=>cn T (i+1) l st2
noncomputable def bO (t:List NdA):Int:=match cn (t.map NdA.nd) 0 t [] with
 | .error e=>e
 | .ok st=>if st.length=1 then 0 else 4
noncomputable def az (t:List NdA):Int :=
 if 256<t.length then 5 else if t=[] then 4 else if bO t≠0 then bO t else if t.getLast?.map (·.kind)=some 3 then 4 else 0
theorem iT (T:List Nd):∀ (l:List NdA) (i:Nat) (st:List Pt),(∀ a∈l,aw a=0)→cn T i l st=cO T i (l.map NdA.nd) st
 | [],_,_,_=>rfl
 | a::l,i,st,h=>by
  rw [cn,List.map_cons,cO,if_neg (by rw [h a (by simp)]; decide)]
  cases stepW T st i a.nd with
  | error e=>rfl
  | ok st2=>exact iT T l (i+1) st2 fun x hx=>h x (by simp [hx])
theorem pA (T:List Nd):∀ (l:List NdA) (i:Nat) (st st2:List Pt),cn T i l st=.ok st2→∀ a∈l,aw a=0
 | [],_,_,_,_=>by simp
 | a::l,i,st,st2,h=>by
  rw [cn] at h
  by_cases h0:aw a=0
  ·rw [if_neg (by rw [h0]; decide)] at h
   cases hs:stepW T st i a.nd with
   | error e=>rw [hs] at h; cases h
   | ok s1 =>
    rw [hs] at h
    intro x hx
    rcases List.mem_cons.1 hx with rfl | hx
    ·exact h0
    exact pA T l (i+1) s1 st2 h x hx
  rw [if_pos h0] at h; cases h
theorem j9 (T:List Nd):∀ (l:List NdA) (i:Nat) (st:List Pt) (c:Int),cn T i l st=.error c→c≠0
 | [],_,_,_,h=>by rw [cn] at h; cases h
 | a::l,i,st,c,h=>by
  rw [cn] at h
  by_cases h0:aw a=0
  ·rw [if_neg (by rw [h0]; decide)] at h
   cases hs:stepW T st i a.nd with
   | error e =>
    rw [hs] at h
    injection h with h
    subst h
    unfold stepW at hs
    split at hs
    ·injection hs with hs; omega
    split at hs
    ·injection hs with hs; omega
    split at hs
    ·injection hs with hs; omega
    cases hs
   | ok s1=>rw [hs] at h; exact j9 T l (i+1) s1 c h
  rw [if_pos h0] at h
  injection h with h
  rw [← h]; exact h0
theorem pz {t:List NdA} (h:bO t=0):∃ st,cn (t.map NdA.nd) 0 t []=.ok st∧st.length=1:=by
 unfold bO at h
 cases hw:cn (t.map NdA.nd) 0 t [] with
 | error c=>rw [hw] at h; exact absurd h (j9 _ _ _ _ _ hw)
 | ok st =>
  rw [hw] at h
  refine ⟨st,rfl,?_⟩
  simp only [] at h
  split at h
  ·assumption
  exact absurd h (by decide)
theorem py {t:List NdA} (h:∀ a∈t,aw a=0):bO t=kL (t.map NdA.nd):=by
 unfold bO kL
 rw [iT _ _ _ _ h]
 cases cO (t.map NdA.nd) 0 (t.map NdA.nd) [] <;> rfl
theorem kh {t:List NdA} (h:∀ a∈t,aw a=0):az t=dc (t.map NdA.nd):=by
 unfold az dc
 rw [py h,List.length_map,List.getLast?_map,Option.map_map]
 have e:(t=[])=(t.map NdA.nd=[]):=by simp
 simp only [e]
 rfl
theorem eS {t:List NdA} (h:az t=0):(∀ a∈t,aw a=0)∧dc (t.map NdA.nd)=0∧t≠[]∧t.length≤256∧∃ p,cn (t.map NdA.nd) 0 t []=.ok [p]:=by
 have h1:¬ 256<t.length:=by intro g; unfold az at h; rw [if_pos g] at h; exact absurd h (by decide)
 have h2:¬ t=[]:=by intro g; unfold az at h; rw [if_neg h1,if_pos g] at h; exact absurd h (by decide)
 have h3:bO t=0:=by
  apply Classical.byContradiction
  intro g
  unfold az at h
  rw [if_neg h1,if_neg h2,if_pos g] at h
  exact g h
 obtain ⟨st,hw,hl⟩:=pz h3
 have hg:=pA _ _ _ _ _ hw
 refine ⟨hg,by rw [← kh hg]; exact h,h2,by omega,?_⟩
 obtain ⟨p,rfl⟩:=List.length_eq_one_iff.1 hl
 exact ⟨p,hw⟩
theorem jf (l:List Nd):(l.map Nd.any).map NdA.nd=l:=by
 rw [List.map_map]
 conv=>rhs; rw [← List.map_id l]
 exact List.map_congr_left fun n _=>kW n
theorem iF {l:List Nd} (h:∀ n∈l,aJ n):az (l.map Nd.any)=dc l:=by
 rw [kh,jf]
 intro a ha
 obtain ⟨n,hn,rfl⟩:=List.mem_map.1 ha
 exact eW (h n hn)
set_option maxRecDepth 100000
set_option maxHeartbeats 4000000
open Go.RowKit Go.Proofs.Tryz
def nC:Array MapEntry:=#[{ key:=.int .i64 1,val:=.string { data:=#[43] },born:=0 },{ key:=.int .i64 2,val:=.string { data:=#[45] },born:=1 },{ key:=.int .i64 3,val:=.string { data:=#[42] },born:=2 },{ key:=.int .i64 4,val:=.string { data:=#[47] },born:=3 },{ key:=.int .i64 5,val:=.string { data:=#[94] },born:=4 },{ key:=.int .i64 6,val:=.string { data:=#[38] },born:=5 },{ key:=.int .i64 7,val:=.string { data:=#[61] },born:=6 },{ key:=.int .i64 8,val:=.string { data:=#[60,62] },born:=7 },{ key:=.int .i64 9,val:=.string { data:=#[60] },born:=8 },{ key:=.int .i64 10,val:=.string { data:=#[60,61] },born:=9 },{ key:=.int .i64 11,val:=.string { data:=#[62] },born:=10 },{ key:=.int .i64 12,val:=.string { data:=#[62,61] },born:=11 }]
theorem bN:prog.underlying 114=some (.map 2 9):=by kernel_rfl
theorem bM:prog.underlying 2=some (.int .i64):=by kernel_rfl
theorem Cy (w:World):(Instr.mapUpdate 114 (.map (some w.heap.size)) (.int .i64 1) (.string { data:=#[43] })).run prog (w.alloc (.map #[] 0))=.ok () (w.alloc (.map #[{ key:=.int .i64 1,val:=.string { data:=#[43] },born:=0 }] 1)) :=
 bU _ _ _ _ bN bM _ _ _ _ (by simp [MapKept.IsKey]) rfl w
theorem Cz (w:World):(Instr.mapUpdate 114 (.map (some w.heap.size)) (.int .i64 2) (.string { data:=#[45] })).run prog (w.alloc (.map #[{ key:=.int .i64 1,val:=.string { data:=#[43] },born:=0 }] 1))=.ok () (w.alloc (.map #[{ key:=.int .i64 1,val:=.string { data:=#[43] },born:=0 },{ key:=.int .i64 2,val:=.string { data:=#[45] },born:=1 }] 2)) :=
 bU _ _ _ _ bN bM _ _ _ _ (by simp [MapKept.IsKey]) rfl w
theorem CB (w:World):(Instr.mapUpdate 114 (.map (some w.heap.size)) (.int .i64 3) (.string { data:=#[42] })).run prog (w.alloc (.map #[{ key:=.int .i64 1,val:=.string { data:=#[43] },born:=0 },{ key:=.int .i64 2,val:=.string { data:=#[45] },born:=1 }] 2))=.ok () (w.alloc (.map #[{ key:=.int .i64 1,val:=.string { data:=#[43] },born:=0 },{ key:=.int .i64 2,val:=.string { data:=#[45] },born:=1 },{ key:=.int .i64 3,val:=.string { data:=#[42] },born:=2 }] 3)) :=
 bU _ _ _ _ bN bM _ _ _ _ (by simp [MapKept.IsKey]) rfl w
theorem CC (w:World):(Instr.mapUpdate 114 (.map (some w.heap.size)) (.int .i64 4) (.string { data:=#[47] })).run prog (w.alloc (.map #[{ key:=.int .i64 1,val:=.string { data:=#[43] },born:=0 },{ key:=.int .i64 2,val:=.string { data:=#[45] },born:=1 },{ key:=.int .i64 3,val:=.string { data:=#[42] },born:=2 }] 3))=.ok () (w.alloc (.map #[{ key:=.int .i64 1,val:=.string { data:=#[43] },born:=0 },{ key:=.int .i64 2,val:=.string { data:=#[45] },born:=1 },{ key:=.int .i64 3,val:=.string { data:=#[42] },born:=2 },{ key:=.int .i64 4,val:=.string { data:=#[47] },born:=3 }] 4)) :=
 bU _ _ _ _ bN bM _ _ _ _ (by simp [MapKept.IsKey]) rfl w
theorem CE (w:World):(Instr.mapUpdate 114 (.map (some w.heap.size)) (.int .i64 5) (.string { data:=#[94] })).run prog (w.alloc (.map #[{ key:=.int .i64 1,val:=.string { data:=#[43] },born:=0 },{ key:=.int .i64 2,val:=.string { data:=#[45] },born:=1 },{ key:=.int .i64 3,val:=.string { data:=#[42] },born:=2 },{ key:=.int .i64 4,val:=.string { data:=#[47] },born:=3 }] 4))=.ok () (w.alloc (.map #[{ key:=.int .i64 1,val:=.string { data:=#[43] },born:=0 },{ key:=.int .i64 2,val:=.string { data:=#[45] },born:=1 },{ key:=.int .i64 3,val:=.string { data:=#[42] },born:=2 },{ key:=.int .i64 4,val:=.string { data:=#[47] },born:=3 },{ key:=.int .i64 5,val:=.string { data:=#[94] },born:=4 }] 5)) :=
 bU _ _ _ _ bN bM _ _ _ _ (by simp [MapKept.IsKey]) rfl w
theorem CF (w:World):(Instr.mapUpdate 114 (.map (some w.heap.size)) (.int .i64 6) (.string { data:=#[38] })).run prog (w.alloc (.map #[{ key:=.int .i64 1,val:=.string { data:=#[43] },born:=0 },{ key:=.int .i64 2,val:=.string { data:=#[45] },born:=1 },{ key:=.int .i64 3,val:=.string { data:=#[42] },born:=2 },{ key:=.int .i64 4,val:=.string { data:=#[47] },born:=3 },{ key:=.int .i64 5,val:=.string { data:=#[94] },born:=4 }] 5))=.ok () (w.alloc (.map #[{ key:=.int .i64 1,val:=.string { data:=#[43] },born:=0 },{ key:=.int .i64 2,val:=.string { data:=#[45] },born:=1 },{ key:=.int .i64 3,val:=.string { data:=#[42] },born:=2 },{ key:=.int .i64 4,val:=.string { data:=#[47] },born:=3 },{ key:=.int .i64 5,val:=.string { data:=#[94] },born:=4 },{ key:=.int .i64 6,val:=.string { data:=#[38] },born:=5 }] 6)) :=
 bU _ _ _ _ bN bM _ _ _ _ (by simp [MapKept.IsKey]) rfl w
theorem CG (w:World):(Instr.mapUpdate 114 (.map (some w.heap.size)) (.int .i64 7) (.string { data:=#[61] })).run prog (w.alloc (.map #[{ key:=.int .i64 1,val:=.string { data:=#[43] },born:=0 },{ key:=.int .i64 2,val:=.string { data:=#[45] },born:=1 },{ key:=.int .i64 3,val:=.string { data:=#[42] },born:=2 },{ key:=.int .i64 4,val:=.string { data:=#[47] },born:=3 },{ key:=.int .i64 5,val:=.string { data:=#[94] },born:=4 },{ key:=.int .i64 6,val:=.string { data:=#[38] },born:=5 }] 6))=.ok () (w.alloc (.map #[{ key:=.int .i64 1,val:=.string { data:=#[43] },born:=0 },{ key:=.int .i64 2,val:=.string { data:=#[45] },born:=1 },{ key:=.int .i64 3,val:=.string { data:=#[42] },born:=2 },{ key:=.int .i64 4,val:=.string { data:=#[47] },born:=3 },{ key:=.int .i64 5,val:=.string { data:=#[94] },born:=4 },{ key:=.int .i64 6,val:=.string { data:=#[38] },born:=5 },{ key:=.int .i64 7,val:=.string { data:=#[61] },born:=6 }] 7)) :=
 bU _ _ _ _ bN bM _ _ _ _ (by simp [MapKept.IsKey]) rfl w
theorem CH (w:World):(Instr.mapUpdate 114 (.map (some w.heap.size)) (.int .i64 8) (.string { data:=#[60,62] })).run prog (w.alloc (.map #[{ key:=.int .i64 1,val:=.string { data:=#[43] },born:=0 },{ key:=.int .i64 2,val:=.string { data:=#[45] },born:=1 },{ key:=.int .i64 3,val:=.string { data:=#[42] },born:=2 },{ key:=.int .i64 4,val:=.string { data:=#[47] },born:=3 },{ key:=.int .i64 5,val:=.string { data:=#[94] },born:=4 },{ key:=.int .i64 6,val:=.string { data:=#[38] },born:=5 },{ key:=.int .i64 7,val:=.string { data:=#[61] },born:=6 }] 7))=.ok () (w.alloc (.map #[{ key:=.int .i64 1,val:=.string { data:=#[43] },born:=0 },{ key:=.int .i64 2,val:=.string { data:=#[45] },born:=1 },{ key:=.int .i64 3,val:=.string { data:=#[42] },born:=2 },{ key:=.int .i64 4,val:=.string { data:=#[47] },born:=3 },{ key:=.int .i64 5,val:=.string { data:=#[94] },born:=4 },{ key:=.int .i64 6,val:=.string { data:=#[38] },born:=5 },{ key:=.int .i64 7,val:=.string { data:=#[61] },born:=6 },{ key:=.int .i64 8,val:=.string { data:=#[60,62] },born:=7 }] 8)) :=
 bU _ _ _ _ bN bM _ _ _ _ (by simp [MapKept.IsKey]) rfl w
theorem CI (w:World):(Instr.mapUpdate 114 (.map (some w.heap.size)) (.int .i64 9) (.string { data:=#[60] })).run prog (w.alloc (.map #[{ key:=.int .i64 1,val:=.string { data:=#[43] },born:=0 },{ key:=.int .i64 2,val:=.string { data:=#[45] },born:=1 },{ key:=.int .i64 3,val:=.string { data:=#[42] },born:=2 },{ key:=.int .i64 4,val:=.string { data:=#[47] },born:=3 },{ key:=.int .i64 5,val:=.string { data:=#[94] },born:=4 },{ key:=.int .i64 6,val:=.string { data:=#[38] },born:=5 },{ key:=.int .i64 7,val:=.string { data:=#[61] },born:=6 },{ key:=.int .i64 8,val:=.string { data:=#[60,62] },born:=7 }] 8))=.ok () (w.alloc (.map #[{ key:=.int .i64 1,val:=.string { data:=#[43] },born:=0 },{ key:=.int .i64 2,val:=.string { data:=#[45] },born:=1 },{ key:=.int .i64 3,val:=.string { data:=#[42] },born:=2 },{ key:=.int .i64 4,val:=.string { data:=#[47] },born:=3 },{ key:=.int .i64 5,val:=.string { data:=#[94] },born:=4 },{ key:=.int .i64 6,val:=.string { data:=#[38] },born:=5 },{ key:=.int .i64 7,val:=.string { data:=#[61] },born:=6 },{ key:=.int .i64 8,val:=.string { data:=#[60,62] },born:=7 },{ key:=.int .i64 9,val:=.string { data:=#[60] },born:=8 }] 9)) :=
 bU _ _ _ _ bN bM _ _ _ _ (by simp [MapKept.IsKey]) rfl w
theorem BG (w:World):(Instr.mapUpdate 114 (.map (some w.heap.size)) (.int .i64 10) (.string { data:=#[60,61] })).run prog (w.alloc (.map #[{ key:=.int .i64 1,val:=.string { data:=#[43] },born:=0 },{ key:=.int .i64 2,val:=.string { data:=#[45] },born:=1 },{ key:=.int .i64 3,val:=.string { data:=#[42] },born:=2 },{ key:=.int .i64 4,val:=.string { data:=#[47] },born:=3 },{ key:=.int .i64 5,val:=.string { data:=#[94] },born:=4 },{ key:=.int .i64 6,val:=.string { data:=#[38] },born:=5 },{ key:=.int .i64 7,val:=.string { data:=#[61] },born:=6 },{ key:=.int .i64 8,val:=.string { data:=#[60,62] },born:=7 },{ key:=.int .i64 9,val:=.string { data:=#[60] },born:=8 }] 9))=.ok () (w.alloc (.map #[{ key:=.int .i64 1,val:=.string { data:=#[43] },born:=0 },{ key:=.int .i64 2,val:=.string { data:=#[45] },born:=1 },{ key:=.int .i64 3,val:=.string { data:=#[42] },born:=2 },{ key:=.int .i64 4,val:=.string { data:=#[47] },born:=3 },{ key:=.int .i64 5,val:=.string { data:=#[94] },born:=4 },{ key:=.int .i64 6,val:=.string { data:=#[38] },born:=5 },{ key:=.int .i64 7,val:=.string { data:=#[61] },born:=6 },{ key:=.int .i64 8,val:=.string { data:=#[60,62] },born:=7 },{ key:=.int .i64 9,val:=.string { data:=#[60] },born:=8 },{ key:=.int .i64 10,val:=.string { data:=#[60,61] },born:=9 }] 10)) :=
 bU _ _ _ _ bN bM _ _ _ _ (by simp [MapKept.IsKey]) rfl w
theorem BH (w:World):(Instr.mapUpdate 114 (.map (some w.heap.size)) (.int .i64 11) (.string { data:=#[62] })).run prog (w.alloc (.map #[{ key:=.int .i64 1,val:=.string { data:=#[43] },born:=0 },{ key:=.int .i64 2,val:=.string { data:=#[45] },born:=1 },{ key:=.int .i64 3,val:=.string { data:=#[42] },born:=2 },{ key:=.int .i64 4,val:=.string { data:=#[47] },born:=3 },{ key:=.int .i64 5,val:=.string { data:=#[94] },born:=4 },{ key:=.int .i64 6,val:=.string { data:=#[38] },born:=5 },{ key:=.int .i64 7,val:=.string { data:=#[61] },born:=6 },{ key:=.int .i64 8,val:=.string { data:=#[60,62] },born:=7 },{ key:=.int .i64 9,val:=.string { data:=#[60] },born:=8 },{ key:=.int .i64 10,val:=.string { data:=#[60,61] },born:=9 }] 10))=.ok () (w.alloc (.map #[{ key:=.int .i64 1,val:=.string { data:=#[43] },born:=0 },{ key:=.int .i64 2,val:=.string { data:=#[45] },born:=1 },{ key:=.int .i64 3,val:=.string { data:=#[42] },born:=2 },{ key:=.int .i64 4,val:=.string { data:=#[47] },born:=3 },{ key:=.int .i64 5,val:=.string { data:=#[94] },born:=4 },{ key:=.int .i64 6,val:=.string { data:=#[38] },born:=5 },{ key:=.int .i64 7,val:=.string { data:=#[61] },born:=6 },{ key:=.int .i64 8,val:=.string { data:=#[60,62] },born:=7 },{ key:=.int .i64 9,val:=.string { data:=#[60] },born:=8 },{ key:=.int .i64 10,val:=.string { data:=#[60,61] },born:=9 },{ key:=.int .i64 11,val:=.string { data:=#[62] },born:=10 }] 11)) :=
 bU _ _ _ _ bN bM _ _ _ _ (by simp [MapKept.IsKey]) rfl w
theorem BI (w:World):(Instr.mapUpdate 114 (.map (some w.heap.size)) (.int .i64 12) (.string { data:=#[62,61] })).run prog (w.alloc (.map #[{ key:=.int .i64 1,val:=.string { data:=#[43] },born:=0 },{ key:=.int .i64 2,val:=.string { data:=#[45] },born:=1 },{ key:=.int .i64 3,val:=.string { data:=#[42] },born:=2 },{ key:=.int .i64 4,val:=.string { data:=#[47] },born:=3 },{ key:=.int .i64 5,val:=.string { data:=#[94] },born:=4 },{ key:=.int .i64 6,val:=.string { data:=#[38] },born:=5 },{ key:=.int .i64 7,val:=.string { data:=#[61] },born:=6 },{ key:=.int .i64 8,val:=.string { data:=#[60,62] },born:=7 },{ key:=.int .i64 9,val:=.string { data:=#[60] },born:=8 },{ key:=.int .i64 10,val:=.string { data:=#[60,61] },born:=9 },{ key:=.int .i64 11,val:=.string { data:=#[62] },born:=10 }] 11))=.ok () (w.alloc (.map #[{ key:=.int .i64 1,val:=.string { data:=#[43] },born:=0 },{ key:=.int .i64 2,val:=.string { data:=#[45] },born:=1 },{ key:=.int .i64 3,val:=.string { data:=#[42] },born:=2 },{ key:=.int .i64 4,val:=.string { data:=#[47] },born:=3 },{ key:=.int .i64 5,val:=.string { data:=#[94] },born:=4 },{ key:=.int .i64 6,val:=.string { data:=#[38] },born:=5 },{ key:=.int .i64 7,val:=.string { data:=#[61] },born:=6 },{ key:=.int .i64 8,val:=.string { data:=#[60,62] },born:=7 },{ key:=.int .i64 9,val:=.string { data:=#[60] },born:=8 },{ key:=.int .i64 10,val:=.string { data:=#[60,61] },born:=9 },{ key:=.int .i64 11,val:=.string { data:=#[62] },born:=10 },{ key:=.int .i64 12,val:=.string { data:=#[62,61] },born:=11 }] 12)) :=
 bU _ _ _ _ bN bM _ _ _ _ (by simp [MapKept.IsKey]) rfl w
theorem qM (w:World) :
  Calls prog 90 #[] w fun e w'=>e=.returned (.map (some w.heap.size))∧w'=w.alloc (.map nC 12):=by
 have hmm:=@run_makeMap prog
 have g1:=Cy
 have g2:=Cz
 have g3:=CB
 have g4:=CC
 have g5:=CE
 have g6:=CF
 have g7:=CG
 have g8:=CH
 have g9:=CI
 have g10:=BG
 have g11:=BH
 have g12:=BI
 go_enter func90,ntmps90
 go_wp2_with fail
 go_ret
 exact ⟨rfl,rfl⟩
theorem yK (op:Int) (h1:1≤op) (h12:op≤12) (r:Nat) (w:World) (hb:w.heap[r]?=some (.map nC 12)):(Instr.lookup 114 (.map (some r)) (.int .i64 op) false).run prog w=.ok (.string ⟨(dQ op).toArray⟩) w:=by
 have h:op=1∨op=2∨op=3∨op=4∨op=5∨op=6∨op=7∨op=8∨op=9∨op=10∨op=11∨op=12:=by omega
 rcases h with rfl | rfl | rfl | rfl | rfl | rfl | rfl | rfl | rfl | rfl | rfl | rfl
 ·exact dm (i:=0) _ _ _ _ bN bM hb _ _ (by simp [MapKept.IsKey]) rfl
 ·exact dm (i:=1) _ _ _ _ bN bM hb _ _ (by simp [MapKept.IsKey]) rfl
 ·exact dm (i:=2) _ _ _ _ bN bM hb _ _ (by simp [MapKept.IsKey]) rfl
 ·exact dm (i:=3) _ _ _ _ bN bM hb _ _ (by simp [MapKept.IsKey]) rfl
 ·exact dm (i:=4) _ _ _ _ bN bM hb _ _ (by simp [MapKept.IsKey]) rfl
 ·exact dm (i:=5) _ _ _ _ bN bM hb _ _ (by simp [MapKept.IsKey]) rfl
 ·exact dm (i:=6) _ _ _ _ bN bM hb _ _ (by simp [MapKept.IsKey]) rfl
 ·exact dm (i:=7) _ _ _ _ bN bM hb _ _ (by simp [MapKept.IsKey]) rfl
 ·exact dm (i:=8) _ _ _ _ bN bM hb _ _ (by simp [MapKept.IsKey]) rfl
 ·exact dm (i:=9) _ _ _ _ bN bM hb _ _ (by simp [MapKept.IsKey]) rfl
 ·exact dm (i:=10) _ _ _ _ bN bM hb _ _ (by simp [MapKept.IsKey]) rfl
 exact dm (i:=11) _ _ _ _ bN bM hb _ _ (by simp [MapKept.IsKey]) rfl
