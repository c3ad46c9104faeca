/- Plain: nodes of any kind, and what tree.Check says of them. No program stands here. show.signs: the map of the operators. -/
import Derived.Test.YtfffihcadhfplaaGreatDoorQTreA
import Derived.Test.YtfffihcadhfplaaGreatDoorQParK
import Derived.Test.YtfffihcadhfplaaGreatDoorQIterV
namespace Go.Proofs.YtfffihcadhfplaaGreatDoor
open Go.RowKit
structure NdA where
 kind:Nat
 vk:Nat
 vn:Int
 vt:List UInt8
 r:R4
 op:Int
 fn:Nat
 n:Int
def NdA.nd (a:NdA):Nd:=⟨a.kind,a.vk,a.vn,a.vt,a.r,a.op,a.fn,a.n.toNat⟩
def aRow (a:NdA):List Value:=[.int .u8 a.kind,.int .u8 a.vk,.int .i64 a.vn,.string ⟨a.vt.toArray⟩,.int .i64 a.r.c1,.int .i64 a.r.r1,.int .i64 a.r.c2,.int .i64 a.r.r2,.int .i64 a.op,.int .u8 a.fn,.int .i64 a.n]
def aA (a:NdA):Value:=.agg (aRow a).toArray
def Nd.any (n:Nd):NdA:=⟨n.kind,n.vk,n.vn,n.vt,n.r,n.op,n.fn,(n.n:Int)⟩
theorem any_nd (n:Nd):n.any.nd=n:=by obtain ⟨a,b,c,d,e,f,g,h⟩:=n; rfl
def noV (a:NdA):Prop:=a.vk=0∧a.vn=0∧a.vt=[]
def noE (a:NdA):Prop:=a.op=0∧a.fn=0∧a.n=0
def okA (a:NdA):Prop :=
 (a.kind=1∧goodV a.vk a.vn a.vt∧a.r=R4.zero∧noE a) ∨
 (a.kind=2∧noV a∧checkB a.r=true∧(a.r.c1=a.r.c2∧a.r.r1=a.r.r2)∧noE a) ∨
 (a.kind=3∧noV a∧checkB a.r=true∧¬ (a.r.c1=a.r.c2∧a.r.r1=a.r.r2)∧noE a) ∨
 ((a.kind=4∨a.kind=5)∧noV a∧a.r=R4.zero∧noE a) ∨
 (a.kind=6∧noV a∧a.r=R4.zero∧(1≤a.op∧a.op≤12)∧a.fn=0∧a.n=0) ∨
 (a.kind=7∧noV a∧a.r=R4.zero∧a.op=0∧0≤a.n)
open Classical in
noncomputable def fieldsE (a:NdA):Int :=
 if okA a then (if a.kind=7 then (if a.fn=0∨50<a.fn then 10 else if a.n<((arS a.fn).1:Nat)∨((arS a.fn).2:Nat)<a.n then 11 else 0) else 0) else 2
theorem fields_bad {a:NdA} (h:¬ okA a):fieldsE a=2:=if_neg h
theorem fields_good {a:NdA} (h:okA a) (h7:a.kind≠7):fieldsE a=0:=by unfold fieldsE; rw [if_pos h,if_neg h7]
theorem fields_fn {a:NdA} (h:okA a) (h7:a.kind=7) (hf:a.fn=0∨50<a.fn):fieldsE a=10:=by unfold fieldsE; rw [if_pos h,if_pos h7,if_pos hf]
theorem fields_cnt {a:NdA} (h:okA a) (h7:a.kind=7) (hf:¬ (a.fn=0∨50<a.fn)) (hn:a.n<((arS a.fn).1:Nat)∨((arS a.fn).2:Nat)<a.n):fieldsE a=11:=by
 unfold fieldsE; rw [if_pos h,if_pos h7,if_neg hf,if_pos hn]
theorem fields_fit {a:NdA} (h:okA a) (h7:a.kind=7) (hf:¬ (a.fn=0∨50<a.fn)) (hn:¬ (a.n<((arS a.fn).1:Nat)∨((arS a.fn).2:Nat)<a.n)):fieldsE a=0:=by
 unfold fieldsE; rw [if_pos h,if_pos h7,if_neg hf,if_neg hn]
theorem fields_zero {a:NdA} (h:fieldsE a=0):goodNd a.nd∧0≤a.n∧a=a.nd.any:=by
 by_cases hok:okA a
 ·obtain ⟨k,vk,vn,vt,r,op,fn,n⟩:=a
  have key:goodNd (NdA.nd ⟨k,vk,vn,vt,r,op,fn,n⟩)∧0≤n:=by
   rcases hok with ⟨h1,hv,h2,h3,h4,h5⟩ | ⟨h1,⟨a1,a2,a3⟩,h2,h3,b1,b2,b3⟩ | ⟨h1,⟨a1,a2,a3⟩,h2,h3,b1,b2,b3⟩ | ⟨h1,⟨a1,a2,a3⟩,h2,b1,b2,b3⟩ | ⟨h1,⟨a1,a2,a3⟩,h2,h3,b2,b3⟩ | ⟨h1,⟨a1,a2,a3⟩,h2,b1,b3⟩
   ·simp only [] at h1 hv h2 h3 h4 h5
    subst h1 h2 h3 h4 h5
    exact ⟨.inl ⟨vk,vn,vt,rfl,hv⟩,Int.le_refl _⟩
   ·simp only [] at h1 a1 a2 a3 h2 h3 b1 b2 b3
    subst h1 a1 a2 a3 b1 b2 b3
    exact ⟨.inr (.inl ⟨r,rfl,h2,h3.1,h3.2⟩),Int.le_refl _⟩
   ·simp only [] at h1 a1 a2 a3 h2 h3 b1 b2 b3
    subst h1 a1 a2 a3 b1 b2 b3
    exact ⟨.inr (.inr (.inl ⟨r,rfl,h2,h3⟩)),Int.le_refl _⟩
   ·simp only [] at h1 a1 a2 a3 h2 b1 b2 b3
    subst a1 a2 a3 h2 b1 b2 b3
    rcases h1 with rfl | rfl
    ·exact ⟨.inr (.inr (.inr (.inl rfl))),Int.le_refl _⟩
    ·exact ⟨.inr (.inr (.inr (.inr (.inl rfl)))),Int.le_refl _⟩
   ·simp only [] at h1 a1 a2 a3 h2 h3 b2 b3
    subst h1 a1 a2 a3 h2 b2 b3
    exact ⟨.inr (.inr (.inr (.inr (.inr (.inl ⟨op,rfl,h3.1,h3.2⟩))))),Int.le_refl _⟩
   ·simp only [] at h1 a1 a2 a3 h2 b1 b3
    subst h1 a1 a2 a3 h2 b1
    by_cases hf:fn=0∨50<fn
    ·rw [fields_fn (.inr (.inr (.inr (.inr (.inr ⟨rfl,⟨rfl,rfl,rfl⟩,rfl,rfl,b3⟩))))) rfl hf] at h
     exact absurd h (by decide)
    by_cases hn:n<((arS fn).1:Nat)∨((arS fn).2:Nat)<n
    ·rw [fields_cnt (.inr (.inr (.inr (.inr (.inr ⟨rfl,⟨rfl,rfl,rfl⟩,rfl,rfl,b3⟩))))) rfl hf hn] at h
     exact absurd h (by decide)
    ·exact ⟨.inr (.inr (.inr (.inr (.inr (.inr ⟨fn,n.toNat,rfl,by omega,by omega,by omega,by omega⟩))))),b3⟩
  refine ⟨key.1,key.2,?_⟩
  have h2:0≤n:=key.2
  have:((n.toNat:Nat):Int)=n:=by omega
  unfold Nd.any NdA.nd
  simp only [this]
 ·rw [fields_bad hok] at h
  exact absurd h (by decide)
theorem good_fields {n:Nd} (h:goodNd n):fieldsE n.any=0:=by
 rcases h with ⟨vk,vn,vt,rfl,hv⟩ | ⟨r,rfl,h1,h2,h3⟩ | ⟨r,rfl,h1,h2⟩ | rfl | rfl | ⟨op,rfl,h1,h2⟩ | ⟨fn,k,rfl,h1,h2,h3,h4⟩
 ·exact fields_good (.inl ⟨rfl,hv,rfl,rfl,rfl,rfl⟩) (by decide:(1:Nat)≠7)
 ·exact fields_good (.inr (.inl ⟨rfl,⟨rfl,rfl,rfl⟩,h1,⟨h2,h3⟩,rfl,rfl,rfl⟩)) (by decide:(2:Nat)≠7)
 ·exact fields_good (.inr (.inr (.inl ⟨rfl,⟨rfl,rfl,rfl⟩,h1,h2,rfl,rfl,rfl⟩))) (by decide:(3:Nat)≠7)
 ·exact fields_good (.inr (.inr (.inr (.inl ⟨.inl rfl,⟨rfl,rfl,rfl⟩,rfl,rfl,rfl,rfl⟩)))) (by decide:(4:Nat)≠7)
 ·exact fields_good (.inr (.inr (.inr (.inl ⟨.inr rfl,⟨rfl,rfl,rfl⟩,rfl,rfl,rfl,rfl⟩)))) (by decide:(5:Nat)≠7)
 ·exact fields_good (.inr (.inr (.inr (.inr (.inl ⟨rfl,⟨rfl,rfl,rfl⟩,rfl,⟨h1,h2⟩,rfl,rfl⟩))))) (by decide:(6:Nat)≠7)
 ·refine fields_fit (.inr (.inr (.inr (.inr (.inr ⟨rfl,⟨rfl,rfl,rfl⟩,rfl,rfl,?_⟩))))) rfl ?_ ?_
  ·show (0:Int)≤(k:Int); omega
  ·show ¬ (fn=0∨50<fn); omega
  ·show ¬ ((k:Int)<((arS fn).1:Nat)∨((arS fn).2:Nat)<(k:Int)); omega
noncomputable def walkX (T:List Nd):Nat→List NdA→List Pt→Except Int (List Pt)
 | _,[],st=>.ok st
 | i,a::l,st=>if fieldsE a≠0 then .error (fieldsE a) else match stepW T st i a.nd with
  | .error e=>.error e
  | .ok st2=>walkX T (i+1) l st2
noncomputable def walkEX (t:List NdA):Int:=match walkX (t.map NdA.nd) 0 t [] with
 | .error e=>e
 | .ok st=>if st.length=1 then 0 else 4
noncomputable def checkA (t:List NdA):Int :=
 if 256<t.length then 5 else if t=[] then 4 else if walkEX t≠0 then walkEX t else if t.getLast?.map (·.kind)=some 3 then 4 else 0
theorem walkX_good (T:List Nd):∀ (l:List NdA) (i:Nat) (st:List Pt),(∀ a∈l,fieldsE a=0)→walkX T i l st=walkW T i (l.map NdA.nd) st
 | [],_,_,_=>rfl
 | a::l,i,st,h=>by
  rw [walkX,List.map_cons,walkW,if_neg (by rw [h a (by simp)]; decide)]
  cases stepW T st i a.nd with
  | error e=>rfl
  | ok st2=>exact walkX_good T l (i+1) st2 fun x hx=>h x (by simp [hx])
theorem walkX_ok (T:List Nd):∀ (l:List NdA) (i:Nat) (st st2:List Pt),walkX T i l st=.ok st2→∀ a∈l,fieldsE a=0
 | [],_,_,_,_=>by simp
 | a::l,i,st,st2,h=>by
  rw [walkX] at h
  by_cases h0:fieldsE a=0
  ·rw [if_neg (by rw [h0]; decide)] at h
   cases hs:stepW T st i a.nd with
   | error e=>rw [hs] at h; cases h
   | ok s1 =>
    rw [hs] at h
    intro x hx
    rcases List.mem_cons.1 hx with rfl | hx
    ·exact h0
    ·exact walkX_ok T l (i+1) s1 st2 h x hx
  ·rw [if_pos h0] at h; cases h
theorem walkX_err (T:List Nd):∀ (l:List NdA) (i:Nat) (st:List Pt) (c:Int),walkX T i l st=.error c→c≠0
 | [],_,_,_,h=>by rw [walkX] at h; cases h
 | a::l,i,st,c,h=>by
  rw [walkX] at h
  by_cases h0:fieldsE a=0
  ·rw [if_neg (by rw [h0]; decide)] at h
   cases hs:stepW T st i a.nd with
   | error e =>
    rw [hs] at h
    injection h with h
    subst h
    unfold stepW at hs
    split at hs
    ·injection hs with hs; omega
    split at hs
    ·injection hs with hs; omega
    split at hs
    ·injection hs with hs; omega
    ·cases hs
   | ok s1=>rw [hs] at h; exact walkX_err T l (i+1) s1 c h
  ·rw [if_pos h0] at h
   injection h with h
   rw [← h]; exact h0
theorem walkEX_zero {t:List NdA} (h:walkEX t=0):∃ st,walkX (t.map NdA.nd) 0 t []=.ok st∧st.length=1:=by
 unfold walkEX at h
 cases hw:walkX (t.map NdA.nd) 0 t [] with
 | error c=>rw [hw] at h; exact absurd h (walkX_err _ _ _ _ _ hw)
 | ok st =>
  rw [hw] at h
  refine ⟨st,rfl,?_⟩
  simp only [] at h
  split at h
  ·assumption
  ·exact absurd h (by decide)
theorem walkEX_good {t:List NdA} (h:∀ a∈t,fieldsE a=0):walkEX t=walkE (t.map NdA.nd):=by
 unfold walkEX walkE
 rw [walkX_good _ _ _ _ h]
 cases walkW (t.map NdA.nd) 0 (t.map NdA.nd) [] <;> rfl
theorem checkA_good {t:List NdA} (h:∀ a∈t,fieldsE a=0):checkA t=checkS (t.map NdA.nd):=by
 unfold checkA checkS
 rw [walkEX_good h,List.length_map,List.getLast?_map,Option.map_map]
 have e:(t=[])=(t.map NdA.nd=[]):=by simp
 simp only [e]
 rfl
theorem checkA_zero {t:List NdA} (h:checkA t=0):(∀ a∈t,fieldsE a=0)∧checkS (t.map NdA.nd)=0∧t≠[]∧t.length≤256∧∃ p,walkX (t.map NdA.nd) 0 t []=.ok [p]:=by
 have h1:¬ 256<t.length:=by intro g; unfold checkA at h; rw [if_pos g] at h; exact absurd h (by decide)
 have h2:¬ t=[]:=by intro g; unfold checkA at h; rw [if_neg h1,if_pos g] at h; exact absurd h (by decide)
 have h3:walkEX t=0:=by
  apply Classical.byContradiction
  intro g
  unfold checkA at h
  rw [if_neg h1,if_neg h2,if_pos g] at h
  exact g h
 obtain ⟨st,hw,hl⟩:=walkEX_zero h3
 have hg:=walkX_ok _ _ _ _ _ hw
 refine ⟨hg,by rw [← checkA_good hg]; exact h,h2,by omega,?_⟩
 obtain ⟨p,rfl⟩:=List.length_eq_one_iff.1 hl
 exact ⟨p,hw⟩
theorem map_any (l:List Nd):(l.map Nd.any).map NdA.nd=l:=by
 rw [List.map_map]
 conv=>rhs; rw [← List.map_id l]
 exact List.map_congr_left fun n _=>any_nd n
theorem checkA_any {l:List Nd} (h:∀ n∈l,goodNd n):checkA (l.map Nd.any)=checkS l:=by
 rw [checkA_good,map_any]
 intro a ha
 obtain ⟨n,hn,rfl⟩:=List.mem_map.1 ha
 exact good_fields (h n hn)
set_option maxRecDepth 100000
set_option maxHeartbeats 4000000
def signsEs:Array MapEntry:=#[{ key:=.int .i64 1,val:=.string { data:=#[43] },born:=0 },{ key:=.int .i64 2,val:=.string { data:=#[45] },born:=1 },{ key:=.int .i64 3,val:=.string { data:=#[42] },born:=2 },{ key:=.int .i64 4,val:=.string { data:=#[47] },born:=3 },{ key:=.int .i64 5,val:=.string { data:=#[94] },born:=4 },{ key:=.int .i64 6,val:=.string { data:=#[38] },born:=5 },{ key:=.int .i64 7,val:=.string { data:=#[61] },born:=6 },{ key:=.int .i64 8,val:=.string { data:=#[60,62] },born:=7 },{ key:=.int .i64 9,val:=.string { data:=#[60] },born:=8 },{ key:=.int .i64 10,val:=.string { data:=#[60,61] },born:=9 },{ key:=.int .i64 11,val:=.string { data:=#[62] },born:=10 },{ key:=.int .i64 12,val:=.string { data:=#[62,61] },born:=11 }]
theorem sg_map:Tryz.prog.underlying 155=some (.map 2 9):=by kernel_rfl
theorem sg_key:Tryz.prog.underlying 2=some (.int .i64):=by kernel_rfl
theorem sg_1 (w:World):(Instr.mapUpdate 155 (.map (some w.heap.size)) (.int .i64 1) (.string { data:=#[43] })).run Tryz.prog (w.alloc (.map #[] 0))=.ok () (w.alloc (.map #[{ key:=.int .i64 1,val:=.string { data:=#[43] },born:=0 }] 1)) :=
 ins_new _ _ _ _ sg_map sg_key _ _ _ _ (by simp [MapKept.IsKey]) rfl w
theorem sg_2 (w:World):(Instr.mapUpdate 155 (.map (some w.heap.size)) (.int .i64 2) (.string { data:=#[45] })).run Tryz.prog (w.alloc (.map #[{ key:=.int .i64 1,val:=.string { data:=#[43] },born:=0 }] 1))=.ok () (w.alloc (.map #[{ key:=.int .i64 1,val:=.string { data:=#[43] },born:=0 },{ key:=.int .i64 2,val:=.string { data:=#[45] },born:=1 }] 2)) :=
 ins_new _ _ _ _ sg_map sg_key _ _ _ _ (by simp [MapKept.IsKey]) rfl w
theorem sg_3 (w:World):(Instr.mapUpdate 155 (.map (some w.heap.size)) (.int .i64 3) (.string { data:=#[42] })).run Tryz.prog (w.alloc (.map #[{ key:=.int .i64 1,val:=.string { data:=#[43] },born:=0 },{ key:=.int .i64 2,val:=.string { data:=#[45] },born:=1 }] 2))=.ok () (w.alloc (.map #[{ key:=.int .i64 1,val:=.string { data:=#[43] },born:=0 },{ key:=.int .i64 2,val:=.string { data:=#[45] },born:=1 },{ key:=.int .i64 3,val:=.string { data:=#[42] },born:=2 }] 3)) :=
 ins_new _ _ _ _ sg_map sg_key _ _ _ _ (by simp [MapKept.IsKey]) rfl w
theorem sg_4 (w:World):(Instr.mapUpdate 155 (.map (some w.heap.size)) (.int .i64 4) (.string { data:=#[47] })).run Tryz.prog (w.alloc (.map #[{ key:=.int .i64 1,val:=.string { data:=#[43] },born:=0 },{ key:=.int .i64 2,val:=.string { data:=#[45] },born:=1 },{ key:=.int .i64 3,val:=.string { data:=#[42] },born:=2 }] 3))=.ok () (w.alloc (.map #[{ key:=.int .i64 1,val:=.string { data:=#[43] },born:=0 },{ key:=.int .i64 2,val:=.string { data:=#[45] },born:=1 },{ key:=.int .i64 3,val:=.string { data:=#[42] },born:=2 },{ key:=.int .i64 4,val:=.string { data:=#[47] },born:=3 }] 4)) :=
 ins_new _ _ _ _ sg_map sg_key _ _ _ _ (by simp [MapKept.IsKey]) rfl w
theorem sg_5 (w:World):(Instr.mapUpdate 155 (.map (some w.heap.size)) (.int .i64 5) (.string { data:=#[94] })).run Tryz.prog (w.alloc (.map #[{ key:=.int .i64 1,val:=.string { data:=#[43] },born:=0 },{ key:=.int .i64 2,val:=.string { data:=#[45] },born:=1 },{ key:=.int .i64 3,val:=.string { data:=#[42] },born:=2 },{ key:=.int .i64 4,val:=.string { data:=#[47] },born:=3 }] 4))=.ok () (w.alloc (.map #[{ key:=.int .i64 1,val:=.string { data:=#[43] },born:=0 },{ key:=.int .i64 2,val:=.string { data:=#[45] },born:=1 },{ key:=.int .i64 3,val:=.string { data:=#[42] },born:=2 },{ key:=.int .i64 4,val:=.string { data:=#[47] },born:=3 },{ key:=.int .i64 5,val:=.string { data:=#[94] },born:=4 }] 5)) :=
 ins_new _ _ _ _ sg_map sg_key _ _ _ _ (by simp [MapKept.IsKey]) rfl w
theorem sg_6 (w:World):(Instr.mapUpdate 155 (.map (some w.heap.size)) (.int .i64 6) (.string { data:=#[38] })).run Tryz.prog (w.alloc (.map #[{ key:=.int .i64 1,val:=.string { data:=#[43] },born:=0 },{ key:=.int .i64 2,val:=.string { data:=#[45] },born:=1 },{ key:=.int .i64 3,val:=.string { data:=#[42] },born:=2 },{ key:=.int .i64 4,val:=.string { data:=#[47] },born:=3 },{ key:=.int .i64 5,val:=.string { data:=#[94] },born:=4 }] 5))=.ok () (w.alloc (.map #[{ key:=.int .i64 1,val:=.string { data:=#[43] },born:=0 },{ key:=.int .i64 2,val:=.string { data:=#[45] },born:=1 },{ key:=.int .i64 3,val:=.string { data:=#[42] },born:=2 },{ key:=.int .i64 4,val:=.string { data:=#[47] },born:=3 },{ key:=.int .i64 5,val:=.string { data:=#[94] },born:=4 },{ key:=.int .i64 6,val:=.string { data:=#[38] },born:=5 }] 6)) :=
 ins_new _ _ _ _ sg_map sg_key _ _ _ _ (by simp [MapKept.IsKey]) rfl w
theorem sg_7 (w:World):(Instr.mapUpdate 155 (.map (some w.heap.size)) (.int .i64 7) (.string { data:=#[61] })).run Tryz.prog (w.alloc (.map #[{ key:=.int .i64 1,val:=.string { data:=#[43] },born:=0 },{ key:=.int .i64 2,val:=.string { data:=#[45] },born:=1 },{ key:=.int .i64 3,val:=.string { data:=#[42] },born:=2 },{ key:=.int .i64 4,val:=.string { data:=#[47] },born:=3 },{ key:=.int .i64 5,val:=.string { data:=#[94] },born:=4 },{ key:=.int .i64 6,val:=.string { data:=#[38] },born:=5 }] 6))=.ok () (w.alloc (.map #[{ key:=.int .i64 1,val:=.string { data:=#[43] },born:=0 },{ key:=.int .i64 2,val:=.string { data:=#[45] },born:=1 },{ key:=.int .i64 3,val:=.string { data:=#[42] },born:=2 },{ key:=.int .i64 4,val:=.string { data:=#[47] },born:=3 },{ key:=.int .i64 5,val:=.string { data:=#[94] },born:=4 },{ key:=.int .i64 6,val:=.string { data:=#[38] },born:=5 },{ key:=.int .i64 7,val:=.string { data:=#[61] },born:=6 }] 7)) :=
 ins_new _ _ _ _ sg_map sg_key _ _ _ _ (by simp [MapKept.IsKey]) rfl w
theorem sg_8 (w:World):(Instr.mapUpdate 155 (.map (some w.heap.size)) (.int .i64 8) (.string { data:=#[60,62] })).run Tryz.prog (w.alloc (.map #[{ key:=.int .i64 1,val:=.string { data:=#[43] },born:=0 },{ key:=.int .i64 2,val:=.string { data:=#[45] },born:=1 },{ key:=.int .i64 3,val:=.string { data:=#[42] },born:=2 },{ key:=.int .i64 4,val:=.string { data:=#[47] },born:=3 },{ key:=.int .i64 5,val:=.string { data:=#[94] },born:=4 },{ key:=.int .i64 6,val:=.string { data:=#[38] },born:=5 },{ key:=.int .i64 7,val:=.string { data:=#[61] },born:=6 }] 7))=.ok () (w.alloc (.map #[{ key:=.int .i64 1,val:=.string { data:=#[43] },born:=0 },{ key:=.int .i64 2,val:=.string { data:=#[45] },born:=1 },{ key:=.int .i64 3,val:=.string { data:=#[42] },born:=2 },{ key:=.int .i64 4,val:=.string { data:=#[47] },born:=3 },{ key:=.int .i64 5,val:=.string { data:=#[94] },born:=4 },{ key:=.int .i64 6,val:=.string { data:=#[38] },born:=5 },{ key:=.int .i64 7,val:=.string { data:=#[61] },born:=6 },{ key:=.int .i64 8,val:=.string { data:=#[60,62] },born:=7 }] 8)) :=
 ins_new _ _ _ _ sg_map sg_key _ _ _ _ (by simp [MapKept.IsKey]) rfl w
theorem sg_9 (w:World):(Instr.mapUpdate 155 (.map (some w.heap.size)) (.int .i64 9) (.string { data:=#[60] })).run Tryz.prog (w.alloc (.map #[{ key:=.int .i64 1,val:=.string { data:=#[43] },born:=0 },{ key:=.int .i64 2,val:=.string { data:=#[45] },born:=1 },{ key:=.int .i64 3,val:=.string { data:=#[42] },born:=2 },{ key:=.int .i64 4,val:=.string { data:=#[47] },born:=3 },{ key:=.int .i64 5,val:=.string { data:=#[94] },born:=4 },{ key:=.int .i64 6,val:=.string { data:=#[38] },born:=5 },{ key:=.int .i64 7,val:=.string { data:=#[61] },born:=6 },{ key:=.int .i64 8,val:=.string { data:=#[60,62] },born:=7 }] 8))=.ok () (w.alloc (.map #[{ key:=.int .i64 1,val:=.string { data:=#[43] },born:=0 },{ key:=.int .i64 2,val:=.string { data:=#[45] },born:=1 },{ key:=.int .i64 3,val:=.string { data:=#[42] },born:=2 },{ key:=.int .i64 4,val:=.string { data:=#[47] },born:=3 },{ key:=.int .i64 5,val:=.string { data:=#[94] },born:=4 },{ key:=.int .i64 6,val:=.string { data:=#[38] },born:=5 },{ key:=.int .i64 7,val:=.string { data:=#[61] },born:=6 },{ key:=.int .i64 8,val:=.string { data:=#[60,62] },born:=7 },{ key:=.int .i64 9,val:=.string { data:=#[60] },born:=8 }] 9)) :=
 ins_new _ _ _ _ sg_map sg_key _ _ _ _ (by simp [MapKept.IsKey]) rfl w
theorem sg_10 (w:World):(Instr.mapUpdate 155 (.map (some w.heap.size)) (.int .i64 10) (.string { data:=#[60,61] })).run Tryz.prog (w.alloc (.map #[{ key:=.int .i64 1,val:=.string { data:=#[43] },born:=0 },{ key:=.int .i64 2,val:=.string { data:=#[45] },born:=1 },{ key:=.int .i64 3,val:=.string { data:=#[42] },born:=2 },{ key:=.int .i64 4,val:=.string { data:=#[47] },born:=3 },{ key:=.int .i64 5,val:=.string { data:=#[94] },born:=4 },{ key:=.int .i64 6,val:=.string { data:=#[38] },born:=5 },{ key:=.int .i64 7,val:=.string { data:=#[61] },born:=6 },{ key:=.int .i64 8,val:=.string { data:=#[60,62] },born:=7 },{ key:=.int .i64 9,val:=.string { data:=#[60] },born:=8 }] 9))=.ok () (w.alloc (.map #[{ key:=.int .i64 1,val:=.string { data:=#[43] },born:=0 },{ key:=.int .i64 2,val:=.string { data:=#[45] },born:=1 },{ key:=.int .i64 3,val:=.string { data:=#[42] },born:=2 },{ key:=.int .i64 4,val:=.string { data:=#[47] },born:=3 },{ key:=.int .i64 5,val:=.string { data:=#[94] },born:=4 },{ key:=.int .i64 6,val:=.string { data:=#[38] },born:=5 },{ key:=.int .i64 7,val:=.string { data:=#[61] },born:=6 },{ key:=.int .i64 8,val:=.string { data:=#[60,62] },born:=7 },{ key:=.int .i64 9,val:=.string { data:=#[60] },born:=8 },{ key:=.int .i64 10,val:=.string { data:=#[60,61] },born:=9 }] 10)) :=
 ins_new _ _ _ _ sg_map sg_key _ _ _ _ (by simp [MapKept.IsKey]) rfl w
theorem sg_11 (w:World):(Instr.mapUpdate 155 (.map (some w.heap.size)) (.int .i64 11) (.string { data:=#[62] })).run Tryz.prog (w.alloc (.map #[{ key:=.int .i64 1,val:=.string { data:=#[43] },born:=0 },{ key:=.int .i64 2,val:=.string { data:=#[45] },born:=1 },{ key:=.int .i64 3,val:=.string { data:=#[42] },born:=2 },{ key:=.int .i64 4,val:=.string { data:=#[47] },born:=3 },{ key:=.int .i64 5,val:=.string { data:=#[94] },born:=4 },{ key:=.int .i64 6,val:=.string { data:=#[38] },born:=5 },{ key:=.int .i64 7,val:=.string { data:=#[61] },born:=6 },{ key:=.int .i64 8,val:=.string { data:=#[60,62] },born:=7 },{ key:=.int .i64 9,val:=.string { data:=#[60] },born:=8 },{ key:=.int .i64 10,val:=.string { data:=#[60,61] },born:=9 }] 10))=.ok () (w.alloc (.map #[{ key:=.int .i64 1,val:=.string { data:=#[43] },born:=0 },{ key:=.int .i64 2,val:=.string { data:=#[45] },born:=1 },{ key:=.int .i64 3,val:=.string { data:=#[42] },born:=2 },{ key:=.int .i64 4,val:=.string { data:=#[47] },born:=3 },{ key:=.int .i64 5,val:=.string { data:=#[94] },born:=4 },{ key:=.int .i64 6,val:=.string { data:=#[38] },born:=5 },{ key:=.int .i64 7,val:=.string { data:=#[61] },born:=6 },{ key:=.int .i64 8,val:=.string { data:=#[60,62] },born:=7 },{ key:=.int .i64 9,val:=.string { data:=#[60] },born:=8 },{ key:=.int .i64 10,val:=.string { data:=#[60,61] },born:=9 },{ key:=.int .i64 11,val:=.string { data:=#[62] },born:=10 }] 11)) :=
 ins_new _ _ _ _ sg_map sg_key _ _ _ _ (by simp [MapKept.IsKey]) rfl w
theorem sg_12 (w:World):(Instr.mapUpdate 155 (.map (some w.heap.size)) (.int .i64 12) (.string { data:=#[62,61] })).run Tryz.prog (w.alloc (.map #[{ key:=.int .i64 1,val:=.string { data:=#[43] },born:=0 },{ key:=.int .i64 2,val:=.string { data:=#[45] },born:=1 },{ key:=.int .i64 3,val:=.string { data:=#[42] },born:=2 },{ key:=.int .i64 4,val:=.string { data:=#[47] },born:=3 },{ key:=.int .i64 5,val:=.string { data:=#[94] },born:=4 },{ key:=.int .i64 6,val:=.string { data:=#[38] },born:=5 },{ key:=.int .i64 7,val:=.string { data:=#[61] },born:=6 },{ key:=.int .i64 8,val:=.string { data:=#[60,62] },born:=7 },{ key:=.int .i64 9,val:=.string { data:=#[60] },born:=8 },{ key:=.int .i64 10,val:=.string { data:=#[60,61] },born:=9 },{ key:=.int .i64 11,val:=.string { data:=#[62] },born:=10 }] 11))=.ok () (w.alloc (.map #[{ key:=.int .i64 1,val:=.string { data:=#[43] },born:=0 },{ key:=.int .i64 2,val:=.string { data:=#[45] },born:=1 },{ key:=.int .i64 3,val:=.string { data:=#[42] },born:=2 },{ key:=.int .i64 4,val:=.string { data:=#[47] },born:=3 },{ key:=.int .i64 5,val:=.string { data:=#[94] },born:=4 },{ key:=.int .i64 6,val:=.string { data:=#[38] },born:=5 },{ key:=.int .i64 7,val:=.string { data:=#[61] },born:=6 },{ key:=.int .i64 8,val:=.string { data:=#[60,62] },born:=7 },{ key:=.int .i64 9,val:=.string { data:=#[60] },born:=8 },{ key:=.int .i64 10,val:=.string { data:=#[60,61] },born:=9 },{ key:=.int .i64 11,val:=.string { data:=#[62] },born:=10 },{ key:=.int .i64 12,val:=.string { data:=#[62,61] },born:=11 }] 12)) :=
 ins_new _ _ _ _ sg_map sg_key _ _ _ _ (by simp [MapKept.IsKey]) rfl w
theorem show_signs (w:World) :
  Calls Tryz.prog 122 #[] w fun e w'=>e=.returned (.map (some w.heap.size))∧w'=w.alloc (.map signsEs 12):=by
 have hmm:=@run_makeMap Tryz.prog
 have g1:=sg_1
 have g2:=sg_2
 have g3:=sg_3
 have g4:=sg_4
 have g5:=sg_5
 have g6:=sg_6
 have g7:=sg_7
 have g8:=sg_8
 have g9:=sg_9
 have g10:=sg_10
 have g11:=sg_11
 have g12:=sg_12
 go_enter Tryz.func122,Tryz.ntmps122
 go_wp2_with fail
 go_ret
 exact ⟨rfl,rfl⟩
theorem sign_at (op:Int) (h1:1≤op) (h12:op≤12) (r:Nat) (w:World) (hb:w.heap[r]?=some (.map signsEs 12)):(Instr.lookup 155 (.map (some r)) (.int .i64 op) false).run Tryz.prog w=.ok (.string ⟨(opText op).toArray⟩) w:=by
 have h:op=1∨op=2∨op=3∨op=4∨op=5∨op=6∨op=7∨op=8∨op=9∨op=10∨op=11∨op=12:=by omega
 rcases h with rfl | rfl | rfl | rfl | rfl | rfl | rfl | rfl | rfl | rfl | rfl | rfl
 ·exact look_at (i:=0) _ _ _ _ sg_map sg_key hb _ _ (by simp [MapKept.IsKey]) rfl
 ·exact look_at (i:=1) _ _ _ _ sg_map sg_key hb _ _ (by simp [MapKept.IsKey]) rfl
 ·exact look_at (i:=2) _ _ _ _ sg_map sg_key hb _ _ (by simp [MapKept.IsKey]) rfl
 ·exact look_at (i:=3) _ _ _ _ sg_map sg_key hb _ _ (by simp [MapKept.IsKey]) rfl
 ·exact look_at (i:=4) _ _ _ _ sg_map sg_key hb _ _ (by simp [MapKept.IsKey]) rfl
 ·exact look_at (i:=5) _ _ _ _ sg_map sg_key hb _ _ (by simp [MapKept.IsKey]) rfl
 ·exact look_at (i:=6) _ _ _ _ sg_map sg_key hb _ _ (by simp [MapKept.IsKey]) rfl
 ·exact look_at (i:=7) _ _ _ _ sg_map sg_key hb _ _ (by simp [MapKept.IsKey]) rfl
 ·exact look_at (i:=8) _ _ _ _ sg_map sg_key hb _ _ (by simp [MapKept.IsKey]) rfl
 ·exact look_at (i:=9) _ _ _ _ sg_map sg_key hb _ _ (by simp [MapKept.IsKey]) rfl
 ·exact look_at (i:=10) _ _ _ _ sg_map sg_key hb _ _ (by simp [MapKept.IsKey]) rfl
 ·exact look_at (i:=11) _ _ _ _ sg_map sg_key hb _ _ (by simp [MapKept.IsKey]) rfl
