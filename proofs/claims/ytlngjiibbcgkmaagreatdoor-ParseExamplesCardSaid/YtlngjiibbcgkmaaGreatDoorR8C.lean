/- The reference's node: one node and the trees behind it. -/
import Derived.Test.YtlngjiibbcgkmaaGreatDoorR8B
import Derived.Deep.LoopGhost
import Derived.IntWalk
namespace Go.Proofs.YtlngjiibbcgkmaaGreatDoor
open Go.RowKit
theorem info_top : (Tryz.prog.info? 95).map (fun i => (i.zero,i.size,i.bytes)) = some (some (.agg #[.int .i64 0,.int .i64 0]),2,16):=by kernel_rfl
def topRow (p : Pt) : List Value:=[.int .i64 (p.root : Nat),.int .i64 (p.depth : Nat)]
def topCells (l : List Pt) : List Value:=l.flatMap topRow
theorem topCells_len (l : List Pt) : (topCells l).length = l.length * 2:=by
 induction l with
 | nil => rfl
 | cons n l ih => simp only [topCells,List.flatMap_cons,List.length_append,List.length_cons] at ih ⊢; rw [ih]; simp [topRow]; omega
theorem topCells_take (l : List Pt) (k : Nat) (h : k ≤ l.length) : (topCells l).take (k * 2) = topCells (l.take k):=by
 conv => lhs; rw [← List.take_append_drop k l]
 unfold topCells
 rw [List.flatMap_append]
 have h2:=topCells_len (l.take k)
 unfold topCells at h2
 rw [List.length_take,Nat.min_eq_left h] at h2
 rw [← h2,List.take_left]
theorem topCells_snoc (l : List Pt) (p : Pt) : topCells (l ++ [p]) = topCells l ++ topRow p:=by simp [topCells]
theorem topCells_at (l : List Pt) (i : Nat) (p : Pt) (h : l[i]? = some p) (j : Nat) (v : Value) (hj : (topRow p)[j]? = some v) : (topCells l)[i * 2 + j]? = some v:=by
 obtain ⟨hi,rfl⟩:=List.getElem?_eq_some_iff.1 h
 have h1 : topCells l = topCells (l.take i) ++ (topRow l[i] ++ topCells (l.drop (i + 1))):=by
  have e : l = l.take i ++ l[i] :: l.drop (i + 1):=by rw [← List.drop_eq_getElem_cons hi,List.take_append_drop]
  unfold topCells
  conv => lhs; rw [e]
  rw [List.flatMap_append,List.flatMap_cons]
 have h2:=topCells_len (l.take i)
 rw [List.length_take,Nat.min_eq_left (by omega)] at h2
 have hj3 : j < 2:=by
  have:=(List.getElem?_eq_some_iff.1 hj).1
  simpa [topRow] using this
 rw [h1,List.getElem?_append_right (by omega),h2,Nat.add_sub_cancel_left,List.getElem?_append_left (by simpa [topRow] using hj3)]
 exact hj
theorem add_at0 (g x : Nat) : (⟨g,0,none⟩ : Addr).add x = ⟨g,x,none⟩:=by unfold Addr.add; split <;> simp_all
theorem top_one (l : List Pt) : ∀ u ∈ topCells l,u.oneCell' = true:=by
 intro u hu
 unfold topCells at hu
 rw [List.mem_flatMap] at hu
 obtain ⟨p,_,hp⟩:=hu
 simp [topRow] at hp
 rcases hp with rfl | rfl <;> rfl
theorem own_below {w w' : World} {B n s : Nat} {e : TypeId} {v : Value} {xs : List Value} (h : w.ownsRow B e s v n xs) (hb : Below w.heap.size w w') : w'.ownsRow B e s v n xs :=
 h.kept (only_of_below hb none) (by cases hv : v.ownBlock <;> simp)
theorem append_tops {W : World} {B B' n m : Nat} {v s : Value} {xs news : List Value} (hv : W.ownsRow B 95 2 v n xs) (hs : W.ownsRow B' 95 2 s m news) (h1 : ∀ u ∈ news,u.oneCell' = true) (hB : B ≤ W.heap.size) (hn : n + m ≤ 4194304) :
  ∃ v' w',(Builtin.append_ #[91,91] 91 #[v,s]).run Tryz.prog W = .ok v' w' ∧ w'.ownsRow B 95 2 v' (n + m) (xs ++ news) ∧ W.grownBy w' v.ownBlock ∧ (v'.ownBlock = none ∨ v'.ownBlock = v.ownBlock ∨ v'.ownBlock = some W.heap.size):=by
 obtain ⟨i0,hi0,hz0,hz1,hzb⟩:=info_parts info_top
 have hc:=@World.ownsRow.cells _ _ _ _ _ _ _ hs
 have hlen:=hs.1
 rcases hs.2 with ⟨rfl,rfl⟩ | ⟨g,cap,cur,rfl,_⟩
 ·obtain rfl : news = []:=List.eq_nil_of_length_eq_zero (by simpa using hlen)
  refine ⟨v,W,run_append_owned_none (P:=Tryz.prog) (w:=W) B 91 91 95 i0 2 Tryz.underlying91 hi0 v n xs hv,by rw [List.append_nil]; exact hv,⟨rfl,rfl,rfl,Nat.le_refl _,fun _ _ _ => rfl⟩,.inr (.inl rfl)⟩
 ·obtain ⟨v',w',hr,ho,hg,_,hat⟩:=run_append_own_at (P:=Tryz.prog) W B 91 91 95 i0 _ 2 16 Tryz.underlying91 hi0 hz0 hz1 hzb rfl (by omega) v n xs hv ⟨g,0,none⟩ m cap news hlen (hc rfl) h1 (by unfold maxLen; omega) (by omega) hB
  exact ⟨v',w',hr,ho,hg,.inr hat⟩
theorem wpList_run {P : Program} {w w' : World} {ops : Array Oper} {rest : List Oper} {o : Oper} {a : Act} {Q : Exit → Act → World → Prop} {v : Value} (hgd : o.guard = none) (s x : Operand) (t : TypeId)
  (ho : o.op = .call { callee:=.builtin .append,args:=#[s,x],argTypes:=#[t,t] }) (V X : Value) (hs : a.eval s = V) (hx : a.eval x = X) (hr : (Builtin.append_ #[t,t] o.type #[V,X]).run P w = .ok v w')
  (h : wpList P ops Q rest (a.put o.dst v) w') : wpList P ops Q (o :: rest) a w:=by
 refine wpList_plain hgd fun K hK => ?_
 unfold Oper.wp execOp
 simp only [ho,resolve,invoke,builtin,Sem.run_bind,Sem.run_pure,Result.andThen_ok,List.map_toArray,List.map_cons,List.map_nil,hs,hx,hr]
 exact hK _ _ h
theorem fit_eq {t : List Nd} {n : Nd} {j : Nat} {p : Pt} (hg : goodNd n) (hj : j < belowS n) (hw : p.wide = decide (kindAt t p.root = 3)) : fit1 t n j p = fitB n j (kindAt t p.root):=by
 unfold fit1 fitB
 rw [hw]
 generalize kindAt t p.root = k
 by_cases h7 : n.kind = 7
 ·have hc : isCall n = true:=by simp [isCall,h7]
  rw [if_neg (by simp [h7]),hc]
  obtain ⟨g1,g2⟩:=good_fn hg h7
  by_cases h46 : 46 ≤ n.fn
  ·have hr : relS n.fn = true:=by simp [relS,h46,g2]
   have har : (arS n.fn).2 = 1:=by
    have : n.fn = 46 ∨ n.fn = 47 ∨ n.fn = 48 ∨ n.fn = 49 ∨ n.fn = 50:=by omega
    rcases this with h | h | h | h | h <;> rw [h] <;> decide
   have hb : belowS n = n.n:=by unfold belowS; rw [if_neg (by omega),if_neg (by omega),if_pos h7]
   have hn1 : n.n ≤ (arS n.fn).2:=by
    rcases hg with ⟨vk,vn,vt,rfl,hv⟩ | ⟨r,rfl,_⟩ | ⟨r,rfl,_⟩ | rfl | rfl | ⟨op,rfl,_⟩ | ⟨fn,k,rfl,h1,h2,h3,h4⟩
    ·simp at h7
    ·simp [ndRef] at h7
    ·simp [ndRange] at h7
    ·simp [ndNeg] at h7
    ·simp [ndPct] at h7
    ·simp [ndBin] at h7
    ·exact h4
   obtain rfl : j = 0:=by omega
   have hwd : wideS n.fn 0 = true:=by
    have : n.fn = 46 ∨ n.fn = 47 ∨ n.fn = 48 ∨ n.fn = 49 ∨ n.fn = 50:=by omega
    rcases this with h | h | h | h | h <;> rw [h] <;> decide
   rw [if_pos h46,hr,hwd]
   by_cases h2 : k = 2
   ·subst h2; rfl
   by_cases h3 : k = 3
   ·subst h3; rfl
   rw [decide_eq_false (p:=k = 3 ∨ k = 2) (by omega),decide_eq_true (p:=k ≠ 2 ∧ k ≠ 3) ⟨h2,h3⟩]
   simp
  ·have hr : relS n.fn = false:=by simp [relS,h46]
   rw [if_neg h46,hr]
   by_cases h3 : k = 3
   ·subst h3; simp
   ·simp [h3]
 ·have hc : isCall n = false:=by simp [isCall,h7]
  rw [if_pos h7,hc]
  by_cases h3 : k = 3
  ·subst h3; rfl
  ·simp [h3]
set_option maxRecDepth 100000 in
theorem ref8_below (n : Nd) (w : World) :
  Calls Tryz.prog 139 #[ndA n] w fun e w' => e = .returned (.int .i64 (belowS n : Nat)) ∧ Below w.heap.size w w':=by
 have hc:=below_cases n
 obtain ⟨nk,vk,vn,vt,⟨r1,r2,r3,r4⟩,op,fn,nn⟩:=n
 obtain ⟨k,hk⟩ : ∃ k,belowS ⟨nk,vk,vn,vt,⟨r1,r2,r3,r4⟩,op,fn,nn⟩ = k:=⟨_,rfl⟩
 rw [hk] at hc ⊢
 clear hk
 simp only [] at hc
 unfold ndA ndRow
 simp only []
 have H1:=Lib.hid ((Ok.start w).alloc w.heap.size 32 [.int .u8 nk,.int .u8 vk,.int .i64 vn,.string ⟨vt.toArray⟩,.int .i64 r1,.int .i64 r2,.int .i64 r3,.int .i64 r4,.int .i64 op,.int .u8 fn,.int .i64 nn] rfl)
 rcases hc with ⟨rfl,rfl⟩ | ⟨rfl,rfl⟩ | ⟨rfl,rfl⟩ | ⟨rfl,rfl⟩ | ⟨a4,a5,a6,a7,rfl⟩
 ·go_enter Tryz.func139,Tryz.ntmps139
  go_wp2_with fail
  go_ret
  exact ⟨rfl,H1.out.bel⟩
 ·go_enter Tryz.func139,Tryz.ntmps139
  go_wp2_with fail
  go_ret
  exact ⟨rfl,H1.out.bel⟩
 ·go_enter Tryz.func139,Tryz.ntmps139
  go_wp2_with fail
  go_ret
  exact ⟨rfl,H1.out.bel⟩
 ·go_enter Tryz.func139,Tryz.ntmps139
  go_wp2_with fail
  go_ret
  exact ⟨rfl,H1.out.bel⟩
 ·have b4 : ((nk : Int) == 4) = false:=by simp; omega
  have b5 : ((nk : Int) == 5) = false:=by simp; omega
  have b6 : ((nk : Int) == 6) = false:=by simp; omega
  have b7 : ((nk : Int) == 7) = false:=by simp; omega
  clear a4 a5 a6 a7
  go_enter Tryz.func139,Tryz.ntmps139
  go_wp2_with fail
  go_ret
  exact ⟨rfl,H1.out.bel⟩
end Go.Proofs.YtlngjiibbcgkmaaGreatDoor
