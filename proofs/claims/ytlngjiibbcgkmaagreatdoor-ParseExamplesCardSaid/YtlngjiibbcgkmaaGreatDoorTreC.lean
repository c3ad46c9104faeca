/- The contract of tree.walk, at nodes that a formula may hold. -/
import Derived.Test.YtlngjiibbcgkmaaGreatDoorTreB
import Derived.Test.YtlngjiibbcgkmaaGreatDoorOk
import Derived.IntWalk
namespace Go.Proofs.YtlngjiibbcgkmaaGreatDoor
open Go.RowKit
theorem info_part : (Tryz.prog.info? 158).map (fun i => (i.zero,i.size,i.bytes)) = some (some (.agg #[.int .i64 0,.int .i64 0,.bool false]),3,24):=by kernel_rfl
theorem info_int' : (Tryz.prog.info? 3).map (fun i => (i.zero,i.size,i.bytes)) = some (some (.int .i64 0),1,8):=by kernel_rfl
theorem own_take {w : World} {base : Nat} {e : TypeId} {s n cap g k : Nat} {xs : List Value} (h : w.ownsRow base e s (.slice (some ⟨g,0,none⟩) n cap) n xs) (hk : k ≤ n) : w.ownsRow base e s (.slice (some ⟨g,0,none⟩) k cap) k (xs.take (k * s)):=by
 obtain ⟨hl,h2⟩:=h
 rcases h2 with ⟨h3,_⟩ | ⟨g',cap',cur,h3,h4,h5,h6,h7,h8,h9⟩
 ·cases h3
 ·simp only [Value.slice.injEq,Option.some.injEq,Addr.mk.injEq,true_and,and_true] at h3
  obtain ⟨rfl,rfl⟩:=h3
  have hks : k * s ≤ n * s:=Nat.mul_le_mul_right s hk
  refine ⟨by rw [List.length_take,hl]; omega,.inr ⟨g,cap,cur,rfl,h4,h5,by omega,h7,h8,?_⟩⟩
  rw [← h9,List.take_take]
  congr 1
  omega
theorem ptCells_len (l : List Pt) : (ptCells l).length = l.length * 3:=by
 induction l with
 | nil => rfl
 | cons n l ih => simp only [ptCells,List.flatMap_cons,List.length_append,List.length_cons] at ih ⊢; rw [ih]; simp [ptRow]; omega
theorem ptCells_take (l : List Pt) (k : Nat) (h : k ≤ l.length) : (ptCells l).take (k * 3) = ptCells (l.take k):=by
 conv => lhs; rw [← List.take_append_drop k l]
 unfold ptCells
 rw [List.flatMap_append]
 have h2:=ptCells_len (l.take k)
 unfold ptCells at h2
 rw [List.length_take,Nat.min_eq_left h] at h2
 rw [← h2,List.take_left]
theorem ptCells_snoc (l : List Pt) (p : Pt) : ptCells (l ++ [p]) = ptCells l ++ ptRow p:=by simp [ptCells]
theorem ptCells_at (l : List Pt) (i : Nat) (p : Pt) (h : l[i]? = some p) (j : Nat) (v : Value) (hj : (ptRow p)[j]? = some v) : (ptCells l)[i * 3 + j]? = some v:=by
 obtain ⟨hi,rfl⟩:=List.getElem?_eq_some_iff.1 h
 have h1 : ptCells l = ptCells (l.take i) ++ (ptRow l[i] ++ ptCells (l.drop (i + 1))):=by
  have e : l = l.take i ++ l[i] :: l.drop (i + 1):=by rw [← List.drop_eq_getElem_cons hi,List.take_append_drop]
  unfold ptCells
  conv => lhs; rw [e]
  rw [List.flatMap_append,List.flatMap_cons]
 have h2:=ptCells_len (l.take i)
 rw [List.length_take,Nat.min_eq_left (by omega)] at h2
 have hj3 : j < 3:=by
  have:=(List.getElem?_eq_some_iff.1 hj).1
  simpa [ptRow] using this
 rw [h1,List.getElem?_append_right (by omega),h2,Nat.add_sub_cancel_left,List.getElem?_append_left (by simpa [ptRow] using hj3)]
 exact hj
def StkV (sv : Value) (n : Nat) : Prop:=(sv = .slice none 0 0 ∧ n = 0) ∨ ∃ g cap,sv = .slice (some ⟨g,0,none⟩) n cap ∧ 0 < n ∧ n ≤ cap ∧ cap ≤ maxLen
def Wlk (t : List Nd) (i : Nat) (st : List Pt) : Prop:=walkW t 0 t [] = walkW t i (t.drop i) st ∧ ∀ p ∈ st,p.root < i ∧ p.depth ≤ 32
theorem Wlk.bad {t : List Nd} {i : Nat} {st : List Pt} {e : Int} (h : Wlk t i st) (hi : i < t.length) (hs : stepW t st i t[i] = .error e) : walkE t = e:=by
 obtain ⟨h1,_⟩:=h
 unfold walkE
 rw [h1,List.drop_eq_getElem_cons hi,walkW,hs]
theorem Wlk.next {t : List Nd} {i : Nat} {st st2 : List Pt} (h : Wlk t i st) (hi : i < t.length) (hs : stepW t st i t[i] = .ok st2) : Wlk t (i + 1) st2:=by
 obtain ⟨h1,h2⟩:=h
 refine ⟨by rw [h1,List.drop_eq_getElem_cons hi,walkW,hs],?_⟩
 unfold stepW at hs
 split at hs
 ·cases hs
 ·split at hs
  ·cases hs
  ·split at hs
   ·cases hs
   ·rename_i h32
    cases hs
    intro p hp
    rcases List.mem_append.1 hp with hp | hp
    ·have:=h2 p (List.mem_of_mem_take hp)
     omega
    ·simp at hp
     subst hp
     exact ⟨by simp,by simp only []; omega⟩
theorem rows_drop {w : World} {base g m cap : Nat} {st : List Pt} (h : w.ownsRow base 158 3 (.slice (some ⟨g,0,none⟩) m cap) m (ptCells st)) (d : Nat) : RowsAt w (some ⟨g,d * 3,none⟩) 3 ((st.drop d).map ptRow):=by
 intro _
 have hc:=@World.ownsRow.cells _ _ _ _ _ _ _ h
 refine ⟨g,d * 3,rfl,(h.lt g rfl).2,fun i r hi j v hj => ?_⟩
 rw [List.getElem?_map,List.getElem?_drop] at hi
 cases hp : st[d + i]? with
 | none => rw [hp] at hi; simp at hi
 | some p =>
  rw [hp] at hi
  simp at hi
  subst hi
  have h9:=hc rfl ((d + i) * 3 + j) v (ptCells_at st (d + i) p hp j v hj)
  rw [show (⟨g,0,none⟩ : Addr).add ((d + i) * 3 + j) = ⟨g,d * 3 + (i * 3 + j),none⟩ by unfold Addr.add; split <;> simp_all <;> omega] at h9
  exact h9
theorem rows_nil (w : World) (a : Option Addr) (s : Nat) : RowsAt w a s (([] : List Pt).map ptRow):=fun h => absurd rfl h
theorem good_fn {n : Nd} (h : goodNd n) (h7 : n.kind = 7) : 1 ≤ n.fn ∧ n.fn ≤ 50:=by
 rcases h with ⟨vk,vn,vt,rfl,hv⟩ | ⟨r,rfl,_⟩ | ⟨r,rfl,_⟩ | rfl | rfl | ⟨op,rfl,_⟩ | ⟨fn,k,rfl,h1,h2,_⟩
 ·simp at h7
 ·simp [ndRef] at h7
 ·simp [ndRange] at h7
 ·simp [ndNeg] at h7
 ·simp [ndPct] at h7
 ·simp [ndBin] at h7
 ·exact ⟨h1,h2⟩
theorem tree_fitsI (t : List Nd) (n : Nd) (l : List Pt) (ta la : Option Addr) (tl tc ll lc : Nat) (w : World) (h1 : t.length = tl) (h2 : l.length = ll) (ht : RowsAt w ta 11 (t.map ndRow)) (hl : RowsAt w la 3 (l.map ptRow)) (htl : tl ≤ 1000) (hll : ll ≤ 1000) (hroot : ∀ p ∈ l,p.root < t.length) (hfn : n.kind = 7 → 1 ≤ n.fn ∧ n.fn ≤ 50) :
  Calls Tryz.prog 134 #[.slice ta tl tc,ndA n,.slice la ll lc] w fun e w' => e = .returned (.bool (fitsF t n 0 l)) ∧ Below w.heap.size w w':=by
 subst h1 h2
 exact tree_fits t n l ta la tc lc w ht hl htl hll hroot hfn
section
variable {t : List Nd} {st : List Pt} {i k d : Nat} {n : Nd}
theorem step_short (hk : belowS n = k) (h : st.length < k) : stepW t st i n = .error 4:=by unfold stepW; rw [hk,if_pos h]
theorem step_unfit (hk : belowS n = k) (h : ¬ st.length < k) (hd : st.length - k = d) (hf : fitsF t n 0 (st.drop d) = false) : stepW t st i n = .error 4:=by unfold stepW; rw [hk,if_neg h,hd,if_pos hf]
theorem step_deep (hk : belowS n = k) (h : ¬ st.length < k) (hd : st.length - k = d) (hf : fitsF t n 0 (st.drop d) = true) (h32 : 32 < deepS (st.drop d)) : stepW t st i n = .error 9:=by
 unfold stepW; rw [hk,if_neg h,hd,if_neg (by rw [hf]; decide),if_pos h32]
theorem step_ok (hk : belowS n = k) (h : ¬ st.length < k) (hd : st.length - k = d) (hf : fitsF t n 0 (st.drop d) = true) (h32 : ¬ 32 < deepS (st.drop d)) : stepW t st i n = .ok (st.take d ++ [⟨i,deepS (st.drop d),decide (n.kind = 3)⟩]):=by
 unfold stepW; rw [hk,if_neg h,hd,if_neg (by rw [hf]; decide),if_neg h32]
end
theorem stk_of_own {w : World} {base g n cap : Nat} {e : TypeId} {xs : List Value} (h : w.ownsRow base e 3 (.slice (some ⟨g,0,none⟩) n cap) n xs) (hn : 0 < n) : StkV (.slice (some ⟨g,0,none⟩) n cap) n:=by
 rcases h.2 with ⟨h3,_⟩ | ⟨g',cap',cur,h3,h4,h5,h6,h7,h8,h9⟩
 ·cases h3
 ·simp only [Value.slice.injEq,Option.some.injEq,Addr.mk.injEq,true_and,and_true] at h3
  have hcap : cap' = cap:=h3.2.symm
  refine Or.inr (Exists.intro g (Exists.intro cap (And.intro rfl (And.intro hn (And.intro ?_ ?_)))))
  ·rw [← hcap]; exact h6
  ·rw [← hcap]; exact h7
theorem beq3 (x : Nat) : ((x : Int) == 3) = decide (x = 3):=by rw [Bool.eq_iff_iff]; simp; omega
theorem pt_snoc {w0 w : World} {v : Value} {l : List Pt} {d i D nk : Nat} {x : Pers} (h : OkRow w0 [x] 158 3 v (d + 1) (ptCells l ++ [.int .i64 (i : Int),.int .i64 (D : Int),.bool ((nk : Int) == 3)]) w) (hl : l.length = d) :
  OkRow w0 [] 158 3 v (l ++ [(⟨i,D,decide (nk = 3)⟩ : Pt)]).length (ptCells (l ++ [(⟨i,D,decide (nk = 3)⟩ : Pt)])) w:=by
 rw [ptCells_snoc,List.length_append,hl,← beq3]
 exact h.tail
theorem stk_snoc {w0 w : World} {ps : List Pers} {g cap d : Nat} {xs : List Value} {l : List Pt} {p : Pt} (h : OkRow w0 ps 158 3 (.slice (some ⟨g,0,none⟩) (d + 1) cap) (d + 1) xs w) (hl : l.length = d) : StkV (.slice (some ⟨g,0,none⟩) (d + 1) cap) (l ++ [p]).length:=by
 rw [List.length_append,hl]
 exact stk_of_own h.own (by simp)
theorem deep_snoc (l : List Pt) (p : Pt) : deepS (l ++ [p]) = max (deepS l) (p.depth + 1):=by simp [deepS]
theorem tree_nothing (i d : Int) (v : Value) (w : World) :
  Calls Tryz.prog 50 #[.int .i64 i,v,.int .i64 d] w fun e w' => e = .returned (.tuple #[]) ∧ w' = w:=by
 go_enter Tryz.func50,Tryz.ntmps50
 go_wp2_with fail
 first
  | go_end0
  | refine bodyPost_ret (results_none rfl _ _ _) rfl ?_
 exact ⟨rfl,rfl⟩
set_option maxRecDepth 100000 in
set_option maxHeartbeats 8000000 in
theorem tree_walk (t : List Nd) (ta : Option Addr) (tc : Nat) (w : World) (ht : RowsAt w ta 11 (t.map ndRow)) (htl : t.length ≤ 1000) (hgood : ∀ n ∈ t,goodNd n) :
  Calls Tryz.prog 91 #[.slice ta t.length tc,.func (.func 50) #[] #[]] w fun e w' => e = .returned (.int .i64 (walkE t)) ∧ Below w.heap.size w w':=by
 obtain ⟨i0,hi,hz0,hz1,hz2⟩:=info_parts info_part
 obtain ⟨j0,ji,jz0,jz1,jz2⟩:=info_parts info_int'
 have HT:=keep ht
 have HG:=keep hgood
 clear ht hgood
 obtain ⟨tl,htl2⟩ : ∃ tl,t.length = tl:=⟨_,rfl⟩
 rw [htl2] at htl ⊢
 have HTL:=keep htl2
 clear htl2
 obtain ⟨V,hV⟩ : ∃ V,walkE t = V:=⟨_,rfl⟩
 rw [hV]
 have HV:=keep hV
 clear hV
 go_enter Tryz.func91,Tryz.ntmps91
 go_wp2_with fail
 go_loopw [5,16] (fun sv iv wr => ∃ (i : Nat) (st : List Pt),i ≤ tl ∧ iv = .int .i64 (i : Int) ∧ st.length ≤ i ∧ Keep (Wlk t i st) ∧ Keep (StkV sv st.length) ∧ Hid (OkRow w [] 158 3 sv st.length (ptCells st) wr)) (fun _ iv _ => tl - (intOf iv).toNat)
 case atStart => exact ⟨0,[],Nat.zero_le _,rfl,Nat.zero_le _,keep ⟨rfl,by simp⟩,keep (.inl ⟨rfl,rfl⟩),Lib.hid (OkRow.start (Ok.start w) _ _)⟩
 case round =>
  obtain ⟨i,st,hit,rfl,hsl,HK,HS,HR⟩:=hrel
  obtain ⟨wp,rfl⟩ : ∃ wp : World,wp = wr:=⟨_,rfl⟩
  obtain ⟨sv,rfl⟩ : ∃ sv : Value,sv = u5:=⟨_,rfl⟩
  by_cases hlt : (i : Int) < tl
  ·have hil : i < t.length:=by rw [HTL.out]; omega
   have HIL:=keep hil
   obtain ⟨n,hn⟩ : ∃ n,t[i]'HIL.out = n:=⟨_,rfl⟩
   have hgn:=HG.out n (by rw [← hn]; exact List.getElem_mem _)
   have HGN:=keep hgn
   obtain ⟨tb,tz,hta,htb,htcell⟩:=HT.out (by intro e; have h9:=congrArg List.length e; rw [List.length_map] at h9; simp only [List.length_nil] at h9; omega)
   have hbel:=HR.out.ok.bel
   have hcw : cellsFrom wp tb (tz + i * 11) 0 (ndRow n):=by
    have key : ∀ j v,(ndRow n)[j]? = some v → wp.cell? ⟨tb,tz + i * 11 + j,none⟩ = some v:=by
     intro j v hj
     have h9:=htcell i (ndRow n) (by rw [List.getElem?_map,List.getElem?_eq_getElem hil,hn]; rfl) j v hj
     rw [← Nat.add_assoc] at h9
     exact (hbel.cell htb).trans h9
    exact ⟨key 0 _ rfl,key 1 _ rfl,key 2 _ rfl,key 3 _ rfl,key 4 _ rfl,key 5 _ rfl,key 6 _ rfl,key 7 _ rfl,key 8 _ rfl,key 9 _ rfl,key 10 _ rfl,trivial⟩
   have HN:=keep hn
   obtain ⟨nk,vk,vn,vt,⟨r1,r2,r3,r4⟩,op,fn,nn⟩:=n
   subst hta
   have htbw : tb < wp.heap.size:=Nat.lt_of_lt_of_le htb hbel.size
   have HR1:=Lib.hid (HR.out.add (kCells tb (tz + i * 11) [.int .u8 nk,.int .u8 vk,.int .i64 vn,.string ⟨vt.toArray⟩,.int .i64 r1,.int .i64 r2,.int .i64 r3,.int .i64 r4,.int .i64 op,.int .u8 fn,.int .i64 nn]) ⟨htbw,hcw⟩ (by
    show some tb ≠ sv.ownBlock
    intro e
    have:=(HR.out.own.lt tb e.symm).1
    omega))
   have htcell2:=htcell
   have HTB:=keep htb
   clear hil hn hgn htcell htcell2 hbel hcw htbw HR htb
   have HFAR:=keep HR1.out.far
   have HO:=Lib.hid HR1.out.pers
   clear HR1
   have HO1 : Hid (Ok w [kRow w.heap.size 158 3 sv st.length (ptCells st),kCells tb (tz + i * 11) [.int .u8 nk,.int .u8 vk,.int .i64 vn,.string ⟨vt.toArray⟩,.int .i64 r1,.int .i64 r2,.int .i64 r3,.int .i64 r4,.int .i64 op,.int .u8 fn,.int .i64 nn]] wp):=HO
   clear HO
   have F1:=HO1.out.sees
   simp only [sees,kCells,cellsFrom,Nat.add_zero,Nat.reduceAdd] at F1
   obtain ⟨-,⟨z1,c1_0,c1_1,c1_2,c1_3,c1_4,c1_5,c1_6,c1_7,c1_8,c1_9,c1_10,-⟩,-⟩:=F1
   go_upto_region 5 with fail
   clear z1 c1_0 c1_1 c1_2 c1_3 c1_4 c1_5 c1_6 c1_7 c1_8 c1_9 c1_10
   have H2:=Lib.hid (HO1.out.alloc wp.heap.size 32 [.int .u8 nk,.int .u8 vk,.int .i64 vn,.string ⟨vt.toArray⟩,.int .i64 r1,.int .i64 r2,.int .i64 r3,.int .i64 r4,.int .i64 op,.int .u8 fn,.int .i64 nn] rfl)
   clear HO1
   generalize (wp.alloc (.cells #[.int .u8 nk,.int .u8 vk,.int .i64 vn,.string ⟨vt.toArray⟩,.int .i64 r1,.int .i64 r2,.int .i64 r3,.int .i64 r4,.int .i64 op,.int .u8 fn,.int .i64 nn] 32)) = W3 at H2 ⊢
   have F4:=H2.out.sees
   simp only [sees,kBlk,kCells,cellsFrom,Nat.add_zero,cellsAt,Nat.reduceAdd] at F4
   obtain ⟨⟨z0,c0_0,c0_1,c0_2,c0_3,c0_4,c0_5,c0_6,c0_7,c0_8,c0_9,c0_10,-⟩,-,⟨z2,c2_0,c2_1,c2_2,c2_3,c2_4,c2_5,c2_6,c2_7,c2_8,c2_9,c2_10,-⟩,-⟩:=F4
   go_wp2_with fail
   refine (tree_fields ⟨nk,vk,vn,vt,⟨r1,r2,r3,r4⟩,op,fn,nn⟩ HGN.out _).mono ?_
   rintro e w5 ⟨rfl,hb6⟩
   clear z0 c0_0 c0_1 c0_2 c0_3 c0_4 c0_5 c0_6 c0_7 c0_8 c0_9 c0_10 z2 c2_0 c2_1 c2_2 c2_3 c2_4 c2_5 c2_6 c2_7 c2_8 c2_9 c2_10
   have H7:=Lib.hid (H2.out.below hb6)
   clear hb6 H2
   have F8:=H7.out.sees
   simp only [sees,kBlk,kCells,cellsFrom,Nat.add_zero,cellsAt,Nat.reduceAdd] at F8
   obtain ⟨⟨z0,c0_0,c0_1,c0_2,c0_3,c0_4,c0_5,c0_6,c0_7,c0_8,c0_9,c0_10,-⟩,-,⟨z2,c2_0,c2_1,c2_2,c2_3,c2_4,c2_5,c2_6,c2_7,c2_8,c2_9,c2_10,-⟩,-⟩:=F8
   go_wp2_with fail
   refine (tree_below ⟨nk,vk,vn,vt,⟨r1,r2,r3,r4⟩,op,fn,nn⟩ _).mono ?_
   rintro e w9 ⟨rfl,hb10⟩
   clear z0 c0_0 c0_1 c0_2 c0_3 c0_4 c0_5 c0_6 c0_7 c0_8 c0_9 c0_10 z2 c2_0 c2_1 c2_2 c2_3 c2_4 c2_5 c2_6 c2_7 c2_8 c2_9 c2_10
   have H11:=Lib.hid (H7.out.below hb10)
   clear hb10 H7
   have F12:=H11.out.sees
   simp only [sees,kBlk,kCells,cellsFrom,Nat.add_zero,cellsAt,Nat.reduceAdd] at F12
   obtain ⟨⟨z0,c0_0,c0_1,c0_2,c0_3,c0_4,c0_5,c0_6,c0_7,c0_8,c0_9,c0_10,-⟩,-,⟨z2,c2_0,c2_1,c2_2,c2_3,c2_4,c2_5,c2_6,c2_7,c2_8,c2_9,c2_10,-⟩,-⟩:=F12
   obtain ⟨k,hk⟩ : ∃ k,belowS (⟨nk,vk,vn,vt,⟨r1,r2,r3,r4⟩,op,fn,nn⟩ : Nd) = k:=⟨_,rfl⟩
   rw [hk]
   have HKB:=keep hk
   clear hk
   go_upto_region 9 with fail
   rcases HS.out with ⟨hsv,hs0⟩ | ⟨g,cap,hsv,hs1,hs2,hs3⟩
   ·subst hsv
    obtain rfl : st = []:=List.length_eq_zero_iff.1 hs0
    clear hs0
    by_cases hlen : 0 < k
    ·have hleni : (0 : Int) < (k : Int):=by omega
     have hlenb : decide ((0 : Int) < (k : Int)) = true:=by simpa using hleni
     have HLEN:=keep hlen
     refine wp_region_held_drew (S:=fun W => Ok w [kBlk (wp.heap.size) 32 [.int .u8 nk,.int .u8 vk,.int .i64 vn,.string ⟨vt.toArray⟩,.int .i64 r1,.int .i64 r2,.int .i64 r3,.int .i64 r4,.int .i64 op,.int .u8 fn,.int .i64 nn],kRow w.heap.size 158 3 (.slice none 0 0) 0 (ptCells []),kCells tb (tz + i * 11) [.int .u8 nk,.int .u8 vk,.int .i64 vn,.string ⟨vt.toArray⟩,.int .i64 r1,.int .i64 r2,.int .i64 r3,.int .i64 r4,.int .i64 op,.int .u8 fn,.int .i64 nn]] W) (by kernel_rfl) H11.out.drew (fun hHeld => ?_)
     refine tg (i:=0) (v:=?a1) rfl ?b1 (by assumption) ?c1
     case b1 => (intro w hSw; have F:=Ok.sees hSw; clear hSw; simp only [sees,kBlk,kCells,cellsFrom,Nat.add_zero,cellsAt,Nat.reduceAdd] at F; go_simp; try with_reducible rfl)
     try simp only [Act.put,p1,p2,p3,p4,p6]
     refine tg (i:=1) (v:=?a3) rfl ?b3 (by assumption) ?c3
     case b3 => (intro w hSw; have F:=Ok.sees hSw; clear hSw; simp only [sees,kBlk,kCells,cellsFrom,Nat.add_zero,cellsAt,Nat.reduceAdd] at F; go_simp; try with_reducible rfl)
     try simp only [Act.put,p1,p2,p3,p4,p5,p6]
     refine tg (i:=2) (v:=?a5) rfl ?b5 (by assumption) ?c5
     case b5 => (intro w hSw; have F:=Ok.sees hSw; clear hSw; simp only [sees,kBlk,kCells,cellsFrom,Nat.add_zero,cellsAt,Nat.reduceAdd] at F; go_simp; try with_reducible rfl)
     try simp only [Act.put,p1,p2,p3,p4,p5,p6]
     refine tg (i:=3) (v:=?a7) rfl ?b7 (by assumption) ?c7
     case b7 => (intro w hSw; have F:=Ok.sees hSw; clear hSw; simp only [sees,kBlk,kCells,cellsFrom,Nat.add_zero,cellsAt,Nat.reduceAdd] at F; go_simp; try with_reducible rfl)
     try simp only [Act.put,p1,p2,p3,p4,p5,p6]
     refine tg (i:=4) (v:=?a9) rfl ?b9 (by assumption) ?c9
     case b9 => (intro w hSw; have F:=Ok.sees hSw; clear hSw; simp only [sees,kBlk,kCells,cellsFrom,Nat.add_zero,cellsAt,Nat.reduceAdd] at F; go_simp; try with_reducible rfl)
     try simp only [Act.put,p1,p2,p3,p4,p5,p6]
     refine sg (i:=5) rfl (by assumption) ?_
     try simp only [Act.put,p1,p2,p3,p4,p5,p6]
     refine sg (i:=6) rfl (by assumption) ?_
     try simp only [Act.put,p1,p2,p3,p4,p5,p6]
     refine sg (i:=7) rfl (by assumption) ?_
     try simp only [Act.put,p1,p2,p3,p4,p5,p6]
     refine sg (i:=8) rfl (by assumption) ?_
     try simp only [Act.put,p1,p2,p3,p4,p5,p6]
     refine sg (i:=9) rfl (by assumption) ?_
     try simp only [Act.put,p1,p2,p3,p4,p5,p6]
     refine sg (i:=10) rfl (by assumption) ?_
     try simp only [Act.put,p1,p2,p3,p4,p5,p6]
     refine sg (i:=11) rfl (by assumption) ?_
     try simp only [Act.put,p1,p2,p3,p4,p5,p6]
     refine sg (i:=12) rfl (by assumption) ?_
     try simp only [Act.put,p1,p2,p3,p4,p5,p6]
     refine sg (i:=13) rfl (by assumption) ?_
     try simp only [Act.put,p1,p2,p3,p4,p5,p6]
     refine sg (i:=14) rfl (by assumption) ?_
     try simp only [Act.put,p1,p2,p3,p4,p5,p6]
     refine tg (i:=15) (v:=?a31) rfl ?b31 (by assumption) ?c31
     case b31 => (intro w hSw; have F:=Ok.sees hSw; clear hSw; simp only [sees,kBlk,kCells,cellsFrom,Nat.add_zero,cellsAt,Nat.reduceAdd] at F; go_simp; try with_reducible rfl)
     try simp only [Act.put,p1,p2,p3,p4,p5,p6]
     refine wpAnyH_done (by kernel_rfl) ?_ _
     clear z0 c0_0 c0_1 c0_2 c0_3 c0_4 c0_5 c0_6 c0_7 c0_8 c0_9 c0_10 z2 c2_0 c2_1 c2_2 c2_3 c2_4 c2_5 c2_6 c2_7 c2_8 c2_9 c2_10
     clear H11
     have H14:=Lib.hid hHeld
     clear hHeld
     clear hleni hlenb hlen
     have HE:=keep (show V = 4 from HV.out.symm.trans (Wlk.bad HK.out HIL.out (by rw [HN.out]; exact step_short HKB.out HLEN.out)))
     go_wp2_with fail
     go_ret
     exact ⟨by rw [HE.out]; rfl,H14.out.bel⟩
    ·obtain rfl : k = 0:=by omega
     clear hlen
     have hw0 : IntKind.i64.wrap (0 : Int) = 0:=Go.IntWalk.i64_in _ (by omega)
     obtain ⟨kn3,hk3⟩ : ∃ b : Bool,((nk : Int) == 3) = b:=⟨_,rfl⟩
     have HK3:=keep hk3
     clear hk3
     obtain ⟨fv,hfv⟩ : ∃ fv,fitsF t ⟨nk,vk,vn,vt,⟨r1,r2,r3,r4⟩,op,fn,nn⟩ 0 [] = fv:=⟨_,rfl⟩
     have HFV:=keep hfv
     clear hfv
     refine wp_region_held_drew (S:=fun W => Ok w [kBlk (wp.heap.size) 32 [.int .u8 nk,.int .u8 vk,.int .i64 vn,.string ⟨vt.toArray⟩,.int .i64 r1,.int .i64 r2,.int .i64 r3,.int .i64 r4,.int .i64 op,.int .u8 fn,.int .i64 nn],kRow w.heap.size 158 3 (.slice none 0 0) 0 (ptCells []),kCells tb (tz + i * 11) [.int .u8 nk,.int .u8 vk,.int .i64 vn,.string ⟨vt.toArray⟩,.int .i64 r1,.int .i64 r2,.int .i64 r3,.int .i64 r4,.int .i64 op,.int .u8 fn,.int .i64 nn]] W) (by kernel_rfl) H11.out.drew (fun hHeld => ?_)
     refine tg (i:=0) (v:=?a33) rfl ?b33 (by assumption) ?c33
     case b33 => (intro w hSw; have F:=Ok.sees hSw; clear hSw; simp only [sees,kBlk,kCells,cellsFrom,Nat.add_zero,cellsAt,Nat.reduceAdd] at F; go_simp; try with_reducible rfl)
     try simp only [Act.put,p1,p2,p3,p4,p6]
     refine tg (i:=1) (v:=?a35) rfl ?b35 (by assumption) ?c35
     case b35 => (intro w hSw; have F:=Ok.sees hSw; clear hSw; simp only [sees,kBlk,kCells,cellsFrom,Nat.add_zero,cellsAt,Nat.reduceAdd] at F; go_simp; try with_reducible rfl)
     try simp only [Act.put,p1,p2,p3,p4,p5,p6]
     refine tg (i:=2) (v:=?a37) rfl ?b37 (by assumption) ?c37
     case b37 => (intro w hSw; have F:=Ok.sees hSw; clear hSw; simp only [sees,kBlk,kCells,cellsFrom,Nat.add_zero,cellsAt,Nat.reduceAdd] at F; go_simp; try with_reducible rfl)
     try simp only [Act.put,p1,p2,p3,p4,p5,p6]
     refine tg (i:=3) (v:=?a39) rfl ?b39 (by assumption) ?c39
     case b39 => (intro w hSw; have F:=Ok.sees hSw; clear hSw; simp only [sees,kBlk,kCells,cellsFrom,Nat.add_zero,cellsAt,Nat.reduceAdd] at F; go_simp; try with_reducible rfl)
     try simp only [Act.put,p1,p2,p3,p4,p5,p6]
     refine tg (i:=4) (v:=?a41) rfl ?b41 (by assumption) ?c41
     case b41 => (intro w hSw; have F:=Ok.sees hSw; clear hSw; simp only [sees,kBlk,kCells,cellsFrom,Nat.add_zero,cellsAt,Nat.reduceAdd] at F; go_simp; try with_reducible rfl)
     try simp only [Act.put,p1,p2,p3,p4,p5,p6]
     refine tg (i:=5) (v:=?a43) rfl ?b43 (by assumption) ?c43
     case b43 => (intro w hSw; have F:=Ok.sees hSw; clear hSw; simp only [sees,kBlk,kCells,cellsFrom,Nat.add_zero,cellsAt,Nat.reduceAdd] at F; go_simp; try with_reducible rfl)
     try simp only [Act.put,p1,p2,p3,p4,p5,p6]
     refine tg (i:=6) (v:=?a45) rfl ?b45 (by assumption) ?c45
     case b45 => (intro w hSw; have F:=Ok.sees hSw; clear hSw; simp only [sees,kBlk,kCells,cellsFrom,Nat.add_zero,cellsAt,Nat.reduceAdd] at F; go_simp; try with_reducible rfl)
     try simp only [Act.put,p1,p2,p3,p4,p5,p6]
     refine tg (i:=7) (v:=?a47) rfl ?b47 (by assumption) ?c47
     case b47 => (intro w hSw; have F:=Ok.sees hSw; clear hSw; simp only [sees,kBlk,kCells,cellsFrom,Nat.add_zero,cellsAt,Nat.reduceAdd] at F; go_simp; try with_reducible rfl)
     try simp only [Act.put,p1,p2,p3,p4,p5,p6]
     refine tg (i:=8) (v:=?a49) rfl ?b49 (by assumption) ?c49
     case b49 => (intro w hSw; have F:=Ok.sees hSw; clear hSw; simp only [sees,kBlk,kCells,cellsFrom,Nat.add_zero,cellsAt,Nat.reduceAdd] at F; go_simp; try with_reducible rfl)
     try simp only [Act.put,p1,p2,p3,p4,p5,p6]
     refine tg (i:=9) (v:=?a51) rfl ?b51 (by assumption) ?c51
     case b51 => (intro w hSw; have F:=Ok.sees hSw; clear hSw; simp only [sees,kBlk,kCells,cellsFrom,Nat.add_zero,cellsAt,Nat.reduceAdd] at F; go_simp; try with_reducible rfl)
     try simp only [Act.put,p1,p2,p3,p4,p5,p6]
     refine tg (i:=10) (v:=?a53) rfl ?b53 (by assumption) ?c53
     case b53 => (intro w hSw; have F:=Ok.sees hSw; clear hSw; simp only [sees,kBlk,kCells,cellsFrom,Nat.add_zero,cellsAt,Nat.reduceAdd] at F; go_simp; try with_reducible rfl)
     try simp only [Act.put,p1,p2,p3,p4,p5,p6]
     refine tg (i:=11) (v:=?a55) rfl ?b55 (by assumption) ?c55
     case b55 => (intro w hSw; have F:=Ok.sees hSw; clear hSw; simp only [sees,kBlk,kCells,cellsFrom,Nat.add_zero,cellsAt,Nat.reduceAdd] at F; go_simp; try with_reducible rfl)
     try simp only [Act.put,p1,p2,p3,p4,p5,p6]
     refine tg (i:=12) (v:=?a57) rfl ?b57 (by assumption) ?c57
     case b57 => (intro w hSw; have F:=Ok.sees hSw; clear hSw; simp only [sees,kBlk,kCells,cellsFrom,Nat.add_zero,cellsAt,Nat.reduceAdd] at F; go_simp; try with_reducible rfl)
     try simp only [Act.put,p1,p2,p3,p4,p5,p6]
     refine wpAnyH_ready (rs:=[13]) (by kernel_rfl) (by simp) ?_
     refine AllReadyH.cons rfl (fun K hK => ?_) AllReadyH.nil
     go_simp
     refine (tree_fitsI t ⟨nk,vk,vn,vt,⟨r1,r2,r3,r4⟩,op,fn,nn⟩ [] (some ⟨tb,tz,none⟩) _ tl tc 0 _ _ HTL.out rfl (HT.out.below hHeld.bel) (rows_nil _ _ _) htl (by simp) (by simp) (fun h => good_fn HGN.out h)).mono ?_
     rintro e w14 ⟨rfl,hb15⟩
     rw [HFV.out]
     go_wp2_with fail
     refine hK.out _ _ (hHeld.below hb15) (fun hHeld => ?_)
     clear hK K
     try simp only [Act.put,p1,p2,p3,p4,p5,p6]
     refine tg (i:=14) (v:=?a60) rfl ?b60 (by assumption) ?c60
     case b60 => (intro w hSw; have F:=Ok.sees hSw; clear hSw; simp only [sees,kBlk,kCells,cellsFrom,Nat.add_zero,cellsAt,Nat.reduceAdd] at F; go_simp; try with_reducible rfl)
     try simp only [Act.put,p1,p2,p3,p4,p5,p6]
     refine tg (i:=15) (v:=?a62) rfl ?b62 (by assumption) ?c62
     case b62 => (intro w hSw; have F:=Ok.sees hSw; clear hSw; simp only [sees,kBlk,kCells,cellsFrom,Nat.add_zero,cellsAt,Nat.reduceAdd] at F; go_simp; try with_reducible rfl)
     try simp only [Act.put,p1,p2,p3,p4,p5,p6]
     refine wpAnyH_done (by kernel_rfl) ?_ _
     clear z0 c0_0 c0_1 c0_2 c0_3 c0_4 c0_5 c0_6 c0_7 c0_8 c0_9 c0_10 z2 c2_0 c2_1 c2_2 c2_3 c2_4 c2_5 c2_6 c2_7 c2_8 c2_9 c2_10
     clear H11
     have H16:=Lib.hid hHeld
     clear hHeld
     clear hw0
     cases fv
     ·have HE:=keep (show V = 4 from HV.out.symm.trans (Wlk.bad HK.out HIL.out (by rw [HN.out]; exact step_unfit HKB.out (by simp) (d:=0) rfl HFV.out)))
      go_wp2_with fail
      go_ret
      exact ⟨by rw [HE.out]; rfl,H16.out.bel⟩
     ·have HFR:=keep (show ∀ x ∈ [kBlk (wp.heap.size) 32 [.int .u8 nk,.int .u8 vk,.int .i64 vn,.string ⟨vt.toArray⟩,.int .i64 r1,.int .i64 r2,.int .i64 r3,.int .i64 r4,.int .i64 op,.int .u8 fn,.int .i64 nn],kRow w.heap.size 158 3 (.slice none 0 0) 0 (ptCells []),kCells tb (tz + i * 11) [.int .u8 nk,.int .u8 vk,.int .i64 vn,.string ⟨vt.toArray⟩,.int .i64 r1,.int .i64 r2,.int .i64 r3,.int .i64 r4,.int .i64 op,.int .u8 fn,.int .i64 nn]],x.far (some w14.heap.size) from fun x hx => x.new _ _ (Nat.le_refl _) (H16.out.all x hx))
      have HGL:=keep (show ∀ x,(.slice none 0 0 : Value).ownBlock = some x → x < w14.heap.size from fun x hx => ((H16.out.get (kRow w.heap.size 158 3 (.slice none 0 0) 0 (ptCells [])) (by simp)).lt x hx).2)
      have HLB:=keep H16.out.bel.size
      have F17:=H16.out.sees
      simp only [sees,kBlk,kCells,cellsFrom,Nat.add_zero,cellsAt,Nat.reduceAdd] at F17
      obtain ⟨⟨z0,c0_0,c0_1,c0_2,c0_3,c0_4,c0_5,c0_6,c0_7,c0_8,c0_9,c0_10,-⟩,-,⟨z2,c2_0,c2_1,c2_2,c2_3,c2_4,c2_5,c2_6,c2_7,c2_8,c2_9,c2_10,-⟩,-⟩:=F17
      go_upto_region 12 with fail
      have y18:=z0
      have y19:=z2
      clear z0 c0_0 c0_1 c0_2 c0_3 c0_4 c0_5 c0_6 c0_7 c0_8 c0_9 c0_10 z2 c2_0 c2_1 c2_2 c2_3 c2_4 c2_5 c2_6 c2_7 c2_8 c2_9 c2_10
      have H20:=Lib.hid (H16.out.var w14.heap.size 158 [.int .i64 i,.int .i64 1,.bool ((nk : Int) == 3)] rfl)
      clear H16
      generalize (w14.alloc (.cells #[.int .i64 i,.int .i64 1,.bool ((nk : Int) == 3)] 158)) = W21 at H20 ⊢
      have F22:=H20.out.sees
      simp only [sees,kBlk,kVar,kCells,cellsFrom,Nat.add_zero,cellsAt,Nat.reduceAdd] at F22
      obtain ⟨⟨⟨z0,fz0⟩,c0_0,c0_1,c0_2,-⟩,⟨z1,c1_0,c1_1,c1_2,c1_3,c1_4,c1_5,c1_6,c1_7,c1_8,c1_9,c1_10,-⟩,-,⟨z3,c3_0,c3_1,c3_2,c3_3,c3_4,c3_5,c3_6,c3_7,c3_8,c3_9,c3_10,-⟩,-⟩:=F22
      go_wp2_with fail
      have h1d : ((deepS (([] : List Pt).take 0) : Nat) : Int) = 1:=by simp [deepS]
      have HST:=Lib.hid (OkRow.start (show Ok w (kVar (w14.heap.size) 158 [.int .i64 i,.int .i64 ((deepS (([] : List Pt).take 0) : Nat) : Int),.bool ((nk : Int) == 3)] :: [kBlk (wp.heap.size) 32 [.int .u8 nk,.int .u8 vk,.int .i64 vn,.string ⟨vt.toArray⟩,.int .i64 r1,.int .i64 r2,.int .i64 r3,.int .i64 r4,.int .i64 op,.int .u8 fn,.int .i64 nn],kRow w.heap.size 158 3 (.slice none 0 0) 0 (ptCells []),kCells tb (tz + i * 11) [.int .u8 nk,.int .u8 vk,.int .i64 vn,.string ⟨vt.toArray⟩,.int .i64 r1,.int .i64 r2,.int .i64 r3,.int .i64 r4,.int .i64 op,.int .u8 fn,.int .i64 nn]]) W21 by rw [h1d]; exact H20.out) 3 1)
      clear h1d
      clear z0 fz0 c0_0 c0_1 c0_2 z1 c1_0 c1_1 c1_2 c1_3 c1_4 c1_5 c1_6 c1_7 c1_8 c1_9 c1_10 z3 c3_0 c3_1 c3_2 c3_3 c3_4 c3_5 c3_6 c3_7 c3_8 c3_9 c3_10
      go_loopw [11,56] (fun kv jv wr => ∃ (j : Nat) (ks : List Int),j ≤ 0 ∧ jv = .int .i64 (j : Int) ∧ ks.length = j ∧ Hid (OkRow w (kVar (w14.heap.size) 158 [.int .i64 i,.int .i64 ((deepS (([] : List Pt).take j) : Nat) : Int),.bool ((nk : Int) == 3)] :: [kBlk (wp.heap.size) 32 [.int .u8 nk,.int .u8 vk,.int .i64 vn,.string ⟨vt.toArray⟩,.int .i64 r1,.int .i64 r2,.int .i64 r3,.int .i64 r4,.int .i64 op,.int .u8 fn,.int .i64 nn],kRow w.heap.size 158 3 (.slice none 0 0) 0 (ptCells []),kCells tb (tz + i * 11) [.int .u8 nk,.int .u8 vk,.int .i64 vn,.string ⟨vt.toArray⟩,.int .i64 r1,.int .i64 r2,.int .i64 r3,.int .i64 r4,.int .i64 op,.int .u8 fn,.int .i64 nn]]) 3 1 kv j (ks.map fun x => .int .i64 x) wr)) (fun _ jv _ => 0 - (intOf jv).toNat)
      case atStart => exact ⟨0,[],Nat.zero_le _,rfl,rfl,HST⟩
      case round =>
       clear HST H20
       obtain ⟨j,ks,hjk,rfl,hks,HR⟩:=hrel
       obtain ⟨wq,rfl⟩ : ∃ wq : World,wq = wr:=⟨_,rfl⟩
       by_cases hlj : (j : Int) < 0
       ·exact absurd hlj (by omega)
       ·obtain rfl : j = 0:=by omega
        obtain ⟨D,hD⟩ : ∃ D,deepS ([] : List Pt) = D:=⟨_,rfl⟩
        have hLt : deepS (([] : List Pt).take 0) = D:=by rw [← hD]; congr 1
        rw [hLt] at HR
        have HD:=keep hD
        clear hLt hD
        have H5:=Lib.hid HR.out.ok
        obtain ⟨kva,kvc,hkv⟩:=own_len HR.out.own
        subst hkv
        clear HR
        have F23:=H5.out.sees
        simp only [sees,kBlk,kVar,kCells,cellsFrom,Nat.add_zero,cellsAt,Nat.reduceAdd] at F23
        obtain ⟨⟨⟨z0,fz0⟩,c0_0,c0_1,c0_2,-⟩,⟨z1,c1_0,c1_1,c1_2,c1_3,c1_4,c1_5,c1_6,c1_7,c1_8,c1_9,c1_10,-⟩,-,⟨z3,c3_0,c3_1,c3_2,c3_3,c3_4,c3_5,c3_6,c3_7,c3_8,c3_9,c3_10,-⟩,-⟩:=F23
        by_cases h32 : (D : Int) > 32
        ·have HE:=keep (show V = 9 from HV.out.symm.trans (Wlk.bad HK.out HIL.out (by rw [HN.out]; exact step_deep HKB.out (by simp) (d:=0) rfl HFV.out (by show 32 < deepS ([] : List Pt); rw [HD.out]; omega))))
         go_wp2_with fail
         go_ret
         exact ⟨by rw [HE.out]; rfl,H5.out.bel⟩
        ·have HOKS:=keep (step_ok (t:=t) (st:=([] : List Pt)) (i:=i) HKB.out (by simp) (d:=0) rfl HFV.out (by show ¬ 32 < deepS ([] : List Pt); rw [HD.out]; omega))
         have HNX:=keep (Wlk.next HK.out HIL.out (by rw [HN.out]; exact HOKS.out))
         go_upto_region 21 with fail
         have HOS:=Lib.hid (show OkRow w [kVar (w14.heap.size) 158 [.int .i64 i,.int .i64 ((D : Nat) : Int),.bool ((nk : Int) == 3)]] 158 3 (.slice none 0 0) 0 (ptCells ([] : List Pt)) wq from ⟨H5.out.drop _ (by simp),(World.ownsRow_nil _ _ _ _),by
          intro x hx
          simp at hx
          subst hx
          show some (w14.heap.size) ≠ _
          intro e9
          have:=HGL.out _ e9.symm
          omega⟩)
         have HOSD:=Lib.hid HOS.out.drew
         have HB9:=keep HOSD.out.ok.bel.size
         generalize hWd : wq.drew = Wd at HOSD HB9
         have hw0 : IntKind.i64.wrap (0 : Int) = 0:=Go.IntWalk.i64_in _ (by omega)
         refine wp_region_held_drew (S:=fun W => Ok w [kVar (w14.heap.size) 158 [.int .i64 i,.int .i64 ((D : Nat) : Int),.bool ((nk : Int) == 3)]] W) (by kernel_rfl) (by rw [hWd]; exact HOSD.out.ok) (fun hHeld => ?_)
         rw [hWd] at hHeld ⊢
         clear hWd HOS H5
         refine tg (i:=0) (v:=?a64) rfl ?b64 (by assumption) ?c64
         case b64 => (intro w hSw; have F:=Ok.sees hSw; clear hSw; simp only [sees,kVar,cellsAt,Nat.reduceAdd] at F; go_simp; try with_reducible rfl)
         try simp only [Act.put,p1,p2,p3,p4,p6]
         refine tg (i:=1) (v:=?a66) rfl ?b66 (by assumption) ?c66
         case b66 => (intro w hSw; have F:=Ok.sees hSw; clear hSw; simp only [sees,kVar,cellsAt,Nat.reduceAdd] at F; go_simp; try with_reducible rfl)
         try simp only [Act.put,p1,p2,p3,p4,p5,p6]
         refine tg (i:=2) (v:=?a68) rfl ?b68 (by assumption) ?c68
         case b68 => (intro w hSw; have F:=Ok.sees hSw; clear hSw; simp only [sees,kVar,cellsAt,Nat.reduceAdd] at F; go_simp; try with_reducible rfl)
         try simp only [Act.put,p1,p2,p3,p4,p5,p6]
         refine tg (i:=3) (v:=?a70) rfl ?b70 (by assumption) ?c70
         case b70 => (intro w hSw; have F:=Ok.sees hSw; clear hSw; simp only [sees,kVar,cellsAt,Nat.reduceAdd] at F; go_simp; try with_reducible rfl)
         try simp only [Act.put,p1,p2,p3,p4,p5,p6]
         refine tg (i:=4) (v:=?a72) rfl ?b72 (by assumption) ?c72
         case b72 => (intro w hSw; have F:=Ok.sees hSw; clear hSw; simp only [sees,kVar,cellsAt,Nat.reduceAdd] at F; go_simp; try with_reducible rfl)
         try simp only [Act.put,p1,p2,p3,p4,p5,p6]
         refine tg (i:=5) (v:=?a74) rfl ?b74 (by assumption) ?c74
         case b74 => (intro w hSw; have F:=Ok.sees hSw; clear hSw; simp only [sees,kVar,cellsAt,Nat.reduceAdd] at F; go_simp; try with_reducible rfl)
         try simp only [Act.put,p1,p2,p3,p4,p5,p6]
         refine tg (i:=6) (v:=?a76) rfl ?b76 (by assumption) ?c76
         case b76 => (intro w hSw; have F:=Ok.sees hSw; clear hSw; simp only [sees,kVar,cellsAt,Nat.reduceAdd] at F; go_simp; try with_reducible rfl)
         try simp only [Act.put,p1,p2,p3,p4,p5,p6]
         refine wpAnyH_ready (rs:=[7]) (by kernel_rfl) (by simp) ?_
         refine AllReadyH.cons rfl (fun K hK => ?_) AllReadyH.nil
         go_simp
         have HO1:=Lib.hid (HOSD.out.alloc_obj (.cells #[.int .i64 (i : Int),.int .i64 ((D : Nat) : Int),.bool ((nk : Int) == 3)] 158))
         refine hK.out _ _ HO1.out.ok (fun hHeld => ?_)
         clear hK K
         try simp only [Act.put,p1,p2,p3,p4,p5,p6]
         refine wpAnyH_ready (rs:=[8]) (by kernel_rfl) (by simp) ?_
         refine AllReadyH.cons rfl (fun K hK => ?_) AllReadyH.nil
         refine step_append_lies _ (by rfl) _ _ _ (by rfl) w.heap.size 158 i0 _ 3 24 Tryz.underlying153 hi hz0 hz1 hz2 rfl (by omega) _ _ _ (by rfl) HO1.out.own ⟨Wd.heap.size,0,none⟩ 1 1 [.int .i64 (i : Int),.int .i64 ((D : Nat) : Int),.bool ((nk : Int) == 3)] (by rfl) (by rfl) (World.news_of_block (cs:=#[.int .i64 (i : Int),.int .i64 ((D : Nat) : Int),.bool ((nk : Int) == 3)]) (t:=158) (fr:=(0,0)) (heap_alloc_new _ _)) (by intro u hu; simp at hu; rcases hu with rfl | rfl | rfl <;> rfl) (by omega) (by unfold maxLen; omega) (by omega) (by have:=HB9.out; simp; omega) (Wd.heap.size + 1) (by simp) ?_
         intro g3 cap3 w3 hown3 hgrow3 hat3 hlt3
         have HO3:=Lib.hid (HO1.out.appended hown3 hgrow3 (by rw [World.size_alloc]; exact hat3))
         clear hown3 hgrow3 hat3 HO1 HOSD
         refine hK.out _ _ HO3.out.ok (fun hHeld => ?_)
         clear hK K
         try simp only [Act.put,p1,p2,p3,p4,p5,p6]
         refine tg (i:=9) (v:=?a80) rfl ?b80 (by assumption) ?c80
         case b80 => (intro w hSw; have F:=Ok.sees hSw; clear hSw; simp only [sees,kVar,cellsAt,Nat.reduceAdd] at F; go_simp; try with_reducible rfl)
         try simp only [Act.put,p1,p2,p3,p4,p5,p6]
         refine wpAnyH_done (by kernel_rfl) ?_ _
         clear hHeld
         clear hw0
         have F9:=HO3.out.ok.sees
         simp only [sees,kVar,cellsAt,Nat.reduceAdd] at F9
         obtain ⟨⟨⟨x0,-⟩,x1,x2,x3,-⟩,-⟩:=F9
         go_wp2_with fail
         refine (tree_nothing _ _ _ _).mono ?_
         rintro e w11 ⟨rfl,hw11⟩
         obtain rfl : w3 = w11:=hw11.symm
         go_wp2_with fail
         go_roundw
         case rel =>
          have hfin:=pt_snoc (l:=([] : List Pt)) HO3.out rfl
          have hstk:=stk_snoc (l:=([] : List Pt)) (p:=⟨i,D,decide (nk = 3)⟩) HO3.out rfl
          have hnx:=HNX.out
          simp only [HD.out,List.drop_zero,List.take_zero] at hnx
          exact ⟨i + 1,([] : List Pt) ++ [⟨i,D,decide (nk = 3)⟩],by omega,by go_num,by simp,keep hnx,keep hstk,Lib.hid hfin⟩
         case measure => simp [intOf]; omega
   ·subst hsv
    obtain ⟨m,hm⟩ : ∃ m,st.length = m:=⟨_,rfl⟩
    rw [hm] at H11 hs1 hs2 hsl HFAR ⊢
    have HM:=keep hm
    clear hm
    have HCAP:=keep hs3
    unfold maxLen at hs3
    by_cases hlen : m < k
    ·have hleni : (m : Int) < (k : Int):=by omega
     have hlenb : decide ((m : Int) < (k : Int)) = true:=by simpa using hleni
     have hlenn : decide (m < k) = true:=by simpa using hlen
     have HLEN:=keep (show st.length < k by rw [HM.out]; exact hlen)
     refine wp_region_held_drew (S:=fun W => Ok w [kBlk (wp.heap.size) 32 [.int .u8 nk,.int .u8 vk,.int .i64 vn,.string ⟨vt.toArray⟩,.int .i64 r1,.int .i64 r2,.int .i64 r3,.int .i64 r4,.int .i64 op,.int .u8 fn,.int .i64 nn],kRow w.heap.size 158 3 (.slice (some ⟨g,0,none⟩) m cap) m (ptCells st),kCells tb (tz + i * 11) [.int .u8 nk,.int .u8 vk,.int .i64 vn,.string ⟨vt.toArray⟩,.int .i64 r1,.int .i64 r2,.int .i64 r3,.int .i64 r4,.int .i64 op,.int .u8 fn,.int .i64 nn]] W) (by kernel_rfl) H11.out.drew (fun hHeld => ?_)
     refine tg (i:=0) (v:=?a82) rfl ?b82 (by assumption) ?c82
     case b82 => (intro w hSw; have F:=Ok.sees hSw; clear hSw; simp only [sees,kBlk,kCells,cellsFrom,Nat.add_zero,cellsAt,Nat.reduceAdd] at F; go_simp; try with_reducible rfl)
     try simp only [Act.put,p1,p2,p3,p4,p6]
     refine tg (i:=1) (v:=?a84) rfl ?b84 (by assumption) ?c84
     case b84 => (intro w hSw; have F:=Ok.sees hSw; clear hSw; simp only [sees,kBlk,kCells,cellsFrom,Nat.add_zero,cellsAt,Nat.reduceAdd] at F; go_simp; try with_reducible rfl)
     try simp only [Act.put,p1,p2,p3,p4,p5,p6]
     refine tg (i:=2) (v:=?a86) rfl ?b86 (by assumption) ?c86
     case b86 => (intro w hSw; have F:=Ok.sees hSw; clear hSw; simp only [sees,kBlk,kCells,cellsFrom,Nat.add_zero,cellsAt,Nat.reduceAdd] at F; go_simp; try with_reducible rfl)
     try simp only [Act.put,p1,p2,p3,p4,p5,p6]
     refine tg (i:=3) (v:=?a88) rfl ?b88 (by assumption) ?c88
     case b88 => (intro w hSw; have F:=Ok.sees hSw; clear hSw; simp only [sees,kBlk,kCells,cellsFrom,Nat.add_zero,cellsAt,Nat.reduceAdd] at F; go_simp; try with_reducible rfl)
     try simp only [Act.put,p1,p2,p3,p4,p5,p6]
     refine tg (i:=4) (v:=?a90) rfl ?b90 (by assumption) ?c90
     case b90 => (intro w hSw; have F:=Ok.sees hSw; clear hSw; simp only [sees,kBlk,kCells,cellsFrom,Nat.add_zero,cellsAt,Nat.reduceAdd] at F; go_simp; try with_reducible rfl)
     try simp only [Act.put,p1,p2,p3,p4,p5,p6]
     refine sg (i:=5) rfl (by assumption) ?_
     try simp only [Act.put,p1,p2,p3,p4,p5,p6]
     refine sg (i:=6) rfl (by assumption) ?_
     try simp only [Act.put,p1,p2,p3,p4,p5,p6]
     refine sg (i:=7) rfl (by assumption) ?_
     try simp only [Act.put,p1,p2,p3,p4,p5,p6]
     refine sg (i:=8) rfl (by assumption) ?_
     try simp only [Act.put,p1,p2,p3,p4,p5,p6]
     refine sg (i:=9) rfl (by assumption) ?_
     try simp only [Act.put,p1,p2,p3,p4,p5,p6]
     refine sg (i:=10) rfl (by assumption) ?_
     try simp only [Act.put,p1,p2,p3,p4,p5,p6]
     refine sg (i:=11) rfl (by assumption) ?_
     try simp only [Act.put,p1,p2,p3,p4,p5,p6]
     refine sg (i:=12) rfl (by assumption) ?_
     try simp only [Act.put,p1,p2,p3,p4,p5,p6]
     refine sg (i:=13) rfl (by assumption) ?_
     try simp only [Act.put,p1,p2,p3,p4,p5,p6]
     refine sg (i:=14) rfl (by assumption) ?_
     try simp only [Act.put,p1,p2,p3,p4,p5,p6]
     refine tg (i:=15) (v:=?a112) rfl ?b112 (by assumption) ?c112
     case b112 => (intro w hSw; have F:=Ok.sees hSw; clear hSw; simp only [sees,kBlk,kCells,cellsFrom,Nat.add_zero,cellsAt,Nat.reduceAdd] at F; go_simp; try with_reducible rfl)
     try simp only [Act.put,p1,p2,p3,p4,p5,p6]
     refine wpAnyH_done (by kernel_rfl) ?_ _
     clear z0 c0_0 c0_1 c0_2 c0_3 c0_4 c0_5 c0_6 c0_7 c0_8 c0_9 c0_10 z2 c2_0 c2_1 c2_2 c2_3 c2_4 c2_5 c2_6 c2_7 c2_8 c2_9 c2_10
     clear H11
     have H14:=Lib.hid hHeld
     clear hHeld
     clear hleni hlenb hlen hlenn
     have HE:=keep (show V = 4 from HV.out.symm.trans (Wlk.bad HK.out HIL.out (by rw [HN.out]; exact step_short HKB.out HLEN.out)))
     go_wp2_with fail
     go_ret
     exact ⟨by rw [HE.out]; rfl,H14.out.bel⟩
    ·have hlenn : decide (m < k) = false:=by simpa using hlen
     have hleni : ¬ (m : Int) < (k : Int):=by omega
     have hlenb : decide ((m : Int) < (k : Int)) = false:=by simpa using hleni
     have HNLT:=keep (show ¬ st.length < k by rw [HM.out]; exact hlen)
     obtain ⟨d,hd⟩ : ∃ d,m - k = d:=⟨_,rfl⟩
     have HDEQ:=keep (show st.length - k = d by rw [HM.out]; exact hd)
     have hdm : d ≤ m:=by omega
     have HDM:=keep hdm
     have hmk : m - d = k:=by omega
     have hdi : (m : Int) - (k : Int) = (d : Int):=by omega
     have hdw : IntKind.i64.wrap ((m : Int) - (k : Int)) = (d : Int):=by rw [hdi]; exact Go.IntWalk.i64_in _ (by omega)
     have hdw2 : IntKind.i64.wrap (d : Int) = (d : Int):=Go.IntWalk.i64_in _ (by omega)
     have hdi2 : (d : Int) ≤ (m : Int):=by omega
     by_cases hcd : cap = d
     ·obtain rfl : d = cap:=hcd.symm
      have HMK:=keep hmk
      have HDR:=keep (show st.drop d = [] from List.drop_eq_nil_of_le (by rw [HM.out]; omega))
      have HIL2:=keep (show ∀ p ∈ st,p.root < t.length from fun p hp => Nat.lt_trans (HK.out.2 p hp).1 HIL.out)
      obtain ⟨kn3,hk3⟩ : ∃ b : Bool,((nk : Int) == 3) = b:=⟨_,rfl⟩
      have HK3:=keep hk3
      clear hk3
      obtain ⟨fv,hfv⟩ : ∃ fv,fitsF t ⟨nk,vk,vn,vt,⟨r1,r2,r3,r4⟩,op,fn,nn⟩ 0 (st.drop d) = fv:=⟨_,rfl⟩
      have HFV:=keep hfv
      clear hfv
      refine wp_region_held_drew (S:=fun W => Ok w [kBlk (wp.heap.size) 32 [.int .u8 nk,.int .u8 vk,.int .i64 vn,.string ⟨vt.toArray⟩,.int .i64 r1,.int .i64 r2,.int .i64 r3,.int .i64 r4,.int .i64 op,.int .u8 fn,.int .i64 nn],kRow w.heap.size 158 3 (.slice (some ⟨g,0,none⟩) m d) m (ptCells st),kCells tb (tz + i * 11) [.int .u8 nk,.int .u8 vk,.int .i64 vn,.string ⟨vt.toArray⟩,.int .i64 r1,.int .i64 r2,.int .i64 r3,.int .i64 r4,.int .i64 op,.int .u8 fn,.int .i64 nn]] W) (by kernel_rfl) H11.out.drew (fun hHeld => ?_)
      refine tg (i:=0) (v:=?a114) rfl ?b114 (by assumption) ?c114
      case b114 => (intro w hSw; have F:=Ok.sees hSw; clear hSw; simp only [sees,kBlk,kCells,cellsFrom,Nat.add_zero,cellsAt,Nat.reduceAdd] at F; go_simp; try with_reducible rfl)
      try simp only [Act.put,p1,p2,p3,p4,p6]
      refine tg (i:=1) (v:=?a116) rfl ?b116 (by assumption) ?c116
      case b116 => (intro w hSw; have F:=Ok.sees hSw; clear hSw; simp only [sees,kBlk,kCells,cellsFrom,Nat.add_zero,cellsAt,Nat.reduceAdd] at F; go_simp; try with_reducible rfl)
      try simp only [Act.put,p1,p2,p3,p4,p5,p6]
      refine tg (i:=2) (v:=?a118) rfl ?b118 (by assumption) ?c118
      case b118 => (intro w hSw; have F:=Ok.sees hSw; clear hSw; simp only [sees,kBlk,kCells,cellsFrom,Nat.add_zero,cellsAt,Nat.reduceAdd] at F; go_simp; try with_reducible rfl)
      try simp only [Act.put,p1,p2,p3,p4,p5,p6]
      refine tg (i:=3) (v:=?a120) rfl ?b120 (by assumption) ?c120
      case b120 => (intro w hSw; have F:=Ok.sees hSw; clear hSw; simp only [sees,kBlk,kCells,cellsFrom,Nat.add_zero,cellsAt,Nat.reduceAdd] at F; go_simp; try with_reducible rfl)
      try simp only [Act.put,p1,p2,p3,p4,p5,p6]
      refine tg (i:=4) (v:=?a122) rfl ?b122 (by assumption) ?c122
      case b122 => (intro w hSw; have F:=Ok.sees hSw; clear hSw; simp only [sees,kBlk,kCells,cellsFrom,Nat.add_zero,cellsAt,Nat.reduceAdd] at F; go_simp; try with_reducible rfl)
      try simp only [Act.put,p1,p2,p3,p4,p5,p6]
      refine tg (i:=5) (v:=?a124) rfl ?b124 (by assumption) ?c124
      case b124 => (intro w hSw; have F:=Ok.sees hSw; clear hSw; simp only [sees,kBlk,kCells,cellsFrom,Nat.add_zero,cellsAt,Nat.reduceAdd] at F; go_simp; try with_reducible rfl)
      try simp only [Act.put,p1,p2,p3,p4,p5,p6]
      refine tg (i:=6) (v:=?a126) rfl ?b126 (by assumption) ?c126
      case b126 => (intro w hSw; have F:=Ok.sees hSw; clear hSw; simp only [sees,kBlk,kCells,cellsFrom,Nat.add_zero,cellsAt,Nat.reduceAdd] at F; go_simp; try with_reducible rfl)
      try simp only [Act.put,p1,p2,p3,p4,p5,p6]
      refine tg (i:=7) (v:=?a128) rfl ?b128 (by assumption) ?c128
      case b128 => (intro w hSw; have F:=Ok.sees hSw; clear hSw; simp only [sees,kBlk,kCells,cellsFrom,Nat.add_zero,cellsAt,Nat.reduceAdd] at F; go_simp; try with_reducible rfl)
      try simp only [Act.put,p1,p2,p3,p4,p5,p6]
      refine tg (i:=8) (v:=?a130) rfl ?b130 (by assumption) ?c130
      case b130 => (intro w hSw; have F:=Ok.sees hSw; clear hSw; simp only [sees,kBlk,kCells,cellsFrom,Nat.add_zero,cellsAt,Nat.reduceAdd] at F; go_simp; try with_reducible rfl)
      try simp only [Act.put,p1,p2,p3,p4,p5,p6]
      refine tg (i:=9) (v:=?a132) rfl ?b132 (by assumption) ?c132
      case b132 => (intro w hSw; have F:=Ok.sees hSw; clear hSw; simp only [sees,kBlk,kCells,cellsFrom,Nat.add_zero,cellsAt,Nat.reduceAdd] at F; go_simp; try with_reducible rfl)
      try simp only [Act.put,p1,p2,p3,p4,p5,p6]
      refine tg (i:=10) (v:=?a134) rfl ?b134 (by assumption) ?c134
      case b134 => (intro w hSw; have F:=Ok.sees hSw; clear hSw; simp only [sees,kBlk,kCells,cellsFrom,Nat.add_zero,cellsAt,Nat.reduceAdd] at F; go_simp; try with_reducible rfl)
      try simp only [Act.put,p1,p2,p3,p4,p5,p6]
      refine tg (i:=11) (v:=?a136) rfl ?b136 (by assumption) ?c136
      case b136 => (intro w hSw; have F:=Ok.sees hSw; clear hSw; simp only [sees,kBlk,kCells,cellsFrom,Nat.add_zero,cellsAt,Nat.reduceAdd] at F; go_simp; try with_reducible rfl)
      try simp only [Act.put,p1,p2,p3,p4,p5,p6]
      refine tg (i:=12) (v:=?a138) rfl ?b138 (by assumption) ?c138
      case b138 => (intro w hSw; have F:=Ok.sees hSw; clear hSw; simp only [sees,kBlk,kCells,cellsFrom,Nat.add_zero,cellsAt,Nat.reduceAdd] at F; go_simp; try with_reducible rfl)
      try simp only [Act.put,p1,p2,p3,p4,p5,p6]
      refine wpAnyH_ready (rs:=[13]) (by kernel_rfl) (by simp) ?_
      refine AllReadyH.cons rfl (fun K hK => ?_) AllReadyH.nil
      go_simp
      refine (tree_fitsI t ⟨nk,vk,vn,vt,⟨r1,r2,r3,r4⟩,op,fn,nn⟩ (st.drop d) (some ⟨tb,tz,none⟩) _ tl tc k _ _ HTL.out (by rw [List.length_drop,HM.out]; exact HMK.out) (HT.out.below hHeld.bel) (by rw [HDR.out]; exact rows_nil _ _ _) htl (by omega) (fun p hp => HIL2.out p (List.mem_of_mem_drop hp)) (fun h => good_fn HGN.out h)).mono ?_
      rintro e w14 ⟨rfl,hb15⟩
      rw [HFV.out]
      go_wp2_with fail
      refine hK.out _ _ (hHeld.below hb15) (fun hHeld => ?_)
      clear hK K
      try simp only [Act.put,p1,p2,p3,p4,p5,p6]
      refine tg (i:=14) (v:=?a141) rfl ?b141 (by assumption) ?c141
      case b141 => (intro w hSw; have F:=Ok.sees hSw; clear hSw; simp only [sees,kBlk,kCells,cellsFrom,Nat.add_zero,cellsAt,Nat.reduceAdd] at F; go_simp; try with_reducible rfl)
      try simp only [Act.put,p1,p2,p3,p4,p5,p6]
      refine tg (i:=15) (v:=?a143) rfl ?b143 (by assumption) ?c143
      case b143 => (intro w hSw; have F:=Ok.sees hSw; clear hSw; simp only [sees,kBlk,kCells,cellsFrom,Nat.add_zero,cellsAt,Nat.reduceAdd] at F; go_simp; try with_reducible rfl)
      try simp only [Act.put,p1,p2,p3,p4,p5,p6]
      refine wpAnyH_done (by kernel_rfl) ?_ _
      clear z0 c0_0 c0_1 c0_2 c0_3 c0_4 c0_5 c0_6 c0_7 c0_8 c0_9 c0_10 z2 c2_0 c2_1 c2_2 c2_3 c2_4 c2_5 c2_6 c2_7 c2_8 c2_9 c2_10
      clear H11
      have H16:=Lib.hid hHeld
      clear hHeld
      clear hdw hdw2 hlenb hleni hlen hlenn
      cases fv
      ·have HE:=keep (show V = 4 from HV.out.symm.trans (Wlk.bad HK.out HIL.out (by rw [HN.out]; exact step_unfit HKB.out HNLT.out HDEQ.out HFV.out)))
       go_wp2_with fail
       go_ret
       exact ⟨by rw [HE.out]; rfl,H16.out.bel⟩
      ·have HFR:=keep (show ∀ x ∈ [kBlk (wp.heap.size) 32 [.int .u8 nk,.int .u8 vk,.int .i64 vn,.string ⟨vt.toArray⟩,.int .i64 r1,.int .i64 r2,.int .i64 r3,.int .i64 r4,.int .i64 op,.int .u8 fn,.int .i64 nn],kRow w.heap.size 158 3 (.slice (some ⟨g,0,none⟩) m d) m (ptCells st),kCells tb (tz + i * 11) [.int .u8 nk,.int .u8 vk,.int .i64 vn,.string ⟨vt.toArray⟩,.int .i64 r1,.int .i64 r2,.int .i64 r3,.int .i64 r4,.int .i64 op,.int .u8 fn,.int .i64 nn]],x.far (some w14.heap.size) from fun x hx => x.new _ _ (Nat.le_refl _) (H16.out.all x hx))
       have HGL:=keep (show ∀ x,(.slice (some ⟨g,0,none⟩) m d : Value).ownBlock = some x → x < w14.heap.size from fun x hx => ((H16.out.get (kRow w.heap.size 158 3 (.slice (some ⟨g,0,none⟩) m d) m (ptCells st)) (by simp)).lt x hx).2)
       have HLB:=keep H16.out.bel.size
       have F17:=H16.out.sees
       simp only [sees,kBlk,kCells,cellsFrom,Nat.add_zero,cellsAt,Nat.reduceAdd] at F17
       obtain ⟨⟨z0,c0_0,c0_1,c0_2,c0_3,c0_4,c0_5,c0_6,c0_7,c0_8,c0_9,c0_10,-⟩,-,⟨z2,c2_0,c2_1,c2_2,c2_3,c2_4,c2_5,c2_6,c2_7,c2_8,c2_9,c2_10,-⟩,-⟩:=F17
       go_upto_region 12 with fail
       have y18:=z0
       have y19:=z2
       clear z0 c0_0 c0_1 c0_2 c0_3 c0_4 c0_5 c0_6 c0_7 c0_8 c0_9 c0_10 z2 c2_0 c2_1 c2_2 c2_3 c2_4 c2_5 c2_6 c2_7 c2_8 c2_9 c2_10
       have H20:=Lib.hid (H16.out.var w14.heap.size 158 [.int .i64 i,.int .i64 1,.bool ((nk : Int) == 3)] rfl)
       clear H16
       generalize (w14.alloc (.cells #[.int .i64 i,.int .i64 1,.bool ((nk : Int) == 3)] 158)) = W21 at H20 ⊢
       have F22:=H20.out.sees
       simp only [sees,kBlk,kVar,kCells,cellsFrom,Nat.add_zero,cellsAt,Nat.reduceAdd] at F22
       obtain ⟨⟨⟨z0,fz0⟩,c0_0,c0_1,c0_2,-⟩,⟨z1,c1_0,c1_1,c1_2,c1_3,c1_4,c1_5,c1_6,c1_7,c1_8,c1_9,c1_10,-⟩,-,⟨z3,c3_0,c3_1,c3_2,c3_3,c3_4,c3_5,c3_6,c3_7,c3_8,c3_9,c3_10,-⟩,-⟩:=F22
       go_wp2_with fail
       have h1d : ((deepS ((st.drop d).take 0) : Nat) : Int) = 1:=by simp [deepS]
       have HST:=Lib.hid (OkRow.start (show Ok w (kVar (w14.heap.size) 158 [.int .i64 i,.int .i64 ((deepS ((st.drop d).take 0) : Nat) : Int),.bool ((nk : Int) == 3)] :: [kBlk (wp.heap.size) 32 [.int .u8 nk,.int .u8 vk,.int .i64 vn,.string ⟨vt.toArray⟩,.int .i64 r1,.int .i64 r2,.int .i64 r3,.int .i64 r4,.int .i64 op,.int .u8 fn,.int .i64 nn],kRow w.heap.size 158 3 (.slice (some ⟨g,0,none⟩) m d) m (ptCells st),kCells tb (tz + i * 11) [.int .u8 nk,.int .u8 vk,.int .i64 vn,.string ⟨vt.toArray⟩,.int .i64 r1,.int .i64 r2,.int .i64 r3,.int .i64 r4,.int .i64 op,.int .u8 fn,.int .i64 nn]]) W21 by rw [h1d]; exact H20.out) 3 1)
       clear h1d
       clear z0 fz0 c0_0 c0_1 c0_2 z1 c1_0 c1_1 c1_2 c1_3 c1_4 c1_5 c1_6 c1_7 c1_8 c1_9 c1_10 z3 c3_0 c3_1 c3_2 c3_3 c3_4 c3_5 c3_6 c3_7 c3_8 c3_9 c3_10
       go_loopw [11,56] (fun kv jv wr => ∃ (j : Nat) (ks : List Int),j ≤ k ∧ jv = .int .i64 (j : Int) ∧ ks.length = j ∧ Hid (OkRow w (kVar (w14.heap.size) 158 [.int .i64 i,.int .i64 ((deepS ((st.drop d).take j) : Nat) : Int),.bool ((nk : Int) == 3)] :: [kBlk (wp.heap.size) 32 [.int .u8 nk,.int .u8 vk,.int .i64 vn,.string ⟨vt.toArray⟩,.int .i64 r1,.int .i64 r2,.int .i64 r3,.int .i64 r4,.int .i64 op,.int .u8 fn,.int .i64 nn],kRow w.heap.size 158 3 (.slice (some ⟨g,0,none⟩) m d) m (ptCells st),kCells tb (tz + i * 11) [.int .u8 nk,.int .u8 vk,.int .i64 vn,.string ⟨vt.toArray⟩,.int .i64 r1,.int .i64 r2,.int .i64 r3,.int .i64 r4,.int .i64 op,.int .u8 fn,.int .i64 nn]]) 3 1 kv j (ks.map fun x => .int .i64 x) wr)) (fun _ jv _ => k - (intOf jv).toNat)
       case atStart => exact ⟨0,[],Nat.zero_le _,rfl,rfl,HST⟩
       case round =>
        clear HST H20
        obtain ⟨j,ks,hjk,rfl,hks,HR⟩:=hrel
        obtain ⟨wq,rfl⟩ : ∃ wq : World,wq = wr:=⟨_,rfl⟩
        by_cases hlj : (j : Int) < (k : Int)
        ·exact absurd hlj (by have:=HMK.out; omega)
        ·obtain rfl : k = j:=by omega
         obtain ⟨D,hD⟩ : ∃ D,deepS (st.drop d) = D:=⟨_,rfl⟩
         have hLt : deepS ((st.drop d).take k) = D:=by rw [← hD]; congr 1; exact List.take_of_length_le (by rw [List.length_drop,HM.out]; have:=HMK.out; omega)
         rw [hLt] at HR
         have HD:=keep hD
         clear hLt hD
         have H5:=Lib.hid HR.out.ok
         obtain ⟨kva,kvc,hkv⟩:=own_len HR.out.own
         subst hkv
         clear HR
         have F23:=H5.out.sees
         simp only [sees,kBlk,kVar,kCells,cellsFrom,Nat.add_zero,cellsAt,Nat.reduceAdd] at F23
         obtain ⟨⟨⟨z0,fz0⟩,c0_0,c0_1,c0_2,-⟩,⟨z1,c1_0,c1_1,c1_2,c1_3,c1_4,c1_5,c1_6,c1_7,c1_8,c1_9,c1_10,-⟩,-,⟨z3,c3_0,c3_1,c3_2,c3_3,c3_4,c3_5,c3_6,c3_7,c3_8,c3_9,c3_10,-⟩,-⟩:=F23
         by_cases h32 : (D : Int) > 32
         ·have HE:=keep (show V = 9 from HV.out.symm.trans (Wlk.bad HK.out HIL.out (by rw [HN.out]; exact step_deep HKB.out HNLT.out HDEQ.out HFV.out (by rw [HD.out]; omega))))
          go_wp2_with fail
          go_ret
          exact ⟨by rw [HE.out]; rfl,H5.out.bel⟩
         ·have HOKS:=keep (step_ok (t:=t) (st:=st) (i:=i) HKB.out HNLT.out HDEQ.out HFV.out (by rw [HD.out]; omega))
          have HNX:=keep (Wlk.next HK.out HIL.out (by rw [HN.out]; exact HOKS.out))
          go_upto_region 21 with fail
          have HOS:=Lib.hid (show OkRow w [kVar (w14.heap.size) 158 [.int .i64 i,.int .i64 ((D : Nat) : Int),.bool ((nk : Int) == 3)]] 158 3 (.slice (some ⟨g,0,none⟩) d d) d (ptCells (st.take d)) wq from ⟨H5.out.drop _ (by simp),(by have h9:=own_take (H5.out.get (kRow w.heap.size 158 3 (.slice (some ⟨g,0,none⟩) m d) m (ptCells st)) (by simp)) HDM.out; rw [ptCells_take _ _ (by rw [HM.out]; exact HDM.out)] at h9; exact h9),by
           intro x hx
           simp at hx
           subst hx
           show some (w14.heap.size) ≠ _
           intro e9
           have:=HGL.out _ e9.symm
           omega⟩)
          have HOSD:=Lib.hid HOS.out.drew
          have HB9:=keep HOSD.out.ok.bel.size
          generalize hWd : wq.drew = Wd at HOSD HB9
          have hdc : (d : Int) ≤ (d : Int):=by have:=HDM.out; omega
          have hw0 : IntKind.i64.wrap (d : Int) = (d : Int):=Go.IntWalk.i64_in _ (by omega)
          refine wp_region_held_drew (S:=fun W => Ok w [kVar (w14.heap.size) 158 [.int .i64 i,.int .i64 ((D : Nat) : Int),.bool ((nk : Int) == 3)]] W) (by kernel_rfl) (by rw [hWd]; exact HOSD.out.ok) (fun hHeld => ?_)
          rw [hWd] at hHeld ⊢
          clear hWd HOS H5
          refine tg (i:=0) (v:=?a145) rfl ?b145 (by assumption) ?c145
          case b145 => (intro w hSw; have F:=Ok.sees hSw; clear hSw; simp only [sees,kVar,cellsAt,Nat.reduceAdd] at F; go_simp; try with_reducible rfl)
          try simp only [Act.put,p1,p2,p3,p4,p6]
          refine tg (i:=1) (v:=?a147) rfl ?b147 (by assumption) ?c147
          case b147 => (intro w hSw; have F:=Ok.sees hSw; clear hSw; simp only [sees,kVar,cellsAt,Nat.reduceAdd] at F; go_simp; try with_reducible rfl)
          try simp only [Act.put,p1,p2,p3,p4,p5,p6]
          refine tg (i:=2) (v:=?a149) rfl ?b149 (by assumption) ?c149
          case b149 => (intro w hSw; have F:=Ok.sees hSw; clear hSw; simp only [sees,kVar,cellsAt,Nat.reduceAdd] at F; go_simp; try with_reducible rfl)
          try simp only [Act.put,p1,p2,p3,p4,p5,p6]
          refine tg (i:=3) (v:=?a151) rfl ?b151 (by assumption) ?c151
          case b151 => (intro w hSw; have F:=Ok.sees hSw; clear hSw; simp only [sees,kVar,cellsAt,Nat.reduceAdd] at F; go_simp; try with_reducible rfl)
          try simp only [Act.put,p1,p2,p3,p4,p5,p6]
          refine tg (i:=4) (v:=?a153) rfl ?b153 (by assumption) ?c153
          case b153 => (intro w hSw; have F:=Ok.sees hSw; clear hSw; simp only [sees,kVar,cellsAt,Nat.reduceAdd] at F; go_simp; try with_reducible rfl)
          try simp only [Act.put,p1,p2,p3,p4,p5,p6]
          refine tg (i:=5) (v:=?a155) rfl ?b155 (by assumption) ?c155
          case b155 => (intro w hSw; have F:=Ok.sees hSw; clear hSw; simp only [sees,kVar,cellsAt,Nat.reduceAdd] at F; go_simp; try with_reducible rfl)
          try simp only [Act.put,p1,p2,p3,p4,p5,p6]
          refine tg (i:=6) (v:=?a157) rfl ?b157 (by assumption) ?c157
          case b157 => (intro w hSw; have F:=Ok.sees hSw; clear hSw; simp only [sees,kVar,cellsAt,Nat.reduceAdd] at F; go_simp; try with_reducible rfl)
          try simp only [Act.put,p1,p2,p3,p4,p5,p6]
          refine wpAnyH_ready (rs:=[7]) (by kernel_rfl) (by simp) ?_
          refine AllReadyH.cons rfl (fun K hK => ?_) AllReadyH.nil
          go_simp
          have HO1:=Lib.hid (HOSD.out.alloc_obj (.cells #[.int .i64 (i : Int),.int .i64 ((D : Nat) : Int),.bool ((nk : Int) == 3)] 158))
          refine hK.out _ _ HO1.out.ok (fun hHeld => ?_)
          clear hK K
          try simp only [Act.put,p1,p2,p3,p4,p5,p6]
          refine wpAnyH_ready (rs:=[8]) (by kernel_rfl) (by simp) ?_
          refine AllReadyH.cons rfl (fun K hK => ?_) AllReadyH.nil
          refine step_append_lies _ (by rfl) _ _ _ (by rfl) w.heap.size 158 i0 _ 3 24 Tryz.underlying153 hi hz0 hz1 hz2 rfl (by omega) _ _ _ (by rfl) HO1.out.own ⟨Wd.heap.size,0,none⟩ 1 1 [.int .i64 (i : Int),.int .i64 ((D : Nat) : Int),.bool ((nk : Int) == 3)] (by rfl) (by rfl) (World.news_of_block (cs:=#[.int .i64 (i : Int),.int .i64 ((D : Nat) : Int),.bool ((nk : Int) == 3)]) (t:=158) (fr:=(0,0)) (heap_alloc_new _ _)) (by intro u hu; simp at hu; rcases hu with rfl | rfl | rfl <;> rfl) (by omega) (by unfold maxLen; omega) (by omega) (by have:=HB9.out; simp; omega) (Wd.heap.size + 1) (by simp) ?_
          intro g3 cap3 w3 hown3 hgrow3 hat3 hlt3
          have HO3:=Lib.hid (HO1.out.appended hown3 hgrow3 (by rw [World.size_alloc]; exact hat3))
          clear hown3 hgrow3 hat3 HO1 HOSD
          refine hK.out _ _ HO3.out.ok (fun hHeld => ?_)
          clear hK K
          try simp only [Act.put,p1,p2,p3,p4,p5,p6]
          refine tg (i:=9) (v:=?a161) rfl ?b161 (by assumption) ?c161
          case b161 => (intro w hSw; have F:=Ok.sees hSw; clear hSw; simp only [sees,kVar,cellsAt,Nat.reduceAdd] at F; go_simp; try with_reducible rfl)
          try simp only [Act.put,p1,p2,p3,p4,p5,p6]
          refine wpAnyH_done (by kernel_rfl) ?_ _
          clear hHeld
          clear hw0
          have F9:=HO3.out.ok.sees
          simp only [sees,kVar,cellsAt,Nat.reduceAdd] at F9
          obtain ⟨⟨⟨x0,-⟩,x1,x2,x3,-⟩,-⟩:=F9
          go_wp2_with fail
          refine (tree_nothing _ _ _ _).mono ?_
          rintro e w11 ⟨rfl,hw11⟩
          obtain rfl : w3 = w11:=hw11.symm
          go_wp2_with fail
          go_roundw
          case rel =>
           have hfin:=pt_snoc (l:=(st.take d)) HO3.out (by rw [List.length_take,HM.out]; have:=HDM.out; omega)
           have hstk:=stk_snoc (l:=(st.take d)) (p:=⟨i,D,decide (nk = 3)⟩) HO3.out (by rw [List.length_take,HM.out]; have:=HDM.out; omega)
           have hnx:=HNX.out
           simp only [HD.out] at hnx
           exact ⟨i + 1,(st.take d) ++ [⟨i,D,decide (nk = 3)⟩],by omega,by go_num,by rw [List.length_append,List.length_take,HM.out]; have:=HDM.out; simp; omega,keep hnx,keep hstk,Lib.hid hfin⟩
          case measure => simp [intOf]; omega
     ·have HMK:=keep hmk
      have HIL2:=keep (show ∀ p ∈ st,p.root < t.length from fun p hp => Nat.lt_trans (HK.out.2 p hp).1 HIL.out)
      obtain ⟨kn3,hk3⟩ : ∃ b : Bool,((nk : Int) == 3) = b:=⟨_,rfl⟩
      have HK3:=keep hk3
      clear hk3
      obtain ⟨fv,hfv⟩ : ∃ fv,fitsF t ⟨nk,vk,vn,vt,⟨r1,r2,r3,r4⟩,op,fn,nn⟩ 0 (st.drop d) = fv:=⟨_,rfl⟩
      have HFV:=keep hfv
      clear hfv
      refine wp_region_held_drew (S:=fun W => Ok w [kBlk (wp.heap.size) 32 [.int .u8 nk,.int .u8 vk,.int .i64 vn,.string ⟨vt.toArray⟩,.int .i64 r1,.int .i64 r2,.int .i64 r3,.int .i64 r4,.int .i64 op,.int .u8 fn,.int .i64 nn],kRow w.heap.size 158 3 (.slice (some ⟨g,0,none⟩) m cap) m (ptCells st),kCells tb (tz + i * 11) [.int .u8 nk,.int .u8 vk,.int .i64 vn,.string ⟨vt.toArray⟩,.int .i64 r1,.int .i64 r2,.int .i64 r3,.int .i64 r4,.int .i64 op,.int .u8 fn,.int .i64 nn]] W) (by kernel_rfl) H11.out.drew (fun hHeld => ?_)
      refine tg (i:=0) (v:=?a163) rfl ?b163 (by assumption) ?c163
      case b163 => (intro w hSw; have F:=Ok.sees hSw; clear hSw; simp only [sees,kBlk,kCells,cellsFrom,Nat.add_zero,cellsAt,Nat.reduceAdd] at F; go_simp; try with_reducible rfl)
      try simp only [Act.put,p1,p2,p3,p4,p6]
      refine tg (i:=1) (v:=?a165) rfl ?b165 (by assumption) ?c165
      case b165 => (intro w hSw; have F:=Ok.sees hSw; clear hSw; simp only [sees,kBlk,kCells,cellsFrom,Nat.add_zero,cellsAt,Nat.reduceAdd] at F; go_simp; try with_reducible rfl)
      try simp only [Act.put,p1,p2,p3,p4,p5,p6]
      refine tg (i:=2) (v:=?a167) rfl ?b167 (by assumption) ?c167
      case b167 => (intro w hSw; have F:=Ok.sees hSw; clear hSw; simp only [sees,kBlk,kCells,cellsFrom,Nat.add_zero,cellsAt,Nat.reduceAdd] at F; go_simp; try with_reducible rfl)
      try simp only [Act.put,p1,p2,p3,p4,p5,p6]
      refine tg (i:=3) (v:=?a169) rfl ?b169 (by assumption) ?c169
      case b169 => (intro w hSw; have F:=Ok.sees hSw; clear hSw; simp only [sees,kBlk,kCells,cellsFrom,Nat.add_zero,cellsAt,Nat.reduceAdd] at F; go_simp; try with_reducible rfl)
      try simp only [Act.put,p1,p2,p3,p4,p5,p6]
      refine tg (i:=4) (v:=?a171) rfl ?b171 (by assumption) ?c171
      case b171 => (intro w hSw; have F:=Ok.sees hSw; clear hSw; simp only [sees,kBlk,kCells,cellsFrom,Nat.add_zero,cellsAt,Nat.reduceAdd] at F; go_simp; try with_reducible rfl)
      try simp only [Act.put,p1,p2,p3,p4,p5,p6]
      refine tg (i:=5) (v:=?a173) rfl ?b173 (by assumption) ?c173
      case b173 => (intro w hSw; have F:=Ok.sees hSw; clear hSw; simp only [sees,kBlk,kCells,cellsFrom,Nat.add_zero,cellsAt,Nat.reduceAdd] at F; go_simp; try with_reducible rfl)
      try simp only [Act.put,p1,p2,p3,p4,p5,p6]
      refine tg (i:=6) (v:=?a175) rfl ?b175 (by assumption) ?c175
      case b175 => (intro w hSw; have F:=Ok.sees hSw; clear hSw; simp only [sees,kBlk,kCells,cellsFrom,Nat.add_zero,cellsAt,Nat.reduceAdd] at F; go_simp; try with_reducible rfl)
      try simp only [Act.put,p1,p2,p3,p4,p5,p6]
      refine tg (i:=7) (v:=?a177) rfl ?b177 (by assumption) ?c177
      case b177 => (intro w hSw; have F:=Ok.sees hSw; clear hSw; simp only [sees,kBlk,kCells,cellsFrom,Nat.add_zero,cellsAt,Nat.reduceAdd] at F; go_simp; try with_reducible rfl)
      try simp only [Act.put,p1,p2,p3,p4,p5,p6]
      refine tg (i:=8) (v:=?a179) rfl ?b179 (by assumption) ?c179
      case b179 => (intro w hSw; have F:=Ok.sees hSw; clear hSw; simp only [sees,kBlk,kCells,cellsFrom,Nat.add_zero,cellsAt,Nat.reduceAdd] at F; go_simp; try with_reducible rfl)
      try simp only [Act.put,p1,p2,p3,p4,p5,p6]
      refine tg (i:=9) (v:=?a181) rfl ?b181 (by assumption) ?c181
      case b181 => (intro w hSw; have F:=Ok.sees hSw; clear hSw; simp only [sees,kBlk,kCells,cellsFrom,Nat.add_zero,cellsAt,Nat.reduceAdd] at F; go_simp; try with_reducible rfl)
      try simp only [Act.put,p1,p2,p3,p4,p5,p6]
      refine tg (i:=10) (v:=?a183) rfl ?b183 (by assumption) ?c183
      case b183 => (intro w hSw; have F:=Ok.sees hSw; clear hSw; simp only [sees,kBlk,kCells,cellsFrom,Nat.add_zero,cellsAt,Nat.reduceAdd] at F; go_simp; try with_reducible rfl)
      try simp only [Act.put,p1,p2,p3,p4,p5,p6]
      refine tg (i:=11) (v:=?a185) rfl ?b185 (by assumption) ?c185
      case b185 => (intro w hSw; have F:=Ok.sees hSw; clear hSw; simp only [sees,kBlk,kCells,cellsFrom,Nat.add_zero,cellsAt,Nat.reduceAdd] at F; go_simp; try with_reducible rfl)
      try simp only [Act.put,p1,p2,p3,p4,p5,p6]
      refine tg (i:=12) (v:=?a187) rfl ?b187 (by assumption) ?c187
      case b187 => (intro w hSw; have F:=Ok.sees hSw; clear hSw; simp only [sees,kBlk,kCells,cellsFrom,Nat.add_zero,cellsAt,Nat.reduceAdd] at F; go_simp; try with_reducible rfl)
      try simp only [Act.put,p1,p2,p3,p4,p5,p6]
      refine wpAnyH_ready (rs:=[13]) (by kernel_rfl) (by simp) ?_
      refine AllReadyH.cons rfl (fun K hK => ?_) AllReadyH.nil
      go_simp
      refine (tree_fitsI t ⟨nk,vk,vn,vt,⟨r1,r2,r3,r4⟩,op,fn,nn⟩ (st.drop d) (some ⟨tb,tz,none⟩) (some ⟨g,d * 3,none⟩) tl tc k _ _ HTL.out (by rw [List.length_drop,HM.out]; exact HMK.out) (HT.out.below hHeld.bel) (rows_drop (hHeld.all (kRow w.heap.size 158 3 (.slice (some ⟨g,0,none⟩) m cap) m (ptCells st)) (by simp)) d) htl (by omega) (fun p hp => HIL2.out p (List.mem_of_mem_drop hp)) (fun h => good_fn HGN.out h)).mono ?_
      rintro e w14 ⟨rfl,hb15⟩
      rw [HFV.out]
      go_wp2_with fail
      refine hK.out _ _ (hHeld.below hb15) (fun hHeld => ?_)
      clear hK K
      try simp only [Act.put,p1,p2,p3,p4,p5,p6]
      refine tg (i:=14) (v:=?a190) rfl ?b190 (by assumption) ?c190
      case b190 => (intro w hSw; have F:=Ok.sees hSw; clear hSw; simp only [sees,kBlk,kCells,cellsFrom,Nat.add_zero,cellsAt,Nat.reduceAdd] at F; go_simp; try with_reducible rfl)
      try simp only [Act.put,p1,p2,p3,p4,p5,p6]
      refine tg (i:=15) (v:=?a192) rfl ?b192 (by assumption) ?c192
      case b192 => (intro w hSw; have F:=Ok.sees hSw; clear hSw; simp only [sees,kBlk,kCells,cellsFrom,Nat.add_zero,cellsAt,Nat.reduceAdd] at F; go_simp; try with_reducible rfl)
      try simp only [Act.put,p1,p2,p3,p4,p5,p6]
      refine wpAnyH_done (by kernel_rfl) ?_ _
      clear z0 c0_0 c0_1 c0_2 c0_3 c0_4 c0_5 c0_6 c0_7 c0_8 c0_9 c0_10 z2 c2_0 c2_1 c2_2 c2_3 c2_4 c2_5 c2_6 c2_7 c2_8 c2_9 c2_10
      clear H11
      have H16:=Lib.hid hHeld
      clear hHeld
      clear hdw hdw2 hlenb hleni hlen hlenn
      cases fv
      ·have HE:=keep (show V = 4 from HV.out.symm.trans (Wlk.bad HK.out HIL.out (by rw [HN.out]; exact step_unfit HKB.out HNLT.out HDEQ.out HFV.out)))
       go_wp2_with fail
       go_ret
       exact ⟨by rw [HE.out]; rfl,H16.out.bel⟩
      ·have HFR:=keep (show ∀ x ∈ [kBlk (wp.heap.size) 32 [.int .u8 nk,.int .u8 vk,.int .i64 vn,.string ⟨vt.toArray⟩,.int .i64 r1,.int .i64 r2,.int .i64 r3,.int .i64 r4,.int .i64 op,.int .u8 fn,.int .i64 nn],kRow w.heap.size 158 3 (.slice (some ⟨g,0,none⟩) m cap) m (ptCells st),kCells tb (tz + i * 11) [.int .u8 nk,.int .u8 vk,.int .i64 vn,.string ⟨vt.toArray⟩,.int .i64 r1,.int .i64 r2,.int .i64 r3,.int .i64 r4,.int .i64 op,.int .u8 fn,.int .i64 nn]],x.far (some w14.heap.size) from fun x hx => x.new _ _ (Nat.le_refl _) (H16.out.all x hx))
       have HGL:=keep (show ∀ x,(.slice (some ⟨g,0,none⟩) m cap : Value).ownBlock = some x → x < w14.heap.size from fun x hx => ((H16.out.get (kRow w.heap.size 158 3 (.slice (some ⟨g,0,none⟩) m cap) m (ptCells st)) (by simp)).lt x hx).2)
       have HLB:=keep H16.out.bel.size
       have F17:=H16.out.sees
       simp only [sees,kBlk,kCells,cellsFrom,Nat.add_zero,cellsAt,Nat.reduceAdd] at F17
       obtain ⟨⟨z0,c0_0,c0_1,c0_2,c0_3,c0_4,c0_5,c0_6,c0_7,c0_8,c0_9,c0_10,-⟩,-,⟨z2,c2_0,c2_1,c2_2,c2_3,c2_4,c2_5,c2_6,c2_7,c2_8,c2_9,c2_10,-⟩,-⟩:=F17
       go_upto_region 12 with fail
       have y18:=z0
       have y19:=z2
       clear z0 c0_0 c0_1 c0_2 c0_3 c0_4 c0_5 c0_6 c0_7 c0_8 c0_9 c0_10 z2 c2_0 c2_1 c2_2 c2_3 c2_4 c2_5 c2_6 c2_7 c2_8 c2_9 c2_10
       have H20:=Lib.hid (H16.out.var w14.heap.size 158 [.int .i64 i,.int .i64 1,.bool ((nk : Int) == 3)] rfl)
       clear H16
       generalize (w14.alloc (.cells #[.int .i64 i,.int .i64 1,.bool ((nk : Int) == 3)] 158)) = W21 at H20 ⊢
       have F22:=H20.out.sees
       simp only [sees,kBlk,kVar,kCells,cellsFrom,Nat.add_zero,cellsAt,Nat.reduceAdd] at F22
       obtain ⟨⟨⟨z0,fz0⟩,c0_0,c0_1,c0_2,-⟩,⟨z1,c1_0,c1_1,c1_2,c1_3,c1_4,c1_5,c1_6,c1_7,c1_8,c1_9,c1_10,-⟩,-,⟨z3,c3_0,c3_1,c3_2,c3_3,c3_4,c3_5,c3_6,c3_7,c3_8,c3_9,c3_10,-⟩,-⟩:=F22
       go_wp2_with fail
       have h1d : ((deepS ((st.drop d).take 0) : Nat) : Int) = 1:=by simp [deepS]
       have HST:=Lib.hid (OkRow.start (show Ok w (kVar (w14.heap.size) 158 [.int .i64 i,.int .i64 ((deepS ((st.drop d).take 0) : Nat) : Int),.bool ((nk : Int) == 3)] :: [kBlk (wp.heap.size) 32 [.int .u8 nk,.int .u8 vk,.int .i64 vn,.string ⟨vt.toArray⟩,.int .i64 r1,.int .i64 r2,.int .i64 r3,.int .i64 r4,.int .i64 op,.int .u8 fn,.int .i64 nn],kRow w.heap.size 158 3 (.slice (some ⟨g,0,none⟩) m cap) m (ptCells st),kCells tb (tz + i * 11) [.int .u8 nk,.int .u8 vk,.int .i64 vn,.string ⟨vt.toArray⟩,.int .i64 r1,.int .i64 r2,.int .i64 r3,.int .i64 r4,.int .i64 op,.int .u8 fn,.int .i64 nn]]) W21 by rw [h1d]; exact H20.out) 3 1)
       clear h1d
       clear z0 fz0 c0_0 c0_1 c0_2 z1 c1_0 c1_1 c1_2 c1_3 c1_4 c1_5 c1_6 c1_7 c1_8 c1_9 c1_10 z3 c3_0 c3_1 c3_2 c3_3 c3_4 c3_5 c3_6 c3_7 c3_8 c3_9 c3_10
       go_loopw [11,56] (fun kv jv wr => ∃ (j : Nat) (ks : List Int),j ≤ k ∧ jv = .int .i64 (j : Int) ∧ ks.length = j ∧ Hid (OkRow w (kVar (w14.heap.size) 158 [.int .i64 i,.int .i64 ((deepS ((st.drop d).take j) : Nat) : Int),.bool ((nk : Int) == 3)] :: [kBlk (wp.heap.size) 32 [.int .u8 nk,.int .u8 vk,.int .i64 vn,.string ⟨vt.toArray⟩,.int .i64 r1,.int .i64 r2,.int .i64 r3,.int .i64 r4,.int .i64 op,.int .u8 fn,.int .i64 nn],kRow w.heap.size 158 3 (.slice (some ⟨g,0,none⟩) m cap) m (ptCells st),kCells tb (tz + i * 11) [.int .u8 nk,.int .u8 vk,.int .i64 vn,.string ⟨vt.toArray⟩,.int .i64 r1,.int .i64 r2,.int .i64 r3,.int .i64 r4,.int .i64 op,.int .u8 fn,.int .i64 nn]]) 3 1 kv j (ks.map fun x => .int .i64 x) wr)) (fun _ jv _ => k - (intOf jv).toNat)
       case atStart => exact ⟨0,[],Nat.zero_le _,rfl,rfl,HST⟩
       case round =>
        clear HST H20
        obtain ⟨j,ks,hjk,rfl,hks,HR⟩:=hrel
        obtain ⟨wq,rfl⟩ : ∃ wq : World,wq = wr:=⟨_,rfl⟩
        by_cases hlj : (j : Int) < (k : Int)
        ·have hjl : j < (st.drop d).length:=by rw [List.length_drop,HM.out]; have:=HMK.out; omega
         obtain ⟨p,hp⟩ : ∃ p,(st.drop d)[j] = p:=⟨_,rfl⟩
         have hrow:=rows_drop (HR.out.ok.get (kRow w.heap.size 158 3 (.slice (some ⟨g,0,none⟩) m cap) m (ptCells st)) (by simp)) d
         obtain ⟨pb,po,hpe,hpl,hpc⟩:=hrow (by intro e; have h9:=congrArg List.length e; rw [List.length_map] at h9; simp only [List.length_nil] at h9; omega)
         simp only [Option.some.injEq,Addr.mk.injEq,and_true] at hpe
         obtain ⟨rfl,rfl⟩:=hpe
         have hpr:=hpc j (ptRow p) (by rw [List.getElem?_map,List.getElem?_eq_getElem hjl,hp]; rfl)
         have hdt : deepS ((st.drop d).take (j + 1)) = max (deepS ((st.drop d).take j)) (p.depth + 1):=by rw [List.take_succ_eq_append_getElem hjl,hp,deep_snoc]
         have HDT:=keep hdt
         have hpd:=(HK.out.2 p (List.mem_of_mem_drop (by rw [← hp]; exact List.getElem_mem _))).2
         obtain ⟨pr,pd,pw⟩:=p
         simp only [] at hpd
         have hp0:=hpr 0 _ rfl
         have hp1:=hpr 1 _ rfl
         have hp2:=hpr 2 _ rfl
         simp only [Nat.add_zero,← Nat.add_assoc] at hp0 hp1 hp2
         have HRR:=Lib.hid (HR.out.alloc wq.heap.size 158 [.int .i64 (pr : Nat),.int .i64 (pd : Nat),.bool pw] rfl)
         clear hjl hp hrow hpc hpr hdt
         go_upto_region 16 with fail
         clear hp0 hp1 hp2
         generalize (wq.alloc (.cells #[.int .i64 (pr : Nat),.int .i64 (pd : Nat),.bool pw] 158)) = wx at HRR ⊢
         have hq:=Blk.lt (HR.out.ok.get (kVar (w14.heap.size) 158 [.int .i64 i,.int .i64 ((deepS ((st.drop d).take j) : Nat) : Int),.bool ((nk : Int) == 3)]) (by simp))
         have HRS:=Lib.hid HRR.out.swap
         clear HRR HR
         have hfar : ∀ x ∈ (kBlk wq.heap.size 158 [.int .i64 (pr : Nat),.int .i64 (pd : Nat),.bool pw] :: [kBlk (wp.heap.size) 32 [.int .u8 nk,.int .u8 vk,.int .i64 vn,.string ⟨vt.toArray⟩,.int .i64 r1,.int .i64 r2,.int .i64 r3,.int .i64 r4,.int .i64 op,.int .u8 fn,.int .i64 nn],kRow w.heap.size 158 3 (.slice (some ⟨g,0,none⟩) m cap) m (ptCells st),kCells tb (tz + i * 11) [.int .u8 nk,.int .u8 vk,.int .i64 vn,.string ⟨vt.toArray⟩,.int .i64 r1,.int .i64 r2,.int .i64 r3,.int .i64 r4,.int .i64 op,.int .u8 fn,.int .i64 nn]]),x.far (some (w14.heap.size)):=by
          intro x hx
          rcases List.mem_cons.1 hx with rfl | hx
          ·show some wq.heap.size ≠ some _
           simp only [ne_eq,Option.some.injEq]
           omega
          ·exact HFR.out x hx
         have F8:=HRS.out.ok.sees
         simp only [sees,kVar,kBlk,cellsAt,Nat.reduceAdd] at F8
         obtain ⟨⟨⟨y0,y1⟩,y2,y3,y4,-⟩,⟨y5,y6,y7,y8,-⟩,-⟩:=F8
         go_upto_region 17 with fail
         have HRT:=Lib.hid (HRS.out.set_ (i:=1) (u:=.int .i64 (max ((deepS ((st.drop d).take j) : Nat) : Int) ((pd : Int) + 1))) (by have:=HRS.out.ok.bel.size; have h9:=HLB.out; omega) hfar)
         clear HRS hfar hq y0 y1 y2 y3 y4 y5 y6 y7 y8
         generalize hwy : wx.setCell ⟨w14.heap.size,1,none⟩ (.int .i64 (max ((deepS ((st.drop d).take j) : Nat) : Int) ((pd : Int) + 1))) = wy at HRT ⊢
         clear hwy
         have F8:=HRT.out.ok.sees
         simp only [sees,kVar,kBlk,cellsAt,Nat.reduceAdd,List.set_cons_succ,List.set_cons_zero] at F8
         obtain ⟨-,⟨y5,y6,y7,y8,-⟩,-⟩:=F8
         go_wp2_with (at_builtin; refine wpList_append_lies _ rfl _ _ _ rfl w.heap.size 3 j0 _ 1 8 Tryz.underlying121 ji jz0 jz1 jz2 rfl (by omega) _ _ _ rfl (HRT.out.own.alloc _) ⟨wy.heap.size,0,none⟩ 1 1 [.int .i64 (pr : Nat)] rfl rfl (World.news_of_block (cs:=#[.int .i64 (pr : Nat)]) (t:=3) (fr:=(0,0)) (heap_alloc_new _ _)) (by intro u hu; simp at hu; rcases hu with rfl; rfl) (by omega) (by unfold maxLen; omega) (by omega) (by have:=HRT.out.ok.bel.size; simp; omega) _ rfl ?_; intro g5 cap5 w5b hown5 hgrow5 hat5 hlt5)
         go_roundw
         case rel =>
          have h9:=(HRT.out.alloc_obj _).appended hown5 hgrow5 hat5
          have hc : ((deepS ((st.drop d).take (j + 1)) : Nat) : Int) = max ((deepS ((st.drop d).take j) : Nat) : Int) ((pd : Int) + 1):=by rw [HDT.out]; omega
          have h10 : OkRow w (kVar (w14.heap.size) 158 [.int .i64 i,.int .i64 (max ((deepS ((st.drop d).take j) : Nat) : Int) ((pd : Int) + 1)),.bool ((nk : Int) == 3)] :: [kBlk (wp.heap.size) 32 [.int .u8 nk,.int .u8 vk,.int .i64 vn,.string ⟨vt.toArray⟩,.int .i64 r1,.int .i64 r2,.int .i64 r3,.int .i64 r4,.int .i64 op,.int .u8 fn,.int .i64 nn],kRow w.heap.size 158 3 (.slice (some ⟨g,0,none⟩) m cap) m (ptCells st),kCells tb (tz + i * 11) [.int .u8 nk,.int .u8 vk,.int .i64 vn,.string ⟨vt.toArray⟩,.int .i64 r1,.int .i64 r2,.int .i64 r3,.int .i64 r4,.int .i64 op,.int .u8 fn,.int .i64 nn]]) 3 1 _ (j + 1) (ks.map (fun x => .int .i64 x) ++ [.int .i64 (pr : Int)]) _:=h9.drop (_ :: [kBlk (wp.heap.size) 32 [.int .u8 nk,.int .u8 vk,.int .i64 vn,.string ⟨vt.toArray⟩,.int .i64 r1,.int .i64 r2,.int .i64 r3,.int .i64 r4,.int .i64 op,.int .u8 fn,.int .i64 nn],kRow w.heap.size 158 3 (.slice (some ⟨g,0,none⟩) m cap) m (ptCells st),kCells tb (tz + i * 11) [.int .u8 nk,.int .u8 vk,.int .i64 vn,.string ⟨vt.toArray⟩,.int .i64 r1,.int .i64 r2,.int .i64 r3,.int .i64 r4,.int .i64 op,.int .u8 fn,.int .i64 nn]]) (by simp)
          refine ⟨_,_,_,⟨j + 1,by omega,by go_num,ks ++ [(pr : Int)],by simp [hks],?_⟩,rfl,rfl,rfl⟩
          rw [hc,List.map_append]
          exact Lib.hid h10
         case measure => simp [intOf]; omega
        ·obtain rfl : k = j:=by omega
         obtain ⟨D,hD⟩ : ∃ D,deepS (st.drop d) = D:=⟨_,rfl⟩
         have hLt : deepS ((st.drop d).take k) = D:=by rw [← hD]; congr 1; exact List.take_of_length_le (by rw [List.length_drop,HM.out]; have:=HMK.out; omega)
         rw [hLt] at HR
         have HD:=keep hD
         clear hLt hD
         have H5:=Lib.hid HR.out.ok
         obtain ⟨kva,kvc,hkv⟩:=own_len HR.out.own
         subst hkv
         clear HR
         have F23:=H5.out.sees
         simp only [sees,kBlk,kVar,kCells,cellsFrom,Nat.add_zero,cellsAt,Nat.reduceAdd] at F23
         obtain ⟨⟨⟨z0,fz0⟩,c0_0,c0_1,c0_2,-⟩,⟨z1,c1_0,c1_1,c1_2,c1_3,c1_4,c1_5,c1_6,c1_7,c1_8,c1_9,c1_10,-⟩,-,⟨z3,c3_0,c3_1,c3_2,c3_3,c3_4,c3_5,c3_6,c3_7,c3_8,c3_9,c3_10,-⟩,-⟩:=F23
         by_cases h32 : (D : Int) > 32
         ·have HE:=keep (show V = 9 from HV.out.symm.trans (Wlk.bad HK.out HIL.out (by rw [HN.out]; exact step_deep HKB.out HNLT.out HDEQ.out HFV.out (by rw [HD.out]; omega))))
          go_wp2_with fail
          go_ret
          exact ⟨by rw [HE.out]; rfl,H5.out.bel⟩
         ·have HOKS:=keep (step_ok (t:=t) (st:=st) (i:=i) HKB.out HNLT.out HDEQ.out HFV.out (by rw [HD.out]; omega))
          have HNX:=keep (Wlk.next HK.out HIL.out (by rw [HN.out]; exact HOKS.out))
          go_upto_region 21 with fail
          have HOS:=Lib.hid (show OkRow w [kVar (w14.heap.size) 158 [.int .i64 i,.int .i64 ((D : Nat) : Int),.bool ((nk : Int) == 3)]] 158 3 (.slice (some ⟨g,0,none⟩) d cap) d (ptCells (st.take d)) wq from ⟨H5.out.drop _ (by simp),(by have h9:=own_take (H5.out.get (kRow w.heap.size 158 3 (.slice (some ⟨g,0,none⟩) m cap) m (ptCells st)) (by simp)) HDM.out; rw [ptCells_take _ _ (by rw [HM.out]; exact HDM.out)] at h9; exact h9),by
           intro x hx
           simp at hx
           subst hx
           show some (w14.heap.size) ≠ _
           intro e9
           have:=HGL.out _ e9.symm
           omega⟩)
          have HOSD:=Lib.hid HOS.out.drew
          have HB9:=keep HOSD.out.ok.bel.size
          generalize hWd : wq.drew = Wd at HOSD HB9
          have hdc : (d : Int) ≤ (cap : Int):=by have:=HDM.out; omega
          have hw0 : IntKind.i64.wrap (d : Int) = (d : Int):=Go.IntWalk.i64_in _ (by omega)
          refine wp_region_held_drew (S:=fun W => Ok w [kVar (w14.heap.size) 158 [.int .i64 i,.int .i64 ((D : Nat) : Int),.bool ((nk : Int) == 3)]] W) (by kernel_rfl) (by rw [hWd]; exact HOSD.out.ok) (fun hHeld => ?_)
          rw [hWd] at hHeld ⊢
          clear hWd HOS H5
          refine tg (i:=0) (v:=?a194) rfl ?b194 (by assumption) ?c194
          case b194 => (intro w hSw; have F:=Ok.sees hSw; clear hSw; simp only [sees,kVar,cellsAt,Nat.reduceAdd] at F; go_simp; try with_reducible rfl)
          try simp only [Act.put,p1,p2,p3,p4,p6]
          refine tg (i:=1) (v:=?a196) rfl ?b196 (by assumption) ?c196
          case b196 => (intro w hSw; have F:=Ok.sees hSw; clear hSw; simp only [sees,kVar,cellsAt,Nat.reduceAdd] at F; go_simp; try with_reducible rfl)
          try simp only [Act.put,p1,p2,p3,p4,p5,p6]
          refine tg (i:=2) (v:=?a198) rfl ?b198 (by assumption) ?c198
          case b198 => (intro w hSw; have F:=Ok.sees hSw; clear hSw; simp only [sees,kVar,cellsAt,Nat.reduceAdd] at F; go_simp; try with_reducible rfl)
          try simp only [Act.put,p1,p2,p3,p4,p5,p6]
          refine tg (i:=3) (v:=?a200) rfl ?b200 (by assumption) ?c200
          case b200 => (intro w hSw; have F:=Ok.sees hSw; clear hSw; simp only [sees,kVar,cellsAt,Nat.reduceAdd] at F; go_simp; try with_reducible rfl)
          try simp only [Act.put,p1,p2,p3,p4,p5,p6]
          refine tg (i:=4) (v:=?a202) rfl ?b202 (by assumption) ?c202
          case b202 => (intro w hSw; have F:=Ok.sees hSw; clear hSw; simp only [sees,kVar,cellsAt,Nat.reduceAdd] at F; go_simp; try with_reducible rfl)
          try simp only [Act.put,p1,p2,p3,p4,p5,p6]
          refine tg (i:=5) (v:=?a204) rfl ?b204 (by assumption) ?c204
          case b204 => (intro w hSw; have F:=Ok.sees hSw; clear hSw; simp only [sees,kVar,cellsAt,Nat.reduceAdd] at F; go_simp; try with_reducible rfl)
          try simp only [Act.put,p1,p2,p3,p4,p5,p6]
          refine tg (i:=6) (v:=?a206) rfl ?b206 (by assumption) ?c206
          case b206 => (intro w hSw; have F:=Ok.sees hSw; clear hSw; simp only [sees,kVar,cellsAt,Nat.reduceAdd] at F; go_simp; try with_reducible rfl)
          try simp only [Act.put,p1,p2,p3,p4,p5,p6]
          refine wpAnyH_ready (rs:=[7]) (by kernel_rfl) (by simp) ?_
          refine AllReadyH.cons rfl (fun K hK => ?_) AllReadyH.nil
          go_simp
          have HO1:=Lib.hid (HOSD.out.alloc_obj (.cells #[.int .i64 (i : Int),.int .i64 ((D : Nat) : Int),.bool ((nk : Int) == 3)] 158))
          refine hK.out _ _ HO1.out.ok (fun hHeld => ?_)
          clear hK K
          try simp only [Act.put,p1,p2,p3,p4,p5,p6]
          refine wpAnyH_ready (rs:=[8]) (by kernel_rfl) (by simp) ?_
          refine AllReadyH.cons rfl (fun K hK => ?_) AllReadyH.nil
          refine step_append_lies _ (by rfl) _ _ _ (by rfl) w.heap.size 158 i0 _ 3 24 Tryz.underlying153 hi hz0 hz1 hz2 rfl (by omega) _ _ _ (by rfl) HO1.out.own ⟨Wd.heap.size,0,none⟩ 1 1 [.int .i64 (i : Int),.int .i64 ((D : Nat) : Int),.bool ((nk : Int) == 3)] (by rfl) (by rfl) (World.news_of_block (cs:=#[.int .i64 (i : Int),.int .i64 ((D : Nat) : Int),.bool ((nk : Int) == 3)]) (t:=158) (fr:=(0,0)) (heap_alloc_new _ _)) (by intro u hu; simp at hu; rcases hu with rfl | rfl | rfl <;> rfl) (by omega) (by unfold maxLen; omega) (by omega) (by have:=HB9.out; simp; omega) (Wd.heap.size + 1) (by simp) ?_
          intro g3 cap3 w3 hown3 hgrow3 hat3 hlt3
          have HO3:=Lib.hid (HO1.out.appended hown3 hgrow3 (by rw [World.size_alloc]; exact hat3))
          clear hown3 hgrow3 hat3 HO1 HOSD
          refine hK.out _ _ HO3.out.ok (fun hHeld => ?_)
          clear hK K
          try simp only [Act.put,p1,p2,p3,p4,p5,p6]
          refine tg (i:=9) (v:=?a210) rfl ?b210 (by assumption) ?c210
          case b210 => (intro w hSw; have F:=Ok.sees hSw; clear hSw; simp only [sees,kVar,cellsAt,Nat.reduceAdd] at F; go_simp; try with_reducible rfl)
          try simp only [Act.put,p1,p2,p3,p4,p5,p6]
          refine wpAnyH_done (by kernel_rfl) ?_ _
          clear hHeld
          clear hw0
          have F9:=HO3.out.ok.sees
          simp only [sees,kVar,cellsAt,Nat.reduceAdd] at F9
          obtain ⟨⟨⟨x0,-⟩,x1,x2,x3,-⟩,-⟩:=F9
          go_wp2_with fail
          refine (tree_nothing _ _ _ _).mono ?_
          rintro e w11 ⟨rfl,hw11⟩
          obtain rfl : w3 = w11:=hw11.symm
          go_wp2_with fail
          go_roundw
          case rel =>
           have hfin:=pt_snoc (l:=(st.take d)) HO3.out (by rw [List.length_take,HM.out]; have:=HDM.out; omega)
           have hstk:=stk_snoc (l:=(st.take d)) (p:=⟨i,D,decide (nk = 3)⟩) HO3.out (by rw [List.length_take,HM.out]; have:=HDM.out; omega)
           have hnx:=HNX.out
           simp only [HD.out] at hnx
           exact ⟨i + 1,(st.take d) ++ [⟨i,D,decide (nk = 3)⟩],by omega,by go_num,by rw [List.length_append,List.length_take,HM.out]; have:=HDM.out; simp; omega,keep hnx,keep hstk,Lib.hid hfin⟩
          case measure => simp [intOf]; omega
  ·obtain rfl : i = tl:=by omega
   have hend:=HK.out.1
   rw [List.drop_of_length_le (by rw [HTL.out]; exact Nat.le_refl _)] at hend
   have hv : V = if st.length = 1 then 0 else 4:=by
    have h9:=HV.out
    unfold walkE at h9
    rw [hend] at h9
    exact h9.symm
   have HVV:=keep hv
   obtain ⟨a,c,hsv⟩:=own_len HR.out.own
   subst hsv
   clear hend hv
   by_cases h1 : st.length = 1
   ·have h1i : ((st.length : Nat) : Int) = 1:=by omega
    have hb1 : (((st.length : Nat) : Int) != 1) = false:=by rw [h1i]; rfl
    have HE:=keep (show V = 0 by rw [HVV.out,if_pos h1])
    clear h1 h1i
    go_wp2_with fail
    go_ret
    exact ⟨by rw [HE.out]; rfl,HR.out.ok.bel⟩
   ·have hb1 : (((st.length : Nat) : Int) != 1) = true:=by simp; omega
    have HE:=keep (show V = 4 by rw [HVV.out,if_neg h1])
    clear h1
    go_wp2_with fail
    go_ret
    exact ⟨by rw [HE.out]; rfl,HR.out.ok.bel⟩
end Go.Proofs.YtlngjiibbcgkmaaGreatDoor
