/- The reference's parser: what its object holds; next and fault. -/
import Derived.Test.YtdplcdhpnmcdjaaGreatDoorKParB
import Derived.Test.YtdplcdhpnmcdjaaGreatDoorKTg
import Derived.Test.YtdplcdhpnmcdjaaGreatDoorKParA
namespace Go.Proofs.YtdplcdhpnmcdjaaGreatDoor
set_option maxRecDepth 100000
set_option maxHeartbeats 4000000
open Go.RowKit Go.Proofs.Tryz
def RSt (w1:World) (ps:List aS) (pb:Nat) (S:ByteArray) (all:List Tk) (i:Nat) (ns:List Nd) (a c:Int) (w:World):Prop :=
 w1.heap.size≤pb∧(∀ x∈ps,x.far (some pb))∧∃ la lc tv,gI w1 la lc all∧an w1 (af pb 205 [.string S,.slice la all.length lc,.int .i64 (i:Int),tv,.int .i64 a,.int .i64 c]::ps) 39 11 tv ns.length (de ns) w
section
variable {w1 w w':World} {ps:List aS} {pb i:Nat} {S:ByteArray} {all:List Tk} {ns:List Nd} {a c:Int}
theorem RSt.below (h:RSt w1 ps pb S all i ns a c w) (hb:Below w.heap.size w w'):RSt w1 ps pb S all i ns a c w':=by
 obtain ⟨h1,h2,la,lc,tv,h3,h4⟩:=h
 exact ⟨h1,h2,la,lc,tv,h3,h4.below hb⟩
theorem RSt.alloc (h:RSt w1 ps pb S all i ns a c w) (t:TypeId) (cs:List Value):RSt w1 (ac w.heap.size t cs::ps) pb S all i ns a c (w.alloc (.cells cs.toArray t)):=by
 obtain ⟨h1,h2,la,lc,tv,h3,h4⟩:=h
 have hlt:pb<w.heap.size:=h4.ok.sees.1.1.1
 refine ⟨h1,fun x hx => ?_,la,lc,tv,h3,(h4.alloc w.heap.size t cs rfl).swap⟩
 rcases List.mem_cons.1 hx with rfl | hx
 ·show some w.heap.size≠some pb
  simp; omega
 exact h2 x hx
theorem RSt.alloc_obj (h:RSt w1 ps pb S all i ns a c w) (o:Obj):RSt w1 ps pb S all i ns a c (w.alloc o):=h.below ((Below.refl _ _).alloc (Nat.le_refl _) _)
theorem RSt.tail {x:aS} (h:RSt w1 (x::ps) pb S all i ns a c w):RSt w1 ps pb S all i ns a c w:=by
 obtain ⟨h1,h2,la,lc,tv,h3,h4⟩:=h
 exact ⟨h1,fun y hy=>h2 y (List.mem_cons_of_mem _ hy),la,lc,tv,h3,h4.drop _ (by intro z hz; simp at hz ⊢; rcases hz with h | h <;> simp [h])⟩
theorem RSt.sees (h:RSt w1 ps pb S all i ns a c w):pb<w.heap.size∧Go.Proofs.YtdplcdhpnmcdjaaGreatDoor.sees ps w:=by
 obtain ⟨h1,h2,la,lc,tv,h3,h4⟩:=h
 have:=h4.ok.sees
 exact ⟨this.1.1.1,this.2⟩
theorem RSt.bel (h:RSt w1 ps pb S all i ns a c w):Below w1.heap.size w1 w:=by
 obtain ⟨h1,h2,la,lc,tv,h3,h4⟩:=h
 exact h4.ok.bel
theorem RSt.lt (h:RSt w1 ps pb S all i ns a c w):pb<w.heap.size:=h.sees.1
theorem RSt.cells (h:RSt w1 ps pb S all i ns a c w):∃ la lc tv,gI w1 la lc all∧(pb<w.heap.size∧∀ j,w.frozen? ⟨pb,j,none⟩=false)∧w.cell? ⟨pb,0,none⟩=some (.string S)∧w.cell? ⟨pb,1,none⟩=some (.slice la all.length lc)∧w.cell? ⟨pb,2,none⟩=some (.int .i64 (i:Int))∧w.cell? ⟨pb,3,none⟩=some tv∧w.cell? ⟨pb,4,none⟩=some (.int .i64 a)∧w.cell? ⟨pb,5,none⟩=some (.int .i64 c):=by
 obtain ⟨h1,h2,la,lc,tv,h3,h4⟩:=h
 have hb:Blk w pb 205 #[.string S,.slice la all.length lc,.int .i64 (i:Int),tv,.int .i64 a,.int .i64 c]:=h4.ok.get (af pb 205 _) (List.mem_cons_self ..)
 exact ⟨la,lc,tv,h3,⟨hb.lt,fun j=>hb.frozen j⟩,hb.cell 0,hb.cell 1,hb.cell 2,hb.cell 3,hb.cell 4,hb.cell 5⟩
end
theorem zu (w1:World) (ps:List aS) (pb:Nat) (S:ByteArray) (all:List Tk) (i:Nat) (ns:List Nd) (a c:Int) (w:World) (_hn:all.length≤1000) (_hi:i≤2000) (_hs:S.size≤4611686018427387904) (h:RSt w1 ps pb S all i ns a c w) :
  Calls prog 184 #[.pointer (some ⟨pb,0,none⟩)] w fun e w'=>e=.returned (tkA (hdS S.size (all.drop i)))∧Below w.heap.size w w':=by
 have hbl:=h.bel
 obtain ⟨la,lc,tv,hT,⟨hlt,-⟩,p0,p1,p2,p3,p4,p5⟩:=h.cells
 clear h
 obtain ⟨n,hl⟩:=ex (all.length)
 rw [hl] at p1 _hn
 by_cases hin:(i:Int)<n
 ·have hil:i<all.length:=by omega
  obtain ⟨t,ht⟩:∃ t,all[i]?=some t:=⟨_,List.getElem?_eq_getElem hil⟩
  have hhd:hdS S.size (all.drop i)=t:=by
   rw [List.drop_eq_getElem_cons hil]
   show all[i]=t
   rw [List.getElem?_eq_getElem hil] at ht
   exact Option.some.inj ht
  rw [hhd]
  obtain ⟨b,o,rfl,hb,hc⟩:=hT.at_ (by rintro rfl; simp at hil)
  have hbw:b<w.heap.size:=Nat.lt_of_lt_of_le hb hbl.size
  have g:=fun j v hj=>(hbl.cell hb).trans (hc i t ht j v hj)
  have hcap:n≤lc:=by rw [← hl]; exact hT.le
  obtain ⟨tk,tn,tt,⟨t1,t2,t3,t4⟩,ta⟩:=t
  have g0:=g 0 _ rfl
  have g1:=g 1 _ rfl
  have g2:=g 2 _ rfl
  have g3:=g 3 _ rfl
  have g4:=g 4 _ rfl
  have g5:=g 5 _ rfl
  have g6:=g 6 _ rfl
  have g7:=g 7 _ rfl
  simp only [Nat.add_zero,← Nat.add_assoc] at g0 g1 g2 g3 g4 g5 g6 g7
  have HP:=Lib.hid ((((Ok.start w).add (ae pb 0 [.string S,.slice (some ⟨b,o,none⟩) n lc,.int .i64 (i:Int),tv,.int .i64 a,.int .i64 c]) ⟨hlt,p0,p1,p2,p3,p4,p5,trivial⟩).add (ae b (o+i * 8) [.int .u8 tk,.int .i64 tn,.string ⟨tt.toArray⟩,.int .i64 t1,.int .i64 t2,.int .i64 t3,.int .i64 t4,.int .i64 ta]) ⟨hbw,g0,g1,g2,g3,g4,g5,g6,g7,trivial⟩))
  clear hT hc g g0 g1 g2 g3 g4 g5 g6 g7 p0 p1 p2 p3 p4 p5 hb hbl hhd ht hil hlt hbw hl
  go_enter func184,ntmps184
  go_upto_region 1 with fail
  have H1:=Lib.hid (HP.out.var w.heap.size 97 [.int .u8 0,.int .i64 0,.string ⟨#[]⟩,.int .i64 0,.int .i64 0,.int .i64 0,.int .i64 0,.int .i64 0] rfl)
  clear HP
  generalize (w.alloc (.cells #[.int .u8 0,.int .i64 0,.string ⟨#[]⟩,.int .i64 0,.int .i64 0,.int .i64 0,.int .i64 0,.int .i64 0] 97))=W2 at H1 ⊢
  have F3:=sE H1
  refine wp_region_held_drew (S:=fun W=>Ok w [af (w.heap.size) 97 [.int .u8 0,.int .i64 0,.string ⟨#[]⟩,.int .i64 0,.int .i64 0,.int .i64 0,.int .i64 0,.int .i64 0],ae b (o+i * 8) [.int .u8 tk,.int .i64 tn,.string ⟨tt.toArray⟩,.int .i64 t1,.int .i64 t2,.int .i64 t3,.int .i64 t4,.int .i64 ta],ae pb 0 [.string S,.slice (some ⟨b,o,none⟩) n lc,.int .i64 (i:Int),tv,.int .i64 a,.int .i64 c]] W) (by kernel_rfl) H1.out.drew (fun hHeld => ?_)
  refine wtd 0 ?_
  refine wtd 1 ?_
  refine wtd 2 ?_
  refine wtd 3 ?_
  refine wtd 4 ?_
  refine wtd 5 ?_
  refine wtd 6 ?_
  refine wtd 7 ?_
  refine wtd 8 ?_
  refine wtd 9 ?_
  refine wpAnyH_done (by kernel_rfl) ?_ _
  clear F3
  clear H1
  have H5:=Lib.hid hHeld
  clear hHeld
  generalize W2.drew=W6 at H5 ⊢
  go_upto_region 2 with fail
  have HD:=Lib.hid H5.out.drew
  clear H5
  refine wp_region_any (by kernel_rfl) ?_
  change wpAny _ _ _ _ _ _ _ W6.drew
  generalize W6.drew=W9 at HD ⊢
  have F7:=sE HD
  refine wt5 0 ?_
  refine wt5 1 ?_
  refine wt5 2 ?_
  refine wt5 4 ?_
  refine wt5 5 ?_
  refine wt5 6 ?_
  refine wpAny_ready (rs:=[3,7]) (by kernel_rfl) (by simp) ?_
  refine (AllReady.cons rfl (fun K hK => ?_) (AllReady.cons rfl (fun K hK => ?_) AllReady.nil))
  ·go_simp
   refine hK _ _ ?_
   clear hK K
   refine wm ?_
   refine wan 7 fun K hK => ?_
   ·go_simp
    refine hK _ _ ?_
    clear hK K
    refine wm ?_
    refine wt5 8 ?_
    refine wan 9 fun K hK => ?_
    ·go_simp
     refine hK _ _ ?_
     clear hK K
     refine wm ?_
     refine wan 10 fun K hK => ?_
     ·go_simp
      refine hK _ _ ?_
      clear hK K
      refine wm ?_
      refine wpAny_done (by kernel_rfl) ?_ _
      go_wp2_with fail
      have hK:=HD.out.get (af (w.heap.size) 97 [.int .u8 0,.int .i64 0,.string ⟨#[]⟩,.int .i64 0,.int .i64 0,.int .i64 0,.int .i64 0,.int .i64 0]) (by simp)
      have hB:=HD.out.bel
      have hE:=(((((((((show Blk W9 (w.heap.size) 97 _ from hK).set_ 0 (.int .u8 tk)).set_ 1 (.int .i64 tn)).set_ 2 (.string ⟨tt.toArray⟩)).set_ 3 (.int .i64 t1)).set_ 4 (.int .i64 t2)).set_ 5 (.int .i64 t3)).set_ 6 (.int .i64 t4)).set_ 7 (.int .i64 ta))
      exact bodyPost_ret (v:=.agg #[.int .u8 tk,.int .i64 tn,.string ⟨tt.toArray⟩,.int .i64 t1,.int .i64 t2,.int .i64 t3,.int .i64 t4,.int .i64 ta]) (by simp [results,results184,go_sem,hE.cell]) rfl ⟨rfl,(sC (sC (sC (sC (sC (sC (sC (sC hB _) _) _) _) _) _) _) _)⟩
  go_simp
  refine hK _ _ ?_
  clear hK K
  refine wm ?_
  refine wan 3 fun K hK => ?_
  ·go_simp
   refine hK _ _ ?_
   clear hK K
   refine wm ?_
   refine wt5 8 ?_
   refine wan 9 fun K hK => ?_
   ·go_simp
    refine hK _ _ ?_
    clear hK K
    refine wm ?_
    refine wan 10 fun K hK => ?_
    ·go_simp
     refine hK _ _ ?_
     clear hK K
     refine wm ?_
     refine wpAny_done (by kernel_rfl) ?_ _
     go_wp2_with fail
     have hK:=HD.out.get (af (w.heap.size) 97 [.int .u8 0,.int .i64 0,.string ⟨#[]⟩,.int .i64 0,.int .i64 0,.int .i64 0,.int .i64 0,.int .i64 0]) (by simp)
     have hB:=HD.out.bel
     have hE:=(((((((((show Blk W9 (w.heap.size) 97 _ from hK).set_ 0 (.int .u8 tk)).set_ 1 (.int .i64 tn)).set_ 2 (.string ⟨tt.toArray⟩)).set_ 3 (.int .i64 t1)).set_ 4 (.int .i64 t2)).set_ 5 (.int .i64 t3)).set_ 6 (.int .i64 t4)).set_ 7 (.int .i64 ta))
     exact bodyPost_ret (v:=.agg #[.int .u8 tk,.int .i64 tn,.string ⟨tt.toArray⟩,.int .i64 t1,.int .i64 t2,.int .i64 t3,.int .i64 t4,.int .i64 ta]) (by simp [results,results184,go_sem,hE.cell]) rfl ⟨rfl,(sC (sC (sC (sC (sC (sC (sC (sC hB _) _) _) _) _) _) _) _)⟩
 have hhd:hdS S.size (all.drop i)=⟨0,0,[],R4.zero,S.size⟩:=by
  rw [List.drop_eq_nil_of_le (by omega)]
  rfl
 rw [hhd]
 have HP:=Lib.hid ((Ok.start w).add (ae pb 0 [.string S,.slice la n lc,.int .i64 (i:Int),tv,.int .i64 a,.int .i64 c]) ⟨hlt,p0,p1,p2,p3,p4,p5,trivial⟩)
 clear hT p0 p1 p2 p3 p4 p5 hhd hlt hl hbl
 go_enter func184,ntmps184
 go_upto_region 1 with fail
 have H1:=Lib.hid (HP.out.var w.heap.size 97 [.int .u8 0,.int .i64 0,.string ⟨#[]⟩,.int .i64 0,.int .i64 0,.int .i64 0,.int .i64 0,.int .i64 0] rfl)
 clear HP
 generalize (w.alloc (.cells #[.int .u8 0,.int .i64 0,.string ⟨#[]⟩,.int .i64 0,.int .i64 0,.int .i64 0,.int .i64 0,.int .i64 0] 97))=W2 at H1 ⊢
 have F3:=sE H1
 refine wp_region_held_drew (S:=fun W=>Ok w [af (w.heap.size) 97 [.int .u8 0,.int .i64 0,.string ⟨#[]⟩,.int .i64 0,.int .i64 0,.int .i64 0,.int .i64 0,.int .i64 0],ae pb 0 [.string S,.slice la n lc,.int .i64 (i:Int),tv,.int .i64 a,.int .i64 c]] W) (by kernel_rfl) H1.out.drew (fun hHeld => ?_)
 refine wtd 0 ?_
 refine wtd 1 ?_
 refine wtd 2 ?_
 refine wtd 3 ?_
 refine wtd 4 ?_
 refine wtd 5 ?_
 refine wtd 6 ?_
 refine wtd 7 ?_
 refine wtd 8 ?_
 refine wtd 9 ?_
 refine wpAnyH_done (by kernel_rfl) ?_ _
 clear F3
 clear H1
 have H5:=Lib.hid hHeld
 clear hHeld
 generalize W2.drew=W6 at H5 ⊢
 go_upto_region 3 with fail
 have F7:=sE H5
 go_wp2_with fail
 have hK:=H5.out.get (af (w.heap.size) 97 [.int .u8 0,.int .i64 0,.string ⟨#[]⟩,.int .i64 0,.int .i64 0,.int .i64 0,.int .i64 0,.int .i64 0]) (by simp)
 have hB:=H5.out.bel
 have hE:=(((((((((show Blk W6 (w.heap.size) 97 _ from hK).set_ 0 (.int .u8 0)).set_ 1 (.int .i64 0)).set_ 2 (.string ⟨#[]⟩)).set_ 3 (.int .i64 0)).set_ 4 (.int .i64 0)).set_ 5 (.int .i64 0)).set_ 6 (.int .i64 0)).set_ 7 (.int .i64 (S.size:Int)))
 exact bodyPost_ret (v:=.agg #[.int .u8 0,.int .i64 0,.string ⟨#[]⟩,.int .i64 0,.int .i64 0,.int .i64 0,.int .i64 0,.int .i64 (S.size:Int)]) (by simp [results,results184,go_sem,hE.cell]) rfl ⟨rfl,(sC (sC (sC (sC (sC (sC (sC (sC hB _) _) _) _) _) _) _) _)⟩
def zw (c x a:Int):Int:=if c=0 then x else a
def C2 (ret:Value) (w1:World) (ps:List aS) (pb:Nat) (S:ByteArray) (all:List Tk) (i:Nat) (ns:List Nd) (a c:Int) (e:Ending) (w:World):Prop :=
 e=.returned ret∧RSt w1 ps pb S all i ns a c w
theorem zC (w1:World) (ps:List aS) (pb:Nat) (S:ByteArray) (all:List Tk) (i:Nat) (ns:List Nd) (a c x y:Int) (w:World) (h:RSt w1 ps pb S all i ns a c w) :
  Calls prog 183 #[.pointer (some ⟨pb,0,none⟩),.int .i64 x,.int .i64 y] w (C2 (.tuple #[]) w1 ps pb S all i ns (zw c x a) (zw c y c)):=by
 obtain ⟨h1,h2,la,lc,tv,hT,hO⟩:=h
 have F0:=hO.ok.sees
 simp only [sees,af,aa,Nat.reduceAdd] at F0
 obtain ⟨⟨⟨hp0,hpf⟩,p0,p1,p2,p3,p4,p5,-⟩,-⟩:=F0
 have HO:=Lib.hid hO
 have HT:=keep hT
 have H2:=keep h2
 clear hO hT h2
 by_cases hc:c=0
 ·rw [show zw c x a=x from if_pos hc,show zw c y c=y from if_pos hc]
  subst hc
  go_enter func183,ntmps183
  go_wp2_with fail
  first
   | go_end0
   | refine bodyPost_ret (results_none rfl _ _ _) rfl ?_
  exact ⟨rfl,h1,H2.out,_,_,_,HT.out,(HO.out.set_ (i:=4) h1 H2.out).set_ (i:=5) h1 H2.out⟩
 rw [show zw c x a=a from if_neg hc,show zw c y c=c from if_neg hc]
 go_enter func183,ntmps183
 go_wp2_with fail
 first
  | go_end0
  | refine bodyPost_ret (results_none rfl _ _ _) rfl ?_
 exact ⟨rfl,h1,H2.out,_,_,_,HT.out,HO.out⟩
theorem Ec (op:Int) (w:World) :
  Calls prog 96 #[.int .i64 op] w fun e w'=>e=.returned (.tuple #[.int .i64 (aT op:Nat),.bool (vH op),.int .i64 (vF op)])∧w'=w:=by
 go_enter func96,ntmps96
 go_wp2_with fail
 all_goals simp only [beq_iff_eq,beq_eq_false_iff_ne,ne_eq] at *
 all_goals
  first
  | exact bodyPost_ret (v:=.tuple #[.int .i64 1,.bool false,.int .i64 0]) (by simp [results,results96,go_sem]) rfl ⟨by subst_vars; rfl,rfl⟩
  | exact bodyPost_ret (v:=.tuple #[.int .i64 2,.bool false,.int .i64 0]) (by simp [results,results96,go_sem]) rfl ⟨by subst_vars; rfl,rfl⟩
  | exact bodyPost_ret (v:=.tuple #[.int .i64 3,.bool false,.int .i64 0]) (by simp [results,results96,go_sem]) rfl ⟨by subst_vars; rfl,rfl⟩
  | exact bodyPost_ret (v:=.tuple #[.int .i64 4,.bool false,.int .i64 0]) (by simp [results,results96,go_sem]) rfl ⟨by subst_vars; rfl,rfl⟩
  | exact bodyPost_ret (v:=.tuple #[.int .i64 6,.bool true,.int .i64 0]) (by simp [results,results96,go_sem]) rfl ⟨by subst_vars; rfl,rfl⟩
  | exact bodyPost_ret (v:=.tuple #[.int .i64 7,.bool false,.int .i64 0]) (by simp [results,results96,go_sem]) rfl ⟨by subst_vars; rfl,rfl⟩
  | skip
 have hb:aT op=0:=by
  unfold aT
  rw [if_neg (by omega),if_neg (by omega),if_neg (by omega),if_neg (by omega),if_neg (by omega),if_neg (by omega)]
 exact bodyPost_ret (v:=.tuple #[.int .i64 0,.bool false,.int .i64 2]) (by simp [results,results96,go_sem]) rfl ⟨by unfold vH vF; rw [hb,decide_eq_false (by omega)]; rfl,rfl⟩
def r7 (t:Tk) (k:Nat):Bool:=decide (t.kind=8∧aT t.num=k)
theorem Ee (w1:World) (ps:List aS) (pb:Nat) (S:ByteArray) (all:List Tk) (i:Nat) (ns:List Nd) (a c:Int) (k:Nat) (w:World) (hn:all.length≤1000) (hi:i≤2000) (hs:S.size≤4611686018427387904) (h:RSt w1 ps pb S all i ns a c w) :
  Calls prog 209 #[.pointer (some ⟨pb,0,none⟩),.int .i64 (k:Nat)] w fun e w'=>e=.returned (.bool (r7 (hdS S.size (all.drop i)) k))∧Below w.heap.size w w':=by
 have HH:=keep (zu w1 ps pb S all i ns a c w hn hi hs h)
 have H0:=Lib.hid (Ok.start w)
 clear h hn hi hs
 obtain ⟨⟨tk,tn,tt,⟨t1,t2,t3,t4⟩,ta⟩,ht⟩:∃ t,hdS S.size (all.drop i)=t:=⟨_,rfl⟩
 rw [ht] at HH ⊢
 clear ht
 have HB:=keep (fun W=>Ec tn W)
 unfold r7
 simp only []
 obtain ⟨b,hb⟩:=ex (aT tn)
 rw [hb] at HB ⊢
 clear hb
 go_enter func209,ntmps209
 go_wp2_with fail
 refine cM (HH.out) H0 fun w1 H3=>?_
 clear H0
 clear HH
 simp only [tkA]
 go_upto_region 2 with fail
 have H4:=Lib.hid (H3.out.alloc w1.heap.size 97 [.int .u8 tk,.int .i64 tn,.string ⟨tt.toArray⟩,.int .i64 t1,.int .i64 t2,.int .i64 t3,.int .i64 t4,.int .i64 ta] rfl)
 clear H3
 generalize (w1.alloc (.cells #[.int .u8 tk,.int .i64 tn,.string ⟨tt.toArray⟩,.int .i64 t1,.int .i64 t2,.int .i64 t3,.int .i64 t4,.int .i64 ta] 97))=W5 at H4 ⊢
 have F6:=sE H4
 go_wp2_with fail
 refine (HB.out _).mono ?_
 rintro e w6 ⟨rfl,hw⟩
 obtain rfl:W5=w6:=hw.symm
 by_cases h8:tk=8
 ·subst h8
  go_wp2_with fail
  go_ret
  exact ⟨by congr 2; by_cases hbk:b=k <;> simp [hbk] <;> omega,H4.out.bel⟩
 have h8b:((tk:Int) == 8)=false:=by simp; omega
 go_wp2_with fail
 go_ret
 exact ⟨by simp [h8],H4.out.bel⟩
theorem RSt.inc {w1 w:World} {ps:List aS} {pb i:Nat} {S:ByteArray} {all:List Tk} {ns:List Nd} {a c:Int} (h:RSt w1 ps pb S all i ns a c w):RSt w1 ps pb S all (i+1) ns a c (w.setCell ⟨pb,2,none⟩ (.int .i64 ((i:Int)+1))):=by
 obtain ⟨h1,h2,la,lc,tv,hT,hO⟩:=h
 exact ⟨h1,h2,la,lc,tv,hT,hO.set_ (i:=2) h1 h2⟩
theorem Ae (a b c d e f g h:Value) (w:World):(Instr.field 97 (.agg #[a,b,c,d,e,f,g,h]) 0).run prog w=.ok a w:=by kernel_rfl
theorem DY (a b c d e f g h:Value) (w:World):(Instr.field 97 (.agg #[a,b,c,d,e,f,g,h]) 1).run prog w=.ok b w:=by kernel_rfl
theorem Cd (a b c d e f g h:Value) (w:World):(Instr.field 97 (.agg #[a,b,c,d,e,f,g,h]) 4).run prog w=.ok h w:=by kernel_rfl
theorem zW (w1:World) (ps:List aS) (pb:Nat) (S:ByteArray) (all:List Tk) (i:Nat) (ns:List Nd) (a c:Int) (k:Nat) (w:World) (hn:all.length≤1000) (hi:i≤2000) (hs:S.size≤4611686018427387904) (h:RSt w1 ps pb S all i ns a c w) (hk:(hdS S.size (all.drop i)).kind=k) :
  Calls prog 250 #[.pointer (some ⟨pb,0,none⟩),.int .u8 (k:Nat)] w (C2 (.tuple #[]) w1 ps pb S all (i+1) ns a c):=by
 have HH:=keep (zu w1 ps pb S all i ns a c w hn hi hs h)
 have H:=Lib.hid h
 obtain ⟨⟨tk,tn,tt,⟨t1,t2,t3,t4⟩,ta⟩,ht⟩:∃ t,hdS S.size (all.drop i)=t:=⟨_,rfl⟩
 rw [ht] at HH hk
 have HT:=keep ht
 have hk2:tk=k:=hk
 clear h hk ht
 subst hk2
 have hfk:=Ae
 go_enter func250,ntmps250
 go_wp2_with fail
 refine (HH.out).mono ?_
 rintro e wa1 ⟨rfl,hb2⟩
 have H3:=Lib.hid (H.out.below hb2)
 clear hb2 H HH
 simp only [tkA]
 obtain ⟨la,lc,tv,-,⟨x0,x1⟩,p0,p1,p2,p3,p4,p5⟩:=H3.out.cells
 go_wp2_with fail
 first
  | go_end0
  | refine bodyPost_ret (results_none rfl _ _ _) rfl ?_
 exact ⟨rfl,H3.out.inc⟩
theorem AP (w1:World) (ps:List aS) (pb:Nat) (S:ByteArray) (all:List Tk) (i:Nat) (ns:List Nd) (a c:Int) (k:Nat) (w:World) (hn:all.length≤1000) (hi:i≤2000) (hs:S.size≤4611686018427387904) (h:RSt w1 ps pb S all i ns a c w) (hk:(hdS S.size (all.drop i)).kind≠k) :
  Calls prog 250 #[.pointer (some ⟨pb,0,none⟩),.int .u8 (k:Nat)] w (C2 (.tuple #[]) w1 ps pb S all i ns (zw c ((hdS S.size (all.drop i)).at_:Int) a) (zw c 4 c)):=by
 have HH:=keep (zu w1 ps pb S all i ns a c w hn hi hs h)
 have H:=Lib.hid h
 obtain ⟨⟨tk,tn,tt,⟨t1,t2,t3,t4⟩,ta⟩,ht⟩:∃ t,hdS S.size (all.drop i)=t:=⟨_,rfl⟩
 rw [ht] at HH hk
 have HT:=keep ht
 have hk2:tk≠k:=hk
 clear h hk ht
 rw [HT.out]
 have hk3:((tk:Int) == (k:Int))=false:=by simp; omega
 clear hk2
 have hfk:=Ae
 have hfa:=Cd
 go_enter func250,ntmps250
 go_wp2_with fail
 refine (HH.out).mono ?_
 rintro e wa1 ⟨rfl,hb2⟩
 have H3:=Lib.hid (H.out.below hb2)
 clear hb2 H HH
 simp only [tkA]
 go_wp2_with fail
 refine cMg (zu w1 ps pb S all i ns a c wa1 hn hi hs H3.out) (fun _=>H3.out.below) fun wa2 H4=>?_
 rw [HT.out]
 clear H3
 simp only [tkA]
 go_wp2_with fail
 refine (zC w1 ps pb S all i ns a c _ _ wa2 H4.out).mono ?_
 rintro e wa7 ⟨rfl,hd9⟩
 have HZ:=Lib.hid hd9
 clear hd9 H4
 go_wp2_with fail
 first
  | go_end0
  | refine bodyPost_ret (results_none rfl _ _ _) rfl ?_
 exact ⟨rfl,HZ.out⟩
