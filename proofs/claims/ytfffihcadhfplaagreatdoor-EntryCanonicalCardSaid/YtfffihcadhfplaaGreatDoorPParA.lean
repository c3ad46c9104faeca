/- The parser's object: what it holds, and the contracts of its small methods. The contracts of parse.Binds and of the tree's tables. -/
import Derived.Test.YtfffihcadhfplaaGreatDoorPLexN
import Derived.Test.YtfffihcadhfplaaGreatDoorPParP
import Derived.Deep.DeepCutAuto
import Derived.Laws.Strings3
namespace Go.Proofs.YtfffihcadhfplaaGreatDoor
set_option maxHeartbeats 1000000
open Go.RowKit
def ndRow (n:Nd):List Value:=[.int .u8 n.kind,.int .u8 n.vk,.int .i64 n.vn,.string ⟨n.vt.toArray⟩,.int .i64 n.r.c1,.int .i64 n.r.r1,.int .i64 n.r.c2,.int .i64 n.r.r2,.int .i64 n.op,.int .u8 n.fn,.int .i64 (n.n:Nat)]
def ndCells (l:List Nd):List Value:=l.flatMap ndRow
theorem ndCells_snoc (l:List Nd) (n:Nd):ndCells (l++[n])=ndCells l++ndRow n:=by simp [ndCells]
theorem ndCells_len (l:List Nd):(ndCells l).length=l.length * 11:=by
 induction l with
 | nil=>rfl
 | cons n l ih=>simp only [ndCells,List.flatMap_cons,List.length_append,List.length_cons] at ih ⊢; rw [ih]; simp [ndRow]; omega
structure TokAt (w:World) (a:Option Addr) (c:Nat) (ts:List Tk):Prop where
 le:ts.length≤c
 cap:c≤9223372036854775807
 at_:ts≠[]→∃ b o,a=some ⟨b,o,none⟩∧b<w.heap.size∧∀ i t,ts[i]?=some t→∀ j v,(tkRow t)[j]?=some v→w.cell? ⟨b,o+(i * 8+j),none⟩=some v
theorem TokAt.last (w:World) (a:Option Addr):TokAt w a 0 []:=⟨Nat.le_refl _,Nat.zero_le _,fun h=>absurd rfl h⟩
theorem TokAt.next {w:World} {b o c:Nat} {t:Tk} {ts:List Tk} (h:TokAt w (some ⟨b,o,none⟩) c (t::ts)):TokAt w (some ⟨b,o+8,none⟩) (c - 1) ts:=by
 refine ⟨by have:=h.le; simp at this; omega,by have:=h.cap; omega,fun _ => ?_⟩
 obtain ⟨b',o',e,hb,hc⟩:=h.at_ (by simp)
 simp at e
 obtain ⟨rfl,rfl⟩:=e
 refine ⟨b,o+8,rfl,hb,fun i u hi j v hj => ?_⟩
 have:=hc (i+1) u (by simpa using hi) j v hj
 rw [show o+8+(i * 8+j)=o+((i+1) * 8+j) by omega]
 exact this
theorem OkRow.set_ {w0 w:World} {ps:List Pers} {e:TypeId} {size n b i:Nat} {t:TypeId} {cs xs:List Value} {u v:Value} (h:OkRow w0 (kVar b t cs::ps) e size v n xs w) (hb:w0.heap.size≤b) (hf:∀ x∈ps,x.far (some b)) :
  OkRow w0 (kVar b t (cs.set i u)::ps) e size v n xs (w.setCell ⟨b,i,none⟩ u):=by
 have hne:some b≠v.ownBlock:=h.far _ (List.mem_cons_self ..)
 refine ⟨h.ok.set_ hb hf,h.own.kept (only_set b i u) ?_,fun x hx => ?_⟩
 ·cases hv:v.ownBlock with
  | none=>exact .inl rfl
  | some k =>
   right
   intro e9
   exact hne (by rw [hv]; exact e9.symm)
 ·rcases List.mem_cons.1 hx with rfl | hx
  ·exact hne
  ·exact h.far x (List.mem_cons_of_mem _ hx)
def St (w1:World) (ps:List Pers) (pb en:Nat) (ts:List Tk) (ns:List Nd) (w:World):Prop :=
 w1.heap.size≤pb∧(∀ x∈ps,x.far (some pb))∧∃ la c ov,TokAt w1 la c ts∧OkRow w1 (kVar pb 86 [.slice la ts.length c,.int .i64 (en:Int),ov]::ps) 96 11 ov ns.length (ndCells ns) w
section
variable {w1 w w':World} {ps:List Pers} {pb en:Nat} {ts:List Tk} {ns:List Nd}
theorem St.below (h:St w1 ps pb en ts ns w) (hb:Below w.heap.size w w'):St w1 ps pb en ts ns w':=by
 obtain ⟨h1,h2,la,c,ov,h3,h4⟩:=h
 exact ⟨h1,h2,la,c,ov,h3,h4.below hb⟩
theorem OkRow.swap {w0:World} {x y:Pers} {ps:List Pers} {e:TypeId} {size n:Nat} {v:Value} {xs:List Value} (h:OkRow w0 (x::y::ps) e size v n xs w):OkRow w0 (y::x::ps) e size v n xs w :=
 h.drop _ (by intro z hz; simp at hz ⊢; rcases hz with h | h | h <;> simp [h])
theorem St.alloc (h:St w1 ps pb en ts ns w) (t:TypeId) (cs:List Value):St w1 (kBlk w.heap.size t cs::ps) pb en ts ns (w.alloc (.cells cs.toArray t)):=by
 obtain ⟨h1,h2,la,c,ov,h3,h4⟩:=h
 have hlt:pb<w.heap.size:=by
  have:=h4.ok.sees
  exact this.1.1.1
 refine ⟨h1,fun x hx => ?_,la,c,ov,h3,(h4.alloc w.heap.size t cs rfl).swap⟩
 rcases List.mem_cons.1 hx with rfl | hx
 ·show some w.heap.size≠some pb
  simp; omega
 ·exact h2 x hx
theorem St.alloc_obj (h:St w1 ps pb en ts ns w) (o:Obj):St w1 ps pb en ts ns (w.alloc o):=h.below ((Below.refl _ _).alloc (Nat.le_refl _) _)
theorem St.tail {x:Pers} (h:St w1 (x::ps) pb en ts ns w):St w1 ps pb en ts ns w:=by
 obtain ⟨h1,h2,la,c,ov,h3,h4⟩:=h
 exact ⟨h1,fun y hy=>h2 y (List.mem_cons_of_mem _ hy),la,c,ov,h3,h4.drop _ (by intro z hz; simp at hz ⊢; rcases hz with h | h <;> simp [h])⟩
theorem St.drop (h:St w1 ps pb en ts ns w) (qs:List Pers) (hq:∀ x∈qs,x∈ps):St w1 qs pb en ts ns w:=by
 obtain ⟨h1,h2,la,c,ov,h3,h4⟩:=h
 exact ⟨h1,fun y hy=>h2 y (hq y hy),la,c,ov,h3,h4.drop _ (by intro z hz; simp at hz ⊢; rcases hz with h | h; exact .inl h; exact .inr (hq _ h))⟩
theorem St.sees (h:St w1 ps pb en ts ns w):pb<w.heap.size∧Go.Proofs.YtfffihcadhfplaaGreatDoor.sees ps w:=by
 obtain ⟨h1,h2,la,c,ov,h3,h4⟩:=h
 have:=h4.ok.sees
 exact ⟨this.1.1.1,this.2⟩
theorem St.bel (h:St w1 ps pb en ts ns w):Below w1.heap.size w1 w:=by
 obtain ⟨h1,h2,la,c,ov,h3,h4⟩:=h
 exact h4.ok.bel
theorem St.lt (h:St w1 ps pb en ts ns w):pb<w.heap.size:=h.sees.1
end
theorem info_node:(Tryz.prog.info? 96).map (fun i=>(i.zero,i.size,i.bytes))=some (some (.agg #[.int .u8 0,.int .u8 0,.int .i64 0,.string ⟨#[]⟩,.int .i64 0,.int .i64 0,.int .i64 0,.int .i64 0,.int .i64 0,.int .u8 0,.int .i64 0]),11,96):=by kernel_rfl
def ndA (n:Nd):Value:=.agg (ndRow n).toArray
def Done (v:Value) (w1:World) (ps:List Pers) (pb en:Nat) (ts:List Tk) (ns:List Nd) (e:Ending) (w':World):Prop:=e=.returned v∧St w1 ps pb en ts ns w'
theorem p_head (w1:World) (ps:List Pers) (pb en:Nat) (ts:List Tk) (ns:List Nd) (w:World) (h:St w1 ps pb en ts ns w) :
  Calls Tryz.prog 55 #[.pointer (some ⟨pb,0,none⟩)] w fun e w'=>e=.returned (tkA (hdS en ts))∧Below w.heap.size w w':=by
 obtain ⟨-,-,la,c,ov,hT,hO⟩:=h
 have F0:=hO.ok.sees
 simp only [sees,kVar,cellsAt,Nat.reduceAdd] at F0
 obtain ⟨⟨⟨hp0,-⟩,p0,p1,p2,-⟩,-⟩:=F0
 cases ts with
 | nil =>
  have HP:=Lib.hid ((Ok.start w).add (kCells pb 0 [.slice la 0 c,.int .i64 (en:Int),ov]) ⟨hp0,p0,p1,p2,trivial⟩)
  clear hO hT p0 p1 p2 hp0
  go_enter Tryz.func55,Tryz.ntmps55
  go_upto_region 1 with fail
  have H1:=Lib.hid (HP.out.var w.heap.size 90 [.int .u8 0,.int .i64 0,.string ⟨#[]⟩,.int .i64 0,.int .i64 0,.int .i64 0,.int .i64 0,.int .i64 0] rfl)
  clear HP
  generalize (w.alloc (.cells #[.int .u8 0,.int .i64 0,.string ⟨#[]⟩,.int .i64 0,.int .i64 0,.int .i64 0,.int .i64 0,.int .i64 0] 90))=W2 at H1 ⊢
  have F3:=H1.out.sees
  simp only [sees,kVar,kCells,cellsFrom,Nat.add_zero,cellsAt,Nat.reduceAdd] at F3
  obtain ⟨⟨⟨z0,fz0⟩,c00,c01,c02,c03,c04,c05,c06,c07,-⟩,⟨z1,c10,c11,c12,-⟩,-⟩:=F3
  go_wp2_with fail
  have hK:=H1.out.get (kVar (w.heap.size) 90 [.int .u8 0,.int .i64 0,.string ⟨#[]⟩,.int .i64 0,.int .i64 0,.int .i64 0,.int .i64 0,.int .i64 0]) (by simp)
  have hB:=H1.out.bel
  have hE:=(((((((((show Blk W2 (w.heap.size) 90 _ from hK).set_ 0 (.int .u8 0)).set_ 1 (.int .i64 0)).set_ 2 (.string ⟨#[]⟩)).set_ 3 (.int .i64 0)).set_ 4 (.int .i64 0)).set_ 5 (.int .i64 0)).set_ 6 (.int .i64 0)).set_ 7 (.int .i64 (en:Int)))
  have r0:=hE.cell 0
  have r1:=hE.cell 1
  have r2:=hE.cell 2
  have r3:=hE.cell 3
  have r4:=hE.cell 4
  have r5:=hE.cell 5
  have r6:=hE.cell 6
  have r7:=hE.cell 7
  simp at r0 r1 r2 r3 r4 r5 r6 r7
  refine bodyPost_ret (v:=.agg #[.int .u8 0,.int .i64 0,.string ⟨#[]⟩,.int .i64 0,.int .i64 0,.int .i64 0,.int .i64 0,.int .i64 (en:Int)]) (by simp [results,Tryz.results55,go_sem,r0,r1,r2,r3,r4,r5,r6,r7]) rfl ⟨rfl,((((((((hB.setCell (by simp) _).setCell (by simp) _).setCell (by simp) _).setCell (by simp) _).setCell (by simp) _).setCell (by simp) _).setCell (by simp) _).setCell (by simp) _)⟩
 | cons t ts =>
  obtain ⟨tk,tn,tt,⟨t1,t2,t3,t4⟩,ta⟩:=t
  obtain ⟨b,o,rfl,hb,hc⟩:=hT.at_ (by simp)
  have hbl:=hO.ok.bel
  have hbw:b<w.heap.size:=Nat.lt_of_lt_of_le hb hbl.size
  have hcw:cellsFrom w b o 0 (tkRow ⟨tk,tn,tt,⟨t1,t2,t3,t4⟩,ta⟩):=by
   have key:∀ j v,(tkRow ⟨tk,tn,tt,⟨t1,t2,t3,t4⟩,ta⟩)[j]?=some v→w.cell? ⟨b,o+j,none⟩=some v:=by
    intro j v hj
    have h9:=hc 0 _ rfl j v hj
    rw [Nat.zero_mul,Nat.zero_add] at h9
    exact (hbl.cell hb).trans h9
   exact ⟨key 0 _ rfl,key 1 _ rfl,key 2 _ rfl,key 3 _ rfl,key 4 _ rfl,key 5 _ rfl,key 6 _ rfl,key 7 _ rfl,trivial⟩
  have HP:=Lib.hid (((Ok.start w).add (kCells pb 0 [.slice (some ⟨b,o,none⟩) (ts.length+1) c,.int .i64 (en:Int),ov]) ⟨hp0,p0,p1,p2,trivial⟩).add (kCells b o (tkRow ⟨tk,tn,tt,⟨t1,t2,t3,t4⟩,ta⟩)) ⟨hbw,hcw⟩)
  clear hO hT p0 p1 p2 hp0 hc hcw hbw hb hbl
  have HP2:Hid (Ok w [kCells b o [.int .u8 tk,.int .i64 tn,.string ⟨tt.toArray⟩,.int .i64 t1,.int .i64 t2,.int .i64 t3,.int .i64 t4,.int .i64 ta],kCells pb 0 [.slice (some ⟨b,o,none⟩) (ts.length+1) c,.int .i64 (en:Int),ov]] w):=HP
  clear HP
  go_enter Tryz.func55,Tryz.ntmps55
  go_upto_region 1 with fail
  have H1:=Lib.hid (HP2.out.var w.heap.size 90 [.int .u8 0,.int .i64 0,.string ⟨#[]⟩,.int .i64 0,.int .i64 0,.int .i64 0,.int .i64 0,.int .i64 0] rfl)
  clear HP2
  generalize (w.alloc (.cells #[.int .u8 0,.int .i64 0,.string ⟨#[]⟩,.int .i64 0,.int .i64 0,.int .i64 0,.int .i64 0,.int .i64 0] 90))=W2 at H1 ⊢
  have F3:=H1.out.sees
  simp only [sees,kVar,kCells,cellsFrom,Nat.add_zero,cellsAt,Nat.reduceAdd] at F3
  obtain ⟨⟨⟨z0,fz0⟩,c00,c01,c02,c03,c04,c05,c06,c07,-⟩,⟨z1,c10,c11,c12,c13,c14,c15,c16,c17,-⟩,⟨z2,c20,c21,c22,-⟩,-⟩:=F3
  have hne:¬ ((ts.length:Int)+1=0):=by omega
  go_wp2_with fail
  have hK:=H1.out.get (kVar (w.heap.size) 90 [.int .u8 0,.int .i64 0,.string ⟨#[]⟩,.int .i64 0,.int .i64 0,.int .i64 0,.int .i64 0,.int .i64 0]) (by simp)
  have hB:=H1.out.bel
  have hE:=(((((((((show Blk W2 (w.heap.size) 90 _ from hK).set_ 0 (.int .u8 tk)).set_ 1 (.int .i64 tn)).set_ 2 (.string ⟨tt.toArray⟩)).set_ 3 (.int .i64 t1)).set_ 4 (.int .i64 t2)).set_ 5 (.int .i64 t3)).set_ 6 (.int .i64 t4)).set_ 7 (.int .i64 ta))
  have r0:=hE.cell 0
  have r1:=hE.cell 1
  have r2:=hE.cell 2
  have r3:=hE.cell 3
  have r4:=hE.cell 4
  have r5:=hE.cell 5
  have r6:=hE.cell 6
  have r7:=hE.cell 7
  simp at r0 r1 r2 r3 r4 r5 r6 r7
  refine bodyPost_ret (v:=.agg #[.int .u8 tk,.int .i64 tn,.string ⟨tt.toArray⟩,.int .i64 t1,.int .i64 t2,.int .i64 t3,.int .i64 t4,.int .i64 ta]) (by simp [results,Tryz.results55,go_sem,r0,r1,r2,r3,r4,r5,r6,r7]) rfl ⟨rfl,((((((((hB.setCell (by simp) _).setCell (by simp) _).setCell (by simp) _).setCell (by simp) _).setCell (by simp) _).setCell (by simp) _).setCell (by simp) _).setCell (by simp) _)⟩
theorem p_skip (w1:World) (ps:List Pers) (pb en:Nat) (t:Tk) (ts:List Tk) (ns:List Nd) (w:World) (h:St w1 ps pb en (t::ts) ns w) :
  Calls Tryz.prog 115 #[.pointer (some ⟨pb,0,none⟩)] w (Done (.tuple #[]) w1 ps pb en ts ns):=by
 obtain ⟨h1,h2,la,c,ov,hT,hO⟩:=h
 have F0:=hO.ok.sees
 simp only [sees,kVar,cellsAt,Nat.reduceAdd] at F0
 obtain ⟨⟨⟨hp0,hpf⟩,p0,p1,p2,-⟩,-⟩:=F0
 obtain ⟨b,o,rfl,hb,hc⟩:=hT.at_ (by simp)
 have hle:=hT.le
 have hcap:=hT.cap
 simp only [List.length_cons] at hle p0
 have HO:=Lib.hid hO
 have HT:=keep hT
 have H2:=keep h2
 clear hO hT h2 hc
 by_cases hc1:c=1
 ·subst hc1
  obtain rfl:ts=[]:=List.length_eq_zero_iff.1 (by omega)
  go_enter Tryz.func115,Tryz.ntmps115
  go_wp2_with fail
  first
   | go_end0
   | refine bodyPost_ret (results_none rfl _ _ _) rfl ?_
  exact ⟨rfl,h1,H2.out,_,0,ov,TokAt.last _ _,HO.out.set_ (i:=0) h1 H2.out⟩
 ·have hc2:1<c:=by omega
  have hc3:¬ 1=c:=by omega
  have HN:=keep (TokAt.next HT.out)
  clear hc1
  go_enter Tryz.func115,Tryz.ntmps115
  go_wp2_with fail
  first
   | go_end0
   | refine bodyPost_ret (results_none rfl _ _ _) rfl ?_
  exact ⟨rfl,h1,H2.out,_,c - 1,ov,HN.out,HO.out.set_ (i:=0) h1 H2.out⟩
set_option maxRecDepth 100000
set_option maxHeartbeats 4000000
open Go.RowKit
theorem ar_22 (fn:Nat) (h:fn=5∨fn=6∨fn=7∨fn=25∨fn=39∨fn=40∨fn=18∨fn=19∨fn=45∨fn=44):arS fn=(2,2):=by
 rcases h with rfl | rfl | rfl | rfl | rfl | rfl | rfl | rfl | rfl | rfl <;> decide
theorem ar_23 (fn:Nat) (h:fn=20∨fn=41∨fn=43):arS fn=(2,3):=by rcases h with rfl | rfl | rfl <;> decide
theorem ar_12 (fn:Nat) (h:fn=32∨fn=33):arS fn=(1,2):=by rcases h with rfl | rfl <;> decide
theorem ar_33 (fn:Nat) (h:fn=34):arS fn=(3,3):=by subst h; decide
theorem ar_1m (fn:Nat) (h:fn=21∨fn=22∨fn=23∨fn=38∨fn=9∨fn=10∨fn=11∨fn=12∨fn=14∨fn=15∨fn=16∨fn=17):arS fn=(1,16):=by
 rcases h with rfl | rfl | rfl | rfl | rfl | rfl | rfl | rfl | rfl | rfl | rfl | rfl <;> decide
theorem ar_2m (fn:Nat) (h:fn=30):arS fn=(2,16):=by subst h; decide
theorem ar_11 (fn:Nat) (h:¬ (fn=5∨fn=6∨fn=7∨fn=25∨fn=39∨fn=40∨fn=18∨fn=19∨fn=45∨fn=44∨fn=20∨fn=41∨fn=43∨fn=32∨fn=33∨fn=34∨fn=21∨fn=22∨fn=23∨fn=38∨fn=9∨fn=10∨fn=11∨fn=12∨fn=14∨fn=15∨fn=16∨fn=17∨fn=30)):arS fn=(1,1):=by
 unfold arS
 simp only [List.mem_cons,List.not_mem_nil,or_false]
 rw [if_neg (by omega),if_neg (by omega),if_neg (by omega),if_neg (by omega),if_neg (by omega),if_neg (by omega)]
theorem tree_known (fn:Nat) (w:World) (h1:1≤fn) (h2:fn≤50) :
  Calls Tryz.prog 142 #[.int .u8 (fn:Nat)] w fun e w'=>e=.returned (.bool true)∧w'=w:=by
 have g1:(1:Int)≤fn:=by omega
 have g2:(fn:Int)≤50:=by omega
 go_enter Tryz.func142,Tryz.ntmps142
 go_wp2_with fail
 go_ret
 exact ⟨rfl,rfl⟩
theorem tree_Arity (fn:Nat) (w:World) (h1:1≤fn) (h2:fn≤50) :
  Calls Tryz.prog 149 #[.int .u8 (fn:Nat)] w fun e w'=>e=.returned (.tuple #[.int .i64 ((arS fn).1:Nat),.int .i64 ((arS fn).2:Nat),.int .i64 0])∧w'=w:=by
 go_enter Tryz.func149,Tryz.ntmps149
 go_wp2_with fail
 all_goals simp only [beq_iff_eq,beq_eq_false_iff_ne,ne_eq] at *
 all_goals
  first
  | exact bodyPost_ret (v:=.tuple #[.int .i64 2,.int .i64 2,.int .i64 0]) (by simp [results,Tryz.results149,go_sem]) rfl ⟨by rw [ar_22 fn (by omega)]; rfl,rfl⟩
  | exact bodyPost_ret (v:=.tuple #[.int .i64 2,.int .i64 3,.int .i64 0]) (by simp [results,Tryz.results149,go_sem]) rfl ⟨by rw [ar_23 fn (by omega)]; rfl,rfl⟩
  | exact bodyPost_ret (v:=.tuple #[.int .i64 1,.int .i64 2,.int .i64 0]) (by simp [results,Tryz.results149,go_sem]) rfl ⟨by rw [ar_12 fn (by omega)]; rfl,rfl⟩
  | exact bodyPost_ret (v:=.tuple #[.int .i64 3,.int .i64 3,.int .i64 0]) (by simp [results,Tryz.results149,go_sem]) rfl ⟨by rw [ar_33 fn (by omega)]; rfl,rfl⟩
  | exact bodyPost_ret (v:=.tuple #[.int .i64 1,.int .i64 16,.int .i64 0]) (by simp [results,Tryz.results149,go_sem]) rfl ⟨by rw [ar_1m fn (by omega)]; rfl,rfl⟩
  | exact bodyPost_ret (v:=.tuple #[.int .i64 2,.int .i64 16,.int .i64 0]) (by simp [results,Tryz.results149,go_sem]) rfl ⟨by rw [ar_2m fn (by omega)]; rfl,rfl⟩
  | skip
 have HA:=keep (ar_11 fn (by omega))
 refine (tree_known fn _ h1 h2).mono ?_
 rintro e w' ⟨rfl,hw⟩
 obtain rfl:w=w':=hw.symm
 go_wp2_with fail
 exact bodyPost_ret (v:=.tuple #[.int .i64 1,.int .i64 1,.int .i64 0]) (by simp [results,Tryz.results149,go_sem]) rfl ⟨by rw [HA.out]; rfl,rfl⟩
def bindE (op:Int):Int:=if bindS op=0 then 2 else 0
def isPow (op:Int):Bool:=decide (op=5)
theorem parse_Binds (op:Int) (w:World) :
  Calls Tryz.prog 114 #[.int .i64 op] w fun e w'=>e=.returned (.tuple #[.int .i64 (bindS op:Nat),.bool (isPow op),.int .i64 (bindE op)])∧w'=w:=by
 go_enter Tryz.func114,Tryz.ntmps114
 go_wp2_with fail
 all_goals simp only [beq_iff_eq,beq_eq_false_iff_ne,ne_eq] at *
 all_goals
  first
  | exact bodyPost_ret (v:=.tuple #[.int .i64 1,.bool false,.int .i64 0]) (by simp [results,Tryz.results114,go_sem]) rfl ⟨by subst_vars; rfl,rfl⟩
  | exact bodyPost_ret (v:=.tuple #[.int .i64 2,.bool false,.int .i64 0]) (by simp [results,Tryz.results114,go_sem]) rfl ⟨by subst_vars; rfl,rfl⟩
  | exact bodyPost_ret (v:=.tuple #[.int .i64 3,.bool false,.int .i64 0]) (by simp [results,Tryz.results114,go_sem]) rfl ⟨by subst_vars; rfl,rfl⟩
  | exact bodyPost_ret (v:=.tuple #[.int .i64 4,.bool false,.int .i64 0]) (by simp [results,Tryz.results114,go_sem]) rfl ⟨by subst_vars; rfl,rfl⟩
  | exact bodyPost_ret (v:=.tuple #[.int .i64 6,.bool true,.int .i64 0]) (by simp [results,Tryz.results114,go_sem]) rfl ⟨by subst_vars; rfl,rfl⟩
  | exact bodyPost_ret (v:=.tuple #[.int .i64 7,.bool false,.int .i64 0]) (by simp [results,Tryz.results114,go_sem]) rfl ⟨by subst_vars; rfl,rfl⟩
  | skip
 have hb:bindS op=0:=by
  unfold bindS
  rw [if_neg (by omega),if_neg (by omega),if_neg (by omega),if_neg (by omega),if_neg (by omega),if_neg (by omega)]
 exact bodyPost_ret (v:=.tuple #[.int .i64 0,.bool false,.int .i64 2]) (by simp [results,Tryz.results114,go_sem]) rfl ⟨by unfold isPow bindE; rw [hb,decide_eq_false (by omega)]; rfl,rfl⟩
