/- The parser's object: what it holds, and the contracts of its small methods. The contract of the reference lexer's word. Contracts of the reference's error names, operators, and of its lexer's sign. Contracts of the reference lexer's sign and token. The contract of the reference's Tokens. -/
import Derived.Test.YthdmpajkacmkdaaGreatDoorGLexN
import Derived.Test.YthdmpajkacmkdaaGreatDoorGTg
import Derived.Test.YthdmpajkacmkdaaGreatDoorGParP
import Derived.Deep.DeepCutAuto
import Derived.Test.YthdmpajkacmkdaaGreatDoorGShc
import Derived.Test.YthdmpajkacmkdaaGreatDoorGLexM
import Derived.Test.YthdmpajkacmkdaaGreatDoorGVal
namespace Go.Proofs.YthdmpajkacmkdaaGreatDoor
set_option maxHeartbeats 1000000
open Go.RowKit Go.Proofs.Tryz
def bj (n:Nd):List Value:=[.int .u8 n.kind,.int .u8 n.vk,.int .i64 n.vn,.string ⟨n.vt.toArray⟩,.int .i64 n.r.c1,.int .i64 n.r.r1,.int .i64 n.r.c2,.int .i64 n.r.r2,.int .i64 n.op,.int .u8 n.fn,.int .i64 (n.n:Nat)]
def ew (l:List Nd):List Value:=l.flatMap bj
theorem jB (l:List Nd) (n:Nd):ew (l++[n])=ew l++bj n:=by simp [ew]
theorem kR (l:List Nd):(ew l).length=l.length * 11:=by
 induction l with
 | nil=>rfl
 | cons n l ih=>simp only [ew,List.flatMap_cons,List.length_append,List.length_cons] at ih ⊢; rw [ih]; simp [bj]; omega
structure jl (w:World) (a:Option Addr) (c:Nat) (ts:List Tk):Prop where
 le:ts.length≤c
 cap:c≤9223372036854775807
 at_:ts≠[]→∃ b o,a=some ⟨b,o,none⟩∧b<w.heap.size∧∀ i t,ts[i]?=some t→∀ j v,(cg t)[j]?=some v→w.cell? ⟨b,o+(i * 8+j),none⟩=some v
theorem jl.last (w:World) (a:Option Addr):jl w a 0 []:=⟨Nat.le_refl _,Nat.zero_le _,fun h=>absurd rfl h⟩
theorem jl.next {w:World} {b o c:Nat} {t:Tk} {ts:List Tk} (h:jl w (some ⟨b,o,none⟩) c (t::ts)):jl w (some ⟨b,o+8,none⟩) (c - 1) ts:=by
 refine ⟨by have:=h.le; simp at this; omega,by have:=h.cap; omega,fun _ => ?_⟩
 obtain ⟨b',o',e,hb,hc⟩:=h.at_ (by simp)
 simp at e
 obtain ⟨rfl,rfl⟩:=e
 refine ⟨b,o+8,rfl,hb,fun i u hi j v hj => ?_⟩
 have:=hc (i+1) u (by simpa using hi) j v hj
 rw [show o+8+(i * 8+j)=o+((i+1) * 8+j) by omega]
 exact this
theorem ai.set_ {w0 w:World} {ps:List aZ} {e:TypeId} {size n b i:Nat} {t:TypeId} {cs xs:List Value} {u v:Value} (h:ai w0 (ah b t cs::ps) e size v n xs w) (hb:w0.heap.size≤b) (hf:∀ x∈ps,x.far (some b)) :
  ai w0 (ah b t (cs.set i u)::ps) e size v n xs (w.setCell ⟨b,i,none⟩ u):=by
 have hne:some b≠v.ownBlock:=h.far _ (List.mem_cons_self ..)
 refine ⟨h.ok.set_ hb hf,h.own.kept (oV b i u) ?_,fun x hx => ?_⟩
 ·cases hv:v.ownBlock with
  | none=>exact .inl rfl
  | some k =>
   right
   intro e9
   exact hne (by rw [hv]; exact e9.symm)
 rcases List.mem_cons.1 hx with rfl | hx
 ·exact hne
 exact h.far x (List.mem_cons_of_mem _ hx)
def St (w1:World) (ps:List aZ) (pb en:Nat) (ts:List Tk) (ns:List Nd) (w:World):Prop :=
 w1.heap.size≤pb∧(∀ x∈ps,x.far (some pb))∧∃ la c ov,jl w1 la c ts∧ai w1 (ah pb 64 [.slice la ts.length c,.int .i64 (en:Int),ov]::ps) 27 11 ov ns.length (ew ns) w
section
variable {w1 w w':World} {ps:List aZ} {pb en:Nat} {ts:List Tk} {ns:List Nd}
theorem St.below (h:St w1 ps pb en ts ns w) (hb:Below w.heap.size w w'):St w1 ps pb en ts ns w':=by
 obtain ⟨h1,h2,la,c,ov,h3,h4⟩:=h
 exact ⟨h1,h2,la,c,ov,h3,h4.below hb⟩
theorem ai.swap {w0:World} {x y:aZ} {ps:List aZ} {e:TypeId} {size n:Nat} {v:Value} {xs:List Value} (h:ai w0 (x::y::ps) e size v n xs w):ai w0 (y::x::ps) e size v n xs w :=
 h.drop _ (by intro z hz; simp at hz ⊢; rcases hz with h | h | h <;> simp [h])
theorem St.alloc (h:St w1 ps pb en ts ns w) (t:TypeId) (cs:List Value):St w1 (af w.heap.size t cs::ps) pb en ts ns (w.alloc (.cells cs.toArray t)):=by
 obtain ⟨h1,h2,la,c,ov,h3,h4⟩:=h
 have hlt:pb<w.heap.size:=by
  have:=h4.ok.sees
  exact this.1.1.1
 refine ⟨h1,fun x hx => ?_,la,c,ov,h3,(h4.alloc w.heap.size t cs rfl).swap⟩
 rcases List.mem_cons.1 hx with rfl | hx
 ·show some w.heap.size≠some pb
  simp; omega
 exact h2 x hx
theorem St.alloc_obj (h:St w1 ps pb en ts ns w) (o:Obj):St w1 ps pb en ts ns (w.alloc o):=h.below ((Below.refl _ _).alloc (Nat.le_refl _) _)
theorem St.tail {x:aZ} (h:St w1 (x::ps) pb en ts ns w):St w1 ps pb en ts ns w:=by
 obtain ⟨h1,h2,la,c,ov,h3,h4⟩:=h
 exact ⟨h1,fun y hy=>h2 y (List.mem_cons_of_mem _ hy),la,c,ov,h3,h4.drop _ (by intro z hz; simp at hz ⊢; rcases hz with h | h <;> simp [h])⟩
theorem St.drop (h:St w1 ps pb en ts ns w) (qs:List aZ) (hq:∀ x∈qs,x∈ps):St w1 qs pb en ts ns w:=by
 obtain ⟨h1,h2,la,c,ov,h3,h4⟩:=h
 exact ⟨h1,fun y hy=>h2 y (hq y hy),la,c,ov,h3,h4.drop _ (by intro z hz; simp at hz ⊢; rcases hz with h | h; exact .inl h; exact .inr (hq _ h))⟩
theorem St.sees (h:St w1 ps pb en ts ns w):pb<w.heap.size∧Go.Proofs.YthdmpajkacmkdaaGreatDoor.sees ps w:=by
 obtain ⟨h1,h2,la,c,ov,h3,h4⟩:=h
 have:=h4.ok.sees
 exact ⟨this.1.1.1,this.2⟩
theorem St.bel (h:St w1 ps pb en ts ns w):Below w1.heap.size w1 w:=by
 obtain ⟨h1,h2,la,c,ov,h3,h4⟩:=h
 exact h4.ok.bel
theorem St.lt (h:St w1 ps pb en ts ns w):pb<w.heap.size:=h.sees.1
end
theorem iy:(prog.info? 27).map (fun i=>(i.zero,i.size,i.bytes))=some (some (.agg #[.int .u8 0,.int .u8 0,.int .i64 0,.string ⟨#[]⟩,.int .i64 0,.int .i64 0,.int .i64 0,.int .i64 0,.int .i64 0,.int .u8 0,.int .i64 0]),11,96):=by kernel_rfl
def ndA (n:Nd):Value:=.agg (bj n).toArray
def sH (v:Value) (w1:World) (ps:List aZ) (pb en:Nat) (ts:List Tk) (ns:List Nd) (e:Ending) (w':World):Prop:=e=.returned v∧St w1 ps pb en ts ns w'
theorem bo (w1:World) (ps:List aZ) (pb en:Nat) (ts:List Tk) (ns:List Nd) (w:World) (h:St w1 ps pb en ts ns w) :
  Calls prog 37 #[.pointer (some ⟨pb,0,none⟩)] w fun e w'=>e=.returned (tkA (hdS en ts))∧Below w.heap.size w w':=by
 obtain ⟨-,-,la,c,ov,hT,hO⟩:=h
 have F0:=hO.ok.sees
 simp only [sees,ah,ac,Nat.reduceAdd] at F0
 obtain ⟨⟨⟨hp0,-⟩,p0,p1,p2,-⟩,-⟩:=F0
 cases ts with
 | nil =>
  have HP:=Lib.hid ((Ok.start w).add (aa pb 0 [.slice la 0 c,.int .i64 (en:Int),ov]) ⟨hp0,p0,p1,p2,trivial⟩)
  clear hO hT p0 p1 p2 hp0
  go_enter func37,ntmps37
  go_upto_region 1 with fail
  have H1:=Lib.hid (HP.out.var w.heap.size 66 [.int .u8 0,.int .i64 0,.string ⟨#[]⟩,.int .i64 0,.int .i64 0,.int .i64 0,.int .i64 0,.int .i64 0] rfl)
  clear HP
  generalize (w.alloc (.cells #[.int .u8 0,.int .i64 0,.string ⟨#[]⟩,.int .i64 0,.int .i64 0,.int .i64 0,.int .i64 0,.int .i64 0] 66))=W2 at H1 ⊢
  have F3:=sE H1
  go_wp2_with fail
  have hK:=H1.out.get (ah (w.heap.size) 66 [.int .u8 0,.int .i64 0,.string ⟨#[]⟩,.int .i64 0,.int .i64 0,.int .i64 0,.int .i64 0,.int .i64 0]) (by simp)
  have hB:=H1.out.bel
  have hE:=(((((((((show Blk W2 (w.heap.size) 66 _ from hK).set_ 0 (.int .u8 0)).set_ 1 (.int .i64 0)).set_ 2 (.string ⟨#[]⟩)).set_ 3 (.int .i64 0)).set_ 4 (.int .i64 0)).set_ 5 (.int .i64 0)).set_ 6 (.int .i64 0)).set_ 7 (.int .i64 (en:Int)))
  refine bodyPost_ret (v:=.agg #[.int .u8 0,.int .i64 0,.string ⟨#[]⟩,.int .i64 0,.int .i64 0,.int .i64 0,.int .i64 0,.int .i64 (en:Int)]) (by simp [results,results37,go_sem,hE.cell]) rfl ⟨rfl,(sC (sC (sC (sC (sC (sC (sC (sC hB _) _) _) _) _) _) _) _)⟩
 | cons t ts =>
  obtain ⟨tk,tn,tt,⟨t1,t2,t3,t4⟩,ta⟩:=t
  obtain ⟨b,o,rfl,hb,hc⟩:=hT.at_ (by simp)
  have hbl:=hO.ok.bel
  have hbw:b<w.heap.size:=Nat.lt_of_lt_of_le hb hbl.size
  have hcw:ag w b o 0 (cg ⟨tk,tn,tt,⟨t1,t2,t3,t4⟩,ta⟩):=by
   have key:∀ j v,(cg ⟨tk,tn,tt,⟨t1,t2,t3,t4⟩,ta⟩)[j]?=some v→w.cell? ⟨b,o+j,none⟩=some v:=by
    intro j v hj
    have h9:=hc 0 _ rfl j v hj
    rw [Nat.zero_mul,Nat.zero_add] at h9
    exact (hbl.cell hb).trans h9
   exact ⟨key 0 _ rfl,key 1 _ rfl,key 2 _ rfl,key 3 _ rfl,key 4 _ rfl,key 5 _ rfl,key 6 _ rfl,key 7 _ rfl,trivial⟩
  have HP:=Lib.hid (((Ok.start w).add (aa pb 0 [.slice (some ⟨b,o,none⟩) (ts.length+1) c,.int .i64 (en:Int),ov]) ⟨hp0,p0,p1,p2,trivial⟩).add (aa b o (cg ⟨tk,tn,tt,⟨t1,t2,t3,t4⟩,ta⟩)) ⟨hbw,hcw⟩)
  clear hO hT p0 p1 p2 hp0 hc hcw hbw hb hbl
  have HP2:Hid (Ok w [aa b o [.int .u8 tk,.int .i64 tn,.string ⟨tt.toArray⟩,.int .i64 t1,.int .i64 t2,.int .i64 t3,.int .i64 t4,.int .i64 ta],aa pb 0 [.slice (some ⟨b,o,none⟩) (ts.length+1) c,.int .i64 (en:Int),ov]] w):=HP
  clear HP
  go_enter func37,ntmps37
  go_upto_region 1 with fail
  have H1:=Lib.hid (HP2.out.var w.heap.size 66 [.int .u8 0,.int .i64 0,.string ⟨#[]⟩,.int .i64 0,.int .i64 0,.int .i64 0,.int .i64 0,.int .i64 0] rfl)
  clear HP2
  generalize (w.alloc (.cells #[.int .u8 0,.int .i64 0,.string ⟨#[]⟩,.int .i64 0,.int .i64 0,.int .i64 0,.int .i64 0,.int .i64 0] 66))=W2 at H1 ⊢
  have F3:=sE H1
  have hne:¬ ((ts.length:Int)+1=0):=by omega
  go_wp2_with fail
  have hK:=H1.out.get (ah (w.heap.size) 66 [.int .u8 0,.int .i64 0,.string ⟨#[]⟩,.int .i64 0,.int .i64 0,.int .i64 0,.int .i64 0,.int .i64 0]) (by simp)
  have hB:=H1.out.bel
  have hE:=(((((((((show Blk W2 (w.heap.size) 66 _ from hK).set_ 0 (.int .u8 tk)).set_ 1 (.int .i64 tn)).set_ 2 (.string ⟨tt.toArray⟩)).set_ 3 (.int .i64 t1)).set_ 4 (.int .i64 t2)).set_ 5 (.int .i64 t3)).set_ 6 (.int .i64 t4)).set_ 7 (.int .i64 ta))
  refine bodyPost_ret (v:=.agg #[.int .u8 tk,.int .i64 tn,.string ⟨tt.toArray⟩,.int .i64 t1,.int .i64 t2,.int .i64 t3,.int .i64 t4,.int .i64 ta]) (by simp [results,results37,go_sem,hE.cell]) rfl ⟨rfl,(sC (sC (sC (sC (sC (sC (sC (sC hB _) _) _) _) _) _) _) _)⟩
theorem bT (w1:World) (ps:List aZ) (pb en:Nat) (t:Tk) (ts:List Tk) (ns:List Nd) (w:World) (h:St w1 ps pb en (t::ts) ns w) :
  Calls prog 114 #[.pointer (some ⟨pb,0,none⟩)] w (sH (.tuple #[]) w1 ps pb en ts ns):=by
 obtain ⟨h1,h2,la,c,ov,hT,hO⟩:=h
 have F0:=hO.ok.sees
 simp only [sees,ah,ac,Nat.reduceAdd] at F0
 obtain ⟨⟨⟨hp0,hpf⟩,p0,p1,p2,-⟩,-⟩:=F0
 obtain ⟨b,o,rfl,hb,hc⟩:=hT.at_ (by simp)
 have hle:=hT.le
 have hcap:=hT.cap
 simp only [List.length_cons] at hle p0
 have HO:=Lib.hid hO
 have HT:=keep hT
 have H2:=keep h2
 clear hO hT h2 hc
 by_cases hc1:c=1
 ·subst hc1
  obtain rfl:ts=[]:=List.length_eq_zero_iff.1 (by omega)
  go_enter func114,ntmps114
  go_wp2_with fail
  first
   | go_end0
   | refine bodyPost_ret (results_none rfl _ _ _) rfl ?_
  exact ⟨rfl,h1,H2.out,_,0,ov,jl.last _ _,HO.out.set_ (i:=0) h1 H2.out⟩
 have hc2:1<c:=by omega
 have hc3:¬ 1=c:=by omega
 have HN:=keep (jl.next HT.out)
 clear hc1
 go_enter func114,ntmps114
 go_wp2_with fail
 first
  | go_end0
  | refine bodyPost_ret (results_none rfl _ _ _) rfl ?_
 exact ⟨rfl,h1,H2.out,_,c - 1,ov,HN.out,HO.out.set_ (i:=0) h1 H2.out⟩
set_option maxRecDepth 100000
set_option maxHeartbeats 2000000
section
open Go.RowKit Go.Proofs.Tryz
end
section
open Go.RowKit Go.Proofs.Tryz
def qk (c:Int):List UInt8:=if 1≤c∧c≤7 then bJ[c.toNat]?.getD [] else []
theorem gd (w:World) :
  Calls prog 64 #[.int .i64 7] w fun e w'=>e=.returned (.agg #[.int .u8 4,.int .i64 7,.string ⟨#[]⟩])∧Below w.heap.size w w':=by
 go_enter func64,ntmps64
 have H0:=Lib.hid (Ok.start w)
 go_upto_region 1 with fail
 have H1:=Lib.hid (H0.out.var w.heap.size 23 [.int .u8 0,.int .i64 0,.string ⟨#[]⟩] rfl)
 clear H0
 generalize (w.alloc (.cells #[.int .u8 0,.int .i64 0,.string ⟨#[]⟩] 23))=W2 at H1 ⊢
 have F3:=sE H1
 go_wp2_with fail
 have hK:=H1.out.get (ah (w.heap.size) 23 [.int .u8 0,.int .i64 0,.string ⟨#[]⟩]) (by simp)
 have hB:=H1.out.bel
 have hE:=((((show Blk W2 (w.heap.size) 23 _ from hK).set_ 0 (.int .u8 4)).set_ 1 (.int .i64 7)).set_ 2 (.string ⟨#[]⟩))
 exact bodyPost_ret (v:=.agg #[.int .u8 4,.int .i64 7,.string ⟨#[]⟩]) (by simp [results,results64,go_sem,hE.cell]) rfl ⟨rfl,(sC (sC (sC hB _) _) _)⟩
theorem mZ (c:Int) (w:World) :
  Calls prog 65 #[.int .i64 c] w fun e w'=>e=.returned (.string ⟨(qk c).toArray⟩)∧w'=w:=by
 rcases (show c=1∨c=2∨c=3∨c=4∨c=5∨c=6∨c=7∨¬ (1≤c∧c≤7) by omega) with rfl | rfl | rfl | rfl | rfl | rfl | rfl | h
 iterate 7
  ·go_enter func65,ntmps65
   go_wp2_with fail
   go_ret
   exact ⟨rfl,rfl⟩
 ·have HE:=keep (show qk c=[] from if_neg h)
  have h1:(c == 1)=false:=by simp; omega
  have h2:(c == 2)=false:=by simp; omega
  have h3:(c == 3)=false:=by simp; omega
  have h4:(c == 4)=false:=by simp; omega
  have h5:(c == 5)=false:=by simp; omega
  have h6:(c == 6)=false:=by simp; omega
  have h7:(c == 7)=false:=by simp; omega
  clear h
  go_enter func65,ntmps65
  go_wp2_with fail
  go_ret
  exact ⟨by rw [HE.out]; rfl,rfl⟩
theorem kX (c:Int) (w:World) :
  Calls prog 60 #[.agg #[.int .u8 4,.int .i64 c,.string ⟨#[]⟩]] w fun e w'=>e=.returned (.int .i64 (if 1≤c∧c≤6 then 0 else 2))∧Below w.heap.size w w':=by
 have hb:=(Below.refl w.heap.size w).alloc (Nat.le_refl _) (.cells #[.int .u8 4,.int .i64 c,.string ⟨#[]⟩] 23)
 have HB:=Lib.hid hb
 clear hb
 by_cases h1:1≤c
 ·by_cases h6:c≤6
  ·have HE:=keep (show (if 1≤c∧c≤6 then (0:Int) else 2)=0 from if_pos ⟨h1,h6⟩)
   rw [HE.out]
   go_enter func60,ntmps60
   go_wp2_with fail
   go_ret
   exact ⟨rfl,HB.out⟩
  have HE:=keep (show (if 1≤c∧c≤6 then (0:Int) else 2)=2 from if_neg (fun h=>h6 h.2))
  rw [HE.out]
  go_enter func60,ntmps60
  go_wp2_with fail
  go_ret
  exact ⟨rfl,HB.out⟩
 have HE:=keep (show (if 1≤c∧c≤6 then (0:Int) else 2)=2 from if_neg (fun h=>h1 h.1))
 rw [HE.out]
 go_enter func60,ntmps60
 go_wp2_with fail
 go_ret
 exact ⟨rfl,HB.out⟩
theorem tS (c:Int) (w:World) :
  Calls prog 33 #[.agg #[.int .u8 4,.int .i64 c,.string ⟨#[]⟩]] w fun e w'=>e=.returned (.string ⟨(qk c).toArray⟩)∧Below w.heap.size w w':=by
 by_cases h7:c=7
 ·subst h7
  have H1:=Lib.hid ((Ok.start w).alloc w.heap.size 23 [.int .u8 4,.int .i64 7,.string ⟨#[]⟩] rfl)
  go_enter func33,ntmps33
  go_wp2_with fail
  generalize (w.alloc (.cells #[.int .u8 4,.int .i64 7,.string ⟨#[]⟩] 23))=W2 at H1 ⊢
  refine wp_region_held_drew (S:=fun W=>Ok w [af (w.heap.size) 23 [.int .u8 4,.int .i64 7,.string ⟨#[]⟩]] W) (by kernel_rfl) H1.out.drew (fun hHeld => ?_)
  refine wt3 0 ?_
  refine wal 1 fun K hK => ?_
  go_simp
  refine (gd _).mono ?_
  rintro e w4 ⟨rfl,hb5⟩
  go_wp2_with fail
  refine hK.out _ _ (hHeld.below hb5) (fun hHeld => ?_)
  clear hK K
  refine wn ?_
  refine wt3 2 ?_
  refine wpAnyH_done (by kernel_rfl) ?_ _
  clear H1
  have H6:=Lib.hid hHeld
  clear hHeld
  have F7:=sE H6
  go_wp2_with fail
  refine (mZ 7 _).mono ?_
  rintro e wz9 ⟨rfl,hw9⟩
  obtain rfl:w4=wz9:=hw9.symm
  go_wp2_with fail
  go_ret
  exact ⟨rfl,H6.out.bel⟩
 have h7b:(c == 7)=false:=by simpa using h7
 have H7:=keep h7
 clear h7
 by_cases h16:1≤c∧c≤6
 ·have HC:=keep (show (if 1≤c∧c≤6 then (0:Int) else 2)=0 from if_pos h16)
  clear h16
  have H1:=Lib.hid ((Ok.start w).alloc w.heap.size 23 [.int .u8 4,.int .i64 c,.string ⟨#[]⟩] rfl)
  go_enter func33,ntmps33
  go_wp2_with fail
  generalize (w.alloc (.cells #[.int .u8 4,.int .i64 c,.string ⟨#[]⟩] 23))=W2 at H1 ⊢
  refine wp_region_held_drew (S:=fun W=>Ok w [af (w.heap.size) 23 [.int .u8 4,.int .i64 c,.string ⟨#[]⟩]] W) (by kernel_rfl) H1.out.drew (fun hHeld => ?_)
  refine wt3 0 ?_
  refine wal 1 fun K hK => ?_
  go_simp
  refine (gd _).mono ?_
  rintro e w4 ⟨rfl,hb5⟩
  go_wp2_with fail
  refine hK.out _ _ (hHeld.below hb5) (fun hHeld => ?_)
  clear hK K
  refine wn ?_
  refine wt3 2 ?_
  refine wpAnyH_done (by kernel_rfl) ?_ _
  clear H1
  have H6:=Lib.hid hHeld
  clear hHeld
  have F7:=sE H6
  go_wp2_with fail
  refine cM (kX c _) H6 fun w8 H10=>?_
  rw [HC.out]
  clear F7 H6
  have F11:=sE H10
  go_wp2_with fail
  refine (mZ c _).mono ?_
  rintro e wz9 ⟨rfl,hw9⟩
  obtain rfl:w8=wz9:=hw9.symm
  go_wp2_with fail
  go_ret
  exact ⟨rfl,H10.out.bel⟩
 have HC:=keep (show (if 1≤c∧c≤6 then (0:Int) else 2)=2 from if_neg h16)
 have HE:=keep (show qk c=[] from if_neg (by have:=H7.out; omega))
 clear h16
 have H1:=Lib.hid ((Ok.start w).alloc w.heap.size 23 [.int .u8 4,.int .i64 c,.string ⟨#[]⟩] rfl)
 go_enter func33,ntmps33
 go_wp2_with fail
 generalize (w.alloc (.cells #[.int .u8 4,.int .i64 c,.string ⟨#[]⟩] 23))=W2 at H1 ⊢
 refine wp_region_held_drew (S:=fun W=>Ok w [af (w.heap.size) 23 [.int .u8 4,.int .i64 c,.string ⟨#[]⟩]] W) (by kernel_rfl) H1.out.drew (fun hHeld => ?_)
 refine wt3 0 ?_
 refine wal 1 fun K hK => ?_
 go_simp
 refine (gd _).mono ?_
 rintro e w4 ⟨rfl,hb5⟩
 go_wp2_with fail
 refine hK.out _ _ (hHeld.below hb5) (fun hHeld => ?_)
 clear hK K
 refine wn ?_
 refine wt3 2 ?_
 refine wpAnyH_done (by kernel_rfl) ?_ _
 clear H1
 have H6:=Lib.hid hHeld
 clear hHeld
 have F7:=sE H6
 go_wp2_with fail
 refine cM (kX c _) H6 fun w8 H10=>?_
 rw [HC.out]
 clear F7 H6
 have F11:=sE H10
 go_wp2_with fail
 go_ret
 exact ⟨by rw [HE.out]; rfl,H10.out.bel⟩
theorem mF (c:Int) (w:World) :
  Calls prog 85 #[.int .i64 c] w fun e w'=>e=.returned (.string ⟨(dS c).toArray⟩)∧w'=w:=by
 rcases (show c=1∨c=2∨c=3∨c=4∨c=5∨c=6∨c=7∨c=8∨c=9∨c=10∨c=11∨c=12∨c=13∨¬ (1≤c∧c≤13) by omega) with rfl | rfl | rfl | rfl | rfl | rfl | rfl | rfl | rfl | rfl | rfl | rfl | rfl | h
 iterate 13
  ·go_enter func85,ntmps85
   go_wp2_with fail
   go_ret
   exact ⟨rfl,rfl⟩
 ·have HE:=keep (show dS c=[] by unfold dS; rw [if_neg (by omega),if_neg (by omega),if_neg (by omega),if_neg (by omega),if_neg (by omega),if_neg (by omega),if_neg (by omega),if_neg (by omega),if_neg (by omega),if_neg (by omega),if_neg (by omega),if_neg (by omega),if_neg (by omega)])
  have h1:(c == 1)=false:=by simp; omega
  have h2:(c == 2)=false:=by simp; omega
  have h3:(c == 3)=false:=by simp; omega
  have h4:(c == 4)=false:=by simp; omega
  have h5:(c == 5)=false:=by simp; omega
  have h6:(c == 6)=false:=by simp; omega
  have h7:(c == 7)=false:=by simp; omega
  have h8:(c == 8)=false:=by simp; omega
  have h9:(c == 9)=false:=by simp; omega
  have h10:(c == 10)=false:=by simp; omega
  have h11:(c == 11)=false:=by simp; omega
  have h12:(c == 12)=false:=by simp; omega
  have h13:(c == 13)=false:=by simp; omega
  clear h
  go_enter func85,ntmps85
  go_wp2_with fail
  go_ret
  exact ⟨by rw [HE.out]; rfl,rfl⟩
end
section
open Go.RowKit Go.Proofs.Tryz
end
section
open Go.RowKit Go.Proofs.Tryz
end
