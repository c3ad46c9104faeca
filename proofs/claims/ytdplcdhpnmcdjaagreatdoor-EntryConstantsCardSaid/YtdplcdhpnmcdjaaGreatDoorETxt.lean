/- louvreref08.Literal at any value. show.text and its closure. The reference's text of a literal, at any value. The reference's values: Truth, Make, Fail, Show of blanks and texts, Code (louvreref05). -/
import Derived.Test.YtdplcdhpnmcdjaaGreatDoorERvk
import Derived.Test.YtdplcdhpnmcdjaaGreatDoorELit
import Derived.Test.YtdplcdhpnmcdjaaGreatDoorETg
import Derived.Test.YtdplcdhpnmcdjaaGreatDoorEForB
import Derived.Test.YtdplcdhpnmcdjaaGreatDoorEDpV
import Derived.Test.YtdplcdhpnmcdjaaGreatDoorEEvb
namespace Go.Proofs.YtdplcdhpnmcdjaaGreatDoor
open Go.RowKit
set_option maxRecDepth 100000
set_option maxHeartbeats 4000000
open Go.RowKit Go.Proofs.Tryz
theorem qX {w:World} {b o:Nat} (l:List Value) (h:∀ j v,l[j]?=some v→w.cell? ⟨b,o+j,none⟩=some v):ag w b o 0 l:=by
 have key:∀ (m:List Value) (k:Nat),(∀ j v,m[j]?=some v→w.cell? ⟨b,o+(k+j),none⟩=some v)→ag w b o k m:=by
  intro m
  induction m with
  | nil=>intro _ _; exact trivial
  | cons x m ih =>
   intro k hk
   refine ⟨by have:=hk 0 x rfl; rwa [Nat.add_zero] at this,ih (k+1) fun j v hj => ?_⟩
   have:=hk (j+1) v hj
   rwa [show k+(j+1)=k+1+j by omega] at this
 exact key l 0 fun j v hj=>by rw [Nat.zero_add]; exact h j v hj
theorem vo (p q tb tz tl tc kb kn kc k j nk vk:Nat) (vn:Int) (vt:List UInt8) (r1 r2 r3 r4 op:Int) (fn nn:Nat) (least S:Int) (X R:ByteArray) (w:World) (ps:List aS)
  (hok:Ok w (ae p 0 [.slice (some ⟨tb,tz,none⟩) tl tc]::ae q 0 [.slice (some ⟨kb,0,none⟩) kn kc]::ae kb k [.int .i64 (j:Nat)]::ae tb (tz+j * 11) [.int .u8 nk,.int .u8 vk,.int .i64 vn,.string ⟨vt.toArray⟩,.int .i64 r1,.int .i64 r2,.int .i64 r3,.int .i64 r4,.int .i64 op,.int .u8 fn,.int .i64 nn]::ps) w)
  (hk:k<kn) (hj:j<tl) (hX:X.size≤1000000000) (hR:R=⟨#[40]⟩++X++⟨#[41]⟩)
  (HIH:ao (∀ w2,Below w.heap.size w w2→Calls prog 25 #[.slice (some ⟨tb,tz,none⟩) tl tc,.int .i64 (j:Nat)] w2 fun e w'=>e=.returned (.string X)∧Below w2.heap.size w2 w'))
  (HST:ao (∀ w2,Calls prog 51 #[.agg #[.int .u8 nk,.int .u8 vk,.int .i64 vn,.string ⟨vt.toArray⟩,.int .i64 r1,.int .i64 r2,.int .i64 r3,.int .i64 r4,.int .i64 op,.int .u8 fn,.int .i64 nn]] w2 fun e w'=>e=.returned (.int .i64 S)∧Below w2.heap.size w2 w')) (hlt:S<least) :
  Calls prog 50 #[.int .i64 (k:Nat),.int .i64 least,.pointer (some ⟨p,0,none⟩),.pointer (some ⟨q,0,none⟩)] w fun e w'=>e=.returned (.string R)∧Below w.heap.size w w':=by
 have H1:Hid (Ok w [ae p 0 [.slice (some ⟨tb,tz,none⟩) tl tc],ae q 0 [.slice (some ⟨kb,0,none⟩) kn kc],ae kb k [.int .i64 (j:Nat)],ae tb (tz+j * 11) [.int .u8 nk,.int .u8 vk,.int .i64 vn,.string ⟨vt.toArray⟩,.int .i64 r1,.int .i64 r2,.int .i64 r3,.int .i64 r4,.int .i64 op,.int .u8 fn,.int .i64 nn]] w):=Lib.hid (hok.drop _ (by
  intro x hx
  simp only [List.mem_cons,List.not_mem_nil,or_false] at hx ⊢
  rcases hx with h | h | h | h <;> simp [h]))
 clear hok
 have HR:=keep hR
 clear hR
 have hki:(k:Int)<(kn:Int):=by omega
 have hji:(j:Int)<(tl:Int):=by omega
 go_enter func50,ntmps50
 go_upto_region 1 with fail
 refine wp_region_held_drew (S:=fun W=>Ok w [ae p 0 [.slice (some ⟨tb,tz,none⟩) tl tc],ae q 0 [.slice (some ⟨kb,0,none⟩) kn kc],ae kb k [.int .i64 (j:Nat)],ae tb (tz+j * 11) [.int .u8 nk,.int .u8 vk,.int .i64 vn,.string ⟨vt.toArray⟩,.int .i64 r1,.int .i64 r2,.int .i64 r3,.int .i64 r4,.int .i64 op,.int .u8 fn,.int .i64 nn]] W) (by kernel_rfl) H1.out.drew (fun hHeld => ?_)
 refine wt3 0 ?_
 refine wt3 1 ?_
 refine wt3 2 ?_
 refine wt3 3 ?_
 refine wt3 4 ?_
 refine wal 5 fun K hK => ?_
 go_simp
 refine (HIH.out _ hHeld.bel).mono ?_
 rintro e w2 ⟨rfl,hb3⟩
 go_wp2_with fail
 refine hK.out _ _ (hHeld.below hb3) (fun hHeld => ?_)
 clear hK K
 refine wn ?_
 refine wt3 6 ?_
 refine wpAnyH_done (by kernel_rfl) ?_ _
 clear H1
 have H4:=Lib.hid hHeld
 clear hHeld
 have F5:=sE H4
 go_upto_region 2 with fail
 refine wp_region_held_drew (S:=fun W=>Ok w [ae p 0 [.slice (some ⟨tb,tz,none⟩) tl tc],ae q 0 [.slice (some ⟨kb,0,none⟩) kn kc],ae kb k [.int .i64 (j:Nat)],ae tb (tz+j * 11) [.int .u8 nk,.int .u8 vk,.int .i64 vn,.string ⟨vt.toArray⟩,.int .i64 r1,.int .i64 r2,.int .i64 r3,.int .i64 r4,.int .i64 op,.int .u8 fn,.int .i64 nn]] W) (by kernel_rfl) H4.out.drew (fun hHeld => ?_)
 refine wt3 0 ?_
 refine wt3 1 ?_
 refine wt3 2 ?_
 refine wt3 3 ?_
 refine wt3 4 ?_
 refine wt3 5 ?_
 refine wt3 6 ?_
 refine wt3 8 ?_
 refine wal 7 fun K hK => ?_
 go_simp
 refine (HST.out _).mono ?_
 rintro e w7 ⟨rfl,hb8⟩
 go_wp2_with fail
 refine hK.out _ _ (hHeld.below hb8) (fun hHeld => ?_)
 clear hK K
 refine wn ?_
 refine wt3 9 ?_
 refine wpAnyH_done (by kernel_rfl) ?_ _
 clear F5
 clear H4
 have H9:=Lib.hid hHeld
 clear hHeld
 have F10:=sE H9
 go_wp2_with fail
 go_ret
 exact ⟨by rw [HR.out]; rfl,H9.out.bel⟩
theorem vm (p q tb tz tl tc kb kn kc k j nk vk:Nat) (vn:Int) (vt:List UInt8) (r1 r2 r3 r4 op:Int) (fn nn:Nat) (least S:Int) (X R:ByteArray) (w:World) (ps:List aS)
  (hok:Ok w (ae p 0 [.slice (some ⟨tb,tz,none⟩) tl tc]::ae q 0 [.slice (some ⟨kb,0,none⟩) kn kc]::ae kb k [.int .i64 (j:Nat)]::ae tb (tz+j * 11) [.int .u8 nk,.int .u8 vk,.int .i64 vn,.string ⟨vt.toArray⟩,.int .i64 r1,.int .i64 r2,.int .i64 r3,.int .i64 r4,.int .i64 op,.int .u8 fn,.int .i64 nn]::ps) w)
  (hk:k<kn) (hj:j<tl) (hR:R=X)
  (HIH:ao (∀ w2,Below w.heap.size w w2→Calls prog 25 #[.slice (some ⟨tb,tz,none⟩) tl tc,.int .i64 (j:Nat)] w2 fun e w'=>e=.returned (.string X)∧Below w2.heap.size w2 w'))
  (HST:ao (∀ w2,Calls prog 51 #[.agg #[.int .u8 nk,.int .u8 vk,.int .i64 vn,.string ⟨vt.toArray⟩,.int .i64 r1,.int .i64 r2,.int .i64 r3,.int .i64 r4,.int .i64 op,.int .u8 fn,.int .i64 nn]] w2 fun e w'=>e=.returned (.int .i64 S)∧Below w2.heap.size w2 w')) (hlt:¬ S<least) :
  Calls prog 50 #[.int .i64 (k:Nat),.int .i64 least,.pointer (some ⟨p,0,none⟩),.pointer (some ⟨q,0,none⟩)] w fun e w'=>e=.returned (.string R)∧Below w.heap.size w w':=by
 have H1:Hid (Ok w [ae p 0 [.slice (some ⟨tb,tz,none⟩) tl tc],ae q 0 [.slice (some ⟨kb,0,none⟩) kn kc],ae kb k [.int .i64 (j:Nat)],ae tb (tz+j * 11) [.int .u8 nk,.int .u8 vk,.int .i64 vn,.string ⟨vt.toArray⟩,.int .i64 r1,.int .i64 r2,.int .i64 r3,.int .i64 r4,.int .i64 op,.int .u8 fn,.int .i64 nn]] w):=Lib.hid (hok.drop _ (by
  intro x hx
  simp only [List.mem_cons,List.not_mem_nil,or_false] at hx ⊢
  rcases hx with h | h | h | h <;> simp [h]))
 clear hok
 have HR:=keep hR
 clear hR
 have hki:(k:Int)<(kn:Int):=by omega
 have hji:(j:Int)<(tl:Int):=by omega
 go_enter func50,ntmps50
 go_upto_region 1 with fail
 refine wp_region_held_drew (S:=fun W=>Ok w [ae p 0 [.slice (some ⟨tb,tz,none⟩) tl tc],ae q 0 [.slice (some ⟨kb,0,none⟩) kn kc],ae kb k [.int .i64 (j:Nat)],ae tb (tz+j * 11) [.int .u8 nk,.int .u8 vk,.int .i64 vn,.string ⟨vt.toArray⟩,.int .i64 r1,.int .i64 r2,.int .i64 r3,.int .i64 r4,.int .i64 op,.int .u8 fn,.int .i64 nn]] W) (by kernel_rfl) H1.out.drew (fun hHeld => ?_)
 refine wt3 0 ?_
 refine wt3 1 ?_
 refine wt3 2 ?_
 refine wt3 3 ?_
 refine wt3 4 ?_
 refine wal 5 fun K hK => ?_
 go_simp
 refine (HIH.out _ hHeld.bel).mono ?_
 rintro e w2 ⟨rfl,hb3⟩
 go_wp2_with fail
 refine hK.out _ _ (hHeld.below hb3) (fun hHeld => ?_)
 clear hK K
 refine wn ?_
 refine wt3 6 ?_
 refine wpAnyH_done (by kernel_rfl) ?_ _
 clear H1
 have H4:=Lib.hid hHeld
 clear hHeld
 have F5:=sE H4
 go_upto_region 2 with fail
 refine wp_region_held_drew (S:=fun W=>Ok w [ae p 0 [.slice (some ⟨tb,tz,none⟩) tl tc],ae q 0 [.slice (some ⟨kb,0,none⟩) kn kc],ae kb k [.int .i64 (j:Nat)],ae tb (tz+j * 11) [.int .u8 nk,.int .u8 vk,.int .i64 vn,.string ⟨vt.toArray⟩,.int .i64 r1,.int .i64 r2,.int .i64 r3,.int .i64 r4,.int .i64 op,.int .u8 fn,.int .i64 nn]] W) (by kernel_rfl) H4.out.drew (fun hHeld => ?_)
 refine wt3 0 ?_
 refine wt3 1 ?_
 refine wt3 2 ?_
 refine wt3 3 ?_
 refine wt3 4 ?_
 refine wt3 5 ?_
 refine wt3 6 ?_
 refine wt3 8 ?_
 refine wal 7 fun K hK => ?_
 go_simp
 refine (HST.out _).mono ?_
 rintro e w7 ⟨rfl,hb8⟩
 go_wp2_with fail
 refine hK.out _ _ (hHeld.below hb8) (fun hHeld => ?_)
 clear hK K
 refine wn ?_
 refine wt3 9 ?_
 refine wpAnyH_done (by kernel_rfl) ?_ _
 clear F5
 clear H4
 have H9:=Lib.hid hHeld
 clear hHeld
 have F10:=sE H9
 go_wp2_with fail
 go_ret
 exact ⟨by rw [HR.out]; rfl,H9.out.bel⟩
structure f9 (t:List Nd):Prop where
 good:∀ n∈t,aL n∧n.vn≤9223372036854775807
 chk:aI (t.map Nd.any)=0
 len:t.length≤256
 kids:∀ k n,t[k]?=some n→(ai t k).length=aw n
structure TIn (t:List Nd) (tb tz:Nat) (w:World):Prop where
 rows:bi w (some ⟨tb,tz,none⟩) 11 (t.map du)
 env:dm w
theorem TIn.below {t:List Nd} {tb tz:Nat} {w w':World} (h:TIn t tb tz w) (hb:Below w.heap.size w w'):TIn t tb tz w':=⟨h.rows.below hb,h.env.below hb⟩
def eH (t:List Nd) (tb tz tc i:Nat):Prop:=∀ w,TIn t tb tz w →
 Calls prog 25 #[.slice (some ⟨tb,tz,none⟩) t.length tc,.int .i64 (i:Nat)] w fun e w'=>e=.returned (.string ⟨(aR t i).1.toArray⟩)∧Below w.heap.size w w'
theorem TIn.node {t:List Nd} {tb tz:Nat} {w:World} (h:TIn t tb tz w) {i:Nat} {n:Nd} (hn:t[i]?=some n):tb<w.heap.size∧ag w tb (tz+i * 11) 0 (du n):=by
 obtain ⟨b,o,hbo,hlt,hc⟩:=h.rows (by intro e; have h9:=congrArg List.length e; rw [List.length_map] at h9; have:=(List.getElem?_eq_some_iff.1 hn).1; simp only [List.length_nil] at h9; omega)
 simp only [Option.some.injEq,Addr.mk.injEq,and_true] at hbo
 obtain ⟨rfl,rfl⟩:=hbo
 refine ⟨hlt,qX _ fun j v hj => ?_⟩
 have:=hc i (du n) (by rw [List.getElem?_map,hn]; rfl) j v hj
 rwa [← Nat.add_assoc] at this
theorem rO (x:Tx):opT 0 x=x.1:=if_pos (Nat.zero_le _)
theorem vN {t:List Nd} {tb tz tc i k l p q B:Nat} {kv:Value} {W:World} (hc:f9 t) (hi:i<t.length) (IH:∀ j,j<i→eH t tb tz tc j) (hin:TIn t tb tz W) (hp:Blk W p 22 #[.slice (some ⟨tb,tz,none⟩) t.length tc]) (hq:Blk W q 57 #[kv])
  (hrow:W.ownsRow B 3 1 kv (ai t i).length ((ai t i).map fun x=>.int .i64 (x:Nat))) (hk:k<(ai t i).length) :
  Calls prog 50 #[.int .i64 (k:Nat),.int .i64 (l:Nat),.pointer (some ⟨p,0,none⟩),.pointer (some ⟨q,0,none⟩)] W fun e w'=>e=.returned (.string ⟨(opT l (aR t (ai t i)[k])).toArray⟩)∧Below W.heap.size W w':=by
 obtain ⟨j,hj⟩:=ex ((ai t i)[k])
 rw [hj]
 have hji:j<i:=eK t i j (by rw [← hj]; exact List.getElem_mem _)
 obtain ⟨n,hn⟩:∃ n,t[j]?=some n:=⟨_,List.getElem?_eq_getElem (by omega)⟩
 have hg:=hc.good n (List.mem_of_getElem? hn)
 obtain ⟨h1,h2⟩:=hin.node hn
 have hcell:=@World.ownsRow.cells _ _ _ _ _ _ _ hrow
 rcases hrow.2 with ⟨rfl,h0⟩ | ⟨g,cap,cur,rfl,h4,h5,h6,h7,h8,h9⟩
 ·omega
 have hkc:=hcell rfl k (.int .i64 (j:Nat)) (by rw [List.getElem?_map,List.getElem?_eq_getElem hk,hj]; rfl)
 rw [show (⟨g,0,none⟩:Addr).add k=⟨g,0+k,none⟩ by unfold Addr.add; split <;> simp_all,Nat.zero_add] at hkc
 have hglt:=(hrow.lt g rfl).2
 have hstr:(aR t j).2=kp n:=by
  rw [j8 hn]
  refine vj n _ ?_
  rcases hg.1 with ⟨_,_,_,rfl,_⟩ | ⟨_,rfl,_⟩ | ⟨_,rfl,_⟩ | rfl | rfl | ⟨_,rfl,_⟩ | ⟨_,_,rfl,_⟩ <;> simp [eu,cj,fz,dt,cN,da]
 obtain ⟨nk,vk,vn,vt,⟨r1,r2,r3,r4⟩,op,fn,nn⟩:=n
 have hok:Ok W (ae p 0 [.slice (some ⟨tb,tz,none⟩) t.length tc]::ae q 0 [.slice (some ⟨g,0,none⟩) (ai t i).length cap]::ae g k [.int .i64 (j:Nat)]::ae tb (tz+j * 11) [.int .u8 nk,.int .u8 vk,.int .i64 vn,.string ⟨vt.toArray⟩,.int .i64 r1,.int .i64 r2,.int .i64 r3,.int .i64 r4,.int .i64 op,.int .u8 fn,.int .i64 nn]::[]) W:=by
  refine ((((Ok.start W).add (ae tb (tz+j * 11) [.int .u8 nk,.int .u8 vk,.int .i64 vn,.string ⟨vt.toArray⟩,.int .i64 r1,.int .i64 r2,.int .i64 r3,.int .i64 r4,.int .i64 op,.int .u8 fn,.int .i64 nn]) ⟨h1,h2⟩).add (ae g k [.int .i64 (j:Nat)]) ⟨hglt,hkc,trivial⟩).add (ae q 0 [.slice (some ⟨g,0,none⟩) (ai t i).length cap]) ⟨hq.lt,?_,trivial⟩).add (ae p 0 [.slice (some ⟨tb,tz,none⟩) t.length tc]) ⟨hp.lt,?_,trivial⟩
  ·exact hq.cell 0
  exact hp.cell 0
 have hih:ao (∀ w2,Below W.heap.size W w2→Calls prog 25 #[.slice (some ⟨tb,tz,none⟩) t.length tc,.int .i64 (j:Nat)] w2 fun e w'=>e=.returned (.string ⟨(aR t j).1.toArray⟩)∧Below w2.heap.size w2 w'):=keep fun w2 hb=>IH j hji w2 (hin.below hb)
 have hst:ao (∀ w2,Calls prog 51 #[.agg #[.int .u8 nk,.int .u8 vk,.int .i64 vn,.string ⟨vt.toArray⟩,.int .i64 r1,.int .i64 r2,.int .i64 r3,.int .i64 r4,.int .i64 op,.int .u8 fn,.int .i64 nn]] w2 fun e w'=>e=.returned (.int .i64 (kp ⟨nk,vk,vn,vt,⟨r1,r2,r3,r4⟩,op,fn,nn⟩:Nat))∧Below w2.heap.size w2 w'):=keep fun w2=>ea ⟨nk,vk,vn,vt,⟨r1,r2,r3,r4⟩,op,fn,nn⟩ hg.1 w2
 by_cases hlt:l≤(aR t j).2
 ·refine vm p q tb tz t.length tc g (ai t i).length cap k j nk vk vn vt r1 r2 r3 r4 op fn nn (l:Nat) _ _ _ W [] hok hk (by omega) ?_ hih hst (by rw [hstr] at hlt; omega)
  unfold opT
  rw [if_pos hlt]
 refine vo p q tb tz t.length tc g (ai t i).length cap k j nk vk vn vt r1 r2 r3 r4 op fn nn (l:Nat) _ _ _ W [] hok hk (by omega) ?_ ?_ hih hst (by rw [hstr] at hlt; omega)
 ·have:=oD t hc.good j (by omega)
  have:=hc.len
  show (aR t j).1.toArray.size≤_
  rw [List.size_toArray]
  omega
 unfold opT
 rw [if_neg hlt]
 show _=(⟨[40].toArray⟩:ByteArray)++⟨(aR t j).1.toArray⟩++⟨[41].toArray⟩
 rw [bytes_append,bytes_append]
 simp
set_option maxRecDepth 100000
set_option maxHeartbeats 8000000
theorem mP (w:World) :
  Calls prog 79 #[.bool true] w fun e w'=>e=.returned (.agg #[.int .u8 2,.int .i64 1,.string ⟨#[]⟩])∧Below w.heap.size w w':=by
 have H0:=Lib.hid (Ok.start w)
 go_enter func79,ntmps79
 go_upto_region 1 with fail
 have H1:=Lib.hid (H0.out.var w.heap.size 35 [.int .u8 0,.int .i64 0,.string ⟨#[]⟩] rfl)
 clear H0
 generalize (w.alloc (.cells #[.int .u8 0,.int .i64 0,.string ⟨#[]⟩] 35))=W2 at H1 ⊢
 have F1:=sE H1
 go_wp2_with fail
 have hK:=H1.out.get (af (w.heap.size) 35 [.int .u8 0,.int .i64 0,.string ⟨#[]⟩]) (by simp)
 have hB:=H1.out.bel
 have hE:=((((show Blk W2 (w.heap.size) 35 _ from hK).set_ 0 (.int .u8 2)).set_ 1 (.int .i64 1)).set_ 2 (.string ⟨#[]⟩))
 exact bodyPost_ret (v:=.agg #[.int .u8 2,.int .i64 1,.string ⟨#[]⟩]) (by simp [results,results79,go_sem,hE.cell]) rfl ⟨rfl,(sC (sC (sC hB _) _) _)⟩
theorem mO (w:World) :
  Calls prog 79 #[.bool false] w fun e w'=>e=.returned (.agg #[.int .u8 2,.int .i64 0,.string ⟨#[]⟩])∧Below w.heap.size w w':=by
 have H0:=Lib.hid (Ok.start w)
 go_enter func79,ntmps79
 go_upto_region 1 with fail
 have H1:=Lib.hid (H0.out.var w.heap.size 35 [.int .u8 0,.int .i64 0,.string ⟨#[]⟩] rfl)
 clear H0
 generalize (w.alloc (.cells #[.int .u8 0,.int .i64 0,.string ⟨#[]⟩] 35))=W2 at H1 ⊢
 have F1:=sE H1
 go_wp2_with fail
 have hK:=H1.out.get (af (w.heap.size) 35 [.int .u8 0,.int .i64 0,.string ⟨#[]⟩]) (by simp)
 have hB:=H1.out.bel
 have hE:=((((show Blk W2 (w.heap.size) 35 _ from hK).set_ 0 (.int .u8 2)).set_ 1 (.int .i64 0)).set_ 2 (.string ⟨#[]⟩))
 exact bodyPost_ret (v:=.agg #[.int .u8 2,.int .i64 0,.string ⟨#[]⟩]) (by simp [results,results79,go_sem,hE.cell]) rfl ⟨rfl,(sC (sC (sC hB _) _) _)⟩
theorem qw (n:Int) (hn : -9223372036854775807≤n) (w:World) :
  Calls prog 82 #[.int .i64 n] w fun e w'=>e=.returned (.agg #[.int .u8 1,.int .i64 n,.string ⟨#[]⟩])∧Below w.heap.size w w':=by
 have H0:=Lib.hid (Ok.start w)
 go_enter func82,ntmps82
 go_upto_region 1 with fail
 have H1:=Lib.hid (H0.out.var w.heap.size 35 [.int .u8 0,.int .i64 0,.string ⟨#[]⟩] rfl)
 clear H0
 generalize (w.alloc (.cells #[.int .u8 0,.int .i64 0,.string ⟨#[]⟩] 35))=W2 at H1 ⊢
 have F1:=sE H1
 go_wp2_with fail
 have hK:=H1.out.get (af (w.heap.size) 35 [.int .u8 0,.int .i64 0,.string ⟨#[]⟩]) (by simp)
 have hB:=H1.out.bel
 have hE:=((((show Blk W2 (w.heap.size) 35 _ from hK).set_ 0 (.int .u8 1)).set_ 1 (.int .i64 n)).set_ 2 (.string ⟨#[]⟩))
 exact bodyPost_ret (v:=.agg #[.int .u8 1,.int .i64 n,.string ⟨#[]⟩]) (by simp [results,results82,go_sem,hE.cell]) rfl ⟨rfl,(sC (sC (sC hB _) _) _)⟩
theorem gC (c:Int) (h1:1≤c) (h7:c≤7) (w:World) :
  Calls prog 41 #[.int .i64 c] w fun e w'=>e=.returned (.agg #[.int .u8 4,.int .i64 c,.string ⟨#[]⟩])∧Below w.heap.size w w':=by
 have H0:=Lib.hid (Ok.start w)
 go_enter func41,ntmps41
 go_upto_region 1 with fail
 have H1:=Lib.hid (H0.out.var w.heap.size 35 [.int .u8 0,.int .i64 0,.string ⟨#[]⟩] rfl)
 clear H0
 generalize (w.alloc (.cells #[.int .u8 0,.int .i64 0,.string ⟨#[]⟩] 35))=W2 at H1 ⊢
 have F1:=sE H1
 go_wp2_with fail
 have hK:=H1.out.get (af (w.heap.size) 35 [.int .u8 0,.int .i64 0,.string ⟨#[]⟩]) (by simp)
 have hB:=H1.out.bel
 have hE:=((((show Blk W2 (w.heap.size) 35 _ from hK).set_ 0 (.int .u8 4)).set_ 1 (.int .i64 c)).set_ 2 (.string ⟨#[]⟩))
 exact bodyPost_ret (v:=.agg #[.int .u8 4,.int .i64 c,.string ⟨#[]⟩]) (by simp [results,results41,go_sem,hE.cell]) rfl ⟨rfl,(sC (sC (sC hB _) _) _)⟩
theorem lF (w:World) :
  Calls prog 77 #[.agg #[.int .u8 0,.int .i64 0,.string ⟨#[]⟩]] w fun e w'=>e=.returned (.agg #[.int .u8 3,.int .i64 0,.string ⟨#[]⟩])∧Below w.heap.size w w':=by
 have H1:=Lib.hid (((Ok.start w).alloc w.heap.size 35 [.int .u8 0,.int .i64 0,.string ⟨#[]⟩] rfl).var (w.heap.size+1) 35 [.int .u8 0,.int .i64 0,.string ⟨#[]⟩] (by simp))
 go_enter func77,ntmps77
 go_wp2_with fail
 generalize ((w.alloc (.cells #[.int .u8 0,.int .i64 0,.string ⟨#[]⟩] 35)).alloc (.cells #[.int .u8 0,.int .i64 0,.string ⟨#[]⟩] 35))=W2 at H1 ⊢
 refine cM (bK 0 0 ⟨#[]⟩ (by decide) (by decide) _) H1 fun w3 H5=>?_
 rw [show bm 0 0 (⟨#[]⟩:ByteArray).data.toList=0 from aF (.inl ⟨rfl,rfl,rfl⟩)]
 clear H1
 have F6:=sE H5
 go_wp2_with fail
 have hK:=H5.out.get (af (w.heap.size+1) 35 [.int .u8 0,.int .i64 0,.string ⟨#[]⟩]) (by simp)
 have hB:=H5.out.bel
 have hE:=((((show Blk w3 (w.heap.size+1) 35 _ from hK).set_ 0 (.int .u8 3)).set_ 1 (.int .i64 0)).set_ 2 (.string ⟨#[]⟩))
 exact bodyPost_ret (v:=.agg #[.int .u8 3,.int .i64 0,.string ⟨#[]⟩]) (by simp [results,results77,go_sem,hE.cell]) rfl ⟨rfl,(sC (sC (sC hB _) _) _)⟩
theorem od (w:World) :
  Calls prog 42 #[.agg #[.int .u8 0,.int .i64 0,.string ⟨#[]⟩]] w fun e w'=>e=.returned (.string ⟨#[]⟩)∧Below w.heap.size w w':=by
 have H1:=Lib.hid ((Ok.start w).alloc w.heap.size 35 [.int .u8 0,.int .i64 0,.string ⟨#[]⟩] rfl)
 go_enter func42,ntmps42
 go_wp2_with fail
 generalize (w.alloc (.cells #[.int .u8 0,.int .i64 0,.string ⟨#[]⟩] 35))=W2 at H1 ⊢
 refine wp_region_held_drew (S:=fun W=>Ok w [ac (w.heap.size) 35 [.int .u8 0,.int .i64 0,.string ⟨#[]⟩]] W) (by kernel_rfl) H1.out.drew (fun hHeld => ?_)
 refine wt3 0 ?_
 refine wal 1 fun K hK => ?_
 go_simp
 refine (cJ _).mono ?_
 rintro e w4 ⟨rfl,hb5⟩
 go_wp2_with fail
 refine hK.out _ _ (hHeld.below hb5) (fun hHeld => ?_)
 clear hK K
 refine wn ?_
 refine wt3 2 ?_
 refine wpAnyH_done (by kernel_rfl) ?_ _
 clear H1
 have H6:=Lib.hid hHeld
 clear hHeld
 have F7:=sE H6
 go_wp2_with fail
 refine cM (bK 0 0 ⟨#[]⟩ (by decide) (by decide) _) H6 fun w8 H10=>?_
 rw [show bm 0 0 (⟨#[]⟩:ByteArray).data.toList=0 from aF (.inl ⟨rfl,rfl,rfl⟩)]
 clear F7 H6
 have F11:=sE H10
 go_wp2_with fail
 refine cM (lF _) H10 fun w12 H14=>?_
 clear F11 H10
 have F15:=sE H14
 have hfi:(Instr.field 35 (.agg #[.int .u8 3,.int .i64 0,.string ⟨#[]⟩]) 2).run prog w12=.ok (.string ⟨#[]⟩) w12:=by kernel_rfl
 go_wp2_with fail
 go_ret
 exact ⟨rfl,H14.out.bel⟩
theorem lG (s:ByteArray) (hs:s.size≤4611686018427387904) (hc:aC s.data.toList=0) (w:World) :
  Calls prog 77 #[.agg #[.int .u8 3,.int .i64 0,.string s]] w fun e w'=>e=.returned (.agg #[.int .u8 3,.int .i64 0,.string s])∧Below w.heap.size w w':=by
 have HS:=Lib.hid hs
 have HC:=keep (show bm 3 0 s.data.toList=0 from aF (.inr (.inr (.inr (.inl ⟨rfl,rfl,hc⟩)))))
 clear hs hc
 have H1:=Lib.hid (((Ok.start w).alloc w.heap.size 35 [.int .u8 3,.int .i64 0,.string s] rfl).var (w.heap.size+1) 35 [.int .u8 0,.int .i64 0,.string ⟨#[]⟩] (by simp))
 go_enter func77,ntmps77
 go_wp2_with fail
 generalize ((w.alloc (.cells #[.int .u8 3,.int .i64 0,.string s] 35)).alloc (.cells #[.int .u8 0,.int .i64 0,.string ⟨#[]⟩] 35))=W2 at H1 ⊢
 refine cM (bK 3 0 s HS.out (by decide) _) H1 fun w3 H5=>?_
 rw [HC.out]
 clear H1
 have F6:=sE H5
 go_wp2_with fail
 have hK:=H5.out.get (af (w.heap.size+1) 35 [.int .u8 0,.int .i64 0,.string ⟨#[]⟩]) (by simp)
 have hB:=H5.out.bel
 have hE:=((((show Blk w3 (w.heap.size+1) 35 _ from hK).set_ 0 (.int .u8 3)).set_ 1 (.int .i64 0)).set_ 2 (.string s))
 exact bodyPost_ret (v:=.agg #[.int .u8 3,.int .i64 0,.string s]) (by simp [results,results77,go_sem,hE.cell]) rfl ⟨rfl,(sC (sC (sC hB _) _) _)⟩
theorem jS (s:ByteArray) (hs:s.size≤4611686018427387904) (hc:aC s.data.toList=0) (w:World) :
  Calls prog 42 #[.agg #[.int .u8 3,.int .i64 0,.string s]] w fun e w'=>e=.returned (.string s)∧Below w.heap.size w w':=by
 have HT:=keep (fun W=>lG s hs hc W)
 have HS:=Lib.hid hs
 have HC:=keep (show bm 3 0 s.data.toList=0 from aF (.inr (.inr (.inr (.inl ⟨rfl,rfl,hc⟩)))))
 clear hs hc
 have H1:=Lib.hid ((Ok.start w).alloc w.heap.size 35 [.int .u8 3,.int .i64 0,.string s] rfl)
 go_enter func42,ntmps42
 go_wp2_with fail
 generalize (w.alloc (.cells #[.int .u8 3,.int .i64 0,.string s] 35))=W2 at H1 ⊢
 refine wp_region_held_drew (S:=fun W=>Ok w [ac (w.heap.size) 35 [.int .u8 3,.int .i64 0,.string s]] W) (by kernel_rfl) H1.out.drew (fun hHeld => ?_)
 refine wt3 0 ?_
 refine wal 1 fun K hK => ?_
 go_simp
 refine (cJ _).mono ?_
 rintro e w4 ⟨rfl,hb5⟩
 go_wp2_with fail
 refine hK.out _ _ (hHeld.below hb5) (fun hHeld => ?_)
 clear hK K
 refine wn ?_
 refine wt3 2 ?_
 refine wpAnyH_done (by kernel_rfl) ?_ _
 clear H1
 have H6:=Lib.hid hHeld
 clear hHeld
 have F7:=sE H6
 go_wp2_with fail
 refine cM (bK 3 0 s HS.out (by decide) _) H6 fun w8 H10=>?_
 rw [HC.out]
 clear F7 H6
 have F11:=sE H10
 go_wp2_with fail
 refine cM (HT.out _) H10 fun w12 H14=>?_
 clear F11 H10
 have F15:=sE H14
 have hfi:(Instr.field 35 (.agg #[.int .u8 3,.int .i64 0,.string s]) 2).run prog w12=.ok (.string s) w12:=by kernel_rfl
 go_wp2_with fail
 go_ret
 exact ⟨rfl,H14.out.bel⟩
theorem oV {k:Nat} (h1:1≤k) (h7:k≤7):i1 (k:Int)=aB[k]?.getD []:=by
 unfold i1
 rw [if_pos ⟨by omega,by omega⟩]; rfl
theorem qv (s:ByteArray) (hs:s.size≤4611686018427387904) (w:World) :
  Calls prog 80 #[.string s] w fun e w'=>e=.returned (.tuple #[.int .i64 (bH s.data.toList:Nat),.int .i64 (iL s.data.toList)])∧Below w.heap.size w w':=by
 have HS:=Lib.hid hs
 obtain ⟨u,hu⟩:=ex (s.data.toList.map upB)
 obtain ⟨c,hc⟩:=ex (bH s.data.toList)
 have HAT:=keep (fun (k:Nat) (h1:1≤k) (h7:k≤7) (h:u=i1 (k:Int))=>(oO h1 h7 (hu.trans (h.trans (oV h1 h7)))).symm.trans hc)
 have HNO:=keep (fun (h:∀ k:Nat,1≤k→k≤7→u≠i1 (k:Int))=>(oQ (l:=s.data.toList) (fun k h1 h7 e=>h k h1 h7 (hu.symm.trans (e.trans (oV h1 h7).symm)))).symm.trans hc)
 have HCE:=keep (show iL s.data.toList=if c=0 then 4 else 0 by unfold iL; rw [hc])
 have HUP:=keep (fun W=>jR s W HS.out)
 rw [hu] at HUP
 rw [HCE.out,hc]
 obtain ⟨U,hU⟩:∃ U:ByteArray,⟨u.toArray⟩=U:=⟨_,rfl⟩
 rw [hU] at HUP
 have HU:=keep (show U.toList=u by rw [← hU,toL])
 clear hs hu hc hU
 obtain ⟨R,hR⟩:∃ R:Ending,R=.returned (.tuple #[.int .i64 (c:Nat),.int .i64 (if c=0 then 4 else 0)]):=⟨_,rfl⟩
 rw [← hR]
 have HRR:=keep hR
 clear hR
 have H0:=Lib.hid (Ok.start w)
 go_enter func80,ntmps80
 go_wp2_with fail
 go_loopw [4] (fun iv wr=>∃ k:Nat,1≤k∧k≤8∧iv=.int .i64 (k:Int)∧ao (∀ j:Nat,1≤j→j<k→u≠i1 (j:Int))∧Hid (Ok w [] wr)) (fun iv _=>8 - (intOf iv).toNat)
 case atStart=>exact ⟨1,Nat.le_refl _,by omega,rfl,keep (fun j h1 h2=>by omega),H0⟩
 case round =>
  clear H0
  obtain ⟨k,hk1,hk8,rfl,HJ,HQ⟩:=hrel
  obtain ⟨wq,rfl⟩:∃ wq:World,wq=wr:=⟨_,rfl⟩
  by_cases hlt:(k:Int)≤7
  ·obtain ⟨X,hX⟩:∃ X:ByteArray,⟨(i1 (k:Int)).toArray⟩=X:=⟨_,rfl⟩
   have HX:=keep (show X.toList=i1 (k:Int) by rw [← hX,toL])
   go_wp2_with fail
   refine (ix (k:Int) _).mono ?_
   rintro e w1 ⟨rfl,hw⟩
   obtain rfl:wq=w1:=hw.symm
   rw [hX]
   clear hX
   go_wp2_with fail
   refine (HUP.out _).mono ?_
   rintro e w2 ⟨rfl,hb⟩
   have H2:=Lib.hid (HQ.out.below hb)
   clear hb
   by_cases he:u=i1 (k:Int)
   ·have ht:(X.toList == U.toList)=true:=by rw [HX.out,HU.out,he]; simp
    have HC:=keep (HAT.out k hk1 (by omega) he)
    clear he
    go_wp2_with fail
    refine bodyPost_ret (v:=.tuple #[.int .i64 (k:Int),.int .i64 0]) (by simp [results,results80,go_sem]) rfl ⟨?_,H2.out.bel⟩
    rw [HRR.out,← HC.out,if_neg (by omega)]
   have ht:(X.toList == U.toList)=false:=by rw [HX.out,HU.out]; exact beq_eq_false_iff_ne.2 fun h=>he h.symm
   have HE:=keep he
   clear he
   go_wp2_with fail
   go_roundw
   case rel=>exact ⟨k+1,by omega,by omega,by go_num,keep (fun j h1 h2=>if h3:j<k then HJ.out j h1 h3 else (show j=k by omega)▸HE.out),H2⟩
   case measure=>simp [intOf]; omega
  obtain rfl:k=8:=by omega
  have HC:=keep (HNO.out fun j h1 h7=>HJ.out j h1 (by omega))
  go_wp2_with fail
  refine bodyPost_ret (v:=.tuple #[.int .i64 0,.int .i64 4]) (by simp [results,results80,go_sem]) rfl ⟨?_,HQ.out.bel⟩
  rw [HRR.out,← HC.out]; rfl
