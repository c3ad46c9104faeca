/- The reference's strengths. The contract of the kit's EqualTree: two slices that read as the same list are equal. Plain: the chapter's first formulas, parsed. Contracts of what the statements of chapter 09 call besides. show.text and its closure. -/
import Derived.Test.YtdplcdhpnmcdjaaGreatDoorFShn
import Derived.Test.YtdplcdhpnmcdjaaGreatDoorFTg
import Derived.Test.YtdplcdhpnmcdjaaGreatDoorFGiv
import Derived.Test.YtdplcdhpnmcdjaaGreatDoorFEqV
import Derived.Test.YtdplcdhpnmcdjaaGreatDoorFRft
import Derived.Test.YtdplcdhpnmcdjaaGreatDoorFForB
import Derived.Test.YtdplcdhpnmcdjaaGreatDoorFLit
import Derived.Test.YtdplcdhpnmcdjaaGreatDoorFLexJ
namespace Go.Proofs.YtdplcdhpnmcdjaaGreatDoor
set_option maxRecDepth 100000
open Go.RowKit Go.Proofs.Tryz
def Am (op:Int):Bool:=decide (op=5)
def zC (op:Int):Nat:=if op=5 then 6 else aI op
theorem qI (op:Int) (h1:1≤op) (h2:op≤12) (w:World) :
  Calls prog 96 #[.int .i64 op] w fun e w'=>e=.returned (.tuple #[.int .i64 (zC op:Nat),.bool (Am op),.int .i64 0])∧w'=w:=by
 rcases (show op=1∨op=2∨op=3∨op=4∨op=5∨op=6∨op=7∨op=8∨op=9∨op=10∨op=11∨op=12 by omega) with rfl | rfl | rfl | rfl | rfl | rfl | rfl | rfl | rfl | rfl | rfl | rfl
 ·go_enter func96,ntmps96
  go_wp2_with fail
  exact bodyPost_ret (v:=.tuple #[.int .i64 3,.bool false,.int .i64 0]) (by simp [results,results96,go_sem]) rfl ⟨rfl,rfl⟩
 ·go_enter func96,ntmps96
  go_wp2_with fail
  exact bodyPost_ret (v:=.tuple #[.int .i64 3,.bool false,.int .i64 0]) (by simp [results,results96,go_sem]) rfl ⟨rfl,rfl⟩
 ·go_enter func96,ntmps96
  go_wp2_with fail
  exact bodyPost_ret (v:=.tuple #[.int .i64 4,.bool false,.int .i64 0]) (by simp [results,results96,go_sem]) rfl ⟨rfl,rfl⟩
 ·go_enter func96,ntmps96
  go_wp2_with fail
  exact bodyPost_ret (v:=.tuple #[.int .i64 4,.bool false,.int .i64 0]) (by simp [results,results96,go_sem]) rfl ⟨rfl,rfl⟩
 ·go_enter func96,ntmps96
  go_wp2_with fail
  exact bodyPost_ret (v:=.tuple #[.int .i64 6,.bool true,.int .i64 0]) (by simp [results,results96,go_sem]) rfl ⟨rfl,rfl⟩
 ·go_enter func96,ntmps96
  go_wp2_with fail
  exact bodyPost_ret (v:=.tuple #[.int .i64 2,.bool false,.int .i64 0]) (by simp [results,results96,go_sem]) rfl ⟨rfl,rfl⟩
 ·go_enter func96,ntmps96
  go_wp2_with fail
  exact bodyPost_ret (v:=.tuple #[.int .i64 1,.bool false,.int .i64 0]) (by simp [results,results96,go_sem]) rfl ⟨rfl,rfl⟩
 ·go_enter func96,ntmps96
  go_wp2_with fail
  exact bodyPost_ret (v:=.tuple #[.int .i64 1,.bool false,.int .i64 0]) (by simp [results,results96,go_sem]) rfl ⟨rfl,rfl⟩
 ·go_enter func96,ntmps96
  go_wp2_with fail
  exact bodyPost_ret (v:=.tuple #[.int .i64 1,.bool false,.int .i64 0]) (by simp [results,results96,go_sem]) rfl ⟨rfl,rfl⟩
 ·go_enter func96,ntmps96
  go_wp2_with fail
  exact bodyPost_ret (v:=.tuple #[.int .i64 1,.bool false,.int .i64 0]) (by simp [results,results96,go_sem]) rfl ⟨rfl,rfl⟩
 ·go_enter func96,ntmps96
  go_wp2_with fail
  exact bodyPost_ret (v:=.tuple #[.int .i64 1,.bool false,.int .i64 0]) (by simp [results,results96,go_sem]) rfl ⟨rfl,rfl⟩
 go_enter func96,ntmps96
 go_wp2_with fail
 exact bodyPost_ret (v:=.tuple #[.int .i64 1,.bool false,.int .i64 0]) (by simp [results,results96,go_sem]) rfl ⟨rfl,rfl⟩
theorem BK (vk:Nat) (vn:Int) (vt:List UInt8) (r1 r2 r3 r4 op:Int) (fn nn:Nat) (w:World) :
  Calls prog 57 #[.agg #[.int .u8 5,.int .u8 vk,.int .i64 vn,.string ⟨vt.toArray⟩,.int .i64 r1,.int .i64 r2,.int .i64 r3,.int .i64 r4,.int .i64 op,.int .u8 fn,.int .i64 nn]] w fun e w'=>e=.returned (.int .i64 7)∧Below w.heap.size w w':=by
 have H1:=Lib.hid ((Ok.start w).alloc w.heap.size 39 [.int .u8 5,.int .u8 vk,.int .i64 vn,.string ⟨vt.toArray⟩,.int .i64 r1,.int .i64 r2,.int .i64 r3,.int .i64 r4,.int .i64 op,.int .u8 fn,.int .i64 nn] rfl)
 go_enter func57,ntmps57
 go_wp2_with fail
 generalize (w.alloc (.cells #[.int .u8 5,.int .u8 vk,.int .i64 vn,.string ⟨vt.toArray⟩,.int .i64 r1,.int .i64 r2,.int .i64 r3,.int .i64 r4,.int .i64 op,.int .u8 fn,.int .i64 nn] 39))=W2 at H1 ⊢
 go_ret
 exact ⟨rfl,H1.out.bel⟩
theorem BJ (vk:Nat) (vn:Int) (vt:List UInt8) (r1 r2 r3 r4 op:Int) (fn nn:Nat) (w:World) :
  Calls prog 57 #[.agg #[.int .u8 4,.int .u8 vk,.int .i64 vn,.string ⟨vt.toArray⟩,.int .i64 r1,.int .i64 r2,.int .i64 r3,.int .i64 r4,.int .i64 op,.int .u8 fn,.int .i64 nn]] w fun e w'=>e=.returned (.int .i64 5)∧Below w.heap.size w w':=by
 have H1:=Lib.hid ((Ok.start w).alloc w.heap.size 39 [.int .u8 4,.int .u8 vk,.int .i64 vn,.string ⟨vt.toArray⟩,.int .i64 r1,.int .i64 r2,.int .i64 r3,.int .i64 r4,.int .i64 op,.int .u8 fn,.int .i64 nn] rfl)
 go_enter func57,ntmps57
 go_wp2_with fail
 generalize (w.alloc (.cells #[.int .u8 4,.int .u8 vk,.int .i64 vn,.string ⟨vt.toArray⟩,.int .i64 r1,.int .i64 r2,.int .i64 r3,.int .i64 r4,.int .i64 op,.int .u8 fn,.int .i64 nn] 39))=W2 at H1 ⊢
 go_ret
 exact ⟨rfl,H1.out.bel⟩
theorem BL (vk:Nat) (vn:Int) (vt:List UInt8) (r1 r2 r3 r4 op:Int) (fn nn:Nat) (h1:1≤op) (h2:op≤12) (w:World) :
  Calls prog 57 #[.agg #[.int .u8 6,.int .u8 vk,.int .i64 vn,.string ⟨vt.toArray⟩,.int .i64 r1,.int .i64 r2,.int .i64 r3,.int .i64 r4,.int .i64 op,.int .u8 fn,.int .i64 nn]] w fun e w'=>e=.returned (.int .i64 (zC op:Nat))∧Below w.heap.size w w':=by
 have H1x:=keep h1
 have H2x:=keep h2
 clear h1 h2
 have H1:=Lib.hid ((Ok.start w).alloc w.heap.size 39 [.int .u8 6,.int .u8 vk,.int .i64 vn,.string ⟨vt.toArray⟩,.int .i64 r1,.int .i64 r2,.int .i64 r3,.int .i64 r4,.int .i64 op,.int .u8 fn,.int .i64 nn] rfl)
 go_enter func57,ntmps57
 go_wp2_with fail
 generalize (w.alloc (.cells #[.int .u8 6,.int .u8 vk,.int .i64 vn,.string ⟨vt.toArray⟩,.int .i64 r1,.int .i64 r2,.int .i64 r3,.int .i64 r4,.int .i64 op,.int .u8 fn,.int .i64 nn] 39))=W2 at H1 ⊢
 refine (qI op H1x.out H2x.out _).mono ?_
 rintro e wz ⟨rfl,hwz⟩
 obtain rfl:W2=wz:=hwz.symm
 obtain ⟨b9,hb9⟩:=ex (zC op)
 rw [hb9]
 have HB9:=keep hb9
 clear hb9
 go_wp2_with fail
 rw [HB9.out]
 go_ret
 exact ⟨rfl,H1.out.bel⟩
theorem BM (vk:Nat) (vn:Int) (vt:List UInt8) (r1 r2 r3 r4 op:Int) (fn nn:Nat) (k:Nat) (h5:((k:Int) == 5)=false) (h4:((k:Int) == 4)=false) (h6:((k:Int) == 6)=false) (w:World) :
  Calls prog 57 #[.agg #[.int .u8 (k:Nat),.int .u8 vk,.int .i64 vn,.string ⟨vt.toArray⟩,.int .i64 r1,.int .i64 r2,.int .i64 r3,.int .i64 r4,.int .i64 op,.int .u8 fn,.int .i64 nn]] w fun e w'=>e=.returned (.int .i64 8)∧Below w.heap.size w w':=by
 have H1:=Lib.hid ((Ok.start w).alloc w.heap.size 39 [.int .u8 (k:Nat),.int .u8 vk,.int .i64 vn,.string ⟨vt.toArray⟩,.int .i64 r1,.int .i64 r2,.int .i64 r3,.int .i64 r4,.int .i64 op,.int .u8 fn,.int .i64 nn] rfl)
 go_enter func57,ntmps57
 go_wp2_with fail
 generalize (w.alloc (.cells #[.int .u8 (k:Nat),.int .u8 vk,.int .i64 vn,.string ⟨vt.toArray⟩,.int .i64 r1,.int .i64 r2,.int .i64 r3,.int .i64 r4,.int .i64 op,.int .u8 fn,.int .i64 nn] 39))=W2 at H1 ⊢
 go_ret
 exact ⟨rfl,H1.out.bel⟩
theorem eK (n:Nd) (hg:aJ n) (w:World) :
  Calls prog 57 #[ndA n] w fun e w'=>e=.returned (.int .i64 (gO n:Nat))∧Below w.heap.size w w':=by
 have hop:n.kind=6→1≤n.op∧n.op≤12:=by
  intro h
  rcases hg with ⟨vk,vn,vt,rfl,hv⟩ | ⟨r,rfl,_⟩ | ⟨r,rfl,_⟩ | rfl | rfl | ⟨op,rfl,g1,g2⟩ | ⟨fn,k,rfl,_⟩
  ·cases h
  ·cases h
  ·cases h
  ·cases h
  ·cases h
  ·exact ⟨g1,g2⟩
  cases h
 obtain ⟨k,vk,vn,vt,⟨r1,r2,r3,r4⟩,op,fn,nn⟩:=n
 by_cases k5:k=5
 ·subst k5; exact BK vk vn vt r1 r2 r3 r4 op fn nn w
 by_cases k4:k=4
 ·subst k4; exact BJ vk vn vt r1 r2 r3 r4 op fn nn w
 by_cases k6:k=6
 ·subst k6
  obtain ⟨g1,g2⟩:=hop rfl
  exact BL vk vn vt r1 r2 r3 r4 op fn nn g1 g2 w
 have e:gO ⟨k,vk,vn,vt,⟨r1,r2,r3,r4⟩,op,fn,nn⟩=8:=by unfold gO; simp [k5,k4,k6]
 rw [e]
 exact BM vk vn vt r1 r2 r3 r4 op fn nn k (by simp; omega) (by simp; omega) (by simp; omega) w
section
open Go.RowKit
end
section
open Go.RowKit
def bc (n:Int):Nd:=⟨1,1,n,[],R4.zero,0,0,0⟩
end
section
open Go.RowKit
theorem o5 {w:World} {base n c:Nat} {a:Option Addr} {l:List Nd} (h:w.ownsRow base 39 11 (.slice a n c) l.length (eo l)):n=l.length∧ap w a 11 (l.map bj):=by
 obtain ⟨a',c',h1,_,_,h2⟩:=fF bj (fun _=>rfl) h rfl
 simp only [Value.slice.injEq] at h1
 obtain ⟨rfl,rfl,rfl⟩:=h1
 exact ⟨rfl,h2⟩
end
set_option maxRecDepth 100000
set_option maxHeartbeats 4000000
open Go.RowKit Go.Proofs.Tryz
theorem k8 {w:World} {b o:Nat} (l:List Value) (h:∀ j v,l[j]?=some v→w.cell? ⟨b,o+j,none⟩=some v):ag w b o 0 l:=by
 have key:∀ (m:List Value) (k:Nat),(∀ j v,m[j]?=some v→w.cell? ⟨b,o+(k+j),none⟩=some v)→ag w b o k m:=by
  intro m
  induction m with
  | nil=>intro _ _; exact trivial
  | cons x m ih =>
   intro k hk
   refine ⟨by have:=hk 0 x rfl; rwa [Nat.add_zero] at this,ih (k+1) fun j v hj => ?_⟩
   have:=hk (j+1) v hj
   rwa [show k+(j+1)=k+1+j by omega] at this
 exact key l 0 fun j v hj=>by rw [Nat.zero_add]; exact h j v hj
theorem yN (p q tb tz tl tc kb kn kc k j nk vk:Nat) (vn:Int) (vt:List UInt8) (r1 r2 r3 r4 op:Int) (fn nn:Nat) (least S:Int) (X R:ByteArray) (w:World) (ps:List bf)
  (hok:Ok w (aa p 0 [.slice (some ⟨tb,tz,none⟩) tl tc]::aa q 0 [.slice (some ⟨kb,0,none⟩) kn kc]::aa kb k [.int .i64 (j:Nat)]::aa tb (tz+j * 11) [.int .u8 nk,.int .u8 vk,.int .i64 vn,.string ⟨vt.toArray⟩,.int .i64 r1,.int .i64 r2,.int .i64 r3,.int .i64 r4,.int .i64 op,.int .u8 fn,.int .i64 nn]::ps) w)
  (hk:k<kn) (hj:j<tl) (hX:X.size≤1000000000) (hR:R=⟨#[40]⟩++X++⟨#[41]⟩)
  (HIH:bh (∀ w2,Below w.heap.size w w2→Calls prog 25 #[.slice (some ⟨tb,tz,none⟩) tl tc,.int .i64 (j:Nat)] w2 fun e w'=>e=.returned (.string X)∧Below w2.heap.size w2 w'))
  (HST:bh (∀ w2,Calls prog 51 #[.agg #[.int .u8 nk,.int .u8 vk,.int .i64 vn,.string ⟨vt.toArray⟩,.int .i64 r1,.int .i64 r2,.int .i64 r3,.int .i64 r4,.int .i64 op,.int .u8 fn,.int .i64 nn]] w2 fun e w'=>e=.returned (.int .i64 S)∧Below w2.heap.size w2 w')) (hlt:S<least) :
  Calls prog 50 #[.int .i64 (k:Nat),.int .i64 least,.pointer (some ⟨p,0,none⟩),.pointer (some ⟨q,0,none⟩)] w fun e w'=>e=.returned (.string R)∧Below w.heap.size w w':=by
 have H1:Hid (Ok w [aa p 0 [.slice (some ⟨tb,tz,none⟩) tl tc],aa q 0 [.slice (some ⟨kb,0,none⟩) kn kc],aa kb k [.int .i64 (j:Nat)],aa tb (tz+j * 11) [.int .u8 nk,.int .u8 vk,.int .i64 vn,.string ⟨vt.toArray⟩,.int .i64 r1,.int .i64 r2,.int .i64 r3,.int .i64 r4,.int .i64 op,.int .u8 fn,.int .i64 nn]] w):=Lib.hid (hok.drop _ (by
  intro x hx
  simp only [List.mem_cons,List.not_mem_nil,or_false] at hx ⊢
  rcases hx with h | h | h | h <;> simp [h]))
 clear hok
 have HR:=keep hR
 clear hR
 have hki:(k:Int)<(kn:Int):=by omega
 have hji:(j:Int)<(tl:Int):=by omega
 go_enter func50,ntmps50
 go_upto_region 1 with fail
 refine wp_region_held_drew (S:=fun W=>Ok w [aa p 0 [.slice (some ⟨tb,tz,none⟩) tl tc],aa q 0 [.slice (some ⟨kb,0,none⟩) kn kc],aa kb k [.int .i64 (j:Nat)],aa tb (tz+j * 11) [.int .u8 nk,.int .u8 vk,.int .i64 vn,.string ⟨vt.toArray⟩,.int .i64 r1,.int .i64 r2,.int .i64 r3,.int .i64 r4,.int .i64 op,.int .u8 fn,.int .i64 nn]] W) (by kernel_rfl) H1.out.drew (fun hHeld => ?_)
 refine wt3 0 ?_
 refine wt3 1 ?_
 refine wt3 2 ?_
 refine wt3 3 ?_
 refine wt3 4 ?_
 refine wal 5 fun K hK => ?_
 go_simp
 refine (HIH.out _ hHeld.bel).mono ?_
 rintro e w2 ⟨rfl,hb3⟩
 go_wp2_with fail
 refine hK.out _ _ (hHeld.below hb3) (fun hHeld => ?_)
 clear hK K
 refine wn ?_
 refine wt3 6 ?_
 refine wpAnyH_done (by kernel_rfl) ?_ _
 clear H1
 have H4:=Lib.hid hHeld
 clear hHeld
 have F5:=sE H4
 go_upto_region 2 with fail
 refine wp_region_held_drew (S:=fun W=>Ok w [aa p 0 [.slice (some ⟨tb,tz,none⟩) tl tc],aa q 0 [.slice (some ⟨kb,0,none⟩) kn kc],aa kb k [.int .i64 (j:Nat)],aa tb (tz+j * 11) [.int .u8 nk,.int .u8 vk,.int .i64 vn,.string ⟨vt.toArray⟩,.int .i64 r1,.int .i64 r2,.int .i64 r3,.int .i64 r4,.int .i64 op,.int .u8 fn,.int .i64 nn]] W) (by kernel_rfl) H4.out.drew (fun hHeld => ?_)
 refine wt3 0 ?_
 refine wt3 1 ?_
 refine wt3 2 ?_
 refine wt3 3 ?_
 refine wt3 4 ?_
 refine wt3 5 ?_
 refine wt3 6 ?_
 refine wt3 8 ?_
 refine wal 7 fun K hK => ?_
 go_simp
 refine (HST.out _).mono ?_
 rintro e w7 ⟨rfl,hb8⟩
 go_wp2_with fail
 refine hK.out _ _ (hHeld.below hb8) (fun hHeld => ?_)
 clear hK K
 refine wn ?_
 refine wt3 9 ?_
 refine wpAnyH_done (by kernel_rfl) ?_ _
 clear F5
 clear H4
 have H9:=Lib.hid hHeld
 clear hHeld
 have F10:=sE H9
 go_wp2_with fail
 go_ret
 exact ⟨by rw [HR.out]; rfl,H9.out.bel⟩
theorem yM (p q tb tz tl tc kb kn kc k j nk vk:Nat) (vn:Int) (vt:List UInt8) (r1 r2 r3 r4 op:Int) (fn nn:Nat) (least S:Int) (X R:ByteArray) (w:World) (ps:List bf)
  (hok:Ok w (aa p 0 [.slice (some ⟨tb,tz,none⟩) tl tc]::aa q 0 [.slice (some ⟨kb,0,none⟩) kn kc]::aa kb k [.int .i64 (j:Nat)]::aa tb (tz+j * 11) [.int .u8 nk,.int .u8 vk,.int .i64 vn,.string ⟨vt.toArray⟩,.int .i64 r1,.int .i64 r2,.int .i64 r3,.int .i64 r4,.int .i64 op,.int .u8 fn,.int .i64 nn]::ps) w)
  (hk:k<kn) (hj:j<tl) (hR:R=X)
  (HIH:bh (∀ w2,Below w.heap.size w w2→Calls prog 25 #[.slice (some ⟨tb,tz,none⟩) tl tc,.int .i64 (j:Nat)] w2 fun e w'=>e=.returned (.string X)∧Below w2.heap.size w2 w'))
  (HST:bh (∀ w2,Calls prog 51 #[.agg #[.int .u8 nk,.int .u8 vk,.int .i64 vn,.string ⟨vt.toArray⟩,.int .i64 r1,.int .i64 r2,.int .i64 r3,.int .i64 r4,.int .i64 op,.int .u8 fn,.int .i64 nn]] w2 fun e w'=>e=.returned (.int .i64 S)∧Below w2.heap.size w2 w')) (hlt:¬ S<least) :
  Calls prog 50 #[.int .i64 (k:Nat),.int .i64 least,.pointer (some ⟨p,0,none⟩),.pointer (some ⟨q,0,none⟩)] w fun e w'=>e=.returned (.string R)∧Below w.heap.size w w':=by
 have H1:Hid (Ok w [aa p 0 [.slice (some ⟨tb,tz,none⟩) tl tc],aa q 0 [.slice (some ⟨kb,0,none⟩) kn kc],aa kb k [.int .i64 (j:Nat)],aa tb (tz+j * 11) [.int .u8 nk,.int .u8 vk,.int .i64 vn,.string ⟨vt.toArray⟩,.int .i64 r1,.int .i64 r2,.int .i64 r3,.int .i64 r4,.int .i64 op,.int .u8 fn,.int .i64 nn]] w):=Lib.hid (hok.drop _ (by
  intro x hx
  simp only [List.mem_cons,List.not_mem_nil,or_false] at hx ⊢
  rcases hx with h | h | h | h <;> simp [h]))
 clear hok
 have HR:=keep hR
 clear hR
 have hki:(k:Int)<(kn:Int):=by omega
 have hji:(j:Int)<(tl:Int):=by omega
 go_enter func50,ntmps50
 go_upto_region 1 with fail
 refine wp_region_held_drew (S:=fun W=>Ok w [aa p 0 [.slice (some ⟨tb,tz,none⟩) tl tc],aa q 0 [.slice (some ⟨kb,0,none⟩) kn kc],aa kb k [.int .i64 (j:Nat)],aa tb (tz+j * 11) [.int .u8 nk,.int .u8 vk,.int .i64 vn,.string ⟨vt.toArray⟩,.int .i64 r1,.int .i64 r2,.int .i64 r3,.int .i64 r4,.int .i64 op,.int .u8 fn,.int .i64 nn]] W) (by kernel_rfl) H1.out.drew (fun hHeld => ?_)
 refine wt3 0 ?_
 refine wt3 1 ?_
 refine wt3 2 ?_
 refine wt3 3 ?_
 refine wt3 4 ?_
 refine wal 5 fun K hK => ?_
 go_simp
 refine (HIH.out _ hHeld.bel).mono ?_
 rintro e w2 ⟨rfl,hb3⟩
 go_wp2_with fail
 refine hK.out _ _ (hHeld.below hb3) (fun hHeld => ?_)
 clear hK K
 refine wn ?_
 refine wt3 6 ?_
 refine wpAnyH_done (by kernel_rfl) ?_ _
 clear H1
 have H4:=Lib.hid hHeld
 clear hHeld
 have F5:=sE H4
 go_upto_region 2 with fail
 refine wp_region_held_drew (S:=fun W=>Ok w [aa p 0 [.slice (some ⟨tb,tz,none⟩) tl tc],aa q 0 [.slice (some ⟨kb,0,none⟩) kn kc],aa kb k [.int .i64 (j:Nat)],aa tb (tz+j * 11) [.int .u8 nk,.int .u8 vk,.int .i64 vn,.string ⟨vt.toArray⟩,.int .i64 r1,.int .i64 r2,.int .i64 r3,.int .i64 r4,.int .i64 op,.int .u8 fn,.int .i64 nn]] W) (by kernel_rfl) H4.out.drew (fun hHeld => ?_)
 refine wt3 0 ?_
 refine wt3 1 ?_
 refine wt3 2 ?_
 refine wt3 3 ?_
 refine wt3 4 ?_
 refine wt3 5 ?_
 refine wt3 6 ?_
 refine wt3 8 ?_
 refine wal 7 fun K hK => ?_
 go_simp
 refine (HST.out _).mono ?_
 rintro e w7 ⟨rfl,hb8⟩
 go_wp2_with fail
 refine hK.out _ _ (hHeld.below hb8) (fun hHeld => ?_)
 clear hK K
 refine wn ?_
 refine wt3 9 ?_
 refine wpAnyH_done (by kernel_rfl) ?_ _
 clear F5
 clear H4
 have H9:=Lib.hid hHeld
 clear hHeld
 have F10:=sE H9
 go_wp2_with fail
 go_ret
 exact ⟨by rw [HR.out]; rfl,H9.out.bel⟩
structure cQ (t:List Nd):Prop where
 good:∀ n∈t,aJ n∧n.vn≤9223372036854775807
 chk:az (t.map Nd.any)=0
 len:t.length≤256
 kids:∀ k n,t[k]?=some n→(ae t k).length=al n
structure TIn (t:List Nd) (tb tz:Nat) (w:World):Prop where
 rows:ap w (some ⟨tb,tz,none⟩) 11 (t.map bj)
 env:cH w
theorem TIn.below {t:List Nd} {tb tz:Nat} {w w':World} (h:TIn t tb tz w) (hb:Below w.heap.size w w'):TIn t tb tz w':=⟨h.rows.below hb,h.env.below hb⟩
def fL (t:List Nd) (tb tz tc i:Nat):Prop:=∀ w,TIn t tb tz w →
 Calls prog 25 #[.slice (some ⟨tb,tz,none⟩) t.length tc,.int .i64 (i:Nat)] w fun e w'=>e=.returned (.string ⟨(aD t i).1.toArray⟩)∧Below w.heap.size w w'
theorem TIn.node {t:List Nd} {tb tz:Nat} {w:World} (h:TIn t tb tz w) {i:Nat} {n:Nd} (hn:t[i]?=some n):tb<w.heap.size∧ag w tb (tz+i * 11) 0 (bj n):=by
 obtain ⟨b,o,hbo,hlt,hc⟩:=h.rows (by intro e; have h9:=congrArg List.length e; rw [List.length_map] at h9; have:=(List.getElem?_eq_some_iff.1 hn).1; simp only [List.length_nil] at h9; omega)
 simp only [Option.some.injEq,Addr.mk.injEq,and_true] at hbo
 obtain ⟨rfl,rfl⟩:=hbo
 refine ⟨hlt,k8 _ fun j v hj => ?_⟩
 have:=hc i (bj n) (by rw [List.getElem?_map,hn]; rfl) j v hj
 rwa [← Nat.add_assoc] at this
theorem vb (x:Tx):opT 0 x=x.1:=if_pos (Nat.zero_le _)
theorem zD {t:List Nd} {tb tz tc i k l p q B:Nat} {kv:Value} {W:World} (hc:cQ t) (hi:i<t.length) (IH:∀ j,j<i→fL t tb tz tc j) (hin:TIn t tb tz W) (hp:Blk W p 22 #[.slice (some ⟨tb,tz,none⟩) t.length tc]) (hq:Blk W q 57 #[kv])
  (hrow:W.ownsRow B 3 1 kv (ae t i).length ((ae t i).map fun x=>.int .i64 (x:Nat))) (hk:k<(ae t i).length) :
  Calls prog 50 #[.int .i64 (k:Nat),.int .i64 (l:Nat),.pointer (some ⟨p,0,none⟩),.pointer (some ⟨q,0,none⟩)] W fun e w'=>e=.returned (.string ⟨(opT l (aD t (ae t i)[k])).toArray⟩)∧Below W.heap.size W w':=by
 obtain ⟨j,hj⟩:=ex ((ae t i)[k])
 rw [hj]
 have hji:j<i:=bw t i j (by rw [← hj]; exact List.getElem_mem _)
 obtain ⟨n,hn⟩:∃ n,t[j]?=some n:=⟨_,List.getElem?_eq_getElem (by omega)⟩
 have hg:=hc.good n (List.mem_of_getElem? hn)
 obtain ⟨h1,h2⟩:=hin.node hn
 have hcell:=@World.ownsRow.cells _ _ _ _ _ _ _ hrow
 rcases hrow.2 with ⟨rfl,h0⟩ | ⟨g,cap,cur,rfl,h4,h5,h6,h7,h8,h9⟩
 ·omega
 have hkc:=hcell rfl k (.int .i64 (j:Nat)) (by rw [List.getElem?_map,List.getElem?_eq_getElem hk,hj]; rfl)
 rw [show (⟨g,0,none⟩:Addr).add k=⟨g,0+k,none⟩ by unfold Addr.add; split <;> simp_all,Nat.zero_add] at hkc
 have hglt:=(hrow.lt g rfl).2
 have hstr:(aD t j).2=gO n:=by
  rw [kJ hn]
  refine rR n _ ?_
  rcases hg.1 with ⟨_,_,_,rfl,_⟩ | ⟨_,rfl,_⟩ | ⟨_,rfl,_⟩ | rfl | rfl | ⟨_,rfl,_⟩ | ⟨_,_,rfl,_⟩ <;> simp [cJ,aK,ci,bR,aH,bI]
 obtain ⟨nk,vk,vn,vt,⟨r1,r2,r3,r4⟩,op,fn,nn⟩:=n
 have hok:Ok W (aa p 0 [.slice (some ⟨tb,tz,none⟩) t.length tc]::aa q 0 [.slice (some ⟨g,0,none⟩) (ae t i).length cap]::aa g k [.int .i64 (j:Nat)]::aa tb (tz+j * 11) [.int .u8 nk,.int .u8 vk,.int .i64 vn,.string ⟨vt.toArray⟩,.int .i64 r1,.int .i64 r2,.int .i64 r3,.int .i64 r4,.int .i64 op,.int .u8 fn,.int .i64 nn]::[]) W:=by
  refine ((((Ok.start W).add (aa tb (tz+j * 11) [.int .u8 nk,.int .u8 vk,.int .i64 vn,.string ⟨vt.toArray⟩,.int .i64 r1,.int .i64 r2,.int .i64 r3,.int .i64 r4,.int .i64 op,.int .u8 fn,.int .i64 nn]) ⟨h1,h2⟩).add (aa g k [.int .i64 (j:Nat)]) ⟨hglt,hkc,trivial⟩).add (aa q 0 [.slice (some ⟨g,0,none⟩) (ae t i).length cap]) ⟨hq.lt,?_,trivial⟩).add (aa p 0 [.slice (some ⟨tb,tz,none⟩) t.length tc]) ⟨hp.lt,?_,trivial⟩
  ·exact hq.cell 0
  exact hp.cell 0
 have hih:bh (∀ w2,Below W.heap.size W w2→Calls prog 25 #[.slice (some ⟨tb,tz,none⟩) t.length tc,.int .i64 (j:Nat)] w2 fun e w'=>e=.returned (.string ⟨(aD t j).1.toArray⟩)∧Below w2.heap.size w2 w'):=keep fun w2 hb=>IH j hji w2 (hin.below hb)
 have hst:bh (∀ w2,Calls prog 51 #[.agg #[.int .u8 nk,.int .u8 vk,.int .i64 vn,.string ⟨vt.toArray⟩,.int .i64 r1,.int .i64 r2,.int .i64 r3,.int .i64 r4,.int .i64 op,.int .u8 fn,.int .i64 nn]] w2 fun e w'=>e=.returned (.int .i64 (gO ⟨nk,vk,vn,vt,⟨r1,r2,r3,r4⟩,op,fn,nn⟩:Nat))∧Below w2.heap.size w2 w'):=keep fun w2=>fh ⟨nk,vk,vn,vt,⟨r1,r2,r3,r4⟩,op,fn,nn⟩ hg.1 w2
 by_cases hlt:l≤(aD t j).2
 ·refine yM p q tb tz t.length tc g (ae t i).length cap k j nk vk vn vt r1 r2 r3 r4 op fn nn (l:Nat) _ _ _ W [] hok hk (by omega) ?_ hih hst (by rw [hstr] at hlt; omega)
  unfold opT
  rw [if_pos hlt]
 refine yN p q tb tz t.length tc g (ae t i).length cap k j nk vk vn vt r1 r2 r3 r4 op fn nn (l:Nat) _ _ _ W [] hok hk (by omega) ?_ ?_ hih hst (by rw [hstr] at hlt; omega)
 ·have:=j8 t hc.good j (by omega)
  have:=hc.len
  show (aD t j).1.toArray.size≤_
  rw [List.size_toArray]
  omega
 unfold opT
 rw [if_neg hlt]
 show _=(⟨[40].toArray⟩:ByteArray)++⟨(aD t j).1.toArray⟩++⟨[41].toArray⟩
 rw [bytes_append,bytes_append]
 simp
