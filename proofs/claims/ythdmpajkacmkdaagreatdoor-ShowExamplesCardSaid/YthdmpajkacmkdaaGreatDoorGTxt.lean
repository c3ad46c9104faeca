/- The reference's strengths. The contract of the kit's EqualTree: two slices that read as the same list are equal. Plain: the chapter's first formulas, parsed. Contracts of what the statements of chapter 09 call besides. show.text and its closure. louvreref08.Literal at any value. The reference's text of a literal, at any value. -/
import Derived.Test.YthdmpajkacmkdaaGreatDoorGShn
import Derived.Test.YthdmpajkacmkdaaGreatDoorGTg
import Derived.Test.YthdmpajkacmkdaaGreatDoorGRft
import Derived.Test.YthdmpajkacmkdaaGreatDoorGEqV
import Derived.Test.YthdmpajkacmkdaaGreatDoorGForB
import Derived.Test.YthdmpajkacmkdaaGreatDoorGLit
import Derived.Test.YthdmpajkacmkdaaGreatDoorGLexJ
import Derived.Test.YthdmpajkacmkdaaGreatDoorGShw
import Derived.Test.YthdmpajkacmkdaaGreatDoorGParI
namespace Go.Proofs.YthdmpajkacmkdaaGreatDoor
set_option maxRecDepth 100000
open Go.RowKit Go.Proofs.Tryz
def AK (op:Int):Bool:=decide (op=5)
def Ae (op:Int):Nat:=if op=5 then 6 else aJ op
theorem ra (op:Int) (h1:1≤op) (h2:op≤12) (w:World) :
  Calls prog 83 #[.int .i64 op] w fun e w'=>e=.returned (.tuple #[.int .i64 (Ae op:Nat),.bool (AK op),.int .i64 0])∧w'=w:=by
 rcases (show op=1∨op=2∨op=3∨op=4∨op=5∨op=6∨op=7∨op=8∨op=9∨op=10∨op=11∨op=12 by omega) with rfl | rfl | rfl | rfl | rfl | rfl | rfl | rfl | rfl | rfl | rfl | rfl
 ·go_enter func83,ntmps83
  go_wp2_with fail
  exact bodyPost_ret (v:=.tuple #[.int .i64 3,.bool false,.int .i64 0]) (by simp [results,results83,go_sem]) rfl ⟨rfl,rfl⟩
 ·go_enter func83,ntmps83
  go_wp2_with fail
  exact bodyPost_ret (v:=.tuple #[.int .i64 3,.bool false,.int .i64 0]) (by simp [results,results83,go_sem]) rfl ⟨rfl,rfl⟩
 ·go_enter func83,ntmps83
  go_wp2_with fail
  exact bodyPost_ret (v:=.tuple #[.int .i64 4,.bool false,.int .i64 0]) (by simp [results,results83,go_sem]) rfl ⟨rfl,rfl⟩
 ·go_enter func83,ntmps83
  go_wp2_with fail
  exact bodyPost_ret (v:=.tuple #[.int .i64 4,.bool false,.int .i64 0]) (by simp [results,results83,go_sem]) rfl ⟨rfl,rfl⟩
 ·go_enter func83,ntmps83
  go_wp2_with fail
  exact bodyPost_ret (v:=.tuple #[.int .i64 6,.bool true,.int .i64 0]) (by simp [results,results83,go_sem]) rfl ⟨rfl,rfl⟩
 ·go_enter func83,ntmps83
  go_wp2_with fail
  exact bodyPost_ret (v:=.tuple #[.int .i64 2,.bool false,.int .i64 0]) (by simp [results,results83,go_sem]) rfl ⟨rfl,rfl⟩
 ·go_enter func83,ntmps83
  go_wp2_with fail
  exact bodyPost_ret (v:=.tuple #[.int .i64 1,.bool false,.int .i64 0]) (by simp [results,results83,go_sem]) rfl ⟨rfl,rfl⟩
 ·go_enter func83,ntmps83
  go_wp2_with fail
  exact bodyPost_ret (v:=.tuple #[.int .i64 1,.bool false,.int .i64 0]) (by simp [results,results83,go_sem]) rfl ⟨rfl,rfl⟩
 ·go_enter func83,ntmps83
  go_wp2_with fail
  exact bodyPost_ret (v:=.tuple #[.int .i64 1,.bool false,.int .i64 0]) (by simp [results,results83,go_sem]) rfl ⟨rfl,rfl⟩
 ·go_enter func83,ntmps83
  go_wp2_with fail
  exact bodyPost_ret (v:=.tuple #[.int .i64 1,.bool false,.int .i64 0]) (by simp [results,results83,go_sem]) rfl ⟨rfl,rfl⟩
 ·go_enter func83,ntmps83
  go_wp2_with fail
  exact bodyPost_ret (v:=.tuple #[.int .i64 1,.bool false,.int .i64 0]) (by simp [results,results83,go_sem]) rfl ⟨rfl,rfl⟩
 go_enter func83,ntmps83
 go_wp2_with fail
 exact bodyPost_ret (v:=.tuple #[.int .i64 1,.bool false,.int .i64 0]) (by simp [results,results83,go_sem]) rfl ⟨rfl,rfl⟩
theorem Ce (vk:Nat) (vn:Int) (vt:List UInt8) (r1 r2 r3 r4 op:Int) (fn nn:Nat) (w:World) :
  Calls prog 49 #[.agg #[.int .u8 5,.int .u8 vk,.int .i64 vn,.string ⟨vt.toArray⟩,.int .i64 r1,.int .i64 r2,.int .i64 r3,.int .i64 r4,.int .i64 op,.int .u8 fn,.int .i64 nn]] w fun e w'=>e=.returned (.int .i64 7)∧Below w.heap.size w w':=by
 have H1:=Lib.hid ((Ok.start w).alloc w.heap.size 27 [.int .u8 5,.int .u8 vk,.int .i64 vn,.string ⟨vt.toArray⟩,.int .i64 r1,.int .i64 r2,.int .i64 r3,.int .i64 r4,.int .i64 op,.int .u8 fn,.int .i64 nn] rfl)
 go_enter func49,ntmps49
 go_wp2_with fail
 generalize (w.alloc (.cells #[.int .u8 5,.int .u8 vk,.int .i64 vn,.string ⟨vt.toArray⟩,.int .i64 r1,.int .i64 r2,.int .i64 r3,.int .i64 r4,.int .i64 op,.int .u8 fn,.int .i64 nn] 27))=W2 at H1 ⊢
 go_ret
 exact ⟨rfl,H1.out.bel⟩
theorem Cd (vk:Nat) (vn:Int) (vt:List UInt8) (r1 r2 r3 r4 op:Int) (fn nn:Nat) (w:World) :
  Calls prog 49 #[.agg #[.int .u8 4,.int .u8 vk,.int .i64 vn,.string ⟨vt.toArray⟩,.int .i64 r1,.int .i64 r2,.int .i64 r3,.int .i64 r4,.int .i64 op,.int .u8 fn,.int .i64 nn]] w fun e w'=>e=.returned (.int .i64 5)∧Below w.heap.size w w':=by
 have H1:=Lib.hid ((Ok.start w).alloc w.heap.size 27 [.int .u8 4,.int .u8 vk,.int .i64 vn,.string ⟨vt.toArray⟩,.int .i64 r1,.int .i64 r2,.int .i64 r3,.int .i64 r4,.int .i64 op,.int .u8 fn,.int .i64 nn] rfl)
 go_enter func49,ntmps49
 go_wp2_with fail
 generalize (w.alloc (.cells #[.int .u8 4,.int .u8 vk,.int .i64 vn,.string ⟨vt.toArray⟩,.int .i64 r1,.int .i64 r2,.int .i64 r3,.int .i64 r4,.int .i64 op,.int .u8 fn,.int .i64 nn] 27))=W2 at H1 ⊢
 go_ret
 exact ⟨rfl,H1.out.bel⟩
theorem Cf (vk:Nat) (vn:Int) (vt:List UInt8) (r1 r2 r3 r4 op:Int) (fn nn:Nat) (h1:1≤op) (h2:op≤12) (w:World) :
  Calls prog 49 #[.agg #[.int .u8 6,.int .u8 vk,.int .i64 vn,.string ⟨vt.toArray⟩,.int .i64 r1,.int .i64 r2,.int .i64 r3,.int .i64 r4,.int .i64 op,.int .u8 fn,.int .i64 nn]] w fun e w'=>e=.returned (.int .i64 (Ae op:Nat))∧Below w.heap.size w w':=by
 have H1x:=keep h1
 have H2x:=keep h2
 clear h1 h2
 have H1:=Lib.hid ((Ok.start w).alloc w.heap.size 27 [.int .u8 6,.int .u8 vk,.int .i64 vn,.string ⟨vt.toArray⟩,.int .i64 r1,.int .i64 r2,.int .i64 r3,.int .i64 r4,.int .i64 op,.int .u8 fn,.int .i64 nn] rfl)
 go_enter func49,ntmps49
 go_wp2_with fail
 generalize (w.alloc (.cells #[.int .u8 6,.int .u8 vk,.int .i64 vn,.string ⟨vt.toArray⟩,.int .i64 r1,.int .i64 r2,.int .i64 r3,.int .i64 r4,.int .i64 op,.int .u8 fn,.int .i64 nn] 27))=W2 at H1 ⊢
 refine (ra op H1x.out H2x.out _).mono ?_
 rintro e wz ⟨rfl,hwz⟩
 obtain rfl:W2=wz:=hwz.symm
 obtain ⟨b9,hb9⟩:=ex (Ae op)
 rw [hb9]
 have HB9:=keep hb9
 clear hb9
 go_wp2_with fail
 rw [HB9.out]
 go_ret
 exact ⟨rfl,H1.out.bel⟩
theorem Cg (vk:Nat) (vn:Int) (vt:List UInt8) (r1 r2 r3 r4 op:Int) (fn nn:Nat) (k:Nat) (h5:((k:Int) == 5)=false) (h4:((k:Int) == 4)=false) (h6:((k:Int) == 6)=false) (w:World) :
  Calls prog 49 #[.agg #[.int .u8 (k:Nat),.int .u8 vk,.int .i64 vn,.string ⟨vt.toArray⟩,.int .i64 r1,.int .i64 r2,.int .i64 r3,.int .i64 r4,.int .i64 op,.int .u8 fn,.int .i64 nn]] w fun e w'=>e=.returned (.int .i64 8)∧Below w.heap.size w w':=by
 have H1:=Lib.hid ((Ok.start w).alloc w.heap.size 27 [.int .u8 (k:Nat),.int .u8 vk,.int .i64 vn,.string ⟨vt.toArray⟩,.int .i64 r1,.int .i64 r2,.int .i64 r3,.int .i64 r4,.int .i64 op,.int .u8 fn,.int .i64 nn] rfl)
 go_enter func49,ntmps49
 go_wp2_with fail
 generalize (w.alloc (.cells #[.int .u8 (k:Nat),.int .u8 vk,.int .i64 vn,.string ⟨vt.toArray⟩,.int .i64 r1,.int .i64 r2,.int .i64 r3,.int .i64 r4,.int .i64 op,.int .u8 fn,.int .i64 nn] 27))=W2 at H1 ⊢
 go_ret
 exact ⟨rfl,H1.out.bel⟩
theorem eQ (n:Nd) (hg:aL n) (w:World) :
  Calls prog 49 #[ndA n] w fun e w'=>e=.returned (.int .i64 (hZ n:Nat))∧Below w.heap.size w w':=by
 have hop:n.kind=6→1≤n.op∧n.op≤12:=by
  intro h
  rcases hg with ⟨vk,vn,vt,rfl,hv⟩ | ⟨r,rfl,_⟩ | ⟨r,rfl,_⟩ | rfl | rfl | ⟨op,rfl,g1,g2⟩ | ⟨fn,k,rfl,_⟩
  ·cases h
  ·cases h
  ·cases h
  ·cases h
  ·cases h
  ·exact ⟨g1,g2⟩
  cases h
 obtain ⟨k,vk,vn,vt,⟨r1,r2,r3,r4⟩,op,fn,nn⟩:=n
 by_cases k5:k=5
 ·subst k5; exact Ce vk vn vt r1 r2 r3 r4 op fn nn w
 by_cases k4:k=4
 ·subst k4; exact Cd vk vn vt r1 r2 r3 r4 op fn nn w
 by_cases k6:k=6
 ·subst k6
  obtain ⟨g1,g2⟩:=hop rfl
  exact Cf vk vn vt r1 r2 r3 r4 op fn nn g1 g2 w
 have e:hZ ⟨k,vk,vn,vt,⟨r1,r2,r3,r4⟩,op,fn,nn⟩=8:=by unfold hZ; simp [k5,k4,k6]
 rw [e]
 exact Cg vk vn vt r1 r2 r3 r4 op fn nn k (by simp; omega) (by simp; omega) (by simp; omega) w
section
open Go.RowKit
end
section
open Go.RowKit
def bd (n:Int):Nd:=⟨1,1,n,[],R4.zero,0,0,0⟩
end
section
open Go.RowKit
theorem pD {w:World} {base n c:Nat} {a:Option Addr} {l:List Nd} (h:w.ownsRow base 27 11 (.slice a n c) l.length (ew l)):n=l.length∧ax w a 11 (l.map bj):=by
 obtain ⟨a',c',h1,_,_,h2⟩:=fN bj (fun _=>rfl) h rfl
 simp only [Value.slice.injEq] at h1
 obtain ⟨rfl,rfl,rfl⟩:=h1
 exact ⟨rfl,h2⟩
end
set_option maxRecDepth 100000
set_option maxHeartbeats 4000000
open Go.RowKit Go.Proofs.Tryz
theorem fy {w:World} {b o:Nat} (l:List Value) (h:∀ j v,l[j]?=some v→w.cell? ⟨b,o+j,none⟩=some v):ag w b o 0 l:=by
 have key:∀ (m:List Value) (k:Nat),(∀ j v,m[j]?=some v→w.cell? ⟨b,o+(k+j),none⟩=some v)→ag w b o k m:=by
  intro m
  induction m with
  | nil=>intro _ _; exact trivial
  | cons x m ih =>
   intro k hk
   refine ⟨by have:=hk 0 x rfl; rwa [Nat.add_zero] at this,ih (k+1) fun j v hj => ?_⟩
   have:=hk (j+1) v hj
   rwa [show k+(j+1)=k+1+j by omega] at this
 exact key l 0 fun j v hj=>by rw [Nat.zero_add]; exact h j v hj
theorem zj (p q tb tz tl tc kb kn kc k j nk vk:Nat) (vn:Int) (vt:List UInt8) (r1 r2 r3 r4 op:Int) (fn nn:Nat) (least S:Int) (X R:ByteArray) (w:World) (ps:List aZ)
  (hok:Ok w (aa p 0 [.slice (some ⟨tb,tz,none⟩) tl tc]::aa q 0 [.slice (some ⟨kb,0,none⟩) kn kc]::aa kb k [.int .i64 (j:Nat)]::aa tb (tz+j * 11) [.int .u8 nk,.int .u8 vk,.int .i64 vn,.string ⟨vt.toArray⟩,.int .i64 r1,.int .i64 r2,.int .i64 r3,.int .i64 r4,.int .i64 op,.int .u8 fn,.int .i64 nn]::ps) w)
  (hk:k<kn) (hj:j<tl) (hX:X.size≤1000000000) (hR:R=⟨#[40]⟩++X++⟨#[41]⟩)
  (HIH:bh (∀ w2,Below w.heap.size w w2→Calls prog 21 #[.slice (some ⟨tb,tz,none⟩) tl tc,.int .i64 (j:Nat)] w2 fun e w'=>e=.returned (.string X)∧Below w2.heap.size w2 w'))
  (HST:bh (∀ w2,Calls prog 43 #[.agg #[.int .u8 nk,.int .u8 vk,.int .i64 vn,.string ⟨vt.toArray⟩,.int .i64 r1,.int .i64 r2,.int .i64 r3,.int .i64 r4,.int .i64 op,.int .u8 fn,.int .i64 nn]] w2 fun e w'=>e=.returned (.int .i64 S)∧Below w2.heap.size w2 w')) (hlt:S<least) :
  Calls prog 42 #[.int .i64 (k:Nat),.int .i64 least,.pointer (some ⟨p,0,none⟩),.pointer (some ⟨q,0,none⟩)] w fun e w'=>e=.returned (.string R)∧Below w.heap.size w w':=by
 have H1:Hid (Ok w [aa p 0 [.slice (some ⟨tb,tz,none⟩) tl tc],aa q 0 [.slice (some ⟨kb,0,none⟩) kn kc],aa kb k [.int .i64 (j:Nat)],aa tb (tz+j * 11) [.int .u8 nk,.int .u8 vk,.int .i64 vn,.string ⟨vt.toArray⟩,.int .i64 r1,.int .i64 r2,.int .i64 r3,.int .i64 r4,.int .i64 op,.int .u8 fn,.int .i64 nn]] w):=Lib.hid (hok.drop _ (by
  intro x hx
  simp only [List.mem_cons,List.not_mem_nil,or_false] at hx ⊢
  rcases hx with h | h | h | h <;> simp [h]))
 clear hok
 have HR:=keep hR
 clear hR
 have hki:(k:Int)<(kn:Int):=by omega
 have hji:(j:Int)<(tl:Int):=by omega
 go_enter func42,ntmps42
 go_upto_region 1 with fail
 refine wp_region_held_drew (S:=fun W=>Ok w [aa p 0 [.slice (some ⟨tb,tz,none⟩) tl tc],aa q 0 [.slice (some ⟨kb,0,none⟩) kn kc],aa kb k [.int .i64 (j:Nat)],aa tb (tz+j * 11) [.int .u8 nk,.int .u8 vk,.int .i64 vn,.string ⟨vt.toArray⟩,.int .i64 r1,.int .i64 r2,.int .i64 r3,.int .i64 r4,.int .i64 op,.int .u8 fn,.int .i64 nn]] W) (by kernel_rfl) H1.out.drew (fun hHeld => ?_)
 refine wt3 0 ?_
 refine wt3 1 ?_
 refine wt3 2 ?_
 refine wt3 3 ?_
 refine wt3 4 ?_
 refine wal 5 fun K hK => ?_
 go_simp
 refine (HIH.out _ hHeld.bel).mono ?_
 rintro e w2 ⟨rfl,hb3⟩
 go_wp2_with fail
 refine hK.out _ _ (hHeld.below hb3) (fun hHeld => ?_)
 clear hK K
 refine wn ?_
 refine wt3 6 ?_
 refine wpAnyH_done (by kernel_rfl) ?_ _
 clear H1
 have H4:=Lib.hid hHeld
 clear hHeld
 have F5:=sE H4
 go_upto_region 2 with fail
 refine wp_region_held_drew (S:=fun W=>Ok w [aa p 0 [.slice (some ⟨tb,tz,none⟩) tl tc],aa q 0 [.slice (some ⟨kb,0,none⟩) kn kc],aa kb k [.int .i64 (j:Nat)],aa tb (tz+j * 11) [.int .u8 nk,.int .u8 vk,.int .i64 vn,.string ⟨vt.toArray⟩,.int .i64 r1,.int .i64 r2,.int .i64 r3,.int .i64 r4,.int .i64 op,.int .u8 fn,.int .i64 nn]] W) (by kernel_rfl) H4.out.drew (fun hHeld => ?_)
 refine wt3 0 ?_
 refine wt3 1 ?_
 refine wt3 2 ?_
 refine wt3 3 ?_
 refine wt3 4 ?_
 refine wt3 5 ?_
 refine wt3 6 ?_
 refine wt3 8 ?_
 refine wal 7 fun K hK => ?_
 go_simp
 refine (HST.out _).mono ?_
 rintro e w7 ⟨rfl,hb8⟩
 go_wp2_with fail
 refine hK.out _ _ (hHeld.below hb8) (fun hHeld => ?_)
 clear hK K
 refine wn ?_
 refine wt3 9 ?_
 refine wpAnyH_done (by kernel_rfl) ?_ _
 clear F5
 clear H4
 have H9:=Lib.hid hHeld
 clear hHeld
 have F10:=sE H9
 go_wp2_with fail
 go_ret
 exact ⟨by rw [HR.out]; rfl,H9.out.bel⟩
theorem zi (p q tb tz tl tc kb kn kc k j nk vk:Nat) (vn:Int) (vt:List UInt8) (r1 r2 r3 r4 op:Int) (fn nn:Nat) (least S:Int) (X R:ByteArray) (w:World) (ps:List aZ)
  (hok:Ok w (aa p 0 [.slice (some ⟨tb,tz,none⟩) tl tc]::aa q 0 [.slice (some ⟨kb,0,none⟩) kn kc]::aa kb k [.int .i64 (j:Nat)]::aa tb (tz+j * 11) [.int .u8 nk,.int .u8 vk,.int .i64 vn,.string ⟨vt.toArray⟩,.int .i64 r1,.int .i64 r2,.int .i64 r3,.int .i64 r4,.int .i64 op,.int .u8 fn,.int .i64 nn]::ps) w)
  (hk:k<kn) (hj:j<tl) (hR:R=X)
  (HIH:bh (∀ w2,Below w.heap.size w w2→Calls prog 21 #[.slice (some ⟨tb,tz,none⟩) tl tc,.int .i64 (j:Nat)] w2 fun e w'=>e=.returned (.string X)∧Below w2.heap.size w2 w'))
  (HST:bh (∀ w2,Calls prog 43 #[.agg #[.int .u8 nk,.int .u8 vk,.int .i64 vn,.string ⟨vt.toArray⟩,.int .i64 r1,.int .i64 r2,.int .i64 r3,.int .i64 r4,.int .i64 op,.int .u8 fn,.int .i64 nn]] w2 fun e w'=>e=.returned (.int .i64 S)∧Below w2.heap.size w2 w')) (hlt:¬ S<least) :
  Calls prog 42 #[.int .i64 (k:Nat),.int .i64 least,.pointer (some ⟨p,0,none⟩),.pointer (some ⟨q,0,none⟩)] w fun e w'=>e=.returned (.string R)∧Below w.heap.size w w':=by
 have H1:Hid (Ok w [aa p 0 [.slice (some ⟨tb,tz,none⟩) tl tc],aa q 0 [.slice (some ⟨kb,0,none⟩) kn kc],aa kb k [.int .i64 (j:Nat)],aa tb (tz+j * 11) [.int .u8 nk,.int .u8 vk,.int .i64 vn,.string ⟨vt.toArray⟩,.int .i64 r1,.int .i64 r2,.int .i64 r3,.int .i64 r4,.int .i64 op,.int .u8 fn,.int .i64 nn]] w):=Lib.hid (hok.drop _ (by
  intro x hx
  simp only [List.mem_cons,List.not_mem_nil,or_false] at hx ⊢
  rcases hx with h | h | h | h <;> simp [h]))
 clear hok
 have HR:=keep hR
 clear hR
 have hki:(k:Int)<(kn:Int):=by omega
 have hji:(j:Int)<(tl:Int):=by omega
 go_enter func42,ntmps42
 go_upto_region 1 with fail
 refine wp_region_held_drew (S:=fun W=>Ok w [aa p 0 [.slice (some ⟨tb,tz,none⟩) tl tc],aa q 0 [.slice (some ⟨kb,0,none⟩) kn kc],aa kb k [.int .i64 (j:Nat)],aa tb (tz+j * 11) [.int .u8 nk,.int .u8 vk,.int .i64 vn,.string ⟨vt.toArray⟩,.int .i64 r1,.int .i64 r2,.int .i64 r3,.int .i64 r4,.int .i64 op,.int .u8 fn,.int .i64 nn]] W) (by kernel_rfl) H1.out.drew (fun hHeld => ?_)
 refine wt3 0 ?_
 refine wt3 1 ?_
 refine wt3 2 ?_
 refine wt3 3 ?_
 refine wt3 4 ?_
 refine wal 5 fun K hK => ?_
 go_simp
 refine (HIH.out _ hHeld.bel).mono ?_
 rintro e w2 ⟨rfl,hb3⟩
 go_wp2_with fail
 refine hK.out _ _ (hHeld.below hb3) (fun hHeld => ?_)
 clear hK K
 refine wn ?_
 refine wt3 6 ?_
 refine wpAnyH_done (by kernel_rfl) ?_ _
 clear H1
 have H4:=Lib.hid hHeld
 clear hHeld
 have F5:=sE H4
 go_upto_region 2 with fail
 refine wp_region_held_drew (S:=fun W=>Ok w [aa p 0 [.slice (some ⟨tb,tz,none⟩) tl tc],aa q 0 [.slice (some ⟨kb,0,none⟩) kn kc],aa kb k [.int .i64 (j:Nat)],aa tb (tz+j * 11) [.int .u8 nk,.int .u8 vk,.int .i64 vn,.string ⟨vt.toArray⟩,.int .i64 r1,.int .i64 r2,.int .i64 r3,.int .i64 r4,.int .i64 op,.int .u8 fn,.int .i64 nn]] W) (by kernel_rfl) H4.out.drew (fun hHeld => ?_)
 refine wt3 0 ?_
 refine wt3 1 ?_
 refine wt3 2 ?_
 refine wt3 3 ?_
 refine wt3 4 ?_
 refine wt3 5 ?_
 refine wt3 6 ?_
 refine wt3 8 ?_
 refine wal 7 fun K hK => ?_
 go_simp
 refine (HST.out _).mono ?_
 rintro e w7 ⟨rfl,hb8⟩
 go_wp2_with fail
 refine hK.out _ _ (hHeld.below hb8) (fun hHeld => ?_)
 clear hK K
 refine wn ?_
 refine wt3 9 ?_
 refine wpAnyH_done (by kernel_rfl) ?_ _
 clear F5
 clear H4
 have H9:=Lib.hid hHeld
 clear hHeld
 have F10:=sE H9
 go_wp2_with fail
 go_ret
 exact ⟨by rw [HR.out]; rfl,H9.out.bel⟩
structure cT (t:List Nd):Prop where
 good:∀ n∈t,aL n∧n.vn≤9223372036854775807
 chk:aC (t.map Nd.any)=0
 len:t.length≤256
 kids:∀ k n,t[k]?=some n→(ae t k).length=am n
structure TIn (t:List Nd) (tb tz:Nat) (w:World):Prop where
 rows:ax w (some ⟨tb,tz,none⟩) 11 (t.map bj)
 env:cn w
theorem TIn.below {t:List Nd} {tb tz:Nat} {w w':World} (h:TIn t tb tz w) (hb:Below w.heap.size w w'):TIn t tb tz w':=⟨h.rows.below hb,h.env.below hb⟩
def fU (t:List Nd) (tb tz tc i:Nat):Prop:=∀ w,TIn t tb tz w →
 Calls prog 21 #[.slice (some ⟨tb,tz,none⟩) t.length tc,.int .i64 (i:Nat)] w fun e w'=>e=.returned (.string ⟨(aF t i).1.toArray⟩)∧Below w.heap.size w w'
theorem TIn.node {t:List Nd} {tb tz:Nat} {w:World} (h:TIn t tb tz w) {i:Nat} {n:Nd} (hn:t[i]?=some n):tb<w.heap.size∧ag w tb (tz+i * 11) 0 (bj n):=by
 obtain ⟨b,o,hbo,hlt,hc⟩:=h.rows (by intro e; have h9:=congrArg List.length e; rw [List.length_map] at h9; have:=(List.getElem?_eq_some_iff.1 hn).1; simp only [List.length_nil] at h9; omega)
 simp only [Option.some.injEq,Addr.mk.injEq,and_true] at hbo
 obtain ⟨rfl,rfl⟩:=hbo
 refine ⟨hlt,fy _ fun j v hj => ?_⟩
 have:=hc i (bj n) (by rw [List.getElem?_map,hn]; rfl) j v hj
 rwa [← Nat.add_assoc] at this
theorem vF (x:Tx):opT 0 x=x.1:=if_pos (Nat.zero_le _)
theorem Ag {t:List Nd} {tb tz tc i k l p q B:Nat} {kv:Value} {W:World} (hc:cT t) (hi:i<t.length) (IH:∀ j,j<i→fU t tb tz tc j) (hin:TIn t tb tz W) (hp:Blk W p 28 #[.slice (some ⟨tb,tz,none⟩) t.length tc]) (hq:Blk W q 50 #[kv])
  (hrow:W.ownsRow B 3 1 kv (ae t i).length ((ae t i).map fun x=>.int .i64 (x:Nat))) (hk:k<(ae t i).length) :
  Calls prog 42 #[.int .i64 (k:Nat),.int .i64 (l:Nat),.pointer (some ⟨p,0,none⟩),.pointer (some ⟨q,0,none⟩)] W fun e w'=>e=.returned (.string ⟨(opT l (aF t (ae t i)[k])).toArray⟩)∧Below W.heap.size W w':=by
 obtain ⟨j,hj⟩:=ex ((ae t i)[k])
 rw [hj]
 have hji:j<i:=bw t i j (by rw [← hj]; exact List.getElem_mem _)
 obtain ⟨n,hn⟩:∃ n,t[j]?=some n:=⟨_,List.getElem?_eq_getElem (by omega)⟩
 have hg:=hc.good n (List.mem_of_getElem? hn)
 obtain ⟨h1,h2⟩:=hin.node hn
 have hcell:=@World.ownsRow.cells _ _ _ _ _ _ _ hrow
 rcases hrow.2 with ⟨rfl,h0⟩ | ⟨g,cap,cur,rfl,h4,h5,h6,h7,h8,h9⟩
 ·omega
 have hkc:=hcell rfl k (.int .i64 (j:Nat)) (by rw [List.getElem?_map,List.getElem?_eq_getElem hk,hj]; rfl)
 rw [show (⟨g,0,none⟩:Addr).add k=⟨g,0+k,none⟩ by unfold Addr.add; split <;> simp_all,Nat.zero_add] at hkc
 have hglt:=(hrow.lt g rfl).2
 have hstr:(aF t j).2=hZ n:=by
  rw [li hn]
  refine sr n _ ?_
  rcases hg.1 with ⟨_,_,_,rfl,_⟩ | ⟨_,rfl,_⟩ | ⟨_,rfl,_⟩ | rfl | rfl | ⟨_,rfl,_⟩ | ⟨_,_,rfl,_⟩ <;> simp [cL,aM,ck,bS,aI,bI]
 obtain ⟨nk,vk,vn,vt,⟨r1,r2,r3,r4⟩,op,fn,nn⟩:=n
 have hok:Ok W (aa p 0 [.slice (some ⟨tb,tz,none⟩) t.length tc]::aa q 0 [.slice (some ⟨g,0,none⟩) (ae t i).length cap]::aa g k [.int .i64 (j:Nat)]::aa tb (tz+j * 11) [.int .u8 nk,.int .u8 vk,.int .i64 vn,.string ⟨vt.toArray⟩,.int .i64 r1,.int .i64 r2,.int .i64 r3,.int .i64 r4,.int .i64 op,.int .u8 fn,.int .i64 nn]::[]) W:=by
  refine ((((Ok.start W).add (aa tb (tz+j * 11) [.int .u8 nk,.int .u8 vk,.int .i64 vn,.string ⟨vt.toArray⟩,.int .i64 r1,.int .i64 r2,.int .i64 r3,.int .i64 r4,.int .i64 op,.int .u8 fn,.int .i64 nn]) ⟨h1,h2⟩).add (aa g k [.int .i64 (j:Nat)]) ⟨hglt,hkc,trivial⟩).add (aa q 0 [.slice (some ⟨g,0,none⟩) (ae t i).length cap]) ⟨hq.lt,?_,trivial⟩).add (aa p 0 [.slice (some ⟨tb,tz,none⟩) t.length tc]) ⟨hp.lt,?_,trivial⟩
  ·exact hq.cell 0
  exact hp.cell 0
 have hih:bh (∀ w2,Below W.heap.size W w2→Calls prog 21 #[.slice (some ⟨tb,tz,none⟩) t.length tc,.int .i64 (j:Nat)] w2 fun e w'=>e=.returned (.string ⟨(aF t j).1.toArray⟩)∧Below w2.heap.size w2 w'):=keep fun w2 hb=>IH j hji w2 (hin.below hb)
 have hst:bh (∀ w2,Calls prog 43 #[.agg #[.int .u8 nk,.int .u8 vk,.int .i64 vn,.string ⟨vt.toArray⟩,.int .i64 r1,.int .i64 r2,.int .i64 r3,.int .i64 r4,.int .i64 op,.int .u8 fn,.int .i64 nn]] w2 fun e w'=>e=.returned (.int .i64 (hZ ⟨nk,vk,vn,vt,⟨r1,r2,r3,r4⟩,op,fn,nn⟩:Nat))∧Below w2.heap.size w2 w'):=keep fun w2=>fp ⟨nk,vk,vn,vt,⟨r1,r2,r3,r4⟩,op,fn,nn⟩ hg.1 w2
 by_cases hlt:l≤(aF t j).2
 ·refine zi p q tb tz t.length tc g (ae t i).length cap k j nk vk vn vt r1 r2 r3 r4 op fn nn (l:Nat) _ _ _ W [] hok hk (by omega) ?_ hih hst (by rw [hstr] at hlt; omega)
  unfold opT
  rw [if_pos hlt]
 refine zj p q tb tz t.length tc g (ae t i).length cap k j nk vk vn vt r1 r2 r3 r4 op fn nn (l:Nat) _ _ _ W [] hok hk (by omega) ?_ ?_ hih hst (by rw [hstr] at hlt; omega)
 ·have:=kC t hc.good j (by omega)
  have:=hc.len
  show (aF t j).1.toArray.size≤_
  rw [List.size_toArray]
  omega
 unfold opT
 rw [if_neg hlt]
 show _=(⟨[40].toArray⟩:ByteArray)++⟨(aF t j).1.toArray⟩++⟨[41].toArray⟩
 rw [bytes_append,bytes_append]
 simp
set_option maxRecDepth 100000
set_option maxHeartbeats 4000000
theorem ny (t:List UInt8):bm t=0↔t.length≤256∧t.all aB=true:=by
 unfold bm
 constructor
 ·intro h
  split at h
  ·exact absurd h (by decide)
  split at h
  ·exact ⟨by omega,by assumption⟩
  exact absurd h (by decide)
 rintro ⟨h1,h2⟩
 rw [if_neg (by omega),if_pos h2]
theorem dy {k:Nat} {n:Int} {t:List UInt8}:dF k n t↔cellV k n t∧k≠0∧(k=1→0≤n)∧(k=4→n≠6):=by
 unfold dF cellV
 rw [ny]
 constructor
 ·rintro (⟨rfl,h0,rfl⟩ | ⟨rfl,h0,rfl⟩ | ⟨rfl,rfl,h1,h2⟩ | ⟨rfl,⟨h1,h5⟩,rfl⟩)
  ·exact ⟨.inr (.inl ⟨rfl,rfl,by omega⟩),by decide,fun _=>h0,(fun h=>absurd h (by decide))⟩
  ·exact ⟨.inr (.inr (.inl ⟨rfl,rfl,h0⟩)),by decide,(fun h=>absurd h (by decide)),(fun h=>absurd h (by decide))⟩
  ·exact ⟨.inr (.inr (.inr (.inl ⟨rfl,rfl,h1,h2⟩))),by decide,(fun h=>absurd h (by decide)),(fun h=>absurd h (by decide))⟩
  exact ⟨.inr (.inr (.inr (.inr ⟨rfl,rfl,h1,by omega⟩))),by decide,(fun h=>absurd h (by decide)),fun _=>by omega⟩
 rintro ⟨⟨rfl,-⟩ | ⟨rfl,rfl,h0⟩ | ⟨rfl,rfl,h0⟩ | ⟨rfl,rfl,h1,h2⟩ | ⟨rfl,rfl,h1,h6⟩,g0,g1,g4⟩
 ·exact absurd rfl g0
 ·exact .inl ⟨rfl,g1 rfl,rfl⟩
 ·exact .inr (.inl ⟨rfl,h0,rfl⟩)
 ·exact .inr (.inr (.inl ⟨rfl,rfl,h1,h2⟩))
 exact .inr (.inr (.inr ⟨rfl,⟨h1,by have:=g4 rfl; omega⟩,rfl⟩))
open Classical in
noncomputable def mA (k:Nat) (n:Int) (t:List UInt8):Bool:=decide (dF k n t)
theorem AN (k n:Int) (s:ByteArray) (w:World) (HC:∀ w,Calls prog 60 #[.agg #[.int .u8 k,.int .i64 n,.string s]] w fun e w'=>e=.returned (.int .i64 2)∧Below w.heap.size w w') :
  Calls prog 30 #[.agg #[.int .u8 k,.int .i64 n,.string s]] w fun e w'=>e=.returned (.bool false)∧Below w.heap.size w w':=by
 have HCC:=keep HC
 clear HC
 have H1:=Lib.hid ((Ok.start w).alloc w.heap.size 23 [.int .u8 k,.int .i64 n,.string s] rfl)
 go_enter func30,ntmps30
 go_wp2_with fail
 generalize (w.alloc (.cells #[.int .u8 k,.int .i64 n,.string s] 23))=W2 at H1 ⊢
 refine cM (HCC.out _) H1 fun w3 H5=>?_
 clear H1
 have F6:=sE H5
 go_wp2_with fail
 go_ret
 exact ⟨rfl,H5.out.bel⟩
theorem CN (n:Int) (s:ByteArray) (w:World) (HC:∀ w,Calls prog 60 #[.agg #[.int .u8 0,.int .i64 n,.string s]] w fun e w'=>e=.returned (.int .i64 0)∧Below w.heap.size w w') :
  Calls prog 30 #[.agg #[.int .u8 0,.int .i64 n,.string s]] w fun e w'=>e=.returned (.bool false)∧Below w.heap.size w w':=by
 have HCC:=keep HC
 clear HC
 have H1:=Lib.hid ((Ok.start w).alloc w.heap.size 23 [.int .u8 0,.int .i64 n,.string s] rfl)
 go_enter func30,ntmps30
 go_wp2_with fail
 generalize (w.alloc (.cells #[.int .u8 0,.int .i64 n,.string s] 23))=W2 at H1 ⊢
 refine cM (HCC.out _) H1 fun w3 H5=>?_
 clear H1
 have F6:=sE H5
 go_wp2_with fail
 go_ret
 exact ⟨rfl,H5.out.bel⟩
theorem BM (n:Int) (s:ByteArray) (h:0≤n) (w:World) (HC:∀ w,Calls prog 60 #[.agg #[.int .u8 1,.int .i64 n,.string s]] w fun e w'=>e=.returned (.int .i64 0)∧Below w.heap.size w w') :
  Calls prog 30 #[.agg #[.int .u8 1,.int .i64 n,.string s]] w fun e w'=>e=.returned (.bool true)∧Below w.heap.size w w':=by
 have HCC:=keep HC
 clear HC
 have H1:=Lib.hid ((Ok.start w).alloc w.heap.size 23 [.int .u8 1,.int .i64 n,.string s] rfl)
 go_enter func30,ntmps30
 go_wp2_with fail
 generalize (w.alloc (.cells #[.int .u8 1,.int .i64 n,.string s] 23))=W2 at H1 ⊢
 refine cM (HCC.out _) H1 fun w3 H5=>?_
 clear H1
 have F6:=sE H5
 go_wp2_with fail
 go_ret
 exact ⟨rfl,H5.out.bel⟩
theorem BK (n:Int) (s:ByteArray) (h:decide (0≤n)=false) (w:World) (HC:∀ w,Calls prog 60 #[.agg #[.int .u8 1,.int .i64 n,.string s]] w fun e w'=>e=.returned (.int .i64 0)∧Below w.heap.size w w') :
  Calls prog 30 #[.agg #[.int .u8 1,.int .i64 n,.string s]] w fun e w'=>e=.returned (.bool false)∧Below w.heap.size w w':=by
 have HCC:=keep HC
 clear HC
 have H1:=Lib.hid ((Ok.start w).alloc w.heap.size 23 [.int .u8 1,.int .i64 n,.string s] rfl)
 go_enter func30,ntmps30
 go_wp2_with fail
 generalize (w.alloc (.cells #[.int .u8 1,.int .i64 n,.string s] 23))=W2 at H1 ⊢
 refine cM (HCC.out _) H1 fun w3 H5=>?_
 clear H1
 have F6:=sE H5
 go_wp2_with fail
 go_ret
 exact ⟨rfl,H5.out.bel⟩
theorem CO (n:Int) (s:ByteArray) (w:World) (HC:∀ w,Calls prog 60 #[.agg #[.int .u8 2,.int .i64 n,.string s]] w fun e w'=>e=.returned (.int .i64 0)∧Below w.heap.size w w') :
  Calls prog 30 #[.agg #[.int .u8 2,.int .i64 n,.string s]] w fun e w'=>e=.returned (.bool true)∧Below w.heap.size w w':=by
 have HCC:=keep HC
 clear HC
 have H1:=Lib.hid ((Ok.start w).alloc w.heap.size 23 [.int .u8 2,.int .i64 n,.string s] rfl)
 go_enter func30,ntmps30
 go_wp2_with fail
 generalize (w.alloc (.cells #[.int .u8 2,.int .i64 n,.string s] 23))=W2 at H1 ⊢
 refine cM (HCC.out _) H1 fun w3 H5=>?_
 clear H1
 have F6:=sE H5
 go_wp2_with fail
 go_ret
 exact ⟨rfl,H5.out.bel⟩
theorem CP (n:Int) (s:ByteArray) (w:World) (HC:∀ w,Calls prog 60 #[.agg #[.int .u8 3,.int .i64 n,.string s]] w fun e w'=>e=.returned (.int .i64 0)∧Below w.heap.size w w') :
  Calls prog 30 #[.agg #[.int .u8 3,.int .i64 n,.string s]] w fun e w'=>e=.returned (.bool true)∧Below w.heap.size w w':=by
 have HCC:=keep HC
 clear HC
 have H1:=Lib.hid ((Ok.start w).alloc w.heap.size 23 [.int .u8 3,.int .i64 n,.string s] rfl)
 go_enter func30,ntmps30
 go_wp2_with fail
 generalize (w.alloc (.cells #[.int .u8 3,.int .i64 n,.string s] 23))=W2 at H1 ⊢
 refine cM (HCC.out _) H1 fun w3 H5=>?_
 clear H1
 have F6:=sE H5
 go_wp2_with fail
 go_ret
 exact ⟨rfl,H5.out.bel⟩
theorem BO (n:Int) (s:ByteArray) (h2:(n != 6)=true) (w:World) (HC:∀ w,Calls prog 60 #[.agg #[.int .u8 4,.int .i64 n,.string s]] w fun e w'=>e=.returned (.int .i64 0)∧Below w.heap.size w w') :
  Calls prog 30 #[.agg #[.int .u8 4,.int .i64 n,.string s]] w fun e w'=>e=.returned (.bool true)∧Below w.heap.size w w':=by
 have HCC:=keep HC
 clear HC
 have H1:=Lib.hid ((Ok.start w).alloc w.heap.size 23 [.int .u8 4,.int .i64 n,.string s] rfl)
 go_enter func30,ntmps30
 go_wp2_with fail
 generalize (w.alloc (.cells #[.int .u8 4,.int .i64 n,.string s] 23))=W2 at H1 ⊢
 refine cM (HCC.out _) H1 fun w3 H5=>?_
 clear H1
 have F6:=sE H5
 go_wp2_with fail
 go_ret
 exact ⟨rfl,H5.out.bel⟩
theorem BN (s:ByteArray) (w:World) (HC:∀ w,Calls prog 60 #[.agg #[.int .u8 4,.int .i64 6,.string s]] w fun e w'=>e=.returned (.int .i64 0)∧Below w.heap.size w w') :
  Calls prog 30 #[.agg #[.int .u8 4,.int .i64 6,.string s]] w fun e w'=>e=.returned (.bool false)∧Below w.heap.size w w':=by
 have HCC:=keep HC
 clear HC
 have H1:=Lib.hid ((Ok.start w).alloc w.heap.size 23 [.int .u8 4,.int .i64 6,.string s] rfl)
 go_enter func30,ntmps30
 go_wp2_with fail
 generalize (w.alloc (.cells #[.int .u8 4,.int .i64 6,.string s] 23))=W2 at H1 ⊢
 refine cM (HCC.out _) H1 fun w3 H5=>?_
 clear H1
 have F6:=sE H5
 go_wp2_with fail
 go_ret
 exact ⟨rfl,H5.out.bel⟩
open Classical in
theorem dG {k:Nat} {n:Int} {t:List UInt8} (h:dF k n t):mA k n t=true:=decide_eq_true h
open Classical in
theorem iz {k:Nat} {n:Int} {t:List UInt8} (h:¬ dF k n t):mA k n t=false:=decide_eq_false h
theorem cI (k:Nat) (n:Int) (s:ByteArray) (hs:s.size≤4611686018427387904) (hlo : -9223372036854775808≤n) (w:World) :
  Calls prog 30 #[.agg #[.int .u8 (k:Nat),.int .i64 n,.string s]] w fun e w'=>e=.returned (.bool (mA k n s.data.toList))∧Below w.heap.size w w':=by
 have HV:=fun w=>gY k n s hs hlo w
 by_cases hc:cellV k n s.data.toList
 rotate_left
 ·rw [iz (fun h=>hc (dy.1 h).1)]
  rw [bg hc] at HV
  exact AN k n s w HV
 rw [bA hc] at HV
 have hh:=hc
 rcases hh with ⟨rfl,-⟩ | ⟨rfl,-⟩ | ⟨rfl,-⟩ | ⟨rfl,-⟩ | ⟨rfl,-⟩
 ·rw [iz (fun h=>(dy.1 h).2.1 rfl)]; exact CN n s w HV
 ·by_cases h0:0≤n
  ·rw [dG (dy.2 ⟨hc,by decide,fun _=>h0,(fun h=>absurd h (by decide))⟩)]; exact BM n s h0 w HV
  rw [iz (fun h=>h0 ((dy.1 h).2.2.1 rfl))]; exact BK n s (by simp; omega) w HV
 ·rw [dG (dy.2 ⟨hc,by decide,(fun h=>absurd h (by decide)),(fun h=>absurd h (by decide))⟩)]; exact CO n s w HV
 ·rw [dG (dy.2 ⟨hc,by decide,(fun h=>absurd h (by decide)),(fun h=>absurd h (by decide))⟩)]; exact CP n s w HV
 by_cases h6:n=6
 ·subst h6
  rw [iz (fun h=>(dy.1 h).2.2.2 rfl rfl)]; exact BN s w HV
 rw [dG (dy.2 ⟨hc,by decide,(fun h=>absurd h (by decide)),fun _=>h6⟩)]; exact BO n s (by rw [bne,beq_eq_false_iff_ne.2 h6]; rfl) w HV
set_option maxRecDepth 100000
set_option maxHeartbeats 4000000
theorem yW (k:Nat) (n:Int) (s:ByteArray) (hs:s.size≤4611686018427387904) (hlo : -9223372036854775808≤n) (hg:mA k n s.data.toList=false) (w:World) :
  Calls prog 16 #[.agg #[.int .u8 (k:Nat),.int .i64 n,.string s]] w fun e w'=>e=.returned (.tuple #[.string ⟨#[]⟩,.int .i64 2])∧Below w.heap.size w w':=by
 have HS:=keep hs
 have HLO:=keep hlo
 have HG:=keep hg
 clear hs hlo hg
 have H1:=Lib.hid ((Ok.start w).alloc w.heap.size 23 [.int .u8 (k:Nat),.int .i64 n,.string s] rfl)
 go_enter func16,ntmps16
 go_wp2_with fail
 generalize (w.alloc (.cells #[.int .u8 (k:Nat),.int .i64 n,.string s] 23))=W2 at H1 ⊢
 refine cM (cI k n s HS.out HLO.out _) H1 fun w3 H5=>?_
 rw [HG.out]
 clear H1
 have F6:=sE H5
 go_wp2_with fail
 exact bodyPost_ret (v:=.tuple #[.string ⟨#[]⟩,.int .i64 2]) (by simp [results,results16,go_sem]) rfl ⟨rfl,H5.out.bel⟩
theorem yY (n:Int) (h0:0≤n) (h1:n≤9223372036854775807) (w:World) :
  Calls prog 16 #[.agg #[.int .u8 1,.int .i64 n,.string ⟨#[]⟩]] w fun e w'=>e=.returned (.tuple #[.string ⟨(eK n).toArray⟩,.int .i64 0])∧Below w.heap.size w w':=by
 have HS:=keep (show (⟨#[]⟩:ByteArray).size≤4611686018427387904 by decide)
 have HLO:=keep (show -9223372036854775808≤n by omega)
 have HHI:=keep h1
 have HG:=keep (show mA 1 n (⟨#[]⟩:ByteArray).data.toList=true from dG (.inl ⟨rfl,h0,rfl⟩))
 clear h0 h1
 have H1:=Lib.hid ((Ok.start w).alloc w.heap.size 23 [.int .u8 1,.int .i64 n,.string ⟨#[]⟩] rfl)
 go_enter func16,ntmps16
 go_wp2_with fail
 generalize (w.alloc (.cells #[.int .u8 1,.int .i64 n,.string ⟨#[]⟩] 23))=W2 at H1 ⊢
 refine cM (cI 1 n (⟨#[]⟩:ByteArray) HS.out HLO.out _) H1 fun w3 H5=>?_
 rw [HG.out]
 clear H1
 have F6:=sE H5
 go_wp2_with fail
 refine cM (py n _ HLO.out HHI.out) H5 fun w7 H9=>?_
 clear F6 H5
 have F10:=sE H9
 go_wp2_with fail
 exact bodyPost_ret (v:=.tuple #[.string ⟨(eK n).toArray⟩,.int .i64 0]) (by simp [results,results16,go_sem]) rfl ⟨rfl,H9.out.bel⟩
theorem vP (n:Int) (hn:n=0∨n=1) (w:World) :
  Calls prog 16 #[.agg #[.int .u8 2,.int .i64 n,.string ⟨#[]⟩]] w fun e w'=>e=.returned (.tuple #[.string ⟨(jV n).toArray⟩,.int .i64 0])∧Below w.heap.size w w':=by
 have HS:=keep (show (⟨#[]⟩:ByteArray).size≤4611686018427387904 by decide)
 have HLO:=keep (show -9223372036854775808≤n by omega)
 have HN:=keep hn
 have HG:=keep (show mA 2 n (⟨#[]⟩:ByteArray).data.toList=true from dG (.inr (.inl ⟨rfl,hn,rfl⟩)))
 clear hn
 have H1:=Lib.hid ((Ok.start w).alloc w.heap.size 23 [.int .u8 2,.int .i64 n,.string ⟨#[]⟩] rfl)
 go_enter func16,ntmps16
 go_wp2_with fail
 generalize (w.alloc (.cells #[.int .u8 2,.int .i64 n,.string ⟨#[]⟩] 23))=W2 at H1 ⊢
 refine cM (cI 2 n (⟨#[]⟩:ByteArray) HS.out HLO.out _) H1 fun w3 H5=>?_
 rw [HG.out]
 clear H1
 have F6:=sE H5
 go_wp2_with fail
 refine cM (qZ n HN.out _) H5 fun w7 H9=>?_
 clear F6 H5
 have F10:=sE H9
 go_wp2_with fail
 exact bodyPost_ret (v:=.tuple #[.string ⟨(jV n).toArray⟩,.int .i64 0]) (by simp [results,results16,go_sem]) rfl ⟨rfl,H9.out.bel⟩
theorem yZ (s:ByteArray) (hs:s.size≤4611686018427387904) (hc:bm s.data.toList=0) (w:World) :
  Calls prog 16 #[.agg #[.int .u8 3,.int .i64 0,.string s]] w fun e w'=>e=.returned (.tuple #[.string ⟨(cY s.data.toList).toArray⟩,.int .i64 0])∧Below w.heap.size w w':=by
 have HS:=keep hs
 have HLO:=keep (show (-9223372036854775808:Int)≤0 by decide)
 have HC:=keep hc
 have HQ:=keep (show eP s.data.toList=cY s.data.toList from if_pos hc)
 have HG:=keep (show mA 3 0 s.data.toList=true from dG (.inr (.inr (.inl ⟨rfl,rfl,(ny _).1 hc⟩))))
 clear hs hc
 have H1:=Lib.hid ((Ok.start w).alloc w.heap.size 23 [.int .u8 3,.int .i64 0,.string s] rfl)
 go_enter func16,ntmps16
 go_wp2_with fail
 generalize (w.alloc (.cells #[.int .u8 3,.int .i64 0,.string s] 23))=W2 at H1 ⊢
 refine cM (cI 3 0 s HS.out HLO.out _) H1 fun w3 H5=>?_
 rw [HG.out]
 clear H1
 have F6:=sE H5
 go_wp2_with fail
 refine (qY s _ HS.out).mono ?_
 rintro e w7 ⟨rfl,hb8⟩
 rw [HC.out,HQ.out]
 have H9:=Lib.hid (H5.out.below hb8)
 clear F6
 clear hb8 H5
 go_wp2_with fail
 exact bodyPost_ret (v:=.tuple #[.string ⟨(cY s.data.toList).toArray⟩,.int .i64 0]) (by simp [results,results16,go_sem]) rfl ⟨rfl,H9.out.bel⟩
theorem yX (n:Int) (h1:1≤n) (h5:n≤5) (w:World) :
  Calls prog 16 #[.agg #[.int .u8 4,.int .i64 n,.string ⟨#[]⟩]] w fun e w'=>e=.returned (.tuple #[.string ⟨(qk n).toArray⟩,.int .i64 0])∧Below w.heap.size w w':=by
 have HS:=keep (show (⟨#[]⟩:ByteArray).size≤4611686018427387904 by decide)
 have HLO:=keep (show -9223372036854775808≤n by omega)
 have HG:=keep (show mA 4 n (⟨#[]⟩:ByteArray).data.toList=true from dG (.inr (.inr (.inr ⟨rfl,⟨h1,h5⟩,rfl⟩))))
 clear h1 h5
 have H1:=Lib.hid ((Ok.start w).alloc w.heap.size 23 [.int .u8 4,.int .i64 n,.string ⟨#[]⟩] rfl)
 go_enter func16,ntmps16
 go_wp2_with fail
 generalize (w.alloc (.cells #[.int .u8 4,.int .i64 n,.string ⟨#[]⟩] 23))=W2 at H1 ⊢
 refine cM (cI 4 n (⟨#[]⟩:ByteArray) HS.out HLO.out _) H1 fun w3 H5=>?_
 rw [HG.out]
 clear H1
 have F6:=sE H5
 go_wp2_with fail
 refine cM (tS n _) H5 fun w7 H9=>?_
 clear F6 H5
 have F10:=sE H9
 go_wp2_with fail
 exact bodyPost_ret (v:=.tuple #[.string ⟨(qk n).toArray⟩,.int .i64 0]) (by simp [results,results16,go_sem]) rfl ⟨rfl,H9.out.bel⟩
theorem zm (n:Int):tkT (tkV ⟨1,1,n,[],R4.zero,0,0,0⟩)=eK n:=rfl
theorem wB (n:Int):tkT (tkV ⟨1,2,n,[],R4.zero,0,0,0⟩)=jV n:=rfl
theorem zn (t:List UInt8):tkT (tkV ⟨1,3,0,t,R4.zero,0,0,0⟩)=cY t:=rfl
theorem zk (n:Int) (h1:1≤n) (h5:n≤5):tkT (tkV ⟨1,4,n,[],R4.zero,0,0,0⟩)=qk n:=by
 rcases (show n=1∨n=2∨n=3∨n=4∨n=5 by omega) with rfl | rfl | rfl | rfl | rfl <;> rfl
theorem rn {s:ByteArray} (h:s.data.toList=[]):s=⟨#[]⟩:=by
 rcases eG s with h1 | ⟨-,h1⟩
 ·exact h1
 exact absurd h h1
theorem iQ (k:Nat) (n:Int) (s:ByteArray) (hs:s.size≤4611686018427387904) (hlo : -9223372036854775808≤n) (hhi:n≤9223372036854775807) (w:World) :
  Calls prog 16 #[.agg #[.int .u8 (k:Nat),.int .i64 n,.string s]] w fun e w'=>e=.returned (.tuple #[.string ⟨(gS k n s.data.toList).1.toArray⟩,.int .i64 (gS k n s.data.toList).2])∧Below w.heap.size w w':=by
 by_cases hg:dF k n s.data.toList
 ·rw [jy hg]
  rcases hg with ⟨rfl,h0,ht⟩ | ⟨rfl,h0,ht⟩ | ⟨rfl,rfl,h1,hp⟩ | ⟨rfl,⟨h1,h5⟩,ht⟩
  ·rw [ht,rn ht,zm]; exact yY n h0 hhi w
  ·rw [ht,rn ht,wB]; exact vP n h0 w
  ·rw [zn]; exact yZ s hs ((ny _).2 ⟨h1,hp⟩) w
  rw [ht,rn ht,zk n h1 h5]; exact yX n h1 h5 w
 rw [qM hg]
 exact yW k n s hs hlo (iz hg) w
