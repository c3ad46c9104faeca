/- The reference's decimal reader: digits, sums and products of 128 bits, Parse (louvreref01). The contracts of parse.Binds and of the tree's tables. The parser's put, is, want, value and fail. The contract of tree.Function. -/
import Derived.Test.YtdplcdhpnmcdjaaGreatDoorKParA
import Derived.Test.YtdplcdhpnmcdjaaGreatDoorKTg
import Derived.Test.YtdplcdhpnmcdjaaGreatDoorKLexJ
import Derived.Deep.DeepCutAuto
import Derived.Laws.Strings3
namespace Go.Proofs.YtdplcdhpnmcdjaaGreatDoor
set_option maxRecDepth 100000
set_option maxHeartbeats 8000000
open Go.RowKit Go.Proofs.Tryz
theorem fY (a b c d x y:Int) (hb:0≤b∧b≤18446744073709551615∧0≤d∧d≤18446744073709551615) (ha:0≤a∧a≤1000∧0≤c∧c≤1000) (h:(x=a+c∧y=b+d∧b+d≤18446744073709551615)∨(x=a+c+1∧y=b+d - 18446744073709551616∧18446744073709551615<b+d)) (w:World) :
  Calls prog 133 #[.agg #[.int .u64 a,.int .u64 b],.agg #[.int .u64 c,.int .u64 d]] w fun e w'=>e=.returned (.agg #[.int .u64 x,.int .u64 y])∧Below w.heap.size w w':=by
 obtain ⟨z,hz⟩:=ex (a+c)
 have hw2:IntKind.u64.wrap (a+c)=z:=by rw [Go.IntWalk.u64_in _ (by omega)]; exact hz
 have H1:=Lib.hid ((((Ok.start w).alloc w.heap.size 158 [.int .u64 a,.int .u64 b] rfl).alloc (w.heap.size+1) 158 [.int .u64 c,.int .u64 d] (by simp)).var (w.heap.size+1+1) 158 [.int .u64 0,.int .u64 0] (by simp))
 rcases h with ⟨hx,hy,hs⟩ | ⟨hx,hy,hs⟩
 ·obtain rfl:x=z:=by omega
  have hw1:IntKind.u64.wrap (b+d)=y:=by rw [Go.IntWalk.u64_in _ (by omega)]; omega
  have hlt:¬ (y<b):=by omega
  clear hx hy hs hb ha hz
  go_enter func133,ntmps133
  go_upto_region 1 with fail
  generalize (((w.alloc (.cells #[.int .u64 a,.int .u64 b] 158)).alloc (.cells #[.int .u64 c,.int .u64 d] 158)).alloc (.cells #[.int .u64 0,.int .u64 0] 158))=W2 at H1 ⊢
  have F3:=sE H1
  go_wp2_with fail
  have hK:=H1.out.get (af (w.heap.size+2) 158 [.int .u64 0,.int .u64 0]) (by simp)
  have hB:=H1.out.bel
  have hE:=(((show Blk W2 (w.heap.size+2) 158 _ from hK).set_ 0 (.int .u64 x)).set_ 1 (.int .u64 y))
  exact bodyPost_ret (v:=.agg #[.int .u64 x,.int .u64 y]) (by simp [results,results133,go_sem,hE.cell]) rfl ⟨rfl,((hB.setCell (by simp; omega) _).setCell (by simp; omega) _)⟩
 have hw1:IntKind.u64.wrap (b+d)=y:=by rw [IntKind.wrap_u64]; omega
 have hlt:y<b:=by omega
 have hw3:IntKind.u64.wrap (z+1)=x:=by rw [Go.IntWalk.u64_in _ (by omega)]; omega
 clear hx hy hs hb ha hz
 go_enter func133,ntmps133
 go_upto_region 1 with fail
 generalize (((w.alloc (.cells #[.int .u64 a,.int .u64 b] 158)).alloc (.cells #[.int .u64 c,.int .u64 d] 158)).alloc (.cells #[.int .u64 0,.int .u64 0] 158))=W2 at H1 ⊢
 have F3:=sE H1
 go_wp2_with fail
 have hK:=H1.out.get (af (w.heap.size+2) 158 [.int .u64 0,.int .u64 0]) (by simp)
 have hB:=H1.out.bel
 have hE:=(((show Blk W2 (w.heap.size+2) 158 _ from hK).set_ 0 (.int .u64 x)).set_ 1 (.int .u64 y))
 exact bodyPost_ret (v:=.agg #[.int .u64 x,.int .u64 y]) (by simp [results,results133,go_sem,hE.cell]) rfl ⟨rfl,((hB.setCell (by simp; omega) _).setCell (by simp; omega) _)⟩
theorem rW (n:Nat) (hn:n≤9223372036854775807) (w:World) :
  Calls prog 134 #[.int .u64 (n:Int),.int .u64 10] w fun e w'=>e=.returned (.agg #[.int .u64 ((10 * n / 18446744073709551616:Nat):Int),.int .u64 ((10 * n % 18446744073709551616:Nat):Int)])∧Below w.heap.size w w':=by
 obtain ⟨x,hx⟩:∃ x:Nat,10 * n / 18446744073709551616=x:=⟨_,rfl⟩
 obtain ⟨y,hy⟩:∃ y:Nat,10 * n % 18446744073709551616=y:=⟨_,rfl⟩
 rw [hx,hy]
 have HP1:=keep (fun W=>fY 0 ((n:Int) % 4294967296 * 10) ((n:Int) / 4294967296 * 10 / 4294967296) ((n:Int) / 4294967296 * 10 % 4294967296 * 4294967296) x y (by omega) (by omega) (by omega) W)
 have HP2:=keep (fun W=>fY x y 0 0 x y (by omega) (by omega) (by omega) W)
 clear hx hy
 have H0:=Lib.hid (Ok.start w)
 go_enter func134,ntmps134
 go_upto_region 1 with fail
 have H1:=Lib.hid (H0.out.var w.heap.size 158 [.int .u64 0,.int .u64 0] rfl)
 clear H0
 generalize (w.alloc (.cells #[.int .u64 0,.int .u64 0] 158))=W2 at H1 ⊢
 have F3:=H1.out.sees
 simp only [sees,af,aa,Nat.reduceAdd] at F3
 obtain ⟨⟨⟨z0,fz0⟩,c00,c01,-⟩,-⟩:=F3
 go_upto_region 3 with fail
 have y4:=z0
 clear z0 fz0 c00 c01
 have H5:=Lib.hid (H1.out.var W2.heap.size 158 [.int .u64 0,.int .u64 ((n:Int) % 4294967296 * 10)] rfl)
 clear H1
 generalize (W2.alloc (.cells #[.int .u64 0,.int .u64 ((n:Int) % 4294967296 * 10)] 158))=W6 at H5 ⊢
 have F7:=sE H5
 go_wp2_with fail
 refine cM (HP1.out _) H5 fun w8 H10=>?_
 clear F7 H5
 have F11:=sE H10
 go_wp2_with fail
 have H12:=Lib.hid (H10.out.drop [af (W2.heap.size) 158 [.int .u64 0,.int .u64 ((n:Int) % 4294967296 * 10)],af (w.heap.size) 158 [.int .u64 0,.int .u64 0]] (by simp))
 have hfar:∀ x∈[af (w.heap.size) 158 [.int .u64 0,.int .u64 0]],x.far (some (W2.heap.size)):=by
  simp [af]; omega
 have H13:Hid (Ok w [af (W2.heap.size) 158 [.int .u64 (x:Nat),.int .u64 (y:Nat)],af (w.heap.size) 158 [.int .u64 0,.int .u64 0]] ((w8.setCell ⟨W2.heap.size,0,none⟩ (.int .u64 (x:Nat))).setCell ⟨W2.heap.size,1,none⟩ (.int .u64 (y:Nat)))):=((H12.out.set_ (i:=0) (u:=.int .u64 (x:Nat)) (by omega) hfar).set_ (i:=1) (u:=.int .u64 (y:Nat)) (by omega) hfar)
 clear F11
 clear H10 H12 hfar
 generalize ((w8.setCell ⟨W2.heap.size,0,none⟩ (.int .u64 (x:Nat))).setCell ⟨W2.heap.size,1,none⟩ (.int .u64 (y:Nat)))=W14 at H13 ⊢
 have F15:=sE H13
 go_wp2_with fail
 refine cM (HP2.out _) H13 fun w16 H18=>?_
 clear F15 H13
 have F19:=sE H18
 go_wp2_with fail
 have hK:=H18.out.get (af (w.heap.size) 158 [.int .u64 0,.int .u64 0]) (by simp)
 have hB:=H18.out.bel
 have hE:=(((show Blk w16 (w.heap.size) 158 _ from hK).set_ 0 (.int .u64 (x:Nat))).set_ 1 (.int .u64 (y:Nat)))
 exact bodyPost_ret (v:=.agg #[.int .u64 (x:Nat),.int .u64 (y:Nat)]) (by simp [results,results134,go_sem,hE.cell]) rfl ⟨rfl,(sC (sC hB _) _)⟩
theorem mN (n:Nat) (hn:n≤1000000000000000000000) (neg:Bool) (w:World) :
  Calls prog 135 #[.agg #[.int .u64 ((n / 18446744073709551616:Nat):Int),.int .u64 ((n % 18446744073709551616:Nat):Int)],.bool neg] w fun e w'=>e=.returned (.tuple #[.int .i64 (if n≤9223372036854775807 then (if neg=true then -(n:Int) else n) else 0),.bool (decide (n≤9223372036854775807))])∧Below w.heap.size w w':=by
 obtain ⟨h,hh⟩:∃ h:Nat,n / 18446744073709551616=h:=⟨_,rfl⟩
 obtain ⟨l,hl⟩:∃ l:Nat,n % 18446744073709551616=l:=⟨_,rfl⟩
 rw [hh,hl]
 by_cases hb:n≤9223372036854775807
 ·rw [if_pos hb,decide_eq_true hb]
  obtain rfl:n=l:=by omega
  obtain rfl:h=0:=by omega
  have ec:IntKind.i64.wrap (n:Int)=n:=Go.IntWalk.i64_in _ (by omega)
  have en:IntKind.i64.wrap (-(n:Int))=-n:=Go.IntWalk.i64_in _ (by omega)
  have hg:¬ ((n:Int)>9223372036854775807):=by omega
  clear hh hl hn
  cases neg
  ·rw [if_neg (by decide)]
   have H1:=Lib.hid ((Ok.start w).alloc w.heap.size 158 [.int .u64 0,.int .u64 (n:Nat)] rfl)
   go_enter func135,ntmps135
   go_upto_region 1 with fail
   generalize (w.alloc (.cells #[.int .u64 0,.int .u64 (n:Nat)] 158))=W2 at H1 ⊢
   have F3:=sE H1
   go_wp2_with fail
   exact bodyPost_ret (v:=.tuple #[.int .i64 (n:Int),.bool true]) (by simp [results,results135,go_sem]) rfl ⟨rfl,H1.out.bel⟩
  rw [if_pos rfl]
  have H1:=Lib.hid ((Ok.start w).alloc w.heap.size 158 [.int .u64 0,.int .u64 (n:Nat)] rfl)
  go_enter func135,ntmps135
  go_upto_region 1 with fail
  generalize (w.alloc (.cells #[.int .u64 0,.int .u64 (n:Nat)] 158))=W2 at H1 ⊢
  have F3:=sE H1
  go_wp2_with fail
  exact bodyPost_ret (v:=.tuple #[.int .i64 (-(n:Int)),.bool true]) (by simp [results,results135,go_sem]) rfl ⟨rfl,H1.out.bel⟩
 rw [if_neg hb,decide_eq_false hb]
 by_cases h0:h=0
 ·subst h0
  have hg:(l:Int)>9223372036854775807:=by omega
  clear hh hl hn hb
  have H1:=Lib.hid ((Ok.start w).alloc w.heap.size 158 [.int .u64 0,.int .u64 (l:Nat)] rfl)
  go_enter func135,ntmps135
  go_upto_region 1 with fail
  generalize (w.alloc (.cells #[.int .u64 0,.int .u64 (l:Nat)] 158))=W2 at H1 ⊢
  have F3:=sE H1
  go_wp2_with fail
  exact bodyPost_ret (v:=.tuple #[.int .i64 0,.bool false]) (by simp [results,results135,go_sem]) rfl ⟨rfl,H1.out.bel⟩
 have hg:((h:Int) != 0)=true:=by simp; omega
 clear hh hl hn hb h0
 have H1:=Lib.hid ((Ok.start w).alloc w.heap.size 158 [.int .u64 (h:Nat),.int .u64 (l:Nat)] rfl)
 go_enter func135,ntmps135
 go_upto_region 1 with fail
 generalize (w.alloc (.cells #[.int .u64 (h:Nat),.int .u64 (l:Nat)] 158))=W2 at H1 ⊢
 have F3:=sE H1
 go_wp2_with fail
 exact bodyPost_ret (v:=.tuple #[.int .i64 0,.bool false]) (by simp [results,results135,go_sem]) rfl ⟨rfl,H1.out.bel⟩
theorem rk (l : List UInt8) (f : Nat) : ∀ i,f ≤ i → i < f + ((l.drop f).takeWhile ah).length → ∃ h : i < l.length,ah (l[i]'h) = true:=by
 intro i h1 h2
 obtain ⟨e,hw,-⟩:=br ah (l.drop f)
 generalize (l.drop f).takeWhile ah=w at e hw h2
 have hlen:=congrArg List.length e
 rw [List.length_drop,List.length_append] at hlen
 refine ⟨by omega,?_⟩
 have h3:(l.drop f)[i - f]?=w[i - f]?:=by rw [e,List.getElem?_append_left (by omega)]
 rw [List.getElem?_drop,show f+(i - f)=i by omega,List.getElem?_eq_getElem (by omega),List.getElem?_eq_getElem (by omega)] at h3
 rw [Option.some.inj h3]
 exact hw _ (List.getElem_mem _)
theorem pT (l : List UInt8) (f z : Nat) (hf : f ≤ l.length) (hz : f + ((l.drop f).takeWhile ah).length = z) : z ≤ l.length ∧ ∀ h : z < l.length,ah (l[z]'h) = false:=by
 obtain ⟨e,-,hs⟩:=br ah (l.drop f)
 generalize (l.drop f).takeWhile ah=w at e hz
 generalize (l.drop f).dropWhile ah=d at e hs
 have hlen:=congrArg List.length e
 rw [List.length_drop,List.length_append] at hlen
 refine ⟨by omega,fun h => ?_⟩
 have h3:(l.drop f)[z - f]?=d[0]?:=by rw [e,List.getElem?_append_right (by omega),show z - f - w.length=0 by omega]
 rw [List.getElem?_drop,show f+(z - f)=z by omega,List.getElem?_eq_getElem h] at h3
 cases d with
 | nil=>cases h3
 | cons b r =>
  have:l[z]=b:=by simpa using h3
  rw [this]
  simpa [stops] using hs
theorem iT (s:ByteArray) (hs:s.size≤4611686018427387904) (f:Nat) (hf:f≤s.size) (w:World) :
  Calls prog 132 #[.string s,.int .i64 (f:Int)] w fun e w'=>e=.returned (.int .i64 ((f+((s.data.toList.drop f).takeWhile ah).length:Nat):Int))∧w'=w:=by
 obtain ⟨z,hz⟩:=ex (f+((s.data.toList.drop f).takeWhile ah).length)
 have hl:s.data.toList.length=s.size:=Array.length_toList
 have HR:=keep (show ∀ i,f ≤ i → i < z → ∃ h : i < s.size,ah (s[i]'h) = true from fun i h1 h2 => by
  obtain ⟨h,h3⟩:=rk s.data.toList f i h1 (by omega)
  exact ⟨by omega,h3⟩)
 have HS:=keep (show z ≤ s.size ∧ ∀ h : z < s.size,ah (s[z]'h) = false from by
  obtain ⟨h1,h2⟩:=pT s.data.toList f z (by omega) hz
  exact ⟨by omega,fun h=>h2 (by omega)⟩)
 have hfz:f≤z:=by omega
 have hzs:=HS.out.1
 rw [hz]
 clear hz hl
 obtain ⟨N,hN⟩:=ex (s.size)
 rw [hN] at hs hf hzs
 go_enter func132,ntmps132
 go_wp2_with fail
 go_loopw [1] (fun iv wr=>∃ i:Nat,f≤i∧i≤z∧iv=.int .i64 (i:Int)∧wr=w) (fun iv _=>z - (intOf iv).toNat)
 case atStart=>exact ⟨f,Nat.le_refl _,hfz,rfl,by trivial⟩
 case round =>
  obtain ⟨i,h1,h2,rfl,rfl⟩:=hrel
  by_cases hlt:i<z
  ·obtain ⟨hi,hd⟩:=HR.out i h1 hlt
   rw [dw,Bool.and_eq_true,decide_eq_true_eq,decide_eq_true_eq] at hd
   have hd1:=hd.1
   have hd2:=hd.2
   have hi2:(i:Int)<(s.size:Int):=by omega
   clear hd
   go_wp2_with fail
   go_roundw
   case rel=>exact ⟨i+1,by omega,by omega,by go_num,by trivial⟩
   case measure=>simp [intOf]; omega
  obtain rfl:i=z:=by omega
  by_cases hi:i<s.size
  ·have hd:=HS.out.2 hi
   rw [dw,Bool.and_eq_false_iff,decide_eq_false_iff_not,decide_eq_false_iff_not] at hd
   have hi2:(i:Int)<(s.size:Int):=by omega
   by_cases hd1 : 48 ≤ ((s[i]'hi).toNat : Int)
   ·have hd2 : ¬ (((s[i]'hi).toNat : Int) ≤ 57):=by omega
    clear hd
    go_wp2_with fail
    go_ret
    exact ⟨rfl,rfl⟩
   clear hd
   go_wp2_with fail
   go_ret
   exact ⟨rfl,rfl⟩
  have hi2:¬ ((i:Int)<(s.size:Int)):=by omega
  go_wp2_with fail
  go_ret
  exact ⟨rfl,rfl⟩
set_option maxRecDepth 100000
set_option maxHeartbeats 4000000
theorem xC (fn:Nat) (h:fn=5∨fn=6∨fn=7∨fn=25∨fn=39∨fn=40∨fn=18∨fn=19∨fn=45∨fn=44):arS fn=(2,2):=by
 rcases h with rfl | rfl | rfl | rfl | rfl | rfl | rfl | rfl | rfl | rfl <;> decide
theorem xD (fn:Nat) (h:fn=20∨fn=41∨fn=43):arS fn=(2,3):=by rcases h with rfl | rfl | rfl <;> decide
theorem xA (fn:Nat) (h:fn=32∨fn=33):arS fn=(1,2):=by rcases h with rfl | rfl <;> decide
theorem xF (fn:Nat) (h:fn=34):arS fn=(3,3):=by subst h; decide
theorem xB (fn:Nat) (h:fn=21∨fn=22∨fn=23∨fn=38∨fn=9∨fn=10∨fn=11∨fn=12∨fn=14∨fn=15∨fn=16∨fn=17):arS fn=(1,16):=by
 rcases h with rfl | rfl | rfl | rfl | rfl | rfl | rfl | rfl | rfl | rfl | rfl | rfl <;> decide
theorem xE (fn:Nat) (h:fn=30):arS fn=(2,16):=by subst h; decide
theorem xz (fn:Nat) (h:¬ (fn=5∨fn=6∨fn=7∨fn=25∨fn=39∨fn=40∨fn=18∨fn=19∨fn=45∨fn=44∨fn=20∨fn=41∨fn=43∨fn=32∨fn=33∨fn=34∨fn=21∨fn=22∨fn=23∨fn=38∨fn=9∨fn=10∨fn=11∨fn=12∨fn=14∨fn=15∨fn=16∨fn=17∨fn=30)):arS fn=(1,1):=by
 unfold arS
 simp only [List.mem_cons,List.not_mem_nil,or_false]
 rw [if_neg (by omega),if_neg (by omega),if_neg (by omega),if_neg (by omega),if_neg (by omega),if_neg (by omega)]
theorem j4 (fn:Nat) (w:World) (h1:1≤fn) (h2:fn≤50) :
  Calls prog 143 #[.int .u8 (fn:Nat)] w fun e w'=>e=.returned (.bool true)∧w'=w:=by
 have g1:(1:Int)≤fn:=by omega
 have g2:(fn:Int)≤50:=by omega
 go_enter func143,ntmps143
 go_wp2_with fail
 go_ret
 exact ⟨rfl,rfl⟩
theorem cw (fn:Nat) (w:World) (h1:1≤fn) (h2:fn≤50) :
  Calls prog 185 #[.int .u8 (fn:Nat)] w fun e w'=>e=.returned (.tuple #[.int .i64 ((arS fn).1:Nat),.int .i64 ((arS fn).2:Nat),.int .i64 0])∧w'=w:=by
 go_enter func185,ntmps185
 go_wp2_with fail
 all_goals simp only [beq_iff_eq,beq_eq_false_iff_ne,ne_eq] at *
 all_goals
  first
  | exact bodyPost_ret (v:=.tuple #[.int .i64 2,.int .i64 2,.int .i64 0]) (by simp [results,results185,go_sem]) rfl ⟨by rw [xC fn (by omega)]; rfl,rfl⟩
  | exact bodyPost_ret (v:=.tuple #[.int .i64 2,.int .i64 3,.int .i64 0]) (by simp [results,results185,go_sem]) rfl ⟨by rw [xD fn (by omega)]; rfl,rfl⟩
  | exact bodyPost_ret (v:=.tuple #[.int .i64 1,.int .i64 2,.int .i64 0]) (by simp [results,results185,go_sem]) rfl ⟨by rw [xA fn (by omega)]; rfl,rfl⟩
  | exact bodyPost_ret (v:=.tuple #[.int .i64 3,.int .i64 3,.int .i64 0]) (by simp [results,results185,go_sem]) rfl ⟨by rw [xF fn (by omega)]; rfl,rfl⟩
  | exact bodyPost_ret (v:=.tuple #[.int .i64 1,.int .i64 16,.int .i64 0]) (by simp [results,results185,go_sem]) rfl ⟨by rw [xB fn (by omega)]; rfl,rfl⟩
  | exact bodyPost_ret (v:=.tuple #[.int .i64 2,.int .i64 16,.int .i64 0]) (by simp [results,results185,go_sem]) rfl ⟨by rw [xE fn (by omega)]; rfl,rfl⟩
  | skip
 have HA:=keep (xz fn (by omega))
 refine (j4 fn _ h1 h2).mono ?_
 rintro e w' ⟨rfl,hw⟩
 obtain rfl:w=w':=hw.symm
 go_wp2_with fail
 exact bodyPost_ret (v:=.tuple #[.int .i64 1,.int .i64 1,.int .i64 0]) (by simp [results,results185,go_sem]) rfl ⟨by rw [HA.out]; rfl,rfl⟩
def vF (op:Int):Int:=if aT op=0 then 2 else 0
def vH (op:Int):Bool:=decide (op=5)
theorem cO (op:Int) (w:World) :
  Calls prog 168 #[.int .i64 op] w fun e w'=>e=.returned (.tuple #[.int .i64 (aT op:Nat),.bool (vH op),.int .i64 (vF op)])∧w'=w:=by
 go_enter func168,ntmps168
 go_wp2_with fail
 all_goals simp only [beq_iff_eq,beq_eq_false_iff_ne,ne_eq] at *
 all_goals
  first
  | exact bodyPost_ret (v:=.tuple #[.int .i64 1,.bool false,.int .i64 0]) (by simp [results,results168,go_sem]) rfl ⟨by subst_vars; rfl,rfl⟩
  | exact bodyPost_ret (v:=.tuple #[.int .i64 2,.bool false,.int .i64 0]) (by simp [results,results168,go_sem]) rfl ⟨by subst_vars; rfl,rfl⟩
  | exact bodyPost_ret (v:=.tuple #[.int .i64 3,.bool false,.int .i64 0]) (by simp [results,results168,go_sem]) rfl ⟨by subst_vars; rfl,rfl⟩
  | exact bodyPost_ret (v:=.tuple #[.int .i64 4,.bool false,.int .i64 0]) (by simp [results,results168,go_sem]) rfl ⟨by subst_vars; rfl,rfl⟩
  | exact bodyPost_ret (v:=.tuple #[.int .i64 6,.bool true,.int .i64 0]) (by simp [results,results168,go_sem]) rfl ⟨by subst_vars; rfl,rfl⟩
  | exact bodyPost_ret (v:=.tuple #[.int .i64 7,.bool false,.int .i64 0]) (by simp [results,results168,go_sem]) rfl ⟨by subst_vars; rfl,rfl⟩
  | skip
 have hb:aT op=0:=by
  unfold aT
  rw [if_neg (by omega),if_neg (by omega),if_neg (by omega),if_neg (by omega),if_neg (by omega),if_neg (by omega)]
 exact bodyPost_ret (v:=.tuple #[.int .i64 0,.bool false,.int .i64 2]) (by simp [results,results168,go_sem]) rfl ⟨by unfold vH vF; rw [hb,decide_eq_false (by omega)]; rfl,rfl⟩
set_option maxRecDepth 100000
set_option maxHeartbeats 2000000
theorem fB (w1:World) (ps:List aS) (pb en:Nat) (ts:List Tk) (ns:List Nd) (n:Nd) (w:World) (hn:ns.length≤1000) (h:St w1 ps pb en ts ns w) :
  Calls prog 170 #[.pointer (some ⟨pb,0,none⟩),ndA n] w (pB (.tuple #[]) w1 ps pb en ts (ns++[n])):=by
 obtain ⟨i0,hi,hz0,hz1,hz2⟩:=info_parts p8
 have hbel:=h.bel
 have HBEL:=Lib.hid hbel
 clear hbel
 have HPB:=keep h.lt
 have h:=h.alloc 39 (du n)
 obtain ⟨h1,h2,la,c,ov,hT,hO⟩:=h
 have HS:=keep (gU ns n)
 obtain ⟨nk,vk,vn,vt,⟨r1,r2,r3,r4⟩,op,fn,nn⟩:=n
 have HO:=Lib.hid hO
 have HT:=keep hT
 have H2:=keep h2
 clear hO hT h2 h
 obtain ⟨ln,hln⟩:=ex (ns.length)
 rw [hln] at hn HO
 have HLN:=keep hln
 clear hln
 unfold ndA du
 go_enter func170,ntmps170
 go_wp2_with fail
 have HO2:Hid (an w1 (af pb 95 [.slice la ts.length c,.int .i64 (en:Int),ov]::ac w.heap.size 39 [.int .u8 nk,.int .u8 vk,.int .i64 vn,.string ⟨vt.toArray⟩,.int .i64 r1,.int .i64 r2,.int .i64 r3,.int .i64 r4,.int .i64 op,.int .u8 fn,.int .i64 nn]::ps) 39 11 ov ln (de ns) (w.alloc (.cells #[.int .u8 nk,.int .u8 vk,.int .i64 vn,.string ⟨vt.toArray⟩,.int .i64 r1,.int .i64 r2,.int .i64 r3,.int .i64 r4,.int .i64 op,.int .u8 fn,.int .i64 nn] 39))):=HO
 clear HO
 generalize (w.alloc (.cells #[.int .u8 nk,.int .u8 vk,.int .i64 vn,.string ⟨vt.toArray⟩,.int .i64 r1,.int .i64 r2,.int .i64 r3,.int .i64 r4,.int .i64 op,.int .u8 fn,.int .i64 nn] 39))=W0 at HO2 ⊢
 have HR:=Lib.hid HO2.out.drew
 have HB0:=Lib.hid HO2.out.ok.drew.bel
 clear HO2
 refine wp_region_any (by kernel_rfl) ?_
 change wpAny _ _ _ _ _ _ _ W0.drew
 generalize W0.drew=W1 at HR HB0 ⊢
 have F:=sR HR
 have HR1:=Lib.hid (HR.out.alloc_obj (.cells #[.int .u8 nk,.int .u8 vk,.int .i64 vn,.string ⟨vt.toArray⟩,.int .i64 r1,.int .i64 r2,.int .i64 r3,.int .i64 r4,.int .i64 op,.int .u8 fn,.int .i64 nn] 39))
 refine wt5 0 ?_
 refine wt5 1 ?_
 refine wt5 2 ?_
 refine wt5 3 ?_
 refine wpAny_ready (rs:=[4,5]) (by kernel_rfl) (by simp) ?_
 refine (AllReady.cons rfl (fun K hK => ?_) (AllReady.cons rfl (fun K hK => ?_) AllReady.nil))
 ·go_simp
  refine hK _ _ ?_
  clear hK K
  refine wm ?_
  refine wan 5 fun K hK => ?_
  ·go_simp
   refine hK _ _ ?_
   clear hK K
   refine wm ?_
   refine wan 6 fun K hK => ?_
   ·go_simp
    refine hK _ _ ?_
    clear hK K
    refine wm ?_
    refine wan 7 fun K hK => ?_
    ·refine step_append_lies _ (by rfl) _ _ _ (by rfl) w1.heap.size 39 i0 _ 11 96 underlying22 hi hz0 hz1 hz2 rfl (by omega) _ _ _ (by rfl) HR1.out.own ⟨W1.heap.size,0,none⟩ 1 1 [.int .u8 nk,.int .u8 vk,.int .i64 vn,.string ⟨vt.toArray⟩,.int .i64 r1,.int .i64 r2,.int .i64 r3,.int .i64 r4,.int .i64 op,.int .u8 fn,.int .i64 nn] (by rfl) (by rfl) (World.news_of_block (cs:=#[.int .u8 nk,.int .u8 vk,.int .i64 vn,.string ⟨vt.toArray⟩,.int .i64 r1,.int .i64 r2,.int .i64 r3,.int .i64 r4,.int .i64 op,.int .u8 fn,.int .i64 nn]) (t:=39) (fr:=(0,0)) (heap_alloc_new _ _)) (by intro u hu; simp at hu; rcases hu with rfl | rfl | rfl | rfl | rfl | rfl | rfl | rfl | rfl | rfl | rfl <;> rfl) (by omega) (by unfold maxLen; omega) (by omega) (by have:=HB0.out.size; simp; omega) (W1.heap.size+1) (by simp) ?_
     intro g cap w3 hown3 hgrow3 hat3 hlt3
     have HR3:=Lib.hid (HR1.out.appended hown3 hgrow3 (by rw [World.size_alloc]; exact hat3))
     clear hown3 hgrow3 hat3
     refine hK _ _ ?_
     clear hK K
     refine wm ?_
     refine wt5 8 ?_
     refine wt5 9 ?_
     refine wan 10 fun K hK => ?_
     ·have F3:=sR HR3
      go_simp
      have HR4:=Lib.hid (HR3.out.set_ (i:=2) (u:=.slice (some ⟨g,0,none⟩) (ln+1) cap) h1 H2.out)
      refine hK _ _ ?_
      clear hK K
      refine wm ?_
      refine wpAny_done (by kernel_rfl) ?_ _
      first
       | go_end0
       | refine bodyPost_ret (results_none rfl _ _ _) rfl ?_
      refine ⟨rfl,h1,fun x hx=>H2.out x (List.mem_cons_of_mem _ hx),la,c,.slice (some ⟨g,0,none⟩) (ln+1) cap,HT.out,?_⟩
      have h9:=HR4.out
      rw [HS.out,List.length_append,HLN.out]
      exact h9.drop _ (by intro z hz; simp at hz ⊢; rcases hz with h | h <;> simp [h])
 go_simp
 refine hK _ _ ?_
 clear hK K
 refine wm ?_
 refine wpAny_ready (rs:=[4,6]) (by kernel_rfl) (by simp) ?_
 refine (AllReady.cons rfl (fun K hK => ?_) (AllReady.cons rfl (fun K hK => ?_) AllReady.nil))
 ·go_simp
  refine hK _ _ ?_
  clear hK K
  refine wm ?_
  refine wan 6 fun K hK => ?_
  ·go_simp
   refine hK _ _ ?_
   clear hK K
   refine wm ?_
   refine wan 7 fun K hK => ?_
   ·refine step_append_lies _ (by rfl) _ _ _ (by rfl) w1.heap.size 39 i0 _ 11 96 underlying22 hi hz0 hz1 hz2 rfl (by omega) _ _ _ (by rfl) HR1.out.own ⟨W1.heap.size,0,none⟩ 1 1 [.int .u8 nk,.int .u8 vk,.int .i64 vn,.string ⟨vt.toArray⟩,.int .i64 r1,.int .i64 r2,.int .i64 r3,.int .i64 r4,.int .i64 op,.int .u8 fn,.int .i64 nn] (by rfl) (by rfl) (World.news_of_block (cs:=#[.int .u8 nk,.int .u8 vk,.int .i64 vn,.string ⟨vt.toArray⟩,.int .i64 r1,.int .i64 r2,.int .i64 r3,.int .i64 r4,.int .i64 op,.int .u8 fn,.int .i64 nn]) (t:=39) (fr:=(0,0)) (heap_alloc_new _ _)) (by intro u hu; simp at hu; rcases hu with rfl | rfl | rfl | rfl | rfl | rfl | rfl | rfl | rfl | rfl | rfl <;> rfl) (by omega) (by unfold maxLen; omega) (by omega) (by have:=HB0.out.size; simp; omega) (W1.heap.size+1) (by simp) ?_
    intro g cap w3 hown3 hgrow3 hat3 hlt3
    have HR3:=Lib.hid (HR1.out.appended hown3 hgrow3 (by rw [World.size_alloc]; exact hat3))
    clear hown3 hgrow3 hat3
    refine hK _ _ ?_
    clear hK K
    refine wm ?_
    refine wt5 8 ?_
    refine wt5 9 ?_
    refine wan 10 fun K hK => ?_
    ·have F3:=sR HR3
     go_simp
     have HR4:=Lib.hid (HR3.out.set_ (i:=2) (u:=.slice (some ⟨g,0,none⟩) (ln+1) cap) h1 H2.out)
     refine hK _ _ ?_
     clear hK K
     refine wm ?_
     refine wpAny_done (by kernel_rfl) ?_ _
     first
      | go_end0
      | refine bodyPost_ret (results_none rfl _ _ _) rfl ?_
     refine ⟨rfl,h1,fun x hx=>H2.out x (List.mem_cons_of_mem _ hx),la,c,.slice (some ⟨g,0,none⟩) (ln+1) cap,HT.out,?_⟩
     have h9:=HR4.out
     rw [HS.out,List.length_append,HLN.out]
     exact h9.drop _ (by intro z hz; simp at hz ⊢; rcases hz with h | h <;> simp [h])
 go_simp
 refine hK _ _ ?_
 clear hK K
 refine wm ?_
 refine wan 4 fun K hK => ?_
 ·go_simp
  refine hK _ _ ?_
  clear hK K
  refine wm ?_
  refine wan 7 fun K hK => ?_
  ·refine step_append_lies _ (by rfl) _ _ _ (by rfl) w1.heap.size 39 i0 _ 11 96 underlying22 hi hz0 hz1 hz2 rfl (by omega) _ _ _ (by rfl) HR1.out.own ⟨W1.heap.size,0,none⟩ 1 1 [.int .u8 nk,.int .u8 vk,.int .i64 vn,.string ⟨vt.toArray⟩,.int .i64 r1,.int .i64 r2,.int .i64 r3,.int .i64 r4,.int .i64 op,.int .u8 fn,.int .i64 nn] (by rfl) (by rfl) (World.news_of_block (cs:=#[.int .u8 nk,.int .u8 vk,.int .i64 vn,.string ⟨vt.toArray⟩,.int .i64 r1,.int .i64 r2,.int .i64 r3,.int .i64 r4,.int .i64 op,.int .u8 fn,.int .i64 nn]) (t:=39) (fr:=(0,0)) (heap_alloc_new _ _)) (by intro u hu; simp at hu; rcases hu with rfl | rfl | rfl | rfl | rfl | rfl | rfl | rfl | rfl | rfl | rfl <;> rfl) (by omega) (by unfold maxLen; omega) (by omega) (by have:=HB0.out.size; simp; omega) (W1.heap.size+1) (by simp) ?_
   intro g cap w3 hown3 hgrow3 hat3 hlt3
   have HR3:=Lib.hid (HR1.out.appended hown3 hgrow3 (by rw [World.size_alloc]; exact hat3))
   clear hown3 hgrow3 hat3
   refine hK _ _ ?_
   clear hK K
   refine wm ?_
   refine wt5 8 ?_
   refine wt5 9 ?_
   refine wan 10 fun K hK => ?_
   ·have F3:=sR HR3
    go_simp
    have HR4:=Lib.hid (HR3.out.set_ (i:=2) (u:=.slice (some ⟨g,0,none⟩) (ln+1) cap) h1 H2.out)
    refine hK _ _ ?_
    clear hK K
    refine wm ?_
    refine wpAny_done (by kernel_rfl) ?_ _
    first
     | go_end0
     | refine bodyPost_ret (results_none rfl _ _ _) rfl ?_
    refine ⟨rfl,h1,fun x hx=>H2.out x (List.mem_cons_of_mem _ hx),la,c,.slice (some ⟨g,0,none⟩) (ln+1) cap,HT.out,?_⟩
    have h9:=HR4.out
    rw [HS.out,List.length_append,HLN.out]
    exact h9.drop _ (by intro z hz; simp at hz ⊢; rcases hz with h | h <;> simp [h])
def nw (a c:Int):List PanicEntry:=[{ v:=.iface 92 (.agg #[.int .i64 a,.int .i64 c]),recovered:=false }]
def Bad (a c:Int) (w1:World) (e:Ending) (w':World):Prop:=e=.panicked (nw a c)∧Below w1.heap.size w1 w'
theorem dO (w1:World) (pb:Nat) (a c:Int) (w:World) (h:Below w1.heap.size w1 w) :
  Calls prog 65 #[.pointer (some ⟨pb,0,none⟩),.int .i64 a,.int .i64 c] w (Bad a c w1):=by
 have HB:=Lib.hid h
 clear h
 go_enter func65,ntmps65
 go_wp2_with fail
 exact ⟨rfl,rfl,HB.out⟩
theorem x8 (en:Nat) (ts:List Tk) (op:Int):bO ts op=decide ((hdS en ts).kind=8∧(hdS en ts).num=op):=by
 cases ts with
 | nil=>simp [bO,hdS]
 | cons t ts=>rfl
theorem jG (w1:World) (ps:List aS) (pb en:Nat) (ts:List Tk) (ns:List Nd) (op:Int) (w:World) (h:St w1 ps pb en ts ns w) :
  Calls prog 200 #[.pointer (some ⟨pb,0,none⟩),.int .i64 op] w fun e w'=>e=.returned (.bool (bO ts op))∧Below w.heap.size w w':=by
 rw [x8 en]
 have HH:=keep (aX w1 ps pb en ts ns w h)
 have H0:=Lib.hid (Ok.start w)
 clear h
 obtain ⟨⟨tk,tn,tt,⟨t1,t2,t3,t4⟩,ta⟩,ht⟩:∃ t,hdS en ts=t:=⟨_,rfl⟩
 rw [ht] at HH ⊢
 clear ht
 simp only []
 go_enter func200,ntmps200
 go_wp2_with fail
 refine cM (HH.out) H0 fun w1 H3=>?_
 clear H0
 clear HH
 simp only [tkA]
 go_upto_region 2 with fail
 have H4:=Lib.hid (H3.out.alloc w1.heap.size 97 [.int .u8 tk,.int .i64 tn,.string ⟨tt.toArray⟩,.int .i64 t1,.int .i64 t2,.int .i64 t3,.int .i64 t4,.int .i64 ta] rfl)
 clear H3
 generalize (w1.alloc (.cells #[.int .u8 tk,.int .i64 tn,.string ⟨tt.toArray⟩,.int .i64 t1,.int .i64 t2,.int .i64 t3,.int .i64 t4,.int .i64 ta] 97))=W5 at H4 ⊢
 have F6:=sE H4
 by_cases h8:tk=8
 ·subst h8
  go_wp2_with fail
  go_ret
  exact ⟨by congr 2,H4.out.bel⟩
 have h8b:((tk:Int) == 8)=false:=by simp; omega
 go_wp2_with fail
 go_ret
 exact ⟨by simp [h8],H4.out.bel⟩
theorem iw (w1:World) (ps:List aS) (pb en:Nat) (ts:List Tk) (ns:List Nd) (k:Nat) (w:World) (h:St w1 ps pb en ts ns w) (hk:(hdS en ts).kind=k) (h0:k≠0) :
  Calls prog 230 #[.pointer (some ⟨pb,0,none⟩),.int .u8 (k:Nat)] w (pB (.tuple #[]) w1 ps pb en (ts.drop 1) ns):=by
 cases ts with
 | nil=>exact absurd hk.symm h0
 | cons t ts =>
  obtain ⟨tk,tn,tt,⟨t1,t2,t3,t4⟩,ta⟩:=t
  have hk2:tk=k:=hk
  subst hk2
  have HH:=keep (aX w1 ps pb en _ ns w h)
  have H:=Lib.hid h
  clear h hk h0
  simp only [List.drop_succ_cons,List.drop_zero]
  go_enter func230,ntmps230
  go_wp2_with fail
  refine cMg (HH.out) (fun _=>H.out.below) fun wa1 H3=>?_
  clear H
  clear HH
  simp only [hdS,tkA]
  go_upto_region 1 with fail
  have H4:=Lib.hid (H3.out.alloc 97 [.int .u8 tk,.int .i64 tn,.string ⟨tt.toArray⟩,.int .i64 t1,.int .i64 t2,.int .i64 t3,.int .i64 t4,.int .i64 ta])
  clear H3
  have H4a:Hid (St w1 (ac wa1.heap.size 97 [.int .u8 tk,.int .i64 tn,.string ⟨tt.toArray⟩,.int .i64 t1,.int .i64 t2,.int .i64 t3,.int .i64 t4,.int .i64 ta]::ps) pb en (⟨tk,tn,tt,⟨t1,t2,t3,t4⟩,ta⟩::ts) ns (wa1.alloc (.cells #[.int .u8 tk,.int .i64 tn,.string ⟨tt.toArray⟩,.int .i64 t1,.int .i64 t2,.int .i64 t3,.int .i64 t4,.int .i64 ta] 97))):=H4
  clear H4
  generalize (wa1.alloc (.cells #[.int .u8 tk,.int .i64 tn,.string ⟨tt.toArray⟩,.int .i64 t1,.int .i64 t2,.int .i64 t3,.int .i64 t4,.int .i64 ta] 97))=Wa5 at H4a ⊢
  have F6:=H4a.out.sees
  simp only [sees,ac,aa,Nat.reduceAdd] at F6
  obtain ⟨zp,⟨z0,c00,c01,c02,c03,c04,c05,c06,c07,-⟩,-⟩:=F6
  go_wp2_with fail
  refine (bF w1 _ pb en _ ts ns _ H4a.out).mono ?_
  rintro e wa7 ⟨rfl,hd9⟩
  clear zp z0 c00 c01 c02 c03 c04 c05 c06 c07
  have H8:=Lib.hid hd9
  clear hd9 H4a
  have F9:=H8.out.sees
  simp only [sees,ac,aa,Nat.reduceAdd] at F9
  obtain ⟨zp,⟨z0,c00,c01,c02,c03,c04,c05,c06,c07,-⟩,-⟩:=F9
  go_wp2_with fail
  first
   | go_end0
   | refine bodyPost_ret (results_none rfl _ _ _) rfl ?_
  exact ⟨rfl,H8.out.tail⟩
theorem jH (w1:World) (ps:List aS) (pb en:Nat) (ts:List Tk) (ns:List Nd) (k:Nat) (w:World) (h:St w1 ps pb en ts ns w) (hk:(hdS en ts).kind≠k) :
  Calls prog 230 #[.pointer (some ⟨pb,0,none⟩),.int .u8 (k:Nat)] w (Bad ((hdS en ts).at_:Nat) 4 w1):=by
 have HH:=keep (aX w1 ps pb en _ ns w h)
 have H:=Lib.hid h
 obtain ⟨⟨tk,tn,tt,⟨t1,t2,t3,t4⟩,ta⟩,ht⟩:∃ t,hdS en ts=t:=⟨_,rfl⟩
 rw [ht] at HH hk ⊢
 have hk3:tk≠k:=hk
 have hk2:((tk:Int) == (k:Int))=false:=by simp; omega
 clear hk3
 clear h hk ht
 go_enter func230,ntmps230
 go_wp2_with fail
 refine cMg (HH.out) (fun _=>H.out.below) fun wa1 H3=>?_
 clear H
 clear HH
 simp only [tkA]
 go_upto_region 1 with fail
 have H4:=Lib.hid (H3.out.alloc 97 [.int .u8 tk,.int .i64 tn,.string ⟨tt.toArray⟩,.int .i64 t1,.int .i64 t2,.int .i64 t3,.int .i64 t4,.int .i64 ta])
 clear H3
 have H4a:Hid (St w1 (ac wa1.heap.size 97 [.int .u8 tk,.int .i64 tn,.string ⟨tt.toArray⟩,.int .i64 t1,.int .i64 t2,.int .i64 t3,.int .i64 t4,.int .i64 ta]::ps) pb en ts ns (wa1.alloc (.cells #[.int .u8 tk,.int .i64 tn,.string ⟨tt.toArray⟩,.int .i64 t1,.int .i64 t2,.int .i64 t3,.int .i64 t4,.int .i64 ta] 97))):=H4
 clear H4
 generalize (wa1.alloc (.cells #[.int .u8 tk,.int .i64 tn,.string ⟨tt.toArray⟩,.int .i64 t1,.int .i64 t2,.int .i64 t3,.int .i64 t4,.int .i64 ta] 97))=Wa5 at H4a ⊢
 have F6:=H4a.out.sees
 simp only [sees,ac,aa,Nat.reduceAdd] at F6
 obtain ⟨zp,⟨z0,c00,c01,c02,c03,c04,c05,c06,c07,-⟩,-⟩:=F6
 go_wp2_with fail
 refine (dO w1 pb _ _ _ H4a.out.bel).mono ?_
 rintro e wa7 ⟨rfl,hb8⟩
 clear zp z0 c00 c01 c02 c03 c04 c05 c06 c07
 have HZ:=Lib.hid (hb8)
 clear hb8
 go_wp2_with fail
 exact ⟨rfl,rfl,HZ.out⟩
theorem ja (w1:World) (ps:List aS) (pb en:Nat) (t:Tk) (ts:List Tk) (ns:List Nd) (vk:Nat) (vn:Int) (vt:List UInt8) (w:World) (hn:ns.length≤1000) (h:St w1 ps pb en (t::ts) ns w) :
  Calls prog 229 #[.pointer (some ⟨pb,0,none⟩),.agg #[.int .u8 (vk:Nat),.int .i64 vn,.string ⟨vt.toArray⟩]] w (pB (.tuple #[]) w1 ps pb en ts (ns++[⟨1,vk,vn,vt,R4.zero,0,0,0⟩])):=by
 have H:=Lib.hid h
 clear h
 go_enter func229,ntmps229
 go_upto_region 1 with fail
 have H1:=Lib.hid (H.out.alloc 35 [.int .u8 vk,.int .i64 vn,.string ⟨vt.toArray⟩])
 clear H
 have H1a:Hid (St w1 (ac w.heap.size 35 [.int .u8 vk,.int .i64 vn,.string ⟨vt.toArray⟩]::ps) pb en (t::ts) ns (w.alloc (.cells #[.int .u8 vk,.int .i64 vn,.string ⟨vt.toArray⟩] 35))):=H1
 clear H1
 generalize (w.alloc (.cells #[.int .u8 vk,.int .i64 vn,.string ⟨vt.toArray⟩] 35))=Wa2 at H1a ⊢
 have F3:=H1a.out.sees
 simp only [sees,ac,aa,Nat.reduceAdd] at F3
 obtain ⟨zp,⟨z0,c00,c01,c02,-⟩,-⟩:=F3
 go_wp2_with fail
 refine (bF w1 _ pb en _ ts ns _ H1a.out).mono ?_
 rintro e wa4 ⟨rfl,hd9⟩
 clear zp z0 c00 c01 c02
 have H5:=Lib.hid hd9
 clear hd9 H1a
 have F6:=H5.out.sees
 simp only [sees,ac,aa,Nat.reduceAdd] at F6
 obtain ⟨zp,⟨z0,c00,c01,c02,-⟩,-⟩:=F6
 go_wp2_with fail
 refine (fB w1 _ pb en ts ns ⟨1,vk,vn,vt,R4.zero,0,0,0⟩ _ hn H5.out).mono ?_
 rintro e wa7 ⟨rfl,hd9⟩
 clear zp z0 c00 c01 c02
 have H8:=Lib.hid hd9
 clear hd9 H5
 have F9:=H8.out.sees
 simp only [sees,ac,aa,Nat.reduceAdd] at F9
 obtain ⟨zp,⟨z0,c00,c01,c02,-⟩,-⟩:=F9
 go_wp2_with fail
 first
  | go_end0
  | refine bodyPost_ret (results_none rfl _ _ _) rfl ?_
 exact ⟨rfl,H8.out.tail⟩
set_option maxRecDepth 100000
def nJ (xs:List (List UInt8)) (x:List UInt8):Int:=match xs.findIdx? (· == x) with
 | some i=>(i:Int)
 | none=>-1
theorem tU (xs:List (List UInt8)) (x:List UInt8) (k:Nat) (hk:k<xs.length) (hb:∀ y∈xs.take k,y≠x) (h:xs[k]=x):nJ xs x=(k:Int):=by
 have hf:xs.findIdx? (· == x)=some k:=by
  rw [List.findIdx?_eq_some_iff_getElem]
  refine ⟨hk,by simpa using h,fun j hj => ?_⟩
  have:=hb xs[j] (by rw [List.mem_take_iff_getElem]; exact ⟨j,by omega,rfl⟩)
  simpa using this
 unfold nJ
 rw [hf]
theorem tV (xs:List (List UInt8)) (x:List UInt8) (hb:∀ y∈xs,y≠x):nJ xs x=-1:=by
 have hf:xs.findIdx? (· == x)=none:=by
  rw [List.findIdx?_eq_none_iff]
  intro y hy
  simpa using hb y hy
 unfold nJ
 rw [hf]
theorem nK (xs:List (List UInt8)) (x:List UInt8) (b c:Nat) (w:World) (hl:xs.length≤1000) (hc:∀ i (h:i<xs.length),w.cell? ⟨b,i,none⟩=some (.string ⟨xs[i].toArray⟩)) :
  Calls prog 257 #[.slice (some ⟨b,0,none⟩) xs.length c,.string ⟨x.toArray⟩] w fun e w'=>e=.returned (.int .i64 (nJ xs x))∧w'=w:=by
 have HC:=keep hc
 clear hc
 obtain ⟨n,hn⟩:=ex (xs.length)
 rw [hn] at hl ⊢
 have HN:=keep hn
 clear hn
 go_enter func257,ntmps257
 go_wp2_with fail
 go_loopw [8] (fun iv wr=>∃ k:Nat,k≤n∧iv=.int .i64 (k:Int)∧ao (∀ y∈xs.take k,y≠x)∧wr=w) (fun iv _=>n - (intOf iv).toNat)
 case atStart=>exact ⟨0,Nat.zero_le _,rfl,keep (by simp),rfl⟩
 case round =>
  obtain ⟨k,hk,rfl,HK,hwr⟩:=hrel
  obtain rfl:w=wr:=hwr.symm
  by_cases hlt:(k:Int)<n
  ·have hkn:k<xs.length:=by rw [HN.out]; omega
   have HKN:=keep hkn
   clear hkn
   have hcell:=HC.out k HKN.out
   obtain ⟨y,hy⟩:=ex (xs[k]'HKN.out)
   rw [hy] at hcell
   have HY:=keep hy
   clear hy
   by_cases hxy:y=x
   ·subst hxy
    have HI:=keep (tU xs y k HKN.out HK.out HY.out)
    go_wp2_with fail
    go_ret
    exact ⟨by rw [HI.out]; rfl,rfl⟩
   have HNE:=keep hxy
   have hb:(x == y)=false:=by simpa using fun e=>hxy e.symm
   clear hxy
   go_wp2_with fail
   go_roundw
   case rel =>
    refine ⟨k+1,by omega,by go_num,keep fun z hz => ?_,by first | trivial | rfl⟩
    rw [List.take_succ_eq_append_getElem HKN.out] at hz
    rcases List.mem_append.1 hz with hz | hz
    ·exact HK.out z hz
    simp at hz
    rw [hz]
    rw [HY.out]
    exact HNE.out
   case measure=>simp [intOf]; omega
  have hke:k=n:=by omega
  have HI:=keep (tV xs x fun y hy=>HK.out y (by rw [List.take_of_length_le (by rw [HN.out]; omega)]; exact hy))
  clear hke
  go_wp2_with fail
  go_ret
  exact ⟨by rw [HI.out]; rfl,rfl⟩
