/- The reference of chapter 29: fields, whole; lines and their pieces. The reference of chapter 29: Parse; the law OpReads. The walk of the law OpReads. -/
import Derived.Test.YtjbimcdofenmdaaGreatDoorROrM2
import Derived.Test.YtjbimcdofenmdaaGreatDoorROrM3
import Derived.Test.YtjbimcdofenmdaaGreatDoorMOk
import Derived.Test.YtjbimcdofenmdaaGreatDoorROrF
import Derived.Test.YtjbimcdofenmdaaGreatDoorMOpN
namespace Go.Proofs.YtjbimcdofenmdaaGreatDoor
open Go.RowKit
theorem r9_fields (k : Nat) (h1 : 1 ≤ k) (h2 : k ≤ 10) (g o n c : Nat) (a1 : List UInt8) (rest : List (List UInt8)) (w : World) (hk : (kCells g o (strsV (a1 :: rest))).p w) (hnc : n ≤ c) (hn : n = (a1 :: rest).length) (hL : ∀ p ∈ a1 :: rest,p.length ≤ 2000) :
  Calls Tryz.prog 42 #[.int .u8 (k : Nat),.slice (some ⟨g,o,none⟩) n c] w (FldOut k (a1 :: rest) w):=by
 have k1 : (kCells g o [.string (byt a1)]).p w:=kc_nil (ds:=strsV rest) hk
 have h : k = 1 ∨ k = 2 ∨ k = 3 ∨ k = 4 ∨ k = 5 ∨ k = 6 ∨ k = 7 ∨ k = 8 ∨ k = 9 ∨ k = 10:=by omega
 clear h1 h2
 rcases h with rfl | rfl | rfl | rfl | rfl | rfl | rfl | rfl | rfl | rfl
 ·exact r9_fld_1 g o n c a1 rest w k1 hnc hn hL
 ·exact r9_fld_2 g o n c a1 rest w k1 hnc hn hL
 ·cases rest with
  | nil => exact r9_fld_3_one g o n c a1 w k1 hnc hn hL
  | cons a2 rest => exact r9_fld_3_more g o n c a1 a2 rest w (kc_nil (cs:=[.string (byt a1),.string (byt a2)]) (ds:=strsV rest) hk) hnc hn hL
 ·cases rest with
  | nil => exact r9_fld_4_one g o n c a1 w k1 hnc hn hL
  | cons a2 rest => exact r9_fld_4_more g o n c a1 a2 rest w (kc_nil (cs:=[.string (byt a1),.string (byt a2)]) (ds:=strsV rest) hk) hnc hn hL
 ·cases rest with
  | nil => exact r9_fld_5_one g o n c a1 w k1 hnc hn hL
  | cons a2 rest => exact r9_fld_5_more g o n c a1 a2 rest w (kc_nil (cs:=[.string (byt a1),.string (byt a2)]) (ds:=strsV rest) hk) hnc hn hL
 ·cases rest with
  | nil => exact r9_fld_6_one g o n c a1 w k1 hnc hn hL
  | cons a2 rest => exact r9_fld_6_more g o n c a1 a2 rest w (kc_nil (cs:=[.string (byt a1),.string (byt a2)]) (ds:=strsV rest) hk) hnc hn hL
 ·cases rest with
  | nil => exact r9_fld_7_one g o n c a1 w k1 hnc hn hL
  | cons a2 rest =>
   by_cases h5 : n = 5
   ·match rest,hn with
    | [a3,a4,a5],hn => exact r9_fld_7_five g o n c a1 a2 a3 a4 a5 w hk hnc hn hL
    | [],hn => simp at hn; omega
    | [_],hn => simp at hn; omega
    | [_,_],hn => simp at hn; omega
    | _ :: _ :: _ :: _ :: _,hn => simp at hn; omega
   ·exact r9_fld_7_more g o n c a1 a2 rest w (kc_nil (cs:=[.string (byt a1),.string (byt a2)]) (ds:=strsV rest) hk) hnc hn (by simp; omega) hL
 ·cases rest with
  | nil => exact r9_fld_8_one g o n c a1 w k1 hnc hn hL
  | cons a2 rest =>
   by_cases h4 : n = 4
   ·match rest,hn with
    | [a3,a4],hn => exact r9_fld_8_four g o n c a1 a2 a3 a4 w hk hnc hn hL
    | [],hn => simp at hn; omega
    | [_],hn => simp at hn; omega
    | _ :: _ :: _ :: _,hn => simp at hn; omega
   ·exact r9_fld_8_more g o n c a1 a2 rest w (kc_nil (cs:=[.string (byt a1),.string (byt a2)]) (ds:=strsV rest) hk) hnc hn (by simp; omega) hL
 ·by_cases h2 : n = 2
  ·match rest,hn with
   | [a2],hn => exact r9_fld_9_two g o n c a1 a2 w hk hnc hn hL
   | [],hn => simp at hn; omega
   | _ :: _ :: _,hn => simp at hn; omega
  ·exact r9_fld_9_else g o n c a1 rest w k1 hnc hn (by simp; omega) hL
 ·exact r9_fld_10 g o n c a1 rest w k1 hnc hn hL
theorem pieces_join (ws : List (List UInt8)) (hne : ws ≠ []) (h : ∀ w ∈ ws,w.all inkB = true) : piecesC 32 (Lib.join ws [32]) = ws:=by
 induction ws with
 | nil => exact absurd rfl hne
 | cons x r ih =>
  cases r with
  | nil => rw [Lib.join_one,pieces_plain 32 x (ink_ne x (h x (by simp)))]
  | cons y r => rw [join_two,pieces_cut 32 x _ (ink_ne x (h x (by simp))),ih (by simp) fun w hw => h w (by simp [List.mem_cons.1 hw])]
theorem line_pieces (y : OpV) (oy : y.Ok) (gy : goodV y) : ∃ L,piecesC 32 (lineL y) = wordK y.kind :: L ∧ WordsOf y.kind L y:=by
 have hw:=ink_word y.kind gy.1 gy.2.1
 by_cases h3 : y.kind = 3
 ·refine ⟨Lib.itoa y.user :: rangeL y.rect :: piecesC 32 (quoteS y.input),?_,piecesC 32 (quoteS y.input),?_,fun h => absurd h3 h⟩
  ·unfold lineL lineW tailW
   simp only [h3,usesR,if_true,show (decide (3 ≤ 3) && decide (3 ≤ 8)) = true from rfl,List.singleton_append]
   rw [h3] at hw
   rw [join_two,pieces_cut 32 _ _ (ink_ne _ hw),join_two,pieces_cut 32 _ _ (ink_ne _ (ink_itoa _)),join_two,pieces_cut 32 _ _ (ink_ne _ (ink_range _)),Lib.join_one]
  ·rw [h3]; rfl
 ·refine ⟨Lib.itoa y.user :: ((if usesR y.kind = true then [rangeL y.rect] else []) ++ tailW y),?_,tailW y,rfl,fun _ => rfl⟩
  unfold lineL
  rw [pieces_join]
  ·rfl
  ·simp [lineW]
  ·intro w hm
   unfold lineW at hm
   rcases List.mem_cons.1 hm with rfl | hm
   ·exact hw
   rcases List.mem_cons.1 hm with rfl | hm
   ·exact ink_itoa _
   rcases List.mem_append.1 hm with hm | hm
   ·split at hm
    ·rw [List.mem_singleton] at hm; subst hm; exact ink_range _
    ·cases hm
   unfold tailW at hm
   rw [if_neg h3] at hm
   split at hm
   ·simp only [List.mem_cons,List.not_mem_nil,or_false] at hm
    rcases hm with rfl | rfl | rfl
    ·exact ink_set _ oy.rd
    ·exact ink_set _ oy.wr
    ·exact ink_set _ oy.ow
   split at hm
   ·simp only [List.mem_cons,List.not_mem_nil,or_false] at hm
    rcases hm with rfl | rfl
    ·exact ink_itoa _
    ·exact ink_set _ oy.tg
   split at hm
   ·rw [List.mem_singleton] at hm; subst hm; exact ink_itoa _
   ·cases hm
theorem count_ink (l : List UInt8) (h : l.all inkB = true) : l.count 32 = 0:=List.count_eq_zero.2 fun hm => ink_ne l h 32 hm rfl
theorem set_shape (y : OpV) (gy : goodV y) (h3 : y.kind = 3) : ∃ P : List UInt8,P.count 32 = 2 ∧ lineL y = P ++ 32 :: quoteS y.input:=by
 have hw:=ink_word y.kind gy.1 gy.2.1
 refine ⟨wordK 3 ++ 32 :: (Lib.itoa y.user ++ 32 :: rangeL y.rect),?_,?_⟩
 ·rw [h3] at hw
  rw [List.count_append,List.count_cons_self,List.count_append,List.count_cons_self,count_ink _ hw,count_ink _ (ink_itoa _),count_ink _ (ink_range _)]
 ·unfold lineL lineW tailW
  simp only [h3,usesR,if_true,show (decide (3 ≤ 3) && decide (3 ≤ 8)) = true from rfl,List.singleton_append]
  rw [join_two,join_two,join_two,Lib.join_one]
  simp
theorem try_right {k : Nat} {s a0 : List UInt8} {L : List (List UInt8)} {x y : OpV} {t : List UInt8} (hp : piecesC 32 s = a0 :: L) (hx : ∀ y : OpV,y.Ok → goodV y → y.kind = k → WordsOf k L y → x = { y with input:=[] })
  (ht : k = 3 → ∀ P q : List UInt8,P.count 32 = 2 → textB q = true → s = P ++ 32 :: quoteS q → t = q) (oy : y.Ok) (gy : goodV y) (hy : y.kind = k) (e : lineL y = s) :
  (if k = 3 then { x with input:=t } else x) = y:=by
 obtain ⟨L2,h1,h2⟩:=line_pieces y oy gy
 rw [e,hp] at h1
 obtain ⟨-,rfl⟩:=List.cons.inj h1
 rw [hy] at h2
 have hx2:=hx y oy gy hy h2
 by_cases h3 : k = 3
 ·rw [if_pos h3]
  obtain ⟨P,hc,e2⟩:=set_shape y gy (hy.trans h3)
  rw [ht h3 P y.input hc gy.2.2.2.2.1 (e.symm.trans e2),hx2]
 ·rw [if_neg h3,hx2]
  have hp2:=gy.2.2.1
  unfold plainV at hp2
  rw [if_pos ⟨gy.1,gy.2.1⟩] at hp2
  have hi:=congrArg OpV.input hp2
  simp only [if_neg (fun h : y.kind = 3 => h3 (hy.symm.trans h))] at hi
  rw [hi]
theorem word_right {s a0 : List UInt8} {L : List (List UInt8)} {y : OpV} (hp : piecesC 32 s = a0 :: L) (oy : y.Ok) (gy : goodV y) (e : lineL y = s) : wordK y.kind = a0 ∧ L ≠ []:=by
 obtain ⟨L2,h1,r,h2,-⟩:=line_pieces y oy gy
 rw [e,hp] at h1
 obtain ⟨h3,rfl⟩:=List.cons.inj h1
 exact ⟨h3.symm,by rw [h2]; simp⟩
def NoK (s : List UInt8) (k : Nat) : Prop:=∀ y : OpV,y.Ok → goodV y → y.kind < k → lineL y ≠ s
theorem NoK.one (s : List UInt8) : NoK s 1:=fun y _ gy h => absurd gy.1 (by omega)
theorem NoK.next {s : List UInt8} {k : Nat} (h : NoK s k) (h2 : ∀ y : OpV,y.Ok → goodV y → y.kind = k → lineL y ≠ s) : NoK s (k + 1):=fun y oy gy hk => by
 by_cases e : y.kind = k
 ·exact h2 y oy gy e
 ·exact h y oy gy (by omega)
theorem NoK.done {s : List UInt8} {k : Nat} (h : NoK s k) (hk : 11 ≤ k) : ParsedAs s OpV.zero 4:=.inr ⟨rfl,rfl,fun y oy gy => h y oy gy (by have:=gy.2.1; omega)⟩
end Go.Proofs.YtjbimcdofenmdaaGreatDoor
namespace Go.Proofs.YtjbimcdofenmdaaGreatDoor
open Go.RowKit
theorem kc_tail {w : World} {g : Nat} {c : Value} {cs : List Value} (h : (kCells g 0 (c :: cs)).p w) : (kCells g 1 cs).p w:=by
 refine ⟨h.1,?_⟩
 have key : ∀ (cs : List Value) (j : Nat),cellsFrom w g 0 (j + 1) cs → cellsFrom w g 1 j cs:=by
  intro cs
  induction cs with
  | nil => intro j _; trivial
  | cons d cs ih =>
   intro j h
   refine ⟨?_,ih (j + 1) h.2⟩
   have:=h.1
   rwa [show 0 + (j + 1) = 1 + j by omega] at this
 exact key cs 0 h.2.2
theorem fmt_acc {x : OpV} {l : List UInt8} (h : goodV x) (e : lineL x = l) (o : x.Ok) : ParsedAs l x 0:=.inl ⟨rfl,o,h,e⟩
theorem ba_self (s : ByteArray) : (⟨s.data.toList.toArray⟩ : ByteArray) = s:=by simp
set_option maxRecDepth 100000 in
set_option maxHeartbeats 4000000 in
theorem r9_parse_few (s : ByteArray) (hs : s.size ≤ 2000) (hl : (piecesC 32 s.data.toList).length ≤ 1) (w : World) :
  Calls Tryz.prog 20 #[.string s] w (ParseOut s.data.toList w):=by
 have HPA:=keep (show ParsedAs s.data.toList OpV.zero 4 from .inr ⟨rfl,rfl,fun y oy gy e => by
  obtain ⟨L2,h1,r,h2,-⟩:=line_pieces y oy gy
  rw [e] at h1
  rw [h1,h2] at hl
  simp at hl⟩)
 have gs : ¬ (s.size : Int) > 2000:=by omega
 have HS:=keep (fun W => r9_Split s 32 hs W)
 obtain ⟨L,hL⟩ : ∃ L,piecesC 32 s.data.toList = L:=⟨_,rfl⟩
 rw [hL] at hl HS
 have gl : ¬ (L.length : Int) > 1:=by omega
 clear hL hl hs
 have H1:=Lib.hid ((Ok.start w).var w.heap.size 28 [.int .u8 0,.int .i64 0,.int .i64 0,.int .i64 0,.int .i64 0,.int .i64 0,.string ⟨#[]⟩,.int .u64 0,.int .u64 0,.int .u64 0,.int .u8 0,.int .u64 0,.int .i64 0] rfl)
 go_enter Tryz.func20,Tryz.ntmps20
 go_wp2_with fail
 generalize (w.alloc (.cells #[.int .u8 0,.int .i64 0,.int .i64 0,.int .i64 0,.int .i64 0,.int .i64 0,.string ⟨#[]⟩,.int .u64 0,.int .u64 0,.int .u64 0,.int .u8 0,.int .u64 0,.int .i64 0] 28)) = W2 at H1 ⊢
 refine (HS.out _).mono ?_
 rintro e w3 ⟨g,cc,rfl,hle,hgs,hk,hb4⟩
 have H5:=Lib.hid (H1.out.below hb4)
 clear hb4 H1 hk hgs hle
 go_wp2_with fail
 go_loopw [5] (fun kv wr => kv = .int .u8 1 ∧ Hid (Ok w [kVar (w.heap.size) 28 [.int .u8 0,.int .i64 0,.int .i64 0,.int .i64 0,.int .i64 0,.int .i64 0,.string ⟨#[]⟩,.int .u64 0,.int .u64 0,.int .u64 0,.int .u8 0,.int .u64 0,.int .i64 0]] wr)) (fun kv _ => 1)
 case atStart => exact ⟨rfl,H5⟩
 case round =>
  clear H5
  obtain ⟨rfl,H⟩:=hrel
  obtain ⟨wp,rfl⟩ : ∃ wp : World,wp = wr:=⟨_,rfl⟩
  have F6:=H.out.sees
  simp only [sees,kVar,cellsAt,Nat.reduceAdd] at F6
  obtain ⟨⟨⟨z0,fz0⟩,q00,q01,q02,q03,q04,q05,q06,q07,q08,q09,q0a,q0b,q0c,-⟩,-⟩:=F6
  go_wp2_with fail
  clear z0 fz0 q00 q01 q02 q03 q04 q05 q06 q07 q08 q09 q0a q0b q0c
  have hfar:=farOf H.out (by simp)
  have H7:=Lib.hid (((((((((((((H.out.set_ (i:=0) (u:=.int .u8 0) (by omega) hfar).set_ (i:=1) (u:=.int .i64 0) (by omega) hfar).set_ (i:=2) (u:=.int .i64 0) (by omega) hfar).set_ (i:=3) (u:=.int .i64 0) (by omega) hfar).set_ (i:=4) (u:=.int .i64 0) (by omega) hfar).set_ (i:=5) (u:=.int .i64 0) (by omega) hfar).set_ (i:=6) (u:=.string ⟨#[]⟩) (by omega) hfar).set_ (i:=7) (u:=.int .u64 0) (by omega) hfar).set_ (i:=8) (u:=.int .u64 0) (by omega) hfar).set_ (i:=9) (u:=.int .u64 0) (by omega) hfar).set_ (i:=10) (u:=.int .u8 0) (by omega) hfar).set_ (i:=11) (u:=.int .u64 0) (by omega) hfar).set_ (i:=12) (u:=.int .i64 0) (by omega) hfar)
  simp only [List.set_cons_zero,List.set_cons_succ] at H7
  clear hfar
  have hK:=H7.out.get (kVar (w.heap.size) 28 [.int .u8 0,.int .i64 0,.int .i64 0,.int .i64 0,.int .i64 0,.int .i64 0,.string ⟨#[]⟩,.int .u64 0,.int .u64 0,.int .u64 0,.int .u8 0,.int .u64 0,.int .i64 0]) (by simp)
  have hE:=(show Blk (((((((((((((wp.setCell ⟨w.heap.size,0,none⟩ (.int .u8 0)).setCell ⟨w.heap.size,1,none⟩ (.int .i64 0)).setCell ⟨w.heap.size,2,none⟩ (.int .i64 0)).setCell ⟨w.heap.size,3,none⟩ (.int .i64 0)).setCell ⟨w.heap.size,4,none⟩ (.int .i64 0)).setCell ⟨w.heap.size,5,none⟩ (.int .i64 0)).setCell ⟨w.heap.size,6,none⟩ (.string ⟨#[]⟩)).setCell ⟨w.heap.size,7,none⟩ (.int .u64 0)).setCell ⟨w.heap.size,8,none⟩ (.int .u64 0)).setCell ⟨w.heap.size,9,none⟩ (.int .u64 0)).setCell ⟨w.heap.size,10,none⟩ (.int .u8 0)).setCell ⟨w.heap.size,11,none⟩ (.int .u64 0)).setCell ⟨w.heap.size,12,none⟩ (.int .i64 0)) (w.heap.size) 28 _ from hK)
  have r0:=hE.cell 0
  have r1:=hE.cell 1
  have r2:=hE.cell 2
  have r3:=hE.cell 3
  have r4:=hE.cell 4
  have r5:=hE.cell 5
  have r6:=hE.cell 6
  have r7:=hE.cell 7
  have r8:=hE.cell 8
  have r9:=hE.cell 9
  have r10:=hE.cell 10
  have r11:=hE.cell 11
  have r12:=hE.cell 12
  simp at r0 r1 r2 r3 r4 r5 r6 r7 r8 r9 r10 r11 r12
  try rw [Exit.noGoto_ret]
  exact bodyPost_ret (v:=.tuple #[.agg #[.int .u8 0,.int .i64 0,.int .i64 0,.int .i64 0,.int .i64 0,.int .i64 0,.string ⟨#[]⟩,.int .u64 0,.int .u64 0,.int .u64 0,.int .u8 0,.int .u64 0,.int .i64 0],.int .i64 4]) (by simp [results,Tryz.results20,go_sem,r0,r1,r2,r3,r4,r5,r6,r7,r8,r9,r10,r11,r12]) rfl ⟨OpV.zero,4,rfl,HPA.out,H7.out.bel⟩
set_option maxRecDepth 100000 in
set_option maxHeartbeats 4000000 in
theorem r9_parse_more (s : ByteArray) (hs : s.size ≤ 2000) (a0 a1 : List UInt8) (rest : List (List UInt8)) (hp : piecesC 32 s.data.toList = a0 :: a1 :: rest) (w : World) :
  Calls Tryz.prog 20 #[.string s] w (ParseOut s.data.toList w):=by
 have HPI:=keep hp
 have gs : ¬ (s.size : Int) > 2000:=by omega
 have HS:=keep (fun W => r9_Split s 32 hs W)
 rw [show s.data.toList = s.data.toList from rfl,hp] at HS
 have HLE:=keep (show ∀ p ∈ a1 :: rest,p.length ≤ 2000 from fun p hp2 => Nat.le_trans (pieces_le 32 s.data.toList p (by rw [hp]; exact List.mem_cons_of_mem _ hp2)) (by rw [Array.length_toList]; exact hs))
 have HSZ:=keep hs
 obtain ⟨m,hm⟩ : ∃ m,(a1 :: rest).length = m:=⟨_,rfl⟩
 have hn : (a0 :: a1 :: rest).length = m + 1:=by rw [← hm]; rfl
 have hm1 : 1 ≤ m:=by rw [← hm]; simp
 obtain ⟨n,hn2⟩ : ∃ n,m + 1 = n:=⟨_,rfl⟩
 have HLN:=keep (hn.trans hn2)
 have HMN:=keep hn2
 have HMM:=keep hm
 have gl : (n : Int) > 1:=by omega
 have gl2 : (1 : Int) ≤ (n : Int):=by omega
 have gn0 : 0 < n:=by omega
 clear hm hn hs hp
 have H1:=Lib.hid ((Ok.start w).var w.heap.size 28 [.int .u8 0,.int .i64 0,.int .i64 0,.int .i64 0,.int .i64 0,.int .i64 0,.string ⟨#[]⟩,.int .u64 0,.int .u64 0,.int .u64 0,.int .u8 0,.int .u64 0,.int .i64 0] rfl)
 go_enter Tryz.func20,Tryz.ntmps20
 go_wp2_with fail
 generalize (w.alloc (.cells #[.int .u8 0,.int .i64 0,.int .i64 0,.int .i64 0,.int .i64 0,.int .i64 0,.string ⟨#[]⟩,.int .u64 0,.int .u64 0,.int .u64 0,.int .u8 0,.int .u64 0,.int .i64 0] 28)) = W2 at H1 ⊢
 refine (HS.out _).mono ?_
 rintro e w3 ⟨g,cc,rfl,hle,hgs,hk,hb4⟩
 rw [HLN.out] at hle ⊢
 have hne : g ≠ w.heap.size:=by have:=H1.out.sees; simp only [sees,kVar,cellsAt,Nat.reduceAdd] at this; have:=this.1.1.1; omega
 have H5:=Lib.hid ((H1.out.below hb4).add (kCells g 0 (strsV (a0 :: a1 :: rest))) hk)
 have hc1 : (1 : Int) ≤ (cc : Int):=by omega
 have hc2 : (n : Int) ≤ (cc : Int):=by omega
 have hc3 : ¬ (1 : Int) = (cc : Int):=by omega
 have hc4 : ¬ 1 = cc:=by omega
 clear hb4 H1 hk hgs
 go_wp2_with fail
 go_loopw [5] (fun kv wr => ∃ k : Nat,1 ≤ k ∧ k ≤ 11 ∧ kv = .int .u8 (k : Int) ∧ Keep (NoK s.data.toList k) ∧ Hid (Ok w [kCells g 0 (strsV (a0 :: a1 :: rest)),kVar w.heap.size 28 [.int .u8 0,.int .i64 0,.int .i64 0,.int .i64 0,.int .i64 0,.int .i64 0,.string ⟨#[]⟩,.int .u64 0,.int .u64 0,.int .u64 0,.int .u8 0,.int .u64 0,.int .i64 0]] wr)) (fun kv _ => 11 - (intOf kv).toNat)
 case atStart => exact ⟨1,Nat.le_refl _,by decide,rfl,keep (NoK.one _),H5⟩
 case round =>
  clear H5
  obtain ⟨k,hk1,hk11,rfl,HNK,H⟩:=hrel
  obtain ⟨wp,rfl⟩ : ∃ wp : World,wp = wr:=⟨_,rfl⟩
  by_cases hlt : (k : Int) ≤ 10
  ·have hw8 : IntKind.u8.wrap ((k : Int) + 1) = (k : Int) + 1:=Go.IntWalk.u8_in _ (by omega)
   have hk10 : k ≤ 10:=by omega
   have hcell : (kCells g 0 [.string (byt a0)]).p wp:=kc_nil (ds:=strsV (a1 :: rest)) (H.out.get (kCells g 0 (strsV (a0 :: a1 :: rest))) (by simp))
   have H9:=Lib.hid (H.out.add (kCells g 0 [.string (byt a0)]) hcell)
   have HWD:=keep (fun W => r9_word k hk1 hk10 W)
   obtain ⟨WS,hWS⟩ : ∃ WS,(⟨(wordK k).toArray⟩ : ByteArray) = WS:=⟨_,rfl⟩
   rw [hWS] at HWD
   obtain ⟨bq,hbq⟩ : ∃ bq,(WS.toList == (byt a0).toList) = bq:=⟨_,rfl⟩
   have HBQ:=keep (show bq = false → wordK k ≠ a0 from fun h e => by
    rw [h,← hWS,e,show (⟨a0.toArray⟩ : ByteArray) = byt a0 from rfl] at hbq
    simp at hbq)
   clear hWS hcell H
   have F6:=H9.out.sees
   simp only [sees,kVar,kCells,cellsFrom,Nat.add_zero,cellsAt,Nat.reduceAdd] at F6
   obtain ⟨⟨z0,q00,-⟩,-,⟨⟨z2,fz2⟩,q20,q21,q22,q23,q24,q25,q26,q27,q28,q29,q2a,q2b,q2c,-⟩,-⟩:=F6
   go_upto_region 7 with fail
   refine wp_region_held_drew (S:=fun W => Ok w [kCells g 0 [.string (byt a0)],kCells g 0 (strsV (a0 :: a1 :: rest)),kVar (w.heap.size) 28 [.int .u8 0,.int .i64 0,.int .i64 0,.int .i64 0,.int .i64 0,.int .i64 0,.string ⟨#[]⟩,.int .u64 0,.int .u64 0,.int .u64 0,.int .u8 0,.int .u64 0,.int .i64 0]] W) (by kernel_rfl) H9.out.drew (fun hHeld => ?_)
   refine wtg (i:=0) (v:=?a1) rfl ?b1 (by assumption) ?c1
   case b1 => (intro w h;have F:=Ok.sees h;clear h;simp only [sees,kVar,kCells,cellsFrom,Nat.add_zero,cellsAt,Nat.reduceAdd] at F; go_simp;try with_reducible rfl)
   try simp only [Act.put,wp1,wp2,wp3,wp4,wp6]
   refine wtg (i:=2) (v:=?a3) rfl ?b3 (by assumption) ?c3
   case b3 => (intro w h;have F:=Ok.sees h;clear h;simp only [sees,kVar,kCells,cellsFrom,Nat.add_zero,cellsAt,Nat.reduceAdd] at F; go_simp;try with_reducible rfl)
   try simp only [Act.put,wp1,wp2,wp3,wp4,wp5,wp6]
   refine wtg (i:=3) (v:=?a5) rfl ?b5 (by assumption) ?c5
   case b5 => (intro w h;have F:=Ok.sees h;clear h;simp only [sees,kVar,kCells,cellsFrom,Nat.add_zero,cellsAt,Nat.reduceAdd] at F; go_simp;try with_reducible rfl)
   try simp only [Act.put,wp1,wp2,wp3,wp4,wp5,wp6]
   refine wtg (i:=4) (v:=?a7) rfl ?b7 (by assumption) ?c7
   case b7 => (intro w h;have F:=Ok.sees h;clear h;simp only [sees,kVar,kCells,cellsFrom,Nat.add_zero,cellsAt,Nat.reduceAdd] at F; go_simp;try with_reducible rfl)
   try simp only [Act.put,wp1,wp2,wp3,wp4,wp5,wp6]
   refine wpAnyH_ready (rs:=[1]) (by kernel_rfl) (by simp) ?_
   refine AllReadyH.cons rfl (fun K hK => ?_) AllReadyH.nil
   go_simp
   refine (HWD.out _).mono ?_
   rintro e w8 ⟨rfl,hb9⟩
   go_wp2_with fail
   refine hK.out _ _ (hHeld.below hb9) (fun hHeld => ?_)
   clear hK K
   try simp only [Act.put,wp1,wp2,wp3,wp4,wp5,wp6]
   refine wtg (i:=5) (v:=?a10) rfl ?b10 (by assumption) ?c10
   case b10 => (intro w h;have F:=Ok.sees h;clear h;simp only [sees,kVar,kCells,cellsFrom,Nat.add_zero,cellsAt,Nat.reduceAdd] at F; go_simp;try with_reducible rfl)
   try simp only [Act.put,wp1,wp2,wp3,wp4,wp5,wp6]
   refine wpAnyH_done (by kernel_rfl) ?_ _
   clear z0 q00 z2 fz2 q20 q21 q22 q23 q24 q25 q26 q27 q28 q29 q2a q2b q2c
   clear H9
   have H10:=Lib.hid hHeld
   clear hHeld
   cases bq
   ·have hnn:=HBQ.out rfl
    have HN2:=keep (HNK.out.next (fun y oy gy hy e => hnn (by rw [← hy]; exact (word_right HPI.out oy gy e).1)))
    clear hnn
    go_wp2_with fail
    go_roundw
    case rel => exact ⟨k + 1,by omega,by omega,by go_num,HN2,Lib.hid (H10.out.drop [kCells g 0 (strsV (a0 :: a1 :: rest)),kVar w.heap.size 28 [.int .u8 0,.int .i64 0,.int .i64 0,.int .i64 0,.int .i64 0,.int .i64 0,.string ⟨#[]⟩,.int .u64 0,.int .u64 0,.int .u64 0,.int .u8 0,.int .u64 0,.int .i64 0]] (by simp))⟩
    case measure => simp [intOf]; omega
   ·go_wp2_with fail
    have HKF:=keep (kc_tail (H10.out.get (kCells g 0 (strsV (a0 :: a1 :: rest))) (by simp)))
    refine (r9_fields k hk1 hk10 g 1 (n - 1) (cc - 1) a1 rest _ HKF.out (by omega) (by have h1:=HMN.out; have h2:=HMM.out; omega) HLE.out).mono ?_
    rintro e w11 ⟨⟨k9,qu,⟨qx1,qy1,qx2,qy2⟩,inp,qa,qb,qc,qf,qt,qn⟩,rfl,hok,hkk,hin,hpr,hb12⟩
    dsimp only at hkk hin
    obtain rfl : k = k9:=hkk.symm
    subst hin
    have HOK:=keep hok
    have HPR:=keep hpr
    have H13:=Lib.hid (H10.out.below hb12)
    clear hb12 H10 hok hpr hkk HKF
    have F14:=H13.out.sees
    simp only [sees,kVar,kCells,cellsFrom,Nat.add_zero,cellsAt,Nat.reduceAdd] at F14
    obtain ⟨⟨z0,q00,-⟩,-,⟨⟨z2,fz2⟩,q20,q21,q22,q23,q24,q25,q26,q27,q28,q29,q2a,q2b,q2c,-⟩,-⟩:=F14
    simp only [OpV.V]
    go_upto_region 9 with fail
    have y15:=z0
    have y16:=z2
    clear z0 q00 z2 fz2 q20 q21 q22 q23 q24 q25 q26 q27 q28 q29 q2a q2b q2c
    have H17:=Lib.hid (H13.out.var w11.heap.size 28 [.int .u8 (k : Nat),.int .i64 qu,.int .i64 qx1,.int .i64 qy1,.int .i64 qx2,.int .i64 qy2,.string ⟨#[]⟩,.int .u64 (qa : Nat),.int .u64 (qb : Nat),.int .u64 (qc : Nat),.int .u8 (qf : Nat),.int .u64 (qt : Nat),.int .i64 qn] rfl)
    clear H13
    generalize (w11.alloc (.cells #[.int .u8 (k : Nat),.int .i64 qu,.int .i64 qx1,.int .i64 qy1,.int .i64 qx2,.int .i64 qy2,.string ⟨#[]⟩,.int .u64 (qa : Nat),.int .u64 (qb : Nat),.int .u64 (qc : Nat),.int .u8 (qf : Nat),.int .u64 (qt : Nat),.int .i64 qn] 28)) = W18 at H17 ⊢
    by_cases h3 : k = 3
    ·have H3:=keep h3
     have e3 : ((k : Int) == 3) = true:=by simp; omega
     clear h3
     have F19:=H17.out.sees
     simp only [sees,kVar,kCells,cellsFrom,Nat.add_zero,cellsAt,Nat.reduceAdd] at F19
     obtain ⟨⟨⟨z0,fz0⟩,q00,q01,q02,q03,q04,q05,q06,q07,q08,q09,q0a,q0b,q0c,-⟩,⟨z1,q10,-⟩,-,⟨⟨z3,fz3⟩,q30,q31,q32,q33,q34,q35,q36,q37,q38,q39,q3a,q3b,q3c,-⟩,-⟩:=F19
     go_wp2_with fail
     refine (r9_Literal s HSZ.out _).mono ?_
     rintro e w20 ⟨tx,rfl,htl,htq,hb21⟩
     have HTL:=keep htl
     have HTQ:=keep htq
     clear z0 fz0 q00 q01 q02 q03 q04 q05 q06 q07 q08 q09 q0a q0b q0c z1 q10 z3 fz3 q30 q31 q32 q33 q34 q35 q36 q37 q38 q39 q3a q3b q3c
     have H22:=Lib.hid (H17.out.below hb21)
     clear hb21 H17 htl htq
     have F23:=H22.out.sees
     simp only [sees,kVar,kCells,cellsFrom,Nat.add_zero,cellsAt,Nat.reduceAdd] at F23
     obtain ⟨⟨⟨z0,fz0⟩,q00,q01,q02,q03,q04,q05,q06,q07,q08,q09,q0a,q0b,q0c,-⟩,⟨z1,q10,-⟩,-,⟨⟨z3,fz3⟩,q30,q31,q32,q33,q34,q35,q36,q37,q38,q39,q3a,q3b,q3c,-⟩,-⟩:=F23
     go_upto_region 11 with fail
     clear z0 fz0 q00 q01 q02 q03 q04 q05 q06 q07 q08 q09 q0a q0b q0c z1 q10 z3 fz3 q30 q31 q32 q33 q34 q35 q36 q37 q38 q39 q3a q3b q3c
     skip
     have hfar:=farOf H22.out (by simp [kCells,kVar] <;> omega)
     have H24:=Lib.hid (H22.out.set_ (i:=6) (u:=.string ⟨tx.toArray⟩) (by omega) hfar)
     simp only [List.set_cons_zero,List.set_cons_succ] at H24
     clear hfar
     clear H22
     generalize (w20.setCell ⟨w11.heap.size,6,none⟩ (.string ⟨tx.toArray⟩)) = W25 at H24 ⊢
     have HF:=keep (fun W => r9_Format (⟨k,qu,⟨qx1,qy1,qx2,qy2⟩,tx,qa,qb,qc,qf,qt,qn⟩ : OpV) ⟨HOK.out.kind,HOK.out.user,HOK.out.c1,HOK.out.r1,HOK.out.c2,HOK.out.r2,HOK.out.rd,HOK.out.wr,HOK.out.ow,HOK.out.fns,HOK.out.tg,HOK.out.idx⟩ (by show List.length tx ≤ _; have:=HTL.out; omega) W)
     have HTR:=keep (show ∀ y : OpV,y.Ok → goodV y → y.kind = k → lineL y = s.data.toList → (⟨k,qu,⟨qx1,qy1,qx2,qy2⟩,tx,qa,qb,qc,qf,qt,qn⟩ : OpV) = y from fun y oy gy hy e => by
      have h:=try_right (t:=tx) HPI.out HPR.out (fun _ => HTQ.out) oy gy hy e
      rw [if_pos H3.out] at h
      exact h)
     have F26:=H24.out.sees
     simp only [sees,kVar,kCells,cellsFrom,Nat.add_zero,cellsAt,Nat.reduceAdd] at F26
     obtain ⟨⟨⟨z0,fz0⟩,q00,q01,q02,q03,q04,q05,q06,q07,q08,q09,q0a,q0b,q0c,-⟩,⟨z1,q10,-⟩,-,⟨⟨z3,fz3⟩,q30,q31,q32,q33,q34,q35,q36,q37,q38,q39,q3a,q3b,q3c,-⟩,-⟩:=F26
     by_cases hgd : goodV (⟨k,qu,⟨qx1,qy1,qx2,qy2⟩,tx,qa,qb,qc,qf,qt,qn⟩ : OpV)
     ·rw [show formatV (⟨k,qu,⟨qx1,qy1,qx2,qy2⟩,tx,qa,qb,qc,qf,qt,qn⟩ : OpV) = (lineL (⟨k,qu,⟨qx1,qy1,qx2,qy2⟩,tx,qa,qb,qc,qf,qt,qn⟩ : OpV),0) by unfold formatV; rw [if_pos hgd]] at HF
      have HGD:=keep hgd
      by_cases hln : lineL (⟨k,qu,⟨qx1,qy1,qx2,qy2⟩,tx,qa,qb,qc,qf,qt,qn⟩ : OpV) = s.data.toList
      ·rw [hln,ba_self] at HF
       have HLN2:=keep hln
       clear hgd hln
       go_wp2_with fail
       refine (HF.out _).mono ?_
       rintro e w27 ⟨rfl,hb28⟩
       clear z0 fz0 q00 q01 q02 q03 q04 q05 q06 q07 q08 q09 q0a q0b q0c z1 q10 z3 fz3 q30 q31 q32 q33 q34 q35 q36 q37 q38 q39 q3a q3b q3c
       have H29:=Lib.hid (H24.out.below hb28)
       clear hb28 H24
       have F30:=H29.out.sees
       simp only [sees,kVar,kCells,cellsFrom,Nat.add_zero,cellsAt,Nat.reduceAdd] at F30
       obtain ⟨⟨⟨z0,fz0⟩,q00,q01,q02,q03,q04,q05,q06,q07,q08,q09,q0a,q0b,q0c,-⟩,⟨z1,q10,-⟩,-,⟨⟨z3,fz3⟩,q30,q31,q32,q33,q34,q35,q36,q37,q38,q39,q3a,q3b,q3c,-⟩,-⟩:=F30
       go_wp2_with fail
       clear z0 fz0 q00 q01 q02 q03 q04 q05 q06 q07 q08 q09 q0a q0b q0c z1 q10 z3 fz3 q30 q31 q32 q33 q34 q35 q36 q37 q38 q39 q3a q3b q3c
       have hfar:=farOf H29.out.b3 (by simp [kCells,kVar] <;> omega)
       have H31:=Lib.hid (((((((((((((H29.out.b3.set_ (i:=0) (u:=.int .u8 (k : Nat)) (by omega) hfar).set_ (i:=1) (u:=.int .i64 qu) (by omega) hfar).set_ (i:=2) (u:=.int .i64 qx1) (by omega) hfar).set_ (i:=3) (u:=.int .i64 qy1) (by omega) hfar).set_ (i:=4) (u:=.int .i64 qx2) (by omega) hfar).set_ (i:=5) (u:=.int .i64 qy2) (by omega) hfar).set_ (i:=6) (u:=.string ⟨tx.toArray⟩) (by omega) hfar).set_ (i:=7) (u:=.int .u64 (qa : Nat)) (by omega) hfar).set_ (i:=8) (u:=.int .u64 (qb : Nat)) (by omega) hfar).set_ (i:=9) (u:=.int .u64 (qc : Nat)) (by omega) hfar).set_ (i:=10) (u:=.int .u8 (qf : Nat)) (by omega) hfar).set_ (i:=11) (u:=.int .u64 (qt : Nat)) (by omega) hfar).set_ (i:=12) (u:=.int .i64 qn) (by omega) hfar)
       simp only [List.set_cons_zero,List.set_cons_succ] at H31
       clear hfar
       have hK:=H31.out.get (kVar (w.heap.size) 28 [.int .u8 (k : Nat),.int .i64 qu,.int .i64 qx1,.int .i64 qy1,.int .i64 qx2,.int .i64 qy2,.string ⟨tx.toArray⟩,.int .u64 (qa : Nat),.int .u64 (qb : Nat),.int .u64 (qc : Nat),.int .u8 (qf : Nat),.int .u64 (qt : Nat),.int .i64 qn]) (by simp)
       have hE:=(show Blk (((((((((((((w27.setCell ⟨w.heap.size,0,none⟩ (.int .u8 (k : Nat))).setCell ⟨w.heap.size,1,none⟩ (.int .i64 qu)).setCell ⟨w.heap.size,2,none⟩ (.int .i64 qx1)).setCell ⟨w.heap.size,3,none⟩ (.int .i64 qy1)).setCell ⟨w.heap.size,4,none⟩ (.int .i64 qx2)).setCell ⟨w.heap.size,5,none⟩ (.int .i64 qy2)).setCell ⟨w.heap.size,6,none⟩ (.string ⟨tx.toArray⟩)).setCell ⟨w.heap.size,7,none⟩ (.int .u64 (qa : Nat))).setCell ⟨w.heap.size,8,none⟩ (.int .u64 (qb : Nat))).setCell ⟨w.heap.size,9,none⟩ (.int .u64 (qc : Nat))).setCell ⟨w.heap.size,10,none⟩ (.int .u8 (qf : Nat))).setCell ⟨w.heap.size,11,none⟩ (.int .u64 (qt : Nat))).setCell ⟨w.heap.size,12,none⟩ (.int .i64 qn)) (w.heap.size) 28 _ from hK)
       have r0:=hE.cell 0
       have r1:=hE.cell 1
       have r2:=hE.cell 2
       have r3:=hE.cell 3
       have r4:=hE.cell 4
       have r5:=hE.cell 5
       have r6:=hE.cell 6
       have r7:=hE.cell 7
       have r8:=hE.cell 8
       have r9:=hE.cell 9
       have r10:=hE.cell 10
       have r11:=hE.cell 11
       have r12:=hE.cell 12
       simp at r0 r1 r2 r3 r4 r5 r6 r7 r8 r9 r10 r11 r12
       try rw [Exit.noGoto_ret]
       exact bodyPost_ret (v:=.tuple #[.agg #[.int .u8 (k : Nat),.int .i64 qu,.int .i64 qx1,.int .i64 qy1,.int .i64 qx2,.int .i64 qy2,.string ⟨tx.toArray⟩,.int .u64 (qa : Nat),.int .u64 (qb : Nat),.int .u64 (qc : Nat),.int .u8 (qf : Nat),.int .u64 (qt : Nat),.int .i64 qn],.int .i64 0]) (by simp [results,Tryz.results20,go_sem,r0,r1,r2,r3,r4,r5,r6,r7,r8,r9,r10,r11,r12]) rfl ⟨(⟨k,qu,⟨qx1,qy1,qx2,qy2⟩,tx,qa,qb,qc,qf,qt,qn⟩ : OpV),0,rfl,fmt_acc HGD.out HLN2.out ⟨HOK.out.kind,HOK.out.user,HOK.out.c1,HOK.out.r1,HOK.out.c2,HOK.out.r2,HOK.out.rd,HOK.out.wr,HOK.out.ow,HOK.out.fns,HOK.out.tg,HOK.out.idx⟩,H31.out.bel⟩
      ·have hlf : ((⟨(lineL (⟨k,qu,⟨qx1,qy1,qx2,qy2⟩,tx,qa,qb,qc,qf,qt,qn⟩ : OpV)).toArray⟩ : ByteArray).toList == s.toList) = false:=by
        rw [ByteArray.toList_eq,ByteArray.toList_eq,beq_eq_false_iff_ne]; exact hln
       have HN2:=keep (HNK.out.next (fun y oy gy hy e => by
        have h:=HTR.out y oy gy hy e
        rw [h] at hln
        exact hln e))
       obtain ⟨FS,hFS⟩ : ∃ FS,(⟨(lineL (⟨k,qu,⟨qx1,qy1,qx2,qy2⟩,tx,qa,qb,qc,qf,qt,qn⟩ : OpV)).toArray⟩ : ByteArray) = FS:=⟨_,rfl⟩
       rw [hFS] at hlf HF
       clear hgd hln hFS
       go_wp2_with fail
       refine (HF.out _).mono ?_
       rintro e w27 ⟨rfl,hb28⟩
       clear z0 fz0 q00 q01 q02 q03 q04 q05 q06 q07 q08 q09 q0a q0b q0c z1 q10 z3 fz3 q30 q31 q32 q33 q34 q35 q36 q37 q38 q39 q3a q3b q3c
       have H29:=Lib.hid (H24.out.below hb28)
       clear hb28 H24
       have F30:=H29.out.sees
       simp only [sees,kVar,kCells,cellsFrom,Nat.add_zero,cellsAt,Nat.reduceAdd] at F30
       obtain ⟨⟨⟨z0,fz0⟩,q00,q01,q02,q03,q04,q05,q06,q07,q08,q09,q0a,q0b,q0c,-⟩,⟨z1,q10,-⟩,-,⟨⟨z3,fz3⟩,q30,q31,q32,q33,q34,q35,q36,q37,q38,q39,q3a,q3b,q3c,-⟩,-⟩:=F30
       go_wp2_with fail
       go_roundw
       case rel => exact ⟨k + 1,by omega,by omega,by go_num,HN2,Lib.hid (H29.out.drop [kCells g 0 (strsV (a0 :: a1 :: rest)),kVar w.heap.size 28 [.int .u8 0,.int .i64 0,.int .i64 0,.int .i64 0,.int .i64 0,.int .i64 0,.string ⟨#[]⟩,.int .u64 0,.int .u64 0,.int .u64 0,.int .u8 0,.int .u64 0,.int .i64 0]] (by simp))⟩
       case measure => simp [intOf]; omega
     ·rw [show formatV (⟨k,qu,⟨qx1,qy1,qx2,qy2⟩,tx,qa,qb,qc,qf,qt,qn⟩ : OpV) = ([],4) by unfold formatV; rw [if_neg hgd]] at HF
      have HN2:=keep (HNK.out.next (fun y oy gy hy e => by
       have h:=HTR.out y oy gy hy e
       rw [h] at hgd
       exact hgd gy))
      clear hgd
      go_wp2_with fail
      refine (HF.out _).mono ?_
      rintro e w27 ⟨rfl,hb28⟩
      clear z0 fz0 q00 q01 q02 q03 q04 q05 q06 q07 q08 q09 q0a q0b q0c z1 q10 z3 fz3 q30 q31 q32 q33 q34 q35 q36 q37 q38 q39 q3a q3b q3c
      have H29:=Lib.hid (H24.out.below hb28)
      clear hb28 H24
      have F30:=H29.out.sees
      simp only [sees,kVar,kCells,cellsFrom,Nat.add_zero,cellsAt,Nat.reduceAdd] at F30
      obtain ⟨⟨⟨z0,fz0⟩,q00,q01,q02,q03,q04,q05,q06,q07,q08,q09,q0a,q0b,q0c,-⟩,⟨z1,q10,-⟩,-,⟨⟨z3,fz3⟩,q30,q31,q32,q33,q34,q35,q36,q37,q38,q39,q3a,q3b,q3c,-⟩,-⟩:=F30
      go_wp2_with fail
      go_roundw
      case rel => exact ⟨k + 1,by omega,by omega,by go_num,HN2,Lib.hid (H29.out.drop [kCells g 0 (strsV (a0 :: a1 :: rest)),kVar w.heap.size 28 [.int .u8 0,.int .i64 0,.int .i64 0,.int .i64 0,.int .i64 0,.int .i64 0,.string ⟨#[]⟩,.int .u64 0,.int .u64 0,.int .u64 0,.int .u8 0,.int .u64 0,.int .i64 0]] (by simp))⟩
      case measure => simp [intOf]; omega
    ·have H3:=keep h3
     have e3 : ((k : Int) == 3) = false:=by simp; omega
     clear h3
     have HF:=keep (fun W => r9_Format (⟨k,qu,⟨qx1,qy1,qx2,qy2⟩,[],qa,qb,qc,qf,qt,qn⟩ : OpV) HOK.out (by show List.length [] ≤ _; decide) W)
     have HTR:=keep (show ∀ y : OpV,y.Ok → goodV y → y.kind = k → lineL y = s.data.toList → (⟨k,qu,⟨qx1,qy1,qx2,qy2⟩,[],qa,qb,qc,qf,qt,qn⟩ : OpV) = y from fun y oy gy hy e => by
      have h:=try_right (t:=[]) HPI.out HPR.out (fun h => absurd h H3.out) oy gy hy e
      rw [if_neg H3.out] at h
      exact h)
     have F19:=H17.out.sees
     simp only [sees,kVar,kCells,cellsFrom,Nat.add_zero,cellsAt,Nat.reduceAdd] at F19
     obtain ⟨⟨⟨z0,fz0⟩,q00,q01,q02,q03,q04,q05,q06,q07,q08,q09,q0a,q0b,q0c,-⟩,⟨z1,q10,-⟩,-,⟨⟨z3,fz3⟩,q30,q31,q32,q33,q34,q35,q36,q37,q38,q39,q3a,q3b,q3c,-⟩,-⟩:=F19
     by_cases hgd : goodV (⟨k,qu,⟨qx1,qy1,qx2,qy2⟩,[],qa,qb,qc,qf,qt,qn⟩ : OpV)
     ·rw [show formatV (⟨k,qu,⟨qx1,qy1,qx2,qy2⟩,[],qa,qb,qc,qf,qt,qn⟩ : OpV) = (lineL (⟨k,qu,⟨qx1,qy1,qx2,qy2⟩,[],qa,qb,qc,qf,qt,qn⟩ : OpV),0) by unfold formatV; rw [if_pos hgd]] at HF
      have HGD:=keep hgd
      by_cases hln : lineL (⟨k,qu,⟨qx1,qy1,qx2,qy2⟩,[],qa,qb,qc,qf,qt,qn⟩ : OpV) = s.data.toList
      ·rw [hln,ba_self] at HF
       have HLN2:=keep hln
       clear hgd hln
       go_wp2_with fail
       refine (HF.out _).mono ?_
       rintro e w20 ⟨rfl,hb21⟩
       clear z0 fz0 q00 q01 q02 q03 q04 q05 q06 q07 q08 q09 q0a q0b q0c z1 q10 z3 fz3 q30 q31 q32 q33 q34 q35 q36 q37 q38 q39 q3a q3b q3c
       have H22:=Lib.hid (H17.out.below hb21)
       clear hb21 H17
       have F23:=H22.out.sees
       simp only [sees,kVar,kCells,cellsFrom,Nat.add_zero,cellsAt,Nat.reduceAdd] at F23
       obtain ⟨⟨⟨z0,fz0⟩,q00,q01,q02,q03,q04,q05,q06,q07,q08,q09,q0a,q0b,q0c,-⟩,⟨z1,q10,-⟩,-,⟨⟨z3,fz3⟩,q30,q31,q32,q33,q34,q35,q36,q37,q38,q39,q3a,q3b,q3c,-⟩,-⟩:=F23
       go_wp2_with fail
       clear z0 fz0 q00 q01 q02 q03 q04 q05 q06 q07 q08 q09 q0a q0b q0c z1 q10 z3 fz3 q30 q31 q32 q33 q34 q35 q36 q37 q38 q39 q3a q3b q3c
       have hfar:=farOf H22.out.b3 (by simp [kCells,kVar] <;> omega)
       have H24:=Lib.hid (((((((((((((H22.out.b3.set_ (i:=0) (u:=.int .u8 (k : Nat)) (by omega) hfar).set_ (i:=1) (u:=.int .i64 qu) (by omega) hfar).set_ (i:=2) (u:=.int .i64 qx1) (by omega) hfar).set_ (i:=3) (u:=.int .i64 qy1) (by omega) hfar).set_ (i:=4) (u:=.int .i64 qx2) (by omega) hfar).set_ (i:=5) (u:=.int .i64 qy2) (by omega) hfar).set_ (i:=6) (u:=.string ⟨#[]⟩) (by omega) hfar).set_ (i:=7) (u:=.int .u64 (qa : Nat)) (by omega) hfar).set_ (i:=8) (u:=.int .u64 (qb : Nat)) (by omega) hfar).set_ (i:=9) (u:=.int .u64 (qc : Nat)) (by omega) hfar).set_ (i:=10) (u:=.int .u8 (qf : Nat)) (by omega) hfar).set_ (i:=11) (u:=.int .u64 (qt : Nat)) (by omega) hfar).set_ (i:=12) (u:=.int .i64 qn) (by omega) hfar)
       simp only [List.set_cons_zero,List.set_cons_succ] at H24
       clear hfar
       have hK:=H24.out.get (kVar (w.heap.size) 28 [.int .u8 (k : Nat),.int .i64 qu,.int .i64 qx1,.int .i64 qy1,.int .i64 qx2,.int .i64 qy2,.string ⟨#[]⟩,.int .u64 (qa : Nat),.int .u64 (qb : Nat),.int .u64 (qc : Nat),.int .u8 (qf : Nat),.int .u64 (qt : Nat),.int .i64 qn]) (by simp)
       have hE:=(show Blk (((((((((((((w20.setCell ⟨w.heap.size,0,none⟩ (.int .u8 (k : Nat))).setCell ⟨w.heap.size,1,none⟩ (.int .i64 qu)).setCell ⟨w.heap.size,2,none⟩ (.int .i64 qx1)).setCell ⟨w.heap.size,3,none⟩ (.int .i64 qy1)).setCell ⟨w.heap.size,4,none⟩ (.int .i64 qx2)).setCell ⟨w.heap.size,5,none⟩ (.int .i64 qy2)).setCell ⟨w.heap.size,6,none⟩ (.string ⟨#[]⟩)).setCell ⟨w.heap.size,7,none⟩ (.int .u64 (qa : Nat))).setCell ⟨w.heap.size,8,none⟩ (.int .u64 (qb : Nat))).setCell ⟨w.heap.size,9,none⟩ (.int .u64 (qc : Nat))).setCell ⟨w.heap.size,10,none⟩ (.int .u8 (qf : Nat))).setCell ⟨w.heap.size,11,none⟩ (.int .u64 (qt : Nat))).setCell ⟨w.heap.size,12,none⟩ (.int .i64 qn)) (w.heap.size) 28 _ from hK)
       have r0:=hE.cell 0
       have r1:=hE.cell 1
       have r2:=hE.cell 2
       have r3:=hE.cell 3
       have r4:=hE.cell 4
       have r5:=hE.cell 5
       have r6:=hE.cell 6
       have r7:=hE.cell 7
       have r8:=hE.cell 8
       have r9:=hE.cell 9
       have r10:=hE.cell 10
       have r11:=hE.cell 11
       have r12:=hE.cell 12
       simp at r0 r1 r2 r3 r4 r5 r6 r7 r8 r9 r10 r11 r12
       try rw [Exit.noGoto_ret]
       exact bodyPost_ret (v:=.tuple #[.agg #[.int .u8 (k : Nat),.int .i64 qu,.int .i64 qx1,.int .i64 qy1,.int .i64 qx2,.int .i64 qy2,.string ⟨#[]⟩,.int .u64 (qa : Nat),.int .u64 (qb : Nat),.int .u64 (qc : Nat),.int .u8 (qf : Nat),.int .u64 (qt : Nat),.int .i64 qn],.int .i64 0]) (by simp [results,Tryz.results20,go_sem,r0,r1,r2,r3,r4,r5,r6,r7,r8,r9,r10,r11,r12]) rfl ⟨(⟨k,qu,⟨qx1,qy1,qx2,qy2⟩,[],qa,qb,qc,qf,qt,qn⟩ : OpV),0,rfl,fmt_acc HGD.out HLN2.out HOK.out,H24.out.bel⟩
      ·have hlf : ((⟨(lineL (⟨k,qu,⟨qx1,qy1,qx2,qy2⟩,[],qa,qb,qc,qf,qt,qn⟩ : OpV)).toArray⟩ : ByteArray).toList == s.toList) = false:=by
        rw [ByteArray.toList_eq,ByteArray.toList_eq,beq_eq_false_iff_ne]; exact hln
       have HN2:=keep (HNK.out.next (fun y oy gy hy e => by
        have h:=HTR.out y oy gy hy e
        rw [h] at hln
        exact hln e))
       obtain ⟨FS,hFS⟩ : ∃ FS,(⟨(lineL (⟨k,qu,⟨qx1,qy1,qx2,qy2⟩,[],qa,qb,qc,qf,qt,qn⟩ : OpV)).toArray⟩ : ByteArray) = FS:=⟨_,rfl⟩
       rw [hFS] at hlf HF
       clear hgd hln hFS
       go_wp2_with fail
       refine (HF.out _).mono ?_
       rintro e w20 ⟨rfl,hb21⟩
       clear z0 fz0 q00 q01 q02 q03 q04 q05 q06 q07 q08 q09 q0a q0b q0c z1 q10 z3 fz3 q30 q31 q32 q33 q34 q35 q36 q37 q38 q39 q3a q3b q3c
       have H22:=Lib.hid (H17.out.below hb21)
       clear hb21 H17
       have F23:=H22.out.sees
       simp only [sees,kVar,kCells,cellsFrom,Nat.add_zero,cellsAt,Nat.reduceAdd] at F23
       obtain ⟨⟨⟨z0,fz0⟩,q00,q01,q02,q03,q04,q05,q06,q07,q08,q09,q0a,q0b,q0c,-⟩,⟨z1,q10,-⟩,-,⟨⟨z3,fz3⟩,q30,q31,q32,q33,q34,q35,q36,q37,q38,q39,q3a,q3b,q3c,-⟩,-⟩:=F23
       go_wp2_with fail
       go_roundw
       case rel => exact ⟨k + 1,by omega,by omega,by go_num,HN2,Lib.hid (H22.out.drop [kCells g 0 (strsV (a0 :: a1 :: rest)),kVar w.heap.size 28 [.int .u8 0,.int .i64 0,.int .i64 0,.int .i64 0,.int .i64 0,.int .i64 0,.string ⟨#[]⟩,.int .u64 0,.int .u64 0,.int .u64 0,.int .u8 0,.int .u64 0,.int .i64 0]] (by simp))⟩
       case measure => simp [intOf]; omega
     ·rw [show formatV (⟨k,qu,⟨qx1,qy1,qx2,qy2⟩,[],qa,qb,qc,qf,qt,qn⟩ : OpV) = ([],4) by unfold formatV; rw [if_neg hgd]] at HF
      have HN2:=keep (HNK.out.next (fun y oy gy hy e => by
       have h:=HTR.out y oy gy hy e
       rw [h] at hgd
       exact hgd gy))
      clear hgd
      go_wp2_with fail
      refine (HF.out _).mono ?_
      rintro e w20 ⟨rfl,hb21⟩
      clear z0 fz0 q00 q01 q02 q03 q04 q05 q06 q07 q08 q09 q0a q0b q0c z1 q10 z3 fz3 q30 q31 q32 q33 q34 q35 q36 q37 q38 q39 q3a q3b q3c
      have H22:=Lib.hid (H17.out.below hb21)
      clear hb21 H17
      have F23:=H22.out.sees
      simp only [sees,kVar,kCells,cellsFrom,Nat.add_zero,cellsAt,Nat.reduceAdd] at F23
      obtain ⟨⟨⟨z0,fz0⟩,q00,q01,q02,q03,q04,q05,q06,q07,q08,q09,q0a,q0b,q0c,-⟩,⟨z1,q10,-⟩,-,⟨⟨z3,fz3⟩,q30,q31,q32,q33,q34,q35,q36,q37,q38,q39,q3a,q3b,q3c,-⟩,-⟩:=F23
      go_wp2_with fail
      go_roundw
      case rel => exact ⟨k + 1,by omega,by omega,by go_num,HN2,Lib.hid (H22.out.drop [kCells g 0 (strsV (a0 :: a1 :: rest)),kVar w.heap.size 28 [.int .u8 0,.int .i64 0,.int .i64 0,.int .i64 0,.int .i64 0,.int .i64 0,.string ⟨#[]⟩,.int .u64 0,.int .u64 0,.int .u64 0,.int .u8 0,.int .u64 0,.int .i64 0]] (by simp))⟩
      case measure => simp [intOf]; omega
  ·have HPA:=keep (HNK.out.done (by omega))
   have F6:=H.out.sees
   simp only [sees,kVar,cellsAt,Nat.reduceAdd] at F6
   obtain ⟨-,⟨⟨z1,fz1⟩,q10,q11,q12,q13,q14,q15,q16,q17,q18,q19,q1a,q1b,q1c,-⟩,-⟩:=F6
   go_wp2_with fail
   clear z1 fz1 q10 q11 q12 q13 q14 q15 q16 q17 q18 q19 q1a q1b q1c
   have hfar:=farOf H.out.b1 (by simp [kCells] <;> omega)
   have H7:=Lib.hid (((((((((((((H.out.b1.set_ (i:=0) (u:=.int .u8 0) (by omega) hfar).set_ (i:=1) (u:=.int .i64 0) (by omega) hfar).set_ (i:=2) (u:=.int .i64 0) (by omega) hfar).set_ (i:=3) (u:=.int .i64 0) (by omega) hfar).set_ (i:=4) (u:=.int .i64 0) (by omega) hfar).set_ (i:=5) (u:=.int .i64 0) (by omega) hfar).set_ (i:=6) (u:=.string ⟨#[]⟩) (by omega) hfar).set_ (i:=7) (u:=.int .u64 0) (by omega) hfar).set_ (i:=8) (u:=.int .u64 0) (by omega) hfar).set_ (i:=9) (u:=.int .u64 0) (by omega) hfar).set_ (i:=10) (u:=.int .u8 0) (by omega) hfar).set_ (i:=11) (u:=.int .u64 0) (by omega) hfar).set_ (i:=12) (u:=.int .i64 0) (by omega) hfar)
   simp only [List.set_cons_zero,List.set_cons_succ] at H7
   clear hfar
   have hK:=H7.out.get (kVar (w.heap.size) 28 [.int .u8 0,.int .i64 0,.int .i64 0,.int .i64 0,.int .i64 0,.int .i64 0,.string ⟨#[]⟩,.int .u64 0,.int .u64 0,.int .u64 0,.int .u8 0,.int .u64 0,.int .i64 0]) (by simp)
   have hE:=(show Blk (((((((((((((wp.setCell ⟨w.heap.size,0,none⟩ (.int .u8 0)).setCell ⟨w.heap.size,1,none⟩ (.int .i64 0)).setCell ⟨w.heap.size,2,none⟩ (.int .i64 0)).setCell ⟨w.heap.size,3,none⟩ (.int .i64 0)).setCell ⟨w.heap.size,4,none⟩ (.int .i64 0)).setCell ⟨w.heap.size,5,none⟩ (.int .i64 0)).setCell ⟨w.heap.size,6,none⟩ (.string ⟨#[]⟩)).setCell ⟨w.heap.size,7,none⟩ (.int .u64 0)).setCell ⟨w.heap.size,8,none⟩ (.int .u64 0)).setCell ⟨w.heap.size,9,none⟩ (.int .u64 0)).setCell ⟨w.heap.size,10,none⟩ (.int .u8 0)).setCell ⟨w.heap.size,11,none⟩ (.int .u64 0)).setCell ⟨w.heap.size,12,none⟩ (.int .i64 0)) (w.heap.size) 28 _ from hK)
   have r0:=hE.cell 0
   have r1:=hE.cell 1
   have r2:=hE.cell 2
   have r3:=hE.cell 3
   have r4:=hE.cell 4
   have r5:=hE.cell 5
   have r6:=hE.cell 6
   have r7:=hE.cell 7
   have r8:=hE.cell 8
   have r9:=hE.cell 9
   have r10:=hE.cell 10
   have r11:=hE.cell 11
   have r12:=hE.cell 12
   simp at r0 r1 r2 r3 r4 r5 r6 r7 r8 r9 r10 r11 r12
   try rw [Exit.noGoto_ret]
   exact bodyPost_ret (v:=.tuple #[.agg #[.int .u8 0,.int .i64 0,.int .i64 0,.int .i64 0,.int .i64 0,.int .i64 0,.string ⟨#[]⟩,.int .u64 0,.int .u64 0,.int .u64 0,.int .u8 0,.int .u64 0,.int .i64 0],.int .i64 4]) (by simp [results,Tryz.results20,go_sem,r0,r1,r2,r3,r4,r5,r6,r7,r8,r9,r10,r11,r12]) rfl ⟨OpV.zero,4,rfl,HPA.out,H7.out.bel⟩
theorem r9_Parse (s : ByteArray) (hs : s.size ≤ 2000) (w : World) : Calls Tryz.prog 20 #[.string s] w (ParseOut s.data.toList w):=by
 match hp : piecesC 32 s.data.toList with
 | [] => exact absurd hp (pieces_some _ _)
 | [a] => exact r9_parse_few s hs (by rw [hp]; exact Nat.le_refl _) w
 | a0 :: a1 :: rest => exact r9_parse_more s hs a0 a1 rest hp w
end Go.Proofs.YtjbimcdofenmdaaGreatDoor
namespace Go.Proofs.YtjbimcdofenmdaaGreatDoor
open Go.RowKit
set_option maxRecDepth 100000 in
set_option maxHeartbeats 4000000 in
theorem law_OpReads (s : ByteArray) (w : World) (he : Env6 w) :
  Calls Tryz.prog 4 #[.string s] w fun e w' => e = .returned (.bool true) ∧ Below w.heap.size w w':=by
 have HE:=keep he
 clear he
 by_cases hs : s.size ≤ 2000
 case neg =>
  have gs : (s.size : Int) > 2000:=by omega
  have H1:=Lib.hid (Ok.start w)
  clear hs
  go_enter Tryz.func4,Tryz.ntmps4
  go_wp2_with fail
  refine (law_known _ (HE.out.below H1.out.bel)).mono ?_
  rintro e w2 ⟨rfl,hb⟩
  have H2:=Lib.hid (H1.out.below hb)
  clear hb
  go_wp2_with fail
  go_ret
  exact ⟨rfl,H2.out.bel⟩
 have gs : ¬ (s.size : Int) > 2000:=by omega
 have HO:=keep (fun W he => op_Parse s.data.toList W (by rw [Array.length_toList]; exact Nat.le_trans hs (by decide)) he)
 rw [ba_self] at HO
 have HR:=keep (fun W => r9_Parse s hs W)
 clear hs
 have H0:=Lib.hid (Ok.start w)
 go_enter Tryz.func4,Tryz.ntmps4
 go_wp2_with fail
 refine (HO.out _ (HE.out.below H0.out.bel)).mono ?_
 rintro e w1 ⟨⟨k,u,⟨x1,y1,x2,y2⟩,inp,a,b,c,f,t,n⟩,err,rfl,hpa,hb2⟩
 have HPA:=keep hpa
 have H3:=Lib.hid (H0.out.below hb2)
 clear hb2 H0 hpa
 simp only [OpV.V]
 go_upto_region 4 with fail
 have H4:=Lib.hid (H3.out.alloc w1.heap.size 28 [.int .u8 (k : Nat),.int .i64 u,.int .i64 x1,.int .i64 y1,.int .i64 x2,.int .i64 y2,.string ⟨inp.toArray⟩,.int .u64 (a : Nat),.int .u64 (b : Nat),.int .u64 (c : Nat),.int .u8 (f : Nat),.int .u64 (t : Nat),.int .i64 n] rfl)
 clear H3
 generalize (w1.alloc (.cells #[.int .u8 (k : Nat),.int .i64 u,.int .i64 x1,.int .i64 y1,.int .i64 x2,.int .i64 y2,.string ⟨inp.toArray⟩,.int .u64 (a : Nat),.int .u64 (b : Nat),.int .u64 (c : Nat),.int .u8 (f : Nat),.int .u64 (t : Nat),.int .i64 n] 28)) = W5 at H4 ⊢
 go_wp2_with fail
 refine (HR.out _).mono ?_
 rintro e w6 ⟨q,err2,rfl,hpb,hb7⟩
 obtain ⟨rfl,rfl⟩:=hpb.same HPA.out
 have H8:=Lib.hid (H4.out.below hb7)
 clear hb7 H4
 simp only [OpV.V]
 go_upto_region 5 with fail
 have H9:=Lib.hid (H8.out.alloc w6.heap.size 28 [.int .u8 (k : Nat),.int .i64 u,.int .i64 x1,.int .i64 y1,.int .i64 x2,.int .i64 y2,.string ⟨inp.toArray⟩,.int .u64 (a : Nat),.int .u64 (b : Nat),.int .u64 (c : Nat),.int .u8 (f : Nat),.int .u64 (t : Nat),.int .i64 n] rfl)
 clear H8
 generalize (w6.alloc (.cells #[.int .u8 (k : Nat),.int .i64 u,.int .i64 x1,.int .i64 y1,.int .i64 x2,.int .i64 y2,.string ⟨inp.toArray⟩,.int .u64 (a : Nat),.int .u64 (b : Nat),.int .u64 (c : Nat),.int .u8 (f : Nat),.int .u64 (t : Nat),.int .i64 n] 28)) = W10 at H9 ⊢
 have F11:=H9.out.sees
 simp only [sees,kBlk,cellsAt,Nat.reduceAdd] at F11
 obtain ⟨⟨z0,q00,q01,q02,q03,q04,q05,q06,q07,q08,q09,q0a,q0b,q0c,-⟩,⟨z1,q10,q11,q12,q13,q14,q15,q16,q17,q18,q19,q1a,q1b,q1c,-⟩,-⟩:=F11
 go_wp2_with fail
 go_ret
 exact ⟨rfl,H9.out.bel⟩
theorem OpReads_walk (s : ByteArray) (w : World) (_hs : s.size ≤ maxLen) (hL : laidMetH Tryz.prog Rows.opReadsRow.laid w) (hS : w.ShapedOpen Tryz.prog) :
  Calls Tryz.prog 4 #[.string s] w fun e w' => e = .returned (.bool true) ∧ Below w.heap.size w w' :=
 law_OpReads s w (env6_of hL hS (by kernel_rfl) (by kernel_rfl) (by kernel_rfl) (by kernel_rfl))
end Go.Proofs.YtjbimcdofenmdaaGreatDoor
