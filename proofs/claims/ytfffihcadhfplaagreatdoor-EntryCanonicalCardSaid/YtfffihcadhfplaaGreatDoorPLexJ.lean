/- The contract of the lexer's text. -/
import Derived.Test.YtfffihcadhfplaaGreatDoorPLexG
import Derived.Test.YtfffihcadhfplaaGreatDoorPLexI
import Derived.Deep.DeepCutAuto
namespace Go.Proofs.YtfffihcadhfplaaGreatDoor
set_option maxRecDepth 100000
set_option maxHeartbeats 4000000
open Go.RowKit
def txtR (l:List UInt8) (i:Nat):Option (Tk×Nat):=if l.head?=some 34 then (unqS (l.drop 1)).map fun x=>(⟨2,0,x.1,R4.zero,i⟩,x.2+1) else none
theorem unq_short:∀ (m:Nat) (l t:List UInt8) (n:Nat),l.length≤m→unqS l=some (t,n)→t.length+1≤n:=by
 intro m
 induction m with
 | zero =>
  intro l t n hl hu
  obtain rfl:=List.length_eq_zero_iff.1 (Nat.le_zero.1 hl)
  simp [unqS] at hu
 | succ m ih =>
  intro l t n hl hu
  match l,hl,hu with
  | [b],_,hu =>
   rw [unq_one] at hu
   split at hu
   ·simp at hu
    obtain ⟨rfl,rfl⟩:=hu
    simp
   ·simp at hu
  | b::c::r,hl,hu =>
   rw [unq_two] at hu
   split at hu
   ·split at hu
    ·cases h9:unqS r with
     | none=>rw [h9] at hu; simp at hu
     | some y =>
      rw [h9] at hu
      simp only [Option.map_some,Option.some.injEq,Prod.mk.injEq] at hu
      obtain ⟨rfl,rfl⟩:=hu
      have:=ih r y.1 y.2 (by simp at hl; omega) h9
      simp; omega
    ·simp at hu
     obtain ⟨rfl,rfl⟩:=hu
     simp
   ·cases h9:unqS (c::r) with
    | none=>rw [h9] at hu; simp at hu
    | some y =>
     rw [h9] at hu
     simp only [Option.map_some,Option.some.injEq,Prod.mk.injEq] at hu
     obtain ⟨rfl,rfl⟩:=hu
     have:=ih (c::r) y.1 y.2 (by simp at hl ⊢; omega) h9
     simp; omega
def Seek (s:ByteArray) (a k:Nat):Prop:=(unqS (s.data.toList.drop a)).map (·.2)=(unqS (s.data.toList.drop k)).map fun p=>p.2+(k - a)
theorem Seek.step {s : ByteArray} {a k : Nat} (h : Seek s a k) (ha : a ≤ k) (hk : k < s.size) (h1 : s[k]'hk ≠ 34) : Seek s a (k + 1):=by
 have hsl:s.data.toList.length=s.size:=by rw [Array.length_toList]; rfl
 have hd : s.data.toList.drop k = s[k]'hk :: s.data.toList.drop (k + 1):=List.drop_eq_getElem_cons (by omega)
 unfold Seek at h ⊢
 rw [h,hd]
 cases hr:s.data.toList.drop (k+1) with
 | nil=>rw [unq_one,if_neg h1]; rfl
 | cons c r =>
  rw [unq_two,if_neg h1]
  cases unqS (c::r) with
  | none=>rfl
  | some y=>simp; omega
theorem Seek.pair {s : ByteArray} {a k : Nat} (h : Seek s a k) (ha : a ≤ k) (hk : k + 1 < s.size) (h1 : s[k]'(by omega) = 34) (h2 : s[k + 1]'hk = 34) : Seek s a (k + 2):=by
 have hsl:s.data.toList.length=s.size:=by rw [Array.length_toList]; rfl
 have hd : s.data.toList.drop k = s[k]'(by omega) :: s[k + 1]'hk :: s.data.toList.drop (k + 2):=by
  rw [List.drop_eq_getElem_cons (by omega),List.drop_eq_getElem_cons (by omega)]
  rfl
 unfold Seek at h ⊢
 rw [h,hd,unq_two,if_pos h1,if_pos h2]
 cases unqS (s.data.toList.drop (k+2)) with
 | none=>rfl
 | some y=>simp; omega
theorem Seek.last {s : ByteArray} {a k : Nat} (h : Seek s a k) (ha : a ≤ k) (hk : k < s.size) (h1 : s[k]'hk = 34) (h2 : ∀ h : k + 1 < s.size,s[k + 1]'h ≠ 34) : ∃ t,unqS (s.data.toList.drop a) = some (t,k + 1 - a):=by
 have hsl:s.data.toList.length=s.size:=by rw [Array.length_toList]; rfl
 have hu:unqS (s.data.toList.drop k)=some ([],1):=by
  have hd : s.data.toList.drop k = s[k]'hk :: s.data.toList.drop (k + 1):=List.drop_eq_getElem_cons (by omega)
  rw [hd]
  by_cases hk1:k+1<s.size
  ·have hd2 : s.data.toList.drop (k + 1) = s[k + 1]'hk1 :: s.data.toList.drop (k + 2):=List.drop_eq_getElem_cons (by omega)
   rw [hd2,unq_two,if_pos h1,if_neg (h2 hk1)]
  ·rw [List.drop_eq_nil_of_le (by omega),unq_one,if_pos h1]
 unfold Seek at h
 rw [hu] at h
 cases hv:unqS (s.data.toList.drop a) with
 | none=>rw [hv] at h; simp at h
 | some y =>
  rw [hv] at h
  simp at h
  exact ⟨y.1,by rw [show k+1 - a=y.2 by omega]⟩
theorem Seek.out {s:ByteArray} {a:Nat} (h:Seek s a s.size):unqS (s.data.toList.drop a)=none:=by
 have hsl:s.data.toList.length=s.size:=by rw [Array.length_toList]; rfl
 unfold Seek at h
 have hd:s.data.toList.drop s.size=[]:=List.drop_eq_nil_of_le (by omega)
 rw [hd] at h
 cases hv:unqS (s.data.toList.drop a) with
 | none=>rfl
 | some y=>rw [hv] at h; simp [unqS] at h
theorem rest_at {s : ByteArray} {i : Nat} (hi : i < s.size) : restB s i = s[i]'hi :: s.data.toList.drop (i + 1):=List.drop_eq_getElem_cons (by rw [Array.length_toList]; exact hi)
theorem txt_no {s : ByteArray} {i : Nat} (hi : i < s.size) (h : s[i]'hi ≠ 34) : txtR (restB s i) i = none:=by
 unfold txtR
 rw [rest_at hi,if_neg (by simpa using h)]
theorem txt_open {s : ByteArray} {i : Nat} (hi : i < s.size) (h : s[i]'hi = 34) (h2 : unqS (s.data.toList.drop (i + 1)) = none) : txtR (restB s i) i = none:=by
 unfold txtR
 rw [rest_at hi,if_pos (by simpa using h)]
 simp [h2]
theorem txt_yes {s : ByteArray} {i n : Nat} {t : List UInt8} (hi : i < s.size) (h : s[i]'hi = 34) (h2 : unqS (s.data.toList.drop (i + 1)) = some (t,n)) : txtR (restB s i) i = some (⟨2,0,t,R4.zero,i⟩,n + 1):=by
 unfold txtR
 rw [rest_at hi,if_pos (by simpa using h)]
 simp [h2]
theorem txt_lit {s : ByteArray} {i k : Nat} {t : List UInt8} (hi : i < s.size) (hk : i + 1 ≤ k) (hks : k < s.size) (h : s[i]'hi = 34) (h2 : unqS (s.data.toList.drop (i + 1)) = some (t,k + 1 - (i + 1))) :
  ∃ x,(s.extract i (k+1)).data.toList=34::x∧unqS x=some (t,x.length):=by
 have hsl:s.data.toList.length=s.size:=by rw [Array.length_toList]; rfl
 refine ⟨(s.data.toList.drop (i+1)).take (k - i),?_,?_⟩
 ·rw [Lib.extract_data]
  show (restB s i).take (k+1 - i)=_
  rw [rest_at hi,h,show k+1 - i=(k - i)+1 by omega,List.take_succ_cons]
 ·have hl:((s.data.toList.drop (i+1)).take (k - i)).length=k - i:=by rw [List.length_take,List.length_drop]; omega
  rw [hl]
  have h3:unqS ((s.data.toList.drop (i+1)).take (k - i)++(s.data.toList.drop (i+1)).drop (k - i))=some (t,((s.data.toList.drop (i+1)).take (k - i)).length):=by
   rw [List.take_append_drop,hl,h2]
   congr 2
   omega
  have h4:=unq_local _ _ _ [] t (Nat.le_refl _) h3 (by simp)
  rw [List.append_nil,hl] at h4
  exact h4
theorem reader_text (s:ByteArray) (rb i:Nat) (w:World) (hs:s.size≤256) (hi:i<s.size) (hp:s.data.toList.all plainB=true) (hr:w.cell? ⟨rb,0,none⟩=some (.string s)) :
  Calls Tryz.prog 83 #[.pointer (some ⟨rb,0,none⟩),.int .i64 (i:Int)] w fun e w'=>e=.returned (ruleV (txtR (restB s i) i))∧Below w.heap.size w w':=by
 have hh:=ok_reader hr
 have H0:=Lib.hid hh
 clear hh
 have HP:=keep hp
 clear hp
 by_cases h1 : ((s[i]'hi).toNat : Int) = 34
 ·have h34 : s[i]'hi = 34:=by rw [← UInt8.toNat_inj]; show _ = 34; omega
  have H34:=keep h34
  have hb34 : (((s[i]'hi).toNat : Int) != 34) = false:=by rw [h1]; rfl
  clear h34 h1
  have F1:=H0.out.sees
  simp only [sees,kCells,cellsFrom,Nat.add_zero] at F1
  obtain ⟨⟨z0,c00,-⟩,-⟩:=F1
  go_enter Tryz.func83,Tryz.ntmps83
  go_wp2_with fail
  have y2:=z0
  clear z0 c00
  have H3:=Lib.hid (H0.out.var w.heap.size 90 [.int .u8 0,.int .i64 0,.string ⟨#[]⟩,.int .i64 0,.int .i64 0,.int .i64 0,.int .i64 0,.int .i64 0] rfl)
  clear H0
  generalize (w.alloc (.cells #[.int .u8 0,.int .i64 0,.string ⟨#[]⟩,.int .i64 0,.int .i64 0,.int .i64 0,.int .i64 0,.int .i64 0] 90))=W4 at H3 ⊢
  clear hb34
  go_loopw [6] (fun iv wr=>∃ k:Nat,i+1≤k∧k≤s.size∧iv=.int .i64 (k:Int)∧Keep (Seek s (i+1) k)∧Hid (Ok w [kVar (w.heap.size) 90 [.int .u8 0,.int .i64 0,.string ⟨#[]⟩,.int .i64 0,.int .i64 0,.int .i64 0,.int .i64 0,.int .i64 0],kCells rb 0 [.string s]] wr)) (fun iv _=>s.size - (intOf iv).toNat)
  case atStart=>exact ⟨i+1,Nat.le_refl _,hi,by go_num,keep (by unfold Seek; simp),H3⟩
  case round =>
   clear H3
   obtain ⟨k,hk1,hk,rfl,HK,HR⟩:=hrel
   obtain ⟨wp,rfl⟩:∃ wp:World,wp=wr:=⟨_,rfl⟩
   by_cases hlt:(k:Int)<s.size
   ·have hks:k<s.size:=by omega
    by_cases h3 : ((s[k]'hks).toNat : Int) = 34
    ·have h3' : s[k]'hks = 34:=by rw [← UInt8.toNat_inj]; show _ = 34; omega
     have H3:=keep h3'
     have hb3 : (((s[k]'hks).toNat : Int) != 34) = false:=by rw [h3]; rfl
     clear h3 h3'
     have ht1:((k:Int)+1).toNat=k+1:=by omega
     by_cases h4:(k:Int)+1<s.size
     ·have hks1:k+1<s.size:=by omega
      by_cases h5 : ((s[k + 1]'hks1).toNat : Int) = 34
      ·have h5' : s[k + 1]'hks1 = 34:=by rw [← UInt8.toNat_inj]; show _ = 34; omega
       have H5:=keep h5'
       have hb5 : (((s[k + 1]'hks1).toNat : Int) == 34) = true:=by rw [h5]; rfl
       clear h5 h5'
       have F5:=HR.out.sees
       simp only [sees,kVar,kCells,cellsFrom,Nat.add_zero,cellsAt,Nat.reduceAdd] at F5
       obtain ⟨⟨⟨z0,fz0⟩,c00,c01,c02,c03,c04,c05,c06,c07,-⟩,⟨z1,c10,-⟩,-⟩:=F5
       go_wp2_with fail
       go_roundw
       case rel=>exact ⟨k+2,by omega,by omega,by go_num,keep (Seek.pair HK.out hk1 hks1 H3.out H5.out),HR⟩
       case measure=>simp [intOf]; omega
      ·have h5' : s[k + 1]'hks1 ≠ 34:=by intro e; rw [e] at h5; exact h5 rfl
       have H5:=keep h5'
       have hb5 : (((s[k + 1]'hks1).toNat : Int) == 34) = false:=by simpa using h5
       clear h5 h5'
       obtain ⟨t,hu⟩:=Seek.last HK.out hk1 hks H3.out (fun _=>H5.out)
       obtain ⟨x,hx1,hx2⟩:=txt_lit hi hk1 hks H34.out hu
       have hsh:=unq_short _ _ _ _ (Nat.le_refl _) hu
       have HRES:=keep (txt_yes hi H34.out hu)
       have hpe:(s.extract i (k+1)).data.toList.all plainB=true:=by
        rw [List.all_eq_true]
        intro b hb
        rw [Lib.extract_data] at hb
        exact List.all_eq_true.1 HP.out b (List.mem_of_mem_drop (List.mem_of_mem_take hb))
       have HX1:=keep hx1
       have HX2:=keep hx2
       have HPE:=keep hpe
       have hik:(i:Int)≤(k:Int)+1:=by omega
       have hk1s:(k:Int)+1≤s.size:=by omega
       have htl:t.length≤256:=by omega
       have hres2:(k:Int)+1 - (i:Int)=((k+1 - (i+1)+1:Nat):Int):=by omega
       have HR2:=keep hres2
       clear hu hx1 hx2 hpe hsh hres2
       have F5:=HR.out.sees
       simp only [sees,kVar,kCells,cellsFrom,Nat.add_zero,cellsAt,Nat.reduceAdd] at F5
       obtain ⟨⟨⟨z0,fz0⟩,c00,c01,c02,c03,c04,c05,c06,c07,-⟩,⟨z1,c10,-⟩,-⟩:=F5
       go_wp2_with fail
       refine (glyph_Unquote (s.extract i (k+1)) x t _ (by simp; omega) HX1.out HX2.out HPE.out htl).mono ?_
       rintro e w6 ⟨rfl,hb7⟩
       clear z0 fz0 c00 c01 c02 c03 c04 c05 c06 c07 z1 c10
       have H8:=Lib.hid (HR.out.below hb7)
       clear hb7 HR
       have F9:=H8.out.sees
       simp only [sees,kVar,kCells,cellsFrom,Nat.add_zero,cellsAt,Nat.reduceAdd] at F9
       obtain ⟨⟨⟨z0,fz0⟩,c00,c01,c02,c03,c04,c05,c06,c07,-⟩,⟨z1,c10,-⟩,-⟩:=F9
       go_wp2_with fail
       have hK:=H8.out.get (kVar (w.heap.size) 90 [.int .u8 0,.int .i64 0,.string ⟨#[]⟩,.int .i64 0,.int .i64 0,.int .i64 0,.int .i64 0,.int .i64 0]) (by simp)
       have hB:=H8.out.bel
       have hE:=(((((((((show Blk w6 (w.heap.size) 90 _ from hK).set_ 0 (.int .u8 2)).set_ 1 (.int .i64 0)).set_ 2 (.string ⟨t.toArray⟩)).set_ 3 (.int .i64 0)).set_ 4 (.int .i64 0)).set_ 5 (.int .i64 0)).set_ 6 (.int .i64 0)).set_ 7 (.int .i64 (i:Int)))
       have r0:=hE.cell 0
       have r1:=hE.cell 1
       have r2:=hE.cell 2
       have r3:=hE.cell 3
       have r4:=hE.cell 4
       have r5:=hE.cell 5
       have r6:=hE.cell 6
       have r7:=hE.cell 7
       simp at r0 r1 r2 r3 r4 r5 r6 r7
       refine bodyPost_ret (v:=.tuple #[.agg #[.int .u8 2,.int .i64 0,.string ⟨t.toArray⟩,.int .i64 0,.int .i64 0,.int .i64 0,.int .i64 0,.int .i64 (i:Int)],.int .i64 ((k:Int)+1 - (i:Int))]) (by simp [results,Tryz.results83,go_sem,r0,r1,r2,r3,r4,r5,r6,r7]) rfl ⟨by rw [HRES.out,HR2.out]; rfl,((((((((hB.setCell (by simp) _).setCell (by simp) _).setCell (by simp) _).setCell (by simp) _).setCell (by simp) _).setCell (by simp) _).setCell (by simp) _).setCell (by simp) _)⟩
     ·obtain ⟨t,hu⟩:=Seek.last HK.out hk1 hks H3.out (fun h=>absurd h (by omega))
      obtain ⟨x,hx1,hx2⟩:=txt_lit hi hk1 hks H34.out hu
      have hsh:=unq_short _ _ _ _ (Nat.le_refl _) hu
      have HRES:=keep (txt_yes hi H34.out hu)
      have hpe:(s.extract i (k+1)).data.toList.all plainB=true:=by
       rw [List.all_eq_true]
       intro b hb
       rw [Lib.extract_data] at hb
       exact List.all_eq_true.1 HP.out b (List.mem_of_mem_drop (List.mem_of_mem_take hb))
      have HX1:=keep hx1
      have HX2:=keep hx2
      have HPE:=keep hpe
      have hik:(i:Int)≤(k:Int)+1:=by omega
      have hk1s:(k:Int)+1≤s.size:=by omega
      have htl:t.length≤256:=by omega
      have hres2:(k:Int)+1 - (i:Int)=((k+1 - (i+1)+1:Nat):Int):=by omega
      have HR2:=keep hres2
      clear hu hx1 hx2 hpe hsh hres2
      have F5:=HR.out.sees
      simp only [sees,kVar,kCells,cellsFrom,Nat.add_zero,cellsAt,Nat.reduceAdd] at F5
      obtain ⟨⟨⟨z0,fz0⟩,c00,c01,c02,c03,c04,c05,c06,c07,-⟩,⟨z1,c10,-⟩,-⟩:=F5
      go_wp2_with fail
      refine (glyph_Unquote (s.extract i (k+1)) x t _ (by simp; omega) HX1.out HX2.out HPE.out htl).mono ?_
      rintro e w6 ⟨rfl,hb7⟩
      clear z0 fz0 c00 c01 c02 c03 c04 c05 c06 c07 z1 c10
      have H8:=Lib.hid (HR.out.below hb7)
      clear hb7 HR
      have F9:=H8.out.sees
      simp only [sees,kVar,kCells,cellsFrom,Nat.add_zero,cellsAt,Nat.reduceAdd] at F9
      obtain ⟨⟨⟨z0,fz0⟩,c00,c01,c02,c03,c04,c05,c06,c07,-⟩,⟨z1,c10,-⟩,-⟩:=F9
      go_wp2_with fail
      have hK:=H8.out.get (kVar (w.heap.size) 90 [.int .u8 0,.int .i64 0,.string ⟨#[]⟩,.int .i64 0,.int .i64 0,.int .i64 0,.int .i64 0,.int .i64 0]) (by simp)
      have hB:=H8.out.bel
      have hE:=(((((((((show Blk w6 (w.heap.size) 90 _ from hK).set_ 0 (.int .u8 2)).set_ 1 (.int .i64 0)).set_ 2 (.string ⟨t.toArray⟩)).set_ 3 (.int .i64 0)).set_ 4 (.int .i64 0)).set_ 5 (.int .i64 0)).set_ 6 (.int .i64 0)).set_ 7 (.int .i64 (i:Int)))
      have r0:=hE.cell 0
      have r1:=hE.cell 1
      have r2:=hE.cell 2
      have r3:=hE.cell 3
      have r4:=hE.cell 4
      have r5:=hE.cell 5
      have r6:=hE.cell 6
      have r7:=hE.cell 7
      simp at r0 r1 r2 r3 r4 r5 r6 r7
      refine bodyPost_ret (v:=.tuple #[.agg #[.int .u8 2,.int .i64 0,.string ⟨t.toArray⟩,.int .i64 0,.int .i64 0,.int .i64 0,.int .i64 0,.int .i64 (i:Int)],.int .i64 ((k:Int)+1 - (i:Int))]) (by simp [results,Tryz.results83,go_sem,r0,r1,r2,r3,r4,r5,r6,r7]) rfl ⟨by rw [HRES.out,HR2.out]; rfl,((((((((hB.setCell (by simp) _).setCell (by simp) _).setCell (by simp) _).setCell (by simp) _).setCell (by simp) _).setCell (by simp) _).setCell (by simp) _).setCell (by simp) _)⟩
    ·have h3' : s[k]'hks ≠ 34:=by intro e; rw [e] at h3; exact h3 rfl
     have H3:=keep h3'
     have hb3 : (((s[k]'hks).toNat : Int) != 34) = true:=by simpa using h3
     clear h3 h3'
     have F5:=HR.out.sees
     simp only [sees,kVar,kCells,cellsFrom,Nat.add_zero,cellsAt,Nat.reduceAdd] at F5
     obtain ⟨⟨⟨z0,fz0⟩,c00,c01,c02,c03,c04,c05,c06,c07,-⟩,⟨z1,c10,-⟩,-⟩:=F5
     go_wp2_with fail
     go_roundw
     case rel=>exact ⟨k+1,by omega,by omega,by go_num,keep (Seek.step HK.out hk1 hks H3.out),HR⟩
     case measure=>simp [intOf]; omega
   ·have hke:k=s.size:=by omega
    subst hke
    have HN:=keep (Seek.out HK.out)
    have F5:=HR.out.sees
    simp only [sees,kVar,kCells,cellsFrom,Nat.add_zero,cellsAt,Nat.reduceAdd] at F5
    obtain ⟨⟨⟨z0,fz0⟩,c00,c01,c02,c03,c04,c05,c06,c07,-⟩,⟨z1,c10,-⟩,-⟩:=F5
    go_wp2_with fail
    have hK:=HR.out.get (kVar (w.heap.size) 90 [.int .u8 0,.int .i64 0,.string ⟨#[]⟩,.int .i64 0,.int .i64 0,.int .i64 0,.int .i64 0,.int .i64 0]) (by simp)
    have hB:=HR.out.bel
    have hE:=(((((((((show Blk wp (w.heap.size) 90 _ from hK).set_ 0 (.int .u8 0)).set_ 1 (.int .i64 0)).set_ 2 (.string ⟨#[]⟩)).set_ 3 (.int .i64 0)).set_ 4 (.int .i64 0)).set_ 5 (.int .i64 0)).set_ 6 (.int .i64 0)).set_ 7 (.int .i64 0))
    have r0:=hE.cell 0
    have r1:=hE.cell 1
    have r2:=hE.cell 2
    have r3:=hE.cell 3
    have r4:=hE.cell 4
    have r5:=hE.cell 5
    have r6:=hE.cell 6
    have r7:=hE.cell 7
    simp at r0 r1 r2 r3 r4 r5 r6 r7
    refine bodyPost_ret (v:=.tuple #[.agg #[.int .u8 0,.int .i64 0,.string ⟨#[]⟩,.int .i64 0,.int .i64 0,.int .i64 0,.int .i64 0,.int .i64 0],.int .i64 0]) (by simp [results,Tryz.results83,go_sem,r0,r1,r2,r3,r4,r5,r6,r7]) rfl ⟨by rw [txt_open hi H34.out HN.out]; rfl,((((((((hB.setCell (by simp) _).setCell (by simp) _).setCell (by simp) _).setCell (by simp) _).setCell (by simp) _).setCell (by simp) _).setCell (by simp) _).setCell (by simp) _)⟩
 ·have h34 : s[i]'hi ≠ 34:=by intro e; rw [e] at h1; exact h1 rfl
  have H34:=keep h34
  have hb34 : (((s[i]'hi).toNat : Int) != 34) = true:=by simpa using h1
  clear h34 h1
  have F1:=H0.out.sees
  simp only [sees,kCells,cellsFrom,Nat.add_zero] at F1
  obtain ⟨⟨z0,c00,-⟩,-⟩:=F1
  go_enter Tryz.func83,Tryz.ntmps83
  go_upto_region 1 with fail
  have y2:=z0
  clear z0 c00
  have H3:=Lib.hid (H0.out.var w.heap.size 90 [.int .u8 0,.int .i64 0,.string ⟨#[]⟩,.int .i64 0,.int .i64 0,.int .i64 0,.int .i64 0,.int .i64 0] rfl)
  clear H0
  generalize (w.alloc (.cells #[.int .u8 0,.int .i64 0,.string ⟨#[]⟩,.int .i64 0,.int .i64 0,.int .i64 0,.int .i64 0,.int .i64 0] 90))=W4 at H3 ⊢
  have F5:=H3.out.sees
  simp only [sees,kVar,kCells,cellsFrom,Nat.add_zero,cellsAt,Nat.reduceAdd] at F5
  obtain ⟨⟨⟨z0,fz0⟩,c00,c01,c02,c03,c04,c05,c06,c07,-⟩,⟨z1,c10,-⟩,-⟩:=F5
  go_wp2_with fail
  have hK:=H3.out.get (kVar (w.heap.size) 90 [.int .u8 0,.int .i64 0,.string ⟨#[]⟩,.int .i64 0,.int .i64 0,.int .i64 0,.int .i64 0,.int .i64 0]) (by simp)
  have hB:=H3.out.bel
  have hE:=(((((((((show Blk W4 (w.heap.size) 90 _ from hK).set_ 0 (.int .u8 0)).set_ 1 (.int .i64 0)).set_ 2 (.string ⟨#[]⟩)).set_ 3 (.int .i64 0)).set_ 4 (.int .i64 0)).set_ 5 (.int .i64 0)).set_ 6 (.int .i64 0)).set_ 7 (.int .i64 0))
  have r0:=hE.cell 0
  have r1:=hE.cell 1
  have r2:=hE.cell 2
  have r3:=hE.cell 3
  have r4:=hE.cell 4
  have r5:=hE.cell 5
  have r6:=hE.cell 6
  have r7:=hE.cell 7
  simp at r0 r1 r2 r3 r4 r5 r6 r7
  refine bodyPost_ret (v:=.tuple #[.agg #[.int .u8 0,.int .i64 0,.string ⟨#[]⟩,.int .i64 0,.int .i64 0,.int .i64 0,.int .i64 0,.int .i64 0],.int .i64 0]) (by simp [results,Tryz.results83,go_sem,r0,r1,r2,r3,r4,r5,r6,r7]) rfl ⟨by rw [txt_no hi H34.out]; rfl,((((((((hB.setCell (by simp) _).setCell (by simp) _).setCell (by simp) _).setCell (by simp) _).setCell (by simp) _).setCell (by simp) _).setCell (by simp) _).setCell (by simp) _)⟩
