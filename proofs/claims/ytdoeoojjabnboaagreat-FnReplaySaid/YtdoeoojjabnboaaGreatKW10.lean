/- The walks of Unseal. -/
import Derived.Test.YtdoeoojjabnboaaGreatKDR3
import Derived.Test.YtdoeoojjabnboaaGreatKN
import Derived.Test.YtdoeoojjabnboaaGreatKBA
import Derived.Test.YtdoeoojjabnboaaGreatKBG
import Derived.Test.YtdoeoojjabnboaaGreatKAJ
set_option maxRecDepth 100000
namespace Go.Proofs.YtdoeoojjabnboaaGreat
open Go.RowKit Go.Fin1
@[irreducible] def unsealS (s:ByteArray):TextO :=
 if 8000 < s.size then ⟨⟨#[]⟩,0,2⟩ else if s.size < 4 then ⟨⟨#[]⟩,0,4⟩
 else if (four (crcOf 0 (s.extract 0 (s.size-4)))).toList == (s.extract (s.size-4) s.size).toList then ⟨s.extract 0 (s.size-4),0,0⟩ else ⟨⟨#[]⟩,0,5⟩
set_option maxHeartbeats 1600000 in
theorem implUnseal_any (s:ByteArray) (w:World) (hs:s.size≤1048576) :
  Calls Tryz.prog 85 #[.string s] w fun e w'=>e=.returned (textV (unsealS s))∧Ext w w':=by
 unfold unsealS
 by_cases h0:8000 < s.size
 ·rw[if_pos h0]
  have hb:decide (8000 < (s.size:Int))=true:=decide_eq_true (by omega)
  go_enter Tryz.func85,Tryz.ntmps85
  go_wp2_with ((go_at_call 79;refine(isLongText_any s _).mono ?_;rintro e _ ⟨rfl,rfl⟩))
  exact bodyPost_ret (v:=textV ⟨⟨#[]⟩,0,2⟩) (by simp[results,Tryz.results85,go_sem]) rfl ⟨rfl,(by repeat' (first | exact Ext.refl _ | exact Nat.le_refl _ | (dsimp only;omega) | apply Ext.setCell | apply Ext.plus | apply Ext.alloc | apply Ext.drew))⟩
 rw[if_neg h0]
 have hb:decide (8000 < (s.size:Int))=false:=decide_eq_false (by omega)
 by_cases h4:s.size < 4
 ·rw[if_pos h4]
  go_enter Tryz.func85,Tryz.ntmps85
  go_wp2_with ((go_at_call 79;refine(isLongText_any s _).mono ?_;rintro e _ ⟨rfl,rfl⟩))
  exact bodyPost_ret (v:=textV ⟨⟨#[]⟩,0,4⟩) (by simp[results,Tryz.results85,go_sem]) rfl ⟨rfl,(by repeat' (first | exact Ext.refl _ | exact Nat.le_refl _ | (dsimp only;omega) | apply Ext.setCell | apply Ext.plus | apply Ext.alloc | apply Ext.drew))⟩
 rw[if_neg h4]
 have hsz:(s.extract 0 (s.size-4)).size≤1048576:=by rw[ByteArray.size_extract];omega
 have hn:decide ((s.size:Int)-4 < 0)=false:=decide_eq_false (by omega)
 cases hq:(four (crcOf 0 (s.extract 0 (s.size-4)))).toList == (s.extract (s.size-4) s.size).toList
 ·rw[if_neg (by simp)]
  go_enter Tryz.func85,Tryz.ntmps85
  go_upto_region 6 with ((go_at_call 79;refine(isLongText_any s _).mono ?_;rintro e _ ⟨rfl,rfl⟩))
  all_goals (refine wp_region_x 8 (by kernel_rfl) (by kernel_rfl) (by kernel_rfl) ?_;(iterate 8 (apply XReg.step;(case h=>(intro w' hw';obtain⟨X',rfl⟩:=hw';go_wp2_with ((go_at_call 124;refine(sumOf_any _ _ hsz).mono ?_;rintro e _ ⟨rfl,X,rfl⟩));exact⟨rfl,xE⟩));(case hv=>kernel_rfl)));refine XReg.done1 (fun X=>?_))
  all_goals go_wp2
  all_goals exact bodyPost_ret (v:=textV ⟨⟨#[]⟩,0,5⟩) (by simp[results,Tryz.results85,go_sem]) rfl ⟨rfl,(by repeat' (first | exact Ext.refl _ | exact Nat.le_refl _ | (dsimp only;omega) | apply Ext.setCell | apply Ext.plus | apply Ext.alloc | apply Ext.drew))⟩
 ·rw[if_pos rfl]
  go_enter Tryz.func85,Tryz.ntmps85
  go_upto_region 6 with ((go_at_call 79;refine(isLongText_any s _).mono ?_;rintro e _ ⟨rfl,rfl⟩))
  all_goals (refine wp_region_x 8 (by kernel_rfl) (by kernel_rfl) (by kernel_rfl) ?_;(iterate 8 (apply XReg.step;(case h=>(intro w' hw';obtain⟨X',rfl⟩:=hw';go_wp2_with ((go_at_call 124;refine(sumOf_any _ _ hsz).mono ?_;rintro e _ ⟨rfl,X,rfl⟩));exact⟨rfl,xE⟩));(case hv=>kernel_rfl)));refine XReg.done1 (fun X=>?_))
  all_goals go_wp2
  all_goals exact bodyPost_ret (v:=textV ⟨s.extract 0 (s.size-4),0,0⟩) (by simp[results,Tryz.results85,go_sem]) rfl ⟨rfl,(by repeat' (first | exact Ext.refl _ | exact Nat.le_refl _ | (dsimp only;omega) | apply Ext.setCell | apply Ext.plus | apply Ext.alloc | apply Ext.drew))⟩
set_option maxHeartbeats 1600000 in
theorem specUnseal_any (s:ByteArray) (w:World) (hs:s.size≤1048576) :
  Calls Tryz.prog 83 #[.string s] w fun e w'=>e=.returned (textV (unsealS s))∧Ext w w':=by
 unfold unsealS
 by_cases h0:8000 < s.size
 ·rw[if_pos h0]
  go_enter Tryz.func83,Tryz.ntmps83
  go_wp2
  exact bodyPost_ret (v:=textV ⟨⟨#[]⟩,0,2⟩) (by simp[results,Tryz.results83,go_sem]) rfl ⟨rfl,(by repeat' (first | exact Ext.refl _ | exact Nat.le_refl _ | (dsimp only;omega) | apply Ext.setCell | apply Ext.plus | apply Ext.alloc | apply Ext.drew))⟩
 rw[if_neg h0]
 by_cases h4:s.size < 4
 ·rw[if_pos h4]
  go_enter Tryz.func83,Tryz.ntmps83
  go_wp2
  exact bodyPost_ret (v:=textV ⟨⟨#[]⟩,0,4⟩) (by simp[results,Tryz.results83,go_sem]) rfl ⟨rfl,(by repeat' (first | exact Ext.refl _ | exact Nat.le_refl _ | (dsimp only;omega) | apply Ext.setCell | apply Ext.plus | apply Ext.alloc | apply Ext.drew))⟩
 rw[if_neg h4]
 have hsz:(s.extract 0 (s.size-4)).size≤1048576:=by rw[ByteArray.size_extract];omega
 have h64:=crcOf_i64 (s.extract 0 (s.size-4)) 0
 have hn:decide ((s.size:Int) < 4)=false:=decide_eq_false (by omega)
 have hb:decide (8000 < (s.size:Int))=false:=decide_eq_false (by omega)
 cases hq:(four (crcOf 0 (s.extract 0 (s.size-4)))).toList == (s.extract (s.size-4) s.size).toList
 ·rw[if_neg (by simp)]
  go_enter Tryz.func83,Tryz.ntmps83
  go_upto_region 6 with fail
  all_goals (refine wp_region_x 9 (by kernel_rfl) (by kernel_rfl) (by kernel_rfl) ?_;(iterate 9 (apply XReg.step;(case h=>(intro w' hw';obtain⟨X',rfl⟩:=hw';go_wp2_with (first | (go_at_call 126;refine(l01Crc_any 0 _ _ hsz).mono ?_;rintro e _ ⟨rfl,rfl⟩) | (go_at_call 125;refine(l01Four_any _ _ h64).mono ?_;rintro e _ ⟨rfl,X,rfl⟩));exact⟨rfl,xE⟩));(case hv=>kernel_rfl)));refine XReg.doneN (fun X=>?_))
  all_goals go_wp2
  all_goals exact bodyPost_ret (v:=textV ⟨⟨#[]⟩,0,5⟩) (by simp[results,Tryz.results83,go_sem]) rfl ⟨rfl,(by repeat' (first | exact Ext.refl _ | exact Nat.le_refl _ | (dsimp only;omega) | apply Ext.setCell | apply Ext.plus | apply Ext.alloc | apply Ext.drew))⟩
 ·rw[if_pos rfl]
  go_enter Tryz.func83,Tryz.ntmps83
  go_upto_region 6 with fail
  all_goals (refine wp_region_x 9 (by kernel_rfl) (by kernel_rfl) (by kernel_rfl) ?_;(iterate 9 (apply XReg.step;(case h=>(intro w' hw';obtain⟨X',rfl⟩:=hw';go_wp2_with (first | (go_at_call 126;refine(l01Crc_any 0 _ _ hsz).mono ?_;rintro e _ ⟨rfl,rfl⟩) | (go_at_call 125;refine(l01Four_any _ _ h64).mono ?_;rintro e _ ⟨rfl,X,rfl⟩));exact⟨rfl,xE⟩));(case hv=>kernel_rfl)));refine XReg.doneN (fun X=>?_))
  all_goals go_wp2
  all_goals exact bodyPost_ret (v:=textV ⟨s.extract 0 (s.size-4),0,0⟩) (by simp[results,Tryz.results83,go_sem]) rfl ⟨rfl,(by repeat' (first | exact Ext.refl _ | exact Nat.le_refl _ | (dsimp only;omega) | apply Ext.setCell | apply Ext.plus | apply Ext.alloc | apply Ext.drew))⟩
end Go.Proofs.YtdoeoojjabnboaaGreat
set_option maxRecDepth 100000
namespace Go.Proofs.YtdoeoojjabnboaaGreat
open Go.RowKit Go.Fin1
theorem sl_six (w:World) (a b c d e f:Int) (ha:I64 a) (hb:I64 b) (hc:I64 c) (hd:I64 d) (he:I64 e) (hf:I64 f) :
  SlR (w.alloc (.cells #[(.int .i64 a),(.int .i64 b),(.int .i64 c),(.int .i64 d),(.int .i64 e),(.int .i64 f)] 2)) 1 rInt (.slice (some ⟨w.heap.size,0,none⟩) 6 6) [a,b,c,d,e,f]:=by
 refine⟨_,6,rfl,Nat.le_refl 6,by decide,fun i hi=>?_⟩
 have hi':i < 6:=hi
 refine⟨w.heap.size,0,[(.int .i64 ([a,b,c,d,e,f][i]))],rfl,rfl,fun j u hu=>?_,rfl,?_⟩
 ·cases j with
  | succ j=>simp at hu
  | zero =>
   simp only[List.getElem?_cons_zero,Option.some.injEq] at hu
   subst hu
   have:i=0∨i=1∨i=2∨i=3∨i=4∨i=5:=by omega
   rcases this with rfl | rfl | rfl | rfl | rfl | rfl<;>simp[go_sem]
 ·have:i=0∨i=1∨i=2∨i=3∨i=4∨i=5:=by omega
  rcases this with rfl | rfl | rfl | rfl | rfl | rfl<;>assumption
@[irreducible] def entB (x:Ent):ByteArray:=if entR x then sealS (numsS [x.k,x.l.lv,x.l.st,x.a,x.b,x.c]) else ⟨#[]⟩
theorem numsS_six (a b c d e f:Int):putNum a++putNum b++putNum c++putNum d++putNum e++putNum f=numsS [a,b,c,d,e,f]:=by
 have:(ByteArray.mk #[])++putNum a=putNum a:=by ext1;simp[ByteArray.data_append]
 simp only[numsS,List.foldl_cons,List.foldl_nil,this]
set_option maxHeartbeats 800000 in
theorem implEntryBytes_any (x:Ent) (w:World) (hx:x.ok) :
  Calls Tryz.prog 28 #[x.val] w fun e w'=>e=.returned (.string (entB x))∧Ext w w':=by
 obtain⟨k,⟨lv,st⟩,a,b,c⟩:=x
 obtain⟨h1,⟨h2,h3⟩,h4,h5,h6⟩:=hx
 unfold Ent.val entB
 have hsz:(numsS [k,lv,st,a,b,c]).size≤maxLen:=by
  have:=numsS_size [k,lv,st,a,b,c] 6 (Nat.le_refl 6)
  simp only[List.take_succ_cons,List.take_nil] at this
  unfold maxLen;omega
 cases hr:entR ⟨k,⟨lv,st⟩,a,b,c⟩
 ·go_enter Tryz.func28,Tryz.ntmps28
  go_wp2_with ((go_at_call 37;refine(implEntryRight_any _ _ _ _ _ _ _).mono ?_;rintro e _ ⟨rfl,X,rfl⟩))
  go_ret
  exact⟨rfl,xE⟩
 ·go_enter Tryz.func28,Tryz.ntmps28
  go_wp2_with ((go_at_call 37;refine(implEntryRight_any _ _ _ _ _ _ _).mono ?_;rintro e _ ⟨rfl,X,rfl⟩))
  have hS:=sl_six ((w.alloc (.cells #[(.int .i64 k),(.int .i64 lv),(.int .i64 st),(.int .i64 a),(.int .i64 b),(.int .i64 c)] 57)).plus X) k lv st a b c h1 h2 h3 h4 h5 h6
  rw[show ((w.alloc (.cells #[(.int .i64 k),(.int .i64 lv),(.int .i64 st),(.int .i64 a),(.int .i64 b),(.int .i64 c)] 57)).plus X).heap.size=w.heap.size+1+X.n by simp[go_sem]] at hS
  refine(putNums_any _ _ _ hS (by show 6≤1048576;decide)).mono ?_
  rintro e _ ⟨rfl,Y,rfl⟩
  clear hS
  go_wp2_with ((go_at_call 82;refine(implSeal_any _ _ hsz).mono ?_;rintro e _ ⟨rfl,X,rfl⟩))
  go_ret
  exact⟨rfl,xE⟩
set_option maxHeartbeats 800000 in
theorem l07Bytes_any (k lv st a b c:Int) (w:World) (h1:I64 k) (h2:I64 lv) (h3:I64 st) (h4:I64 a) (h5:I64 b) (h6:I64 c) :
  Calls Tryz.prog 88 #[.agg #[(.int .i64 k),(.int .i64 lv),(.int .i64 st),(.int .i64 a),(.int .i64 b),(.int .i64 c)]] w fun e w'=>e=.returned (.string (sealS (numsS [k,lv,st,a,b,c])))∧Ext w w':=by
 have z1:=putNum_size k
 have z2:=putNum_size lv
 have z3:=putNum_size st
 have z4:=putNum_size a
 have z5:=putNum_size b
 have z6:=putNum_size c
 have hn:=tH (numsS_six k lv st a b c)
 have hsz:(putNum k++putNum lv++putNum st++putNum a++putNum b++putNum c).size≤maxLen:=by
  simp only[ByteArray.size_append];unfold maxLen;omega
 go_enter Tryz.func88,Tryz.ntmps88
 go_upto_region 1 with fail
 (refine wp_region_x 27 (by kernel_rfl) (by kernel_rfl) (by kernel_rfl) ?_;(iterate 27 (apply XReg.step;(case h=>(intro w' hw';obtain⟨X',rfl⟩:=hw';go_wp2_with (first | (go_at_call 69;refine(specPutNum_any _ (by assumption) _).mono ?_;rintro e _ ⟨rfl,X,rfl⟩) | (go_at_call 84;refine(specSeal_any _ _ hsz).mono ?_;rintro e _ ⟨rfl,X,rfl⟩));exact⟨rfl,xE⟩));(case hv=>kernel_rfl)));refine XReg.doneN (fun X=>?_))
 go_wp2
 go_ret
 exact⟨ret_str (by rw[hn.out]),xE⟩
set_option maxHeartbeats 800000 in
theorem specEntryBytes_any (x:Ent) (w:World) (hx:x.ok) :
  Calls Tryz.prog 33 #[x.val] w fun e w'=>e=.returned (.string (entB x))∧Ext w w':=by
 obtain⟨k,⟨lv,st⟩,a,b,c⟩:=x
 obtain⟨h1,⟨h2,h3⟩,h4,h5,h6⟩:=hx
 unfold Ent.val entB
 cases hr:entR ⟨k,⟨lv,st⟩,a,b,c⟩
 ·go_enter Tryz.func33,Tryz.ntmps33
  go_wp2_with ((go_at_call 38;refine(specEntryRight_any _ _ _ _ _ _ _).mono ?_;rintro e _ ⟨rfl,X,rfl⟩))
  go_ret
  exact⟨rfl,xE⟩
 ·go_enter Tryz.func33,Tryz.ntmps33
  go_wp2_with (first | (go_at_call 38;refine(specEntryRight_any _ _ _ _ _ _ _).mono ?_;rintro e _ ⟨rfl,X,rfl⟩) | (go_at_call 88;refine(l07Bytes_any _ _ _ _ _ _ _ h1 h2 h3 h4 h5 h6).mono ?_;rintro e _ ⟨rfl,X,rfl⟩))
  go_ret
  exact⟨rfl,xE⟩
end Go.Proofs.YtdoeoojjabnboaaGreat
