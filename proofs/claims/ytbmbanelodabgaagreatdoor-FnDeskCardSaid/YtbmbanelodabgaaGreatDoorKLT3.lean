/- LabelRead: both walks and the law. -/
import Derived.Test.YtbmbanelodabgaaGreatDoorKLT1
import Derived.Test.YtbmbanelodabgaaGreatDoorKBG
set_option maxRecDepth 100000
set_option linter.unusedVariables false
namespace Go.Proofs.YtbmbanelodabgaaGreatDoor
open Go.RowKit Go.Fin1
def ordK (k:Nat):Lab:=⟨(k / 8:Nat),(k % 8:Nat)⟩
def rdK (s:ByteArray) (k:Nat):Bool:=lblT (ordK k) == s.toList
@[irreducible] def rdL (s:ByteArray):Lab×Int:=if 8000 < s.size then (⟨0,0⟩,2) else match (List.range 32).find? (rdK s) with | some k=>(ordK k,0) | none=>(⟨0,0⟩,3)
theorem rdL_big {s:ByteArray} (h:8000 < s.size):rdL s=(⟨0,0⟩,2):=by unfold rdL;rw[if_pos h]
theorem rdL_at {s:ByteArray} (h:¬ 8000 < s.size) {k:Nat} (hk:k < 32) (hj:∀ j,j < k→rdK s j=false) (hp:rdK s k=true):rdL s=(ordK k,0):=by
 unfold rdL
 rw[if_neg h,show (List.range 32).find? (rdK s)=some k from List.find?_eq_some_iff_getElem.2 ⟨hp,k,by simpa using hk,by simp,fun j hjk=>by simp[hj j hjk]⟩]
theorem rdL_none {s:ByteArray} (h:¬ 8000 < s.size) (hj:∀ j,j < 32→rdK s j=false):rdL s=(⟨0,0⟩,3):=by
 unfold rdL
 rw[if_neg h,show (List.range 32).find? (rdK s)=none from List.find?_eq_none.2 fun j hm=>by simp[hj j (List.mem_range.1 hm)]]
theorem info_LabelR:(Tryz.prog.info? 36).map (fun i=>(i.zero,i.size,i.bytes))=some (some (.agg #[(.int .i64 0),(.int .i64 0)]),2,16):=by kernel_rfl
theorem el_LabelR:ElemInfo Tryz.prog 45 36 2 16:=by
 obtain⟨i,hi,hz,hs,hb⟩:=info_parts info_LabelR
 exact⟨Tryz.underlying45,⟨i,_,hi,hz,hs,hb,rfl⟩,by decide⟩
theorem ordK_8 {a b:Nat} (hb:b < 8):ordK (8*a+b)=⟨a,b⟩:=by
 unfold ordK
 rw[show (8*a+b) / 8=a by omega,show (8*a+b) % 8=b by omega]
set_option maxHeartbeats 1600000 in
theorem allLabels_any (w:World) :
  Calls Tryz.prog 70 #[] w fun e w'=>∃ v',e=.returned v'∧Ext w w'∧Row w.heap.size w' 36 2 Lab.cells v' ((List.range 32).map ordK):=by
 go_enter Tryz.func70,Tryz.ntmps70
 go_wp2
 go_loopw [1,5] (fun o i wr=>∃ a:Nat,a≤4∧i=Value.int .i64 a∧Ext w wr∧Hid (Row w.heap.size wr 36 2 Lab.cells o ((List.range (8*a)).map ordK))) (fun _ i _=>4-(intOf i).toNat)
 case atStart=>exact⟨0,Nat.zero_le _,rfl,(by repeat (first | exact Ext.refl _ | apply Ext.plus | apply Ext.alloc | apply Ext.drew)),Lib.hid (Row.made _ _ _ _)⟩
 case round =>
  obtain⟨a,ha,rfl,⟨X,rfl⟩,HR⟩:=hrel
  by_cases hlt:a < 4
  ·have hb:decide ((a:Int) < 4)=true:=decide_eq_true (by omega)
   go_wp2
   go_loopw [1,8] (fun o i wr=>∃ b:Nat,b≤8∧i=Value.int .i64 b∧Ext w wr∧Hid (Row w.heap.size wr 36 2 Lab.cells o ((List.range (8*a+b)).map ordK))) (fun _ i _=>8-(intOf i).toNat)
   case atStart=>exact⟨0,Nat.zero_le _,rfl,(by repeat (first | exact Ext.refl _ | apply Ext.plus | apply Ext.alloc | apply Ext.drew)),HR⟩
   case round =>
    clear HR X
    obtain⟨b,hb8,rfl,⟨X,rfl⟩,HR⟩:=hrel
    obtain⟨a1,c1,hsh⟩:=HR.out.shape
    subst hsh
    by_cases hlb:b < 8
    ·have hbd:decide ((b:Int) < 8)=true:=decide_eq_true (by omega)
     have HN:Hid ((List.range (8*a+(b+1))).map ordK=(List.range (8*a+b)).map ordK++[⟨a,b⟩]):=Lib.hid (by
      rw[show 8*a+(b+1)=(8*a+b)+1 by omega,List.range_succ,List.map_append]
      simp[ordK_8 hlb])
     have hL:((List.range (8*a+b)).map ordK).length≤40:=by simp;omega
     go_wp2_with (at_builtin;go_must (refine Row.app (f:=Lab.cells) el_LabelR rfl _ _ rfl w (by repeat (first | exact Ext.refl _ | apply Ext.plus | apply Ext.alloc | apply Ext.drew)) _ ((List.range (8*a+b)).map ordK) rfl (HR.out.ext (by repeat (first | exact Ext.refl _ | apply Ext.plus | apply Ext.alloc | apply Ext.drew))) ⟨(a:Int),(b:Int)⟩ rfl _ ?_ rfl rfl ?_ ?_ ?_ ?_);(simp[go_sem]);(simp[Value.oneCell']);(unfold maxLen;omega);omega;intro v' Z hown' hne;have HO':=Lib.hid hown';clear hown' hne)
     exact⟨⟨b+1,by omega,by go_num,(by repeat (first | exact Ext.refl _ | apply Ext.plus | apply Ext.alloc | apply Ext.drew)),Lib.hid (by rw[HN.out];exact HO'.out.ext (by repeat (first | exact Ext.refl _ | apply Ext.plus | apply Ext.alloc | apply Ext.drew)))⟩,by simp[intOf];omega⟩
    ·obtain rfl:b=8:=by omega
     go_wp2
     exact⟨⟨a+1,by omega,by go_num,(by repeat (first | exact Ext.refl _ | apply Ext.plus | apply Ext.alloc | apply Ext.drew)),Lib.hid (by rw[show 8*(a+1)=8*a+8 by omega];exact HR.out.ext (by repeat (first | exact Ext.refl _ | apply Ext.plus | apply Ext.alloc | apply Ext.drew)))⟩,by simp[intOf];omega⟩
  ·obtain rfl:a=4:=by omega
   go_wp2
   go_ret
   exact⟨_,rfl,(by repeat (first | exact Ext.refl _ | apply Ext.plus | apply Ext.alloc | apply Ext.drew)),HR.out⟩
set_option maxHeartbeats 400000 in
theorem isLongD_any (s:ByteArray) (w:World) (hs:s.size≤1048576) :
  Calls Tryz.prog 19 #[.string s] w fun e w'=>e=.returned (.bool (decide ((8000:Int) < (s.size:Int))))∧w'=w:=by
 go_enter Tryz.func19,Tryz.ntmps19
 go_wp2
 go_ret
 exact⟨rfl,rfl⟩
theorem row_labR {B:Nat} {w:World} {v:Value} {l:List Lab} (h:Row B w 36 2 Lab.cells v l):SlR w 2 (rc Lab.cells) v l:=by
 obtain⟨fp,hO⟩:=Row.own (f:=Lab.cells) (K:=2) (fun _=>rfl) h
 exact oFl_reads (f:=Lab.cells) (fun _=>rfl) hO.1
theorem labs_at {w:World} {b off n cap:Nat} {xs:List Lab} (h:SlR w 2 (rc Lab.cells) (.slice (some ⟨b,off,none⟩) n cap) xs) {i:Nat} (hi:i < xs.length) :
  w.old b∧w.cell? ⟨b,off+i*2,none⟩=some (.int .i64 xs[i].lv)∧w.cell? ⟨b,off+i*2+1,none⟩=some (.int .i64 xs[i].st):=by
 obtain⟨cs,_,hc,he⟩:=slr_cells h hi
 have he':cs=Lab.cells xs[i]:=he
 subst he'
 have h0:=hc 0 _ rfl
 exact⟨World.old_of_cell h0,h0,hc 1 _ rfl⟩
set_option maxHeartbeats 3200000 in
theorem implLabelRead_any (s:ByteArray) (w:World) (hs:s.size≤1048576) :
  Calls Tryz.prog 45 #[.string s] w fun e w'=>e=.returned (.agg #[(.int .i64 (rdL s).1.lv),(.int .i64 (rdL s).1.st),(.int .i64 (rdL s).2)])∧Ext w w':=by
 by_cases h8:8000 < s.size
 ·have HN:=Lib.hid (rdL_big h8)
  have h8b:decide ((8000:Int) < (s.size:Int))=true:=decide_eq_true (by omega)
  go_enter Tryz.func45,Tryz.ntmps45
  go_wp2_with (go_at_call 19;refine(isLongD_any s _ hs).mono ?_;rintro e _ ⟨rfl,rfl⟩;rw[h8b])
  exact bodyPost_ret (v:=.agg #[(.int .i64 0),(.int .i64 0),(.int .i64 2)]) (by simp[results,Tryz.results45,go_sem]) rfl ⟨by rw[HN.out],(by repeat' (first | exact Ext.refl _ | exact Nat.le_refl _ | (dsimp only;omega) | apply Ext.setCell | apply Ext.plus | apply Ext.alloc | apply Ext.drew))⟩
 ·have h8b:decide ((8000:Int) < (s.size:Int))=false:=decide_eq_false (by omega)
  have H8:=Lib.hid h8
  go_enter Tryz.func45,Tryz.ntmps45
  go_upto_region 3 with (go_at_call 19;refine(isLongD_any s _ hs).mono ?_;rintro e _ ⟨rfl,rfl⟩;rw[h8b])
  go_wp2_with fail
  refine(allLabels_any _).mono ?_
  rintro e _ ⟨v',rfl,⟨X,rfl⟩,hR⟩
  have HL:=Lib.hid (row_labR hR)
  obtain⟨a1,c1,rfl⟩:=hR.shape
  have hlen:((List.range 32).map ordK).length=32:=by simp
  rw[hlen] at HL ⊢
  clear hR
  go_wp2
  go_loopw [10] (fun i wr=>∃ k:Nat,k≤32∧i=Value.int .i64 k∧Ext ((w.alloc (.cells #[(.int .i64 0),(.int .i64 0),(.int .i64 0)] 71)).plus X) wr∧Hid (∀ j,j < k→rdK s j=false)) (fun i _=>32-(intOf i).toNat)
  case atStart=>exact⟨0,Nat.zero_le _,rfl,(by repeat (first | exact Ext.refl _ | apply Ext.plus | apply Ext.alloc | apply Ext.drew)),Lib.hid (fun j h=>absurd h (Nat.not_lt_zero _))⟩
  case round =>
   obtain⟨k,hk,rfl,⟨Y,rfl⟩,HH⟩:=hrel
   by_cases hlt:k < 32
   ·have hlt2:k < ((List.range 32).map ordK).length:=by rw[hlen];exact hlt
    obtain⟨b,off,rfl⟩:=slr_some HL.out hlt2
    obtain⟨ho,g0,g1⟩:=labs_at HL.out hlt2
    have hgk:((List.range 32).map ordK)[k]=ordK k:=by simp
    rw[hgk] at g0 g1
    have hkb:decide ((k:Int) < 32)=true:=decide_eq_true (by omega)
    cases r:(lblT (ordK k) == s.toList)
    ·have HK:Hid (rdK s k=false):=Lib.hid r
     go_wp2_with (go_at_call 71;refine(implLabelText_any (ordK k) _).mono ?_;rintro e _ ⟨rfl,Z,rfl⟩)
     exact⟨⟨k+1,by omega,by go_num,(by repeat (first | exact Ext.refl _ | apply Ext.plus | apply Ext.alloc | apply Ext.drew)),Lib.hid (fun j hj=>by
      by_cases e:j < k
      ·exact HH.out j e
      ·obtain rfl:j=k:=by omega
       exact HK.out)⟩,by simp[intOf];omega⟩
    ·have HN:=Lib.hid (rdL_at H8.out hlt HH.out r)
     go_wp2_with (go_at_call 71;refine(implLabelText_any (ordK k) _).mono ?_;rintro e _ ⟨rfl,Z,rfl⟩)
     exact bodyPost_ret (v:=.agg #[(.int .i64 (ordK k).lv),(.int .i64 (ordK k).st),(.int .i64 0)]) (by simp[results,Tryz.results45,go_sem]) rfl ⟨by rw[HN.out],(by repeat' (first | exact Ext.refl _ | exact Nat.le_refl _ | (dsimp only;omega) | apply Ext.setCell | apply Ext.plus | apply Ext.alloc | apply Ext.drew))⟩
   ·obtain rfl:k=32:=by omega
    have HN:=Lib.hid (rdL_none H8.out HH.out)
    go_wp2
    exact bodyPost_ret (v:=.agg #[(.int .i64 0),(.int .i64 0),(.int .i64 3)]) (by simp[results,Tryz.results45,go_sem]) rfl ⟨by rw[HN.out],(by repeat' (first | exact Ext.refl _ | exact Nat.le_refl _ | (dsimp only;omega) | apply Ext.setCell | apply Ext.plus | apply Ext.alloc | apply Ext.drew))⟩
set_option maxHeartbeats 3200000 in
theorem specLabelRead_any (s:ByteArray) (w:World) (hs:s.size≤1048576) :
  Calls Tryz.prog 32 #[.string s] w fun e w'=>e=.returned (.agg #[(.int .i64 (rdL s).1.lv),(.int .i64 (rdL s).1.st),(.int .i64 (rdL s).2)])∧Ext w w':=by
 by_cases h8:8000 < s.size
 ·have HN:=Lib.hid (rdL_big h8)
  have h8b:decide ((8000:Int) < (s.size:Int))=true:=decide_eq_true (by omega)
  go_enter Tryz.func32,Tryz.ntmps32
  go_wp2
  exact bodyPost_ret (v:=.agg #[(.int .i64 0),(.int .i64 0),(.int .i64 2)]) (by simp[results,Tryz.results32,go_sem]) rfl ⟨by rw[HN.out],(by repeat' (first | exact Ext.refl _ | exact Nat.le_refl _ | (dsimp only;omega) | apply Ext.setCell | apply Ext.plus | apply Ext.alloc | apply Ext.drew))⟩
 ·have h8b:decide ((8000:Int) < (s.size:Int))=false:=decide_eq_false (by omega)
  have H8:=Lib.hid h8
  go_enter Tryz.func32,Tryz.ntmps32
  go_wp2
  go_loopw [3] (fun i wr=>∃ a:Nat,a≤4∧i=Value.int .i64 a∧Ext (w.alloc (.cells #[(.int .i64 0),(.int .i64 0),(.int .i64 0)] 71)) wr∧Hid (∀ j,j < 8*a→rdK s j=false)) (fun i _=>4-(intOf i).toNat)
  case atStart=>exact⟨0,Nat.zero_le _,rfl,(by repeat (first | exact Ext.refl _ | apply Ext.plus | apply Ext.alloc | apply Ext.drew)),Lib.hid (fun j h=>absurd h (Nat.not_lt_zero _))⟩
  case round =>
   obtain⟨a,ha,rfl,⟨X,rfl⟩,HH⟩:=hrel
   by_cases hlt:a < 4
   ·have hb:decide ((a:Int)≤3)=true:=decide_eq_true (by omega)
    go_wp2
    go_loopw [4] (fun i wr=>∃ b:Nat,b≤8∧i=Value.int .i64 b∧Ext (w.alloc (.cells #[(.int .i64 0),(.int .i64 0),(.int .i64 0)] 71)) wr∧Hid (∀ j,j < 8*a+b→rdK s j=false)) (fun i _=>8-(intOf i).toNat)
    case atStart=>exact⟨0,Nat.zero_le _,rfl,(by repeat (first | exact Ext.refl _ | apply Ext.plus | apply Ext.alloc | apply Ext.drew)),HH⟩
    case round =>
     clear HH X
     obtain⟨b,hb8,rfl,⟨X,rfl⟩,HH⟩:=hrel
     by_cases hlb:b < 8
     ·have hbd:decide ((b:Int) < 8)=true:=decide_eq_true (by omega)
      have HO:=Lib.hid (ordK_8 (a:=a) hlb)
      cases r:(lblT ⟨a,b⟩ == s.toList)
      ·have HK:Hid (rdK s (8*a+b)=false):=Lib.hid (by unfold rdK;rw[HO.out];exact r)
       go_wp2_with (go_at_call 56;refine(specLabelText_any ⟨a,b⟩ _).mono ?_;rintro e _ ⟨rfl,Z,rfl⟩)
       exact⟨⟨b+1,by omega,by go_num,(by repeat (first | exact Ext.refl _ | apply Ext.plus | apply Ext.alloc | apply Ext.drew)),Lib.hid (fun j hj=>by
        by_cases e:j < 8*a+b
        ·exact HH.out j e
        ·obtain rfl:j=8*a+b:=by omega
         exact HK.out)⟩,by simp[intOf];omega⟩
      ·have HN:=Lib.hid ((rdL_at H8.out (show 8*a+b < 32 by omega) HH.out (by unfold rdK;rw[HO.out];exact r)).trans (by rw[HO.out]))
       go_wp2_with (go_at_call 56;refine(specLabelText_any ⟨a,b⟩ _).mono ?_;rintro e _ ⟨rfl,Z,rfl⟩)
       exact bodyPost_ret (v:=.agg #[(.int .i64 a),(.int .i64 b),(.int .i64 0)]) (by simp[results,Tryz.results32,go_sem]) rfl ⟨by rw[HN.out],(by repeat' (first | exact Ext.refl _ | exact Nat.le_refl _ | (dsimp only;omega) | apply Ext.setCell | apply Ext.plus | apply Ext.alloc | apply Ext.drew))⟩
     ·obtain rfl:b=8:=by omega
      go_wp2
      exact⟨⟨a+1,by omega,by go_num,(by repeat (first | exact Ext.refl _ | apply Ext.plus | apply Ext.alloc | apply Ext.drew)),Lib.hid (fun j hj=>HH.out j (by omega))⟩,by simp[intOf];omega⟩
   ·obtain rfl:a=4:=by omega
    have HN:=Lib.hid (rdL_none H8.out HH.out)
    go_wp2
    exact bodyPost_ret (v:=.agg #[(.int .i64 0),(.int .i64 0),(.int .i64 3)]) (by simp[results,Tryz.results32,go_sem]) rfl ⟨by rw[HN.out],(by repeat' (first | exact Ext.refl _ | exact Nat.le_refl _ | (dsimp only;omega) | apply Ext.setCell | apply Ext.plus | apply Ext.alloc | apply Ext.drew))⟩
end Go.Proofs.YtbmbanelodabgaaGreatDoor
