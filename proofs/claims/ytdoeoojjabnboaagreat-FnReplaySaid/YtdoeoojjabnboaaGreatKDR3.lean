/- The laws of GetNum and GetText. -/
import Derived.Test.YtdoeoojjabnboaaGreatKW6
import Derived.Test.YtdoeoojjabnboaaGreatKBG
import Derived.Test.YtdoeoojjabnboaaGreatKBA
import Derived.Test.YtdoeoojjabnboaaGreatKN
set_option maxRecDepth 100000
namespace Go.Proofs.YtdoeoojjabnboaaGreat
open Go.RowKit Go.Fin1
theorem gn_bd {s:ByteArray} {a:Nat}:∀ (f k:Nat) (u:Int),(gn s a f k u).c=0→0≤(gn s a f k u).at_∧(gn s a f k u).at_≤s.size
 | 0,_,_,h=>by simp[gn] at h
 | f+1,k,u,h=>by
  unfold gn at h ⊢
  split at h
  ·simp at h
  ·rename_i h1
   rw[if_neg h1]
   split at h
   ·simp at h
   ·rename_i h2
    rw[if_neg h2]
    split at h
    ·rename_i h3
     rw[if_pos h3]
     exact gn_bd f (k+1) _ h
    ·rename_i h3
     rw[if_neg h3]
     split at h
     ·simp at h
     ·rename_i h4
      rw[if_neg h4]
      exact⟨Int.natCast_nonneg _,by show ((a+k+1:Nat):Int)≤_;omega⟩
theorem getNum_bd {s:ByteArray} {n:Int} (h:(getNum s n).c=0):s.size≤8000∧0≤(getNum s n).at_∧(getNum s n).at_≤s.size:=by
 unfold getNum at h ⊢
 split at h
 ·simp at h
 ·rename_i h1
  rw[if_neg h1]
  split at h
  ·simp at h
  ·rename_i h2
   rw[if_neg h2]
   split at h
   ·simp at h
   ·rename_i h3
    rw[if_neg h3]
    unfold getNumG at h ⊢
    exact⟨by omega,gn_bd 10 0 0 h⟩
structure TextO where
 t:ByteArray
 at_:Int
 c:Int
abbrev textV (T:TextO):Value:=.agg #[.string T.t,(.int .i64 T.at_),(.int .i64 T.c)]
@[irreducible] def getText (s:ByteArray) (n:Int):TextO :=
 if (getNum s n).c≠0 then ⟨⟨#[]⟩,0,(getNum s n).c⟩
 else if (getNum s n).n < 0∨8000 < (getNum s n).n then ⟨⟨#[]⟩,0,3⟩
 else if s.size < (getNum s n).at_+(getNum s n).n then ⟨⟨#[]⟩,0,4⟩
 else ⟨s.extract (getNum s n).at_.toNat ((getNum s n).at_.toNat+(getNum s n).n.toNat),(getNum s n).at_+(getNum s n).n,0⟩
set_option maxHeartbeats 1600000 in
theorem implGetText_any (s:ByteArray) (n:Int) (w:World) (hs:s.size≤1048576) :
  Calls Tryz.prog 80 #[.string s,(.int .i64 n)] w fun e w'=>e=.returned (textV (getText s n))∧Ext w w':=by
 have hi:∀ w,Calls Tryz.prog 123 #[.string s,(.int .i64 n)] w fun e w'=>e=.returned (numV (getNum s n))∧Ext w w':=fun w=>implGetNum_any s n w hs
 have hb:=getNum_bd (s:=s) (n:=n)
 unfold getText
 generalize getNum s n=G at hi hb ⊢
 obtain⟨gn,ga,gc⟩:=G
 simp only[numV] at hi hb ⊢
 have Hi:=tH hi
 clear hi
 by_cases hc:gc=0
 ·obtain⟨h8,hb0,hb1⟩:=hb hc
  subst hc
  clear hb
  simp only[ne_eq,not_true,if_false]
  obtain⟨a,rfl⟩:∃ a:Nat,ga=a:=⟨ga.toNat,by omega⟩
  by_cases hr:gn < 0∨8000 < gn
  ·rw[if_pos hr]
   have hin:isIn gn 0 8000=false:=by cases e:isIn gn 0 8000;rfl;rw[isIn_iff] at e;omega
   go_enter Tryz.func80,Tryz.ntmps80
   go_wp2_with (first | (go_at_call 123;refine(Hi.out _).mono ?_;rintro e _ ⟨rfl,X,rfl⟩) | (go_at_call 90;refine(within_any _ _ _ _).mono ?_;rintro e _ ⟨rfl,rfl⟩))
   exact bodyPost_ret (v:=textV ⟨⟨#[]⟩,0,3⟩) (by simp[results,Tryz.results80,go_sem]) rfl ⟨rfl,(by repeat' (first | exact Ext.refl _ | exact Nat.le_refl _ | (dsimp only;omega) | apply Ext.setCell | apply Ext.plus | apply Ext.alloc | apply Ext.drew))⟩
  rw[if_neg hr]
  have hin:isIn gn 0 8000=true:=isIn_iff.2 (by omega)
  obtain⟨g,rfl⟩:∃ g:Nat,gn=g:=⟨gn.toNat,by omega⟩
  by_cases hl:(s.size:Int) < (a:Int)+g
  ·rw[if_pos hl]
   go_enter Tryz.func80,Tryz.ntmps80
   go_wp2_with (first | (go_at_call 123;refine(Hi.out _).mono ?_;rintro e _ ⟨rfl,X,rfl⟩) | (go_at_call 90;refine(within_any _ _ _ _).mono ?_;rintro e _ ⟨rfl,rfl⟩))
   exact bodyPost_ret (v:=textV ⟨⟨#[]⟩,0,4⟩) (by simp[results,Tryz.results80,go_sem]) rfl ⟨rfl,(by repeat' (first | exact Ext.refl _ | exact Nat.le_refl _ | (dsimp only;omega) | apply Ext.setCell | apply Ext.plus | apply Ext.alloc | apply Ext.drew))⟩
  rw[if_neg hl]
  simp only[Int.toNat_natCast]
  go_enter Tryz.func80,Tryz.ntmps80
  go_upto_region 8 with (first | (go_at_call 123;refine(Hi.out _).mono ?_;rintro e _ ⟨rfl,X,rfl⟩) | (go_at_call 90;refine(within_any _ _ _ _).mono ?_;rintro e _ ⟨rfl,rfl⟩))
  (refine wp_region_x 15 (by kernel_rfl) (by kernel_rfl) (by kernel_rfl) ?_;(iterate 15 (apply XReg.step;(case h=>(intro w' hw';obtain⟨X',rfl⟩:=hw';go_wp2_with (fail);exact⟨rfl,xE⟩));(case hv=>kernel_rfl)));refine XReg.done1 (fun X=>?_))
  go_wp2
  exact bodyPost_ret (v:=textV ⟨s.extract a (a+g),a+g,0⟩) (by simp[results,Tryz.results80,go_sem]) rfl ⟨rfl,(by repeat' (first | exact Ext.refl _ | exact Nat.le_refl _ | (dsimp only;omega) | apply Ext.setCell | apply Ext.plus | apply Ext.alloc | apply Ext.drew))⟩
 ·rw[if_pos hc]
  clear hb
  go_enter Tryz.func80,Tryz.ntmps80
  go_wp2_with (first | (go_at_call 123;refine(Hi.out _).mono ?_;rintro e _ ⟨rfl,X,rfl⟩) | (go_at_call 90;refine(within_any _ _ _ _).mono ?_;rintro e _ ⟨rfl,rfl⟩))
  exact bodyPost_ret (v:=textV ⟨⟨#[]⟩,0,gc⟩) (by simp[results,Tryz.results80,go_sem]) rfl ⟨rfl,(by repeat' (first | exact Ext.refl _ | exact Nat.le_refl _ | (dsimp only;omega) | apply Ext.setCell | apply Ext.plus | apply Ext.alloc | apply Ext.drew))⟩
set_option maxHeartbeats 1600000 in
theorem specGetText_any (s:ByteArray) (n:Int) (w:World) (hs:s.size≤1048576) (hn:I64 n) :
  Calls Tryz.prog 81 #[.string s,(.int .i64 n)] w fun e w'=>e=.returned (textV (getText s n))∧Ext w w':=by
 have hi:∀ w,Calls Tryz.prog 89 #[.string s,(.int .i64 n)] w fun e w'=>e=.returned (numV (getNum s n))∧Ext w w':=fun w=>specGetNum_any s n w hs hn
 have hb:=getNum_bd (s:=s) (n:=n)
 unfold getText
 generalize getNum s n=G at hi hb ⊢
 obtain⟨gn,ga,gc⟩:=G
 simp only[numV] at hi hb ⊢
 have Hi:=tH hi
 clear hi
 by_cases hc:gc=0
 ·obtain⟨h8,hb0,hb1⟩:=hb hc
  subst hc
  clear hb
  simp only[ne_eq,not_true,if_false]
  obtain⟨a,rfl⟩:∃ a:Nat,ga=a:=⟨ga.toNat,by omega⟩
  by_cases hr:gn < 0∨8000 < gn
  ·rw[if_pos hr]
   go_enter Tryz.func81,Tryz.ntmps81
   go_wp2_with (go_at_call 89;refine(Hi.out _).mono ?_;rintro e _ ⟨rfl,X,rfl⟩)
   all_goals exact bodyPost_ret (v:=textV ⟨⟨#[]⟩,0,3⟩) (by simp[results,Tryz.results81,go_sem]) rfl ⟨rfl,(by repeat' (first | exact Ext.refl _ | exact Nat.le_refl _ | (dsimp only;omega) | apply Ext.setCell | apply Ext.plus | apply Ext.alloc | apply Ext.drew))⟩
  rw[if_neg hr]
  obtain⟨g,rfl⟩:∃ g:Nat,gn=g:=⟨gn.toNat,by omega⟩
  by_cases hl:(s.size:Int) < (a:Int)+g
  ·rw[if_pos hl]
   go_enter Tryz.func81,Tryz.ntmps81
   go_wp2_with (go_at_call 89;refine(Hi.out _).mono ?_;rintro e _ ⟨rfl,X,rfl⟩)
   exact bodyPost_ret (v:=textV ⟨⟨#[]⟩,0,4⟩) (by simp[results,Tryz.results81,go_sem]) rfl ⟨rfl,(by repeat' (first | exact Ext.refl _ | exact Nat.le_refl _ | (dsimp only;omega) | apply Ext.setCell | apply Ext.plus | apply Ext.alloc | apply Ext.drew))⟩
  rw[if_neg hl]
  simp only[Int.toNat_natCast]
  go_enter Tryz.func81,Tryz.ntmps81
  go_upto_region 8 with (go_at_call 89;refine(Hi.out _).mono ?_;rintro e _ ⟨rfl,X,rfl⟩)
  (refine wp_region_x 15 (by kernel_rfl) (by kernel_rfl) (by kernel_rfl) ?_;(iterate 15 (apply XReg.step;(case h=>(intro w' hw';obtain⟨X',rfl⟩:=hw';go_wp2_with (fail);exact⟨rfl,xE⟩));(case hv=>kernel_rfl)));refine XReg.done1 (fun X=>?_))
  go_wp2
  exact bodyPost_ret (v:=textV ⟨s.extract a (a+g),a+g,0⟩) (by simp[results,Tryz.results81,go_sem]) rfl ⟨rfl,(by repeat' (first | exact Ext.refl _ | exact Nat.le_refl _ | (dsimp only;omega) | apply Ext.setCell | apply Ext.plus | apply Ext.alloc | apply Ext.drew))⟩
 ·rw[if_pos hc]
  clear hb
  go_enter Tryz.func81,Tryz.ntmps81
  go_wp2_with (go_at_call 89;refine(Hi.out _).mono ?_;rintro e _ ⟨rfl,X,rfl⟩)
  exact bodyPost_ret (v:=textV ⟨⟨#[]⟩,0,gc⟩) (by simp[results,Tryz.results81,go_sem]) rfl ⟨rfl,(by repeat' (first | exact Ext.refl _ | exact Nat.le_refl _ | (dsimp only;omega) | apply Ext.setCell | apply Ext.plus | apply Ext.alloc | apply Ext.drew))⟩
end Go.Proofs.YtdoeoojjabnboaaGreat
set_option maxRecDepth 100000
namespace Go.Proofs.YtdoeoojjabnboaaGreat
open Go.RowKit Go.Fin1
@[irreducible] def fourL (n:Int):List Int:=[n % 256,n / 256 % 256,n / 65536 % 256,n / 16777216 % 256]
@[irreducible] def four (n:Int):ByteArray:=strOfNums (fourL n)
theorem ownsFour (w:World) (a b c d:Int):(w.alloc (.cells #[.int .u8 a,.int .u8 b,.int .u8 c,.int .u8 d] 5)).ownsRow w.heap.size 5 1 (.slice (some ⟨w.heap.size,0,none⟩) 4 4) 4 ([a,b,c,d].map (Value.int .u8)) :=
 ⟨rfl,.inr ⟨w.heap.size,4,#[.int .u8 a,.int .u8 b,.int .u8 c,.int .u8 d],rfl,Nat.le_refl _,Array.getElem?_push_size,by decide,by decide,rfl,rfl⟩⟩
set_option maxHeartbeats 800000 in
theorem fourBytes_any (n:Int) (w:World) (_:I64 n) :
  Calls Tryz.prog 147 #[(.int .i64 n)] w fun e w'=>e=.returned (.string (four n))∧Ext w w':=by
 have hs:=run_string_own (P:=Tryz.prog) (src:=22) (dst:=9) Tryz.underlying22 Tryz.underlying5 Tryz.underlying9 (ownsFour w (n % 256) (n / 256 % 256) (n / 65536 % 256) (n / 16777216 % 256))
 have hf:strOfNums [n % 256,n / 256 % 256,n / 65536 % 256,n / 16777216 % 256]=four n:=by unfold four fourL;rfl
 rw[hf] at hs
 clear hf
 go_enter Tryz.func147,Tryz.ntmps147
 go_wp2
 go_ret
 exact⟨rfl,xE⟩
set_option maxHeartbeats 800000 in
theorem l01Four_any (n:Int) (w:World) (_:I64 n) :
  Calls Tryz.prog 125 #[(.int .i64 n)] w fun e w'=>e=.returned (.string (four n))∧Ext w w':=by
 have hs:=run_string_own (P:=Tryz.prog) (src:=22) (dst:=9) Tryz.underlying22 Tryz.underlying5 Tryz.underlying9 (ownsFour w (n % 256) (n / 256 % 256) (n / 65536 % 256) (n / 16777216 % 256))
 have hf:strOfNums [n % 256,n / 256 % 256,n / 65536 % 256,n / 16777216 % 256]=four n:=by unfold four fourL;rfl
 rw[hf] at hs
 clear hf
 go_enter Tryz.func125,Tryz.ntmps125
 go_wp2
 go_ret
 exact⟨rfl,xE⟩
theorem crcOf_bd (s:ByteArray) (n:Int):0≤crcOf n s∧crcOf n s≤4294967295:=by
 unfold crcOf
 exact u32_bits_bd .xor _ _
theorem crcOf_i64 (s:ByteArray) (n:Int):I64 (crcOf n s):=by have:=crcOf_bd s n;unfold I64;omega
theorem four_size (n:Int):(four n).size=4:=by unfold four fourL;simp[strOfNums,ByteArray.size]
set_option maxHeartbeats 400000 in
theorem sumOf_any (s:ByteArray) (w:World) (hs:s.size≤1048576) :
  Calls Tryz.prog 124 #[.string s] w fun e w'=>e=.returned (.string (four (crcOf 0 s)))∧Ext w w':=by
 have h:=crcOf_i64 s 0
 go_enter Tryz.func124,Tryz.ntmps124
 go_wp2_with (first | (go_at_call 148;refine(sumMore_any 0 s _ hs).mono ?_;rintro e _ ⟨rfl,rfl⟩) | (go_at_call 147;refine(fourBytes_any _ _ h).mono ?_;rintro e _ ⟨rfl,X,rfl⟩))
 go_ret
 exact⟨rfl,xE⟩
@[irreducible] def sealS (s:ByteArray):ByteArray:=if s.size≤7996 then s++four (crcOf 0 s) else ⟨#[]⟩
set_option maxHeartbeats 800000 in
theorem implSeal_any (s:ByteArray) (w:World) (_:s.size≤maxLen) :
  Calls Tryz.prog 82 #[.string s] w fun e w'=>e=.returned (.string (sealS s))∧Ext w w':=by
 by_cases h:s.size≤7996
 ·have hs:s.size≤1048576:=by omega
  have h4:=four_size (crcOf 0 s)
  go_enter Tryz.func82,Tryz.ntmps82
  go_wp2_with ((go_at_call 124;refine(sumOf_any s _ hs).mono ?_;rintro e _ ⟨rfl,X,rfl⟩))
  go_ret
  exact⟨ret_str (by unfold sealS;rw[if_pos h]),xE⟩
 ·go_enter Tryz.func82,Tryz.ntmps82
  go_wp2
  go_ret
  exact⟨ret_str (by unfold sealS;rw[if_neg h]),xE⟩
set_option maxHeartbeats 800000 in
theorem specSeal_any (s:ByteArray) (w:World) (_:s.size≤maxLen) :
  Calls Tryz.prog 84 #[.string s] w fun e w'=>e=.returned (.string (sealS s))∧Ext w w':=by
 have h64:=crcOf_i64 s 0
 by_cases h:s.size≤7996
 ·have hs:s.size≤1048576:=by omega
  have h4:=four_size (crcOf 0 s)
  go_enter Tryz.func84,Tryz.ntmps84
  go_wp2_with (first | (go_at_call 126;refine(l01Crc_any 0 s _ hs).mono ?_;rintro e _ ⟨rfl,rfl⟩) | (go_at_call 125;refine(l01Four_any _ _ h64).mono ?_;rintro e _ ⟨rfl,X,rfl⟩))
  go_ret
  exact⟨ret_str (by unfold sealS;rw[if_pos h]),xE⟩
 ·go_enter Tryz.func84,Tryz.ntmps84
  go_wp2
  go_ret
  exact⟨ret_str (by unfold sealS;rw[if_neg h]),xE⟩
end Go.Proofs.YtdoeoojjabnboaaGreat
set_option maxRecDepth 100000
set_option linter.unusedVariables false
namespace Go
open Go.RowKit
section
variable {P:Program} {ops:Array Oper} {rest:List Oper} {op:Oper} {a:Act} {Q:Exit→Act→World→Prop}
end
end Go
namespace Go.Proofs.YtdoeoojjabnboaaGreat
open Go.RowKit Go.Fin1
theorem u64_wrap_bd (x:Int):0≤IntKind.u64.wrap x∧IntKind.u64.wrap x≤18446744073709551615:=by
 have hw:IntKind.u64.wrap x=x % 18446744073709551616:=by simp[IntKind.wrap,IntKind.bits,IntKind.signed]
 rw[hw];omega
theorem SrcM.set3 {w W:World} {g:Nat} {cv:Value} {k m:Int} (h:SrcM w W g cv k m) (u:Value):SrcM w (W.setCell ⟨g,3,none⟩ u) g cv k m :=
 ⟨by rw[World.old_setCell];exact h.old,by rw[World.cell?_setCell_other _ _ _ _ (by simp)];exact h.c0,by rw[World.cell?_setCell_other _ _ _ _ (by simp)];exact h.c1,by rw[World.cell?_setCell_other _ _ _ _ (by simp)];exact h.c2,fun j=>by rw[World.frozen?_setCell];exact h.fz j,h.chg.setCell (.inl (by simp)) _⟩
theorem SrcM.fin {w W:World} {cv:Value} {m:Int} {l:List Int} (h:SrcM w W w.heap.size cv 0 m) (h0:0≤m) (h1:m≤18446744073709551615) (hs:SlR w 1 rU8 cv l):Ext w W∧SrcA W w.heap.size cv l :=
 ⟨h.chg.ext (Ext.refl _) (by simp),SrcM.src (k:=0) h (Nat.zero_le _) h0 h1,u8s_past hs h.chg (by simp),fun hl a n c e=>by
  subst e
  obtain⟨b,off,he⟩:=slr_some hs hl
  simp at he
  subst he
  have:=(u8_at hs hl).1
  unfold World.old at this
  simp;omega⟩
set_option maxHeartbeats 1600000 in
theorem l01Source_any (v:Value) (l:List Int) (w:World) (h:SlR w 1 rU8 v l) (hl:l.length≤1048576) :
  Calls Tryz.prog 41 #[v] w fun e w'=>∃ g,e=.returned (.pointer (some ⟨g,0,none⟩))∧w.heap.size≤g∧Ext w w'∧SrcA w' g v l:=by
 obtain⟨a,cap,rfl⟩:=h.len
 have HS:=tH h
 clear h
 go_enter Tryz.func41,Tryz.ntmps41
 go_wp2
 go_loopw [4] (fun i wr=>∃ k:Nat,∃ m:Int,k≤l.length∧i=.int .i64 k∧0≤m∧m≤18446744073709551615∧Hid (SrcM w wr w.heap.size (.slice a l.length cap) 0 m)∧Hid (wr.cell? ⟨w.heap.size,3,none⟩=some (.int .i64 0))) (fun i _=>l.length-(intOf i).toNat)
 case atStart=>exact⟨0,88172645463325252,Nat.zero_le _,rfl,by omega,by omega,tH ⟨by simp[World.old],by simp,by simp,by simp,fun j=>by simp,(Chg.refl _ _).alloc _⟩,tH (by simp)⟩
 case round =>
  obtain⟨k,m,hk,rfl,hm0,hm1,HM,H3⟩:=hrel
  obtain⟨ho,c0,c1,c2,hfz,hch⟩:=HM.out
  have c3:=H3.out
  have HS1:=tH (u8s_past HS.out hch (by simp))
  clear hch
  by_cases hlt:k < l.length
  ·by_cases h64:k < 64
   ·have hb64:decide ((k:Int) < 64)=true:=decide_eq_true (by omega)
    obtain⟨b,off,rfl⟩:=slr_some HS1.out hlt
    obtain⟨hob,b0,b1,hcb⟩:=u8_at HS1.out hlt
    have hbw:b≠w.heap.size:=by have:=(u8_at HS.out hlt).1;unfold World.old at this;omega
    clear c3
    go_upto_region 5 with fail
    (refine wp_region_x 14 (by kernel_rfl) (by kernel_rfl) (by kernel_rfl) ?_;(iterate 14 (apply XReg.step;(case h=>(intro w' hw';obtain⟨X',rfl⟩:=hw';go_wp2_with (fail);exact⟨rfl,xE⟩));(case hv=>kernel_rfl)));refine XReg.done1 (fun X=>?_))
    go_upto_region 4 with fail
    refine gen_world (fun W2 hW=>?_)
    obtain⟨m2,hn0,hn1,hn⟩:∃ n:Int,0≤n∧n≤18446744073709551615∧SrcM w W2 w.heap.size _ 0 n:=⟨_,(u64_wrap_bd _).1,(u64_wrap_bd _).2,by rw[hW];exact(HM.out.set2 _).plus _⟩
    have H33:Hid (W2.cell? ⟨w.heap.size,3,none⟩=some (.int .i64 0)):=tH (by
     rw[hW]
     refine((Ext.refl _).plus _).cell ?_
     rw[World.cell?_setCell_other _ _ _ _ (by simp)]
     exact H3.out)
    have HN:=tH hn
    clear hn hW c0 c1 c2 hfz ho hcb hob
    go_wp2
    exact⟨⟨k+1,m2,by omega,by go_num,hn0,hn1,HN,H33⟩,by simp[intOf];omega⟩
   ·have hb64:decide ((k:Int) < 64)=false:=decide_eq_false (by omega)
    go_wp2
    all_goals go_ret
    all_goals (refine⟨w.heap.size,rfl,Nat.le_refl _,?_⟩;exact SrcM.fin (by first | exact HM.out.set3 _ | exact(HM.out.set3 _).set3 _) hm0 hm1 HS.out)
  ·have hkk:decide ((k:Int) < (l.length:Int))=false:=decide_eq_false (by omega)
   go_wp2
   all_goals go_ret
   all_goals (refine⟨w.heap.size,rfl,Nat.le_refl _,?_⟩;exact SrcM.fin (by first | exact HM.out.set3 _ | exact(HM.out.set3 _).set3 _) hm0 hm1 HS.out)
@[irreducible] def lwV (l:List Int) (a:Nat) (m:Int):Int:=if m≤1∨l.length=0 then 0 else l.getD (a % l.length) 0 % m
theorem lwV_none {l:List Int} {a:Nat} {m:Int} (h:m≤1∨l.length=0):lwV l a m=0:=by unfold lwV;rw[if_pos h]
theorem lwV_some {l:List Int} {a:Nat} {m:Int} (h:1 < m) (hl:a % l.length < l.length):lwV l a m=l[a % l.length] % m:=by
 unfold lwV;rw[if_neg (by omega)];simp[List.getD,hl]
theorem lwV_nat (l:List Int) (a:Nat) (m:Int):∃ k:Nat,lwV l a m=(k:Int)∧((k:Int) < m∨k=0):=by
 unfold lwV
 split
 ·exact⟨0,rfl,.inr rfl⟩
 ·rename_i h
  have q0:=Int.emod_nonneg (l.getD (a % l.length) 0) (show m≠0 by omega)
  have q1:=Int.emod_lt_of_pos (l.getD (a % l.length) 0) (show 0 < m by omega)
  exact⟨(l.getD (a % l.length) 0 % m).toNat,by rw[Int.toNat_of_nonneg q0],.inl (by rw[Int.toNat_of_nonneg q0];exact q1)⟩
set_option maxHeartbeats 800000 in
theorem lwAt_any (v:Value) (l:List Int) (at_:Nat) (most:Int) (w:World) (h:SlR w 1 rU8 v l) (hl:l.length≤1048576) (ha:at_≤1048576) :
  Calls Tryz.prog 39 #[v,(.int .i64 (at_:Int)),(.int .i64 most)] w fun e w'=>e=.returned (.int .i64 (lwV l at_ most))∧w=w':=by
 obtain⟨a,cap,rfl⟩:=h.len
 have HS:=tH h
 clear h
 by_cases hle:most≤1
 ·have hd:decide (most≤1)=true:=decide_eq_true hle
  have HV:=tH (lwV_none (l:=l) (a:=at_) (m:=most) (.inl hle))
  clear hle
  go_enter Tryz.func39,Tryz.ntmps39
  go_wp2
  go_ret
  exact⟨ret_int HV.out.symm,rfl⟩
 have hd:decide (most≤1)=false:=decide_eq_false hle
 have HGT:=tH (show 1 < most by omega)
 clear hle
 by_cases h0:l.length=0
 ·have hb:((l.length:Int) == 0)=true:=by simp[h0]
  have HV:=tH (lwV_none (l:=l) (a:=at_) (m:=most) (.inr h0))
  clear h0
  go_enter Tryz.func39,Tryz.ntmps39
  go_wp2
  go_ret
  exact⟨ret_int HV.out.symm,rfl⟩
 ·have hb:((l.length:Int) == 0)=false:=by rw[beq_eq_false_iff_ne];omega
  have hpos:0 < l.length:=by omega
  have hmod:at_ % l.length < l.length:=Nat.mod_lt _ hpos
  have hz:¬ ((l.length:Int)=0):=by omega
  obtain⟨b,off,rfl⟩:=slr_some HS.out hmod
  obtain⟨ho,b0,b1,hc⟩:=u8_at HS.out hmod
  have hz2:¬ most=0:=by have:=HGT.out;omega
  have HV:=tH (lwV_some (l:=l) (a:=at_) HGT.out hmod)
  clear h0 hpos
  go_enter Tryz.func39,Tryz.ntmps39
  go_wp2
  go_ret
  exact⟨ret_int HV.out.symm,rfl⟩
end Go.Proofs.YtdoeoojjabnboaaGreat
