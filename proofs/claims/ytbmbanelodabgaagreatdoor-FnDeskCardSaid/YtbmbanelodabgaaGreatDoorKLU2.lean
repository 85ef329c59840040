/- The source that the draws draw from: what a draw leaves of it. -/
import Derived.Test.YtbmbanelodabgaaGreatDoorKBG
import Derived.Test.YtbmbanelodabgaaGreatDoorKBA
import Derived.Test.YtbmbanelodabgaaGreatDoorKJE
import Derived.Test.YtbmbanelodabgaaGreatDoorKVBC
import Derived.Test.YtbmbanelodabgaaGreatDoorKPA1
import Derived.Test.YtbmbanelodabgaaGreatDoorKTT
import Derived.Test.YtbmbanelodabgaaGreatDoorKQA1
import Derived.Test.YtbmbanelodabgaaGreatDoorKTU
import Derived.Test.YtbmbanelodabgaaGreatDoorKII
import Derived.Test.YtbmbanelodabgaaGreatDoorKLT1
set_option maxRecDepth 100000
set_option linter.unusedVariables false
namespace Go.Proofs.YtbmbanelodabgaaGreatDoor
open Go.RowKit Go.Fin1
def rU8:World→List Value→Int→Prop:=fun _ cs x=>cs=[.int .u8 x]∧0≤x∧x≤255
theorem rU8_stable:Stable rU8:=fun _ _ _ _ _ h=>h
theorem u8_at {w:World} {b off n cap:Nat} {xs:List Int} (h:SlR w 1 rU8 (.slice (some ⟨b,off,none⟩) n cap) xs) {i:Nat} (hi:i < xs.length) :
  w.old b∧0≤xs[i]∧xs[i]≤255∧w.cell? ⟨b,off+i,none⟩=some (.int .u8 xs[i]):=by
 obtain⟨cs,_,hc,rfl,h0,h1⟩:=slr_cells h hi
 have h2:=hc 0 _ rfl
 rw[Nat.mul_one] at h2
 exact⟨World.old_of_cell h2,h0,h1,h2⟩
structure Src (w:World) (g:Nat) (cv:Value) (l:List Int):Prop where
 at_:∃ at_:Nat,at_≤l.length∧w.cell? ⟨g,1,none⟩=some (.int .i64 (at_:Int))
 code:w.cell? ⟨g,0,none⟩=some cv
 mix:∃ m:Int,0≤m∧m≤18446744073709551615∧w.cell? ⟨g,2,none⟩=some (.int .u64 m)
 fz:∀ j,w.frozen? ⟨g,j,none⟩=false
theorem u64_bits_bd (op:BinOp) (x y:Int):0≤bits op .u64 x y∧bits op .u64 x y≤18446744073709551615:=by
 have hw:∀ m:Int,IntKind.u64.wrap m=m % 18446744073709551616:=fun m=>by simp[IntKind.wrap,IntKind.bits,IntKind.signed]
 unfold bits;rw[hw];omega
structure SrcM (w W:World) (g:Nat) (cv:Value) (k m:Int):Prop where
 old:W.old g
 c0:W.cell? ⟨g,0,none⟩=some cv
 c1:W.cell? ⟨g,1,none⟩=some (.int .i64 k)
 c2:W.cell? ⟨g,2,none⟩=some (.int .u64 m)
 fz:∀ j,W.frozen? ⟨g,j,none⟩=false
 chg:Chg [g] w W
theorem SrcM.plus {w W:World} {g:Nat} {cv:Value} {k m:Int} (h:SrcM w W g cv k m) (X:More):SrcM w (W.plus X) g cv k m :=
 ⟨by rw[World.old_plus];exact .inr h.old,((Ext.refl _).plus X).cell h.c0,((Ext.refl _).plus X).cell h.c1,((Ext.refl _).plus X).cell h.c2,fun j=>by rw[World.frozen?_plus _ _ _ _ h.old];exact h.fz j,h.chg.plus X⟩
theorem SrcM.set1 {w W:World} {g:Nat} {cv:Value} {k m:Int} (h:SrcM w W g cv k m) (k':Int):SrcM w (W.setCell ⟨g,1,none⟩ (.int .i64 k')) g cv k' m :=
 ⟨by rw[World.old_setCell];exact h.old,by rw[World.cell?_setCell_other _ _ _ _ (by simp)];exact h.c0,World.cell?_setCell_same _ _ _ h.c1,by rw[World.cell?_setCell_other _ _ _ _ (by simp)];exact h.c2,fun j=>by rw[World.frozen?_setCell];exact h.fz j,h.chg.setCell (.inl (by simp)) _⟩
theorem SrcM.set2 {w W:World} {g:Nat} {cv:Value} {k m:Int} (h:SrcM w W g cv k m) (m':Int):SrcM w (W.setCell ⟨g,2,none⟩ (.int .u64 m')) g cv k m' :=
 ⟨by rw[World.old_setCell];exact h.old,by rw[World.cell?_setCell_other _ _ _ _ (by simp)];exact h.c0,by rw[World.cell?_setCell_other _ _ _ _ (by simp)];exact h.c1,World.cell?_setCell_same _ _ _ h.c2,fun j=>by rw[World.frozen?_setCell];exact h.fz j,h.chg.setCell (.inl (by simp)) _⟩
theorem SrcM.src {w W:World} {g:Nat} {cv:Value} {k:Nat} {m:Int} {l:List Int} (h:SrcM w W g cv k m) (hk:k≤l.length) (h0:0≤m) (h1:m≤18446744073709551615):Src W g cv l:=⟨⟨k,hk,h.c1⟩,h.c0,⟨m,h0,h1,h.c2⟩,h.fz⟩
theorem drawn_bd {most:Int} (h:1 < most) (hi:I64 most) (x:Int):0≤wrap64 (x % most)∧wrap64 (x % most) < most:=by
 have h0:=Int.emod_nonneg x (show most≠0 by omega)
 have h1:=Int.emod_lt_of_pos x (show 0 < most by omega)
 have:=hi.2
 have e:wrap64 (x % most)=x % most:=by unfold wrap64;omega
 rw[e];exact⟨h0,h1⟩
set_option maxHeartbeats 1600000 in
theorem srcN_any (g:Nat) (cv:Value) (l:List Int) (most:Int) (w:World) (h:Src w g cv l) (hs:SlR w 1 rU8 cv l) (hg:0 < l.length→∀ a n c,cv=.slice (some a) n c→a.block≠g) (hm:I64 most) :
  Calls Tryz.prog 52 #[.pointer (some ⟨g,0,none⟩),(.int .i64 most)] w fun e w'=>∃ v:Int,e=.returned (.int .i64 v)∧0≤v∧(v < most∨v=0)∧Chg [g] w w'∧Src w' g cv l:=by
 have HS:=tH h
 have HGN:=tH hg
 clear hg
 obtain⟨⟨at_,hat,c1⟩,c0,⟨m,hm0,hm1,c2⟩,hfz⟩:=h
 have ho:=World.old_of_cell c0
 by_cases hle:most≤1
 ·have hd:decide (most≤1)=true:=decide_eq_true hle
  go_enter Tryz.func52,Tryz.ntmps52
  go_wp2
  go_ret
  exact⟨0,rfl,Int.le_refl 0,.inr rfl,Chg.refl _ _,HS.out⟩
 have hd:decide (most≤1)=false:=decide_eq_false hle
 have HGT:=tH (show 1 < most by omega)
 have HI:=tH hm
 have HWM:Hid (IntKind.u64.wrap most=most):=tH (by
  have:=hm.2
  simp only[IntKind.wrap,IntKind.bits,IntKind.signed]
  simp
  omega)
 have HZ0:Hid (¬ most=0):=tH (by omega)
 clear hle hm
 obtain⟨av,cp,rfl⟩:=hs.len
 obtain⟨-,hlc,hcm⟩:=slr_len hs
 have hlm:l.length≤9223372036854775807:=by unfold maxLen at hcm;omega
 clear hlc hcm
 have HB:=tH hs
 clear hs HS
 by_cases hlt:at_ < l.length
 ·obtain⟨b,off,rfl⟩:=slr_some HB.out hlt
  obtain⟨hob,b0,b1,hcb⟩:=u8_at HB.out hlt
  have hne:b≠g:=HGN.out (Nat.lt_of_le_of_lt (Nat.zero_le _) hlt) _ _ _ rfl
  have HM:=tH (And.intro hm0 hm1)
  have HW0:Hid (SrcM w w g (.slice (some ⟨b,off,none⟩) l.length cp) at_ m):=tH ⟨ho,c0,c1,c2,hfz,Chg.refl _ _⟩
  clear HGN hm0 hm1
  go_enter Tryz.func52,Tryz.ntmps52
  go_upto_region 4 with fail
  (refine wp_region_x 10 (by kernel_rfl) (by kernel_rfl) (by kernel_rfl) ?_;(iterate 10 (apply XReg.step;(case h=>(intro w' hw';obtain⟨X',rfl⟩:=hw';go_wp2_with (fail);exact⟨rfl,xE⟩));(case hv=>kernel_rfl)));refine XReg.doneN (fun X=>?_))
  go_upto_region 5 with fail
  (refine wp_region_x 12 (by kernel_rfl) (by kernel_rfl) (by kernel_rfl) ?_;(iterate 12 (apply XReg.step;(case h=>(intro w' hw';obtain⟨X',rfl⟩:=hw';go_wp2_with (fail);exact⟨rfl,xE⟩));(case hv=>kernel_rfl)));refine XReg.doneN (fun X=>?_))
  go_upto_region 7 with fail
  refine gen_world (fun W1 hW1=>?_)
  have H1:Hid (SrcM w W1 g (.slice (some ⟨b,off,none⟩) l.length cp) ((at_:Int)+1) m):=tH (by rw[hW1];exact(((HW0.out.set1 _).plus _).plus _))
  clear hW1
  obtain⟨ho1,d0,d1,d2,hfz1,hch1⟩:=H1.out
  clear hch1 hcb hob c0 c1 c2 hfz ho
  (refine wp_region_x 13 (by kernel_rfl) (by kernel_rfl) (by kernel_rfl) ?_;(iterate 13 (apply XReg.step;(case h=>(intro w' hw';obtain⟨X',rfl⟩:=hw';go_wp2_with (fail);exact⟨rfl,xE⟩));(case hv=>kernel_rfl)));refine XReg.done1 (fun X=>?_))
  go_upto_region 8 with fail
  refine gen_world (fun W2 hW=>?_)
  obtain⟨m2,hn0,hn1,hn⟩:∃ n:Int,0≤n∧n≤18446744073709551615∧SrcM w W2 g _ _ n:=⟨_,(u64_bits_bd _ _ _).1,(u64_bits_bd _ _ _).2,by rw[hW];exact(H1.out.set2 _).plus _⟩
  clear d0 d1 d2 ho1 hfz1 hW hn0 hn1
  have H2:=tH hn
  obtain⟨ho2,d0,d1,d2,hfz2,hch2⟩:=hn
  clear hch2
  (refine wp_region_x 13 (by kernel_rfl) (by kernel_rfl) (by kernel_rfl) ?_;(iterate 13 (apply XReg.step;(case h=>(intro w' hw';obtain⟨X',rfl⟩:=hw';go_wp2_with (fail);exact⟨rfl,xE⟩));(case hv=>kernel_rfl)));refine XReg.done1 (fun X=>?_))
  go_upto_region 9 with fail
  refine gen_world (fun W3 hW=>?_)
  obtain⟨m3,hn0,hn1,hn⟩:∃ n:Int,0≤n∧n≤18446744073709551615∧SrcM w W3 g _ _ n:=⟨_,(u64_bits_bd _ _ _).1,(u64_bits_bd _ _ _).2,by rw[hW];exact(H2.out.set2 _).plus _⟩
  clear d0 d1 d2 ho2 hfz2 hW hn0 hn1
  have H3:=tH hn
  obtain⟨ho3,d0,d1,d2,hfz3,hch3⟩:=hn
  clear hch3
  (refine wp_region_x 13 (by kernel_rfl) (by kernel_rfl) (by kernel_rfl) ?_;(iterate 13 (apply XReg.step;(case h=>(intro w' hw';obtain⟨X',rfl⟩:=hw';go_wp2_with (fail);exact⟨rfl,xE⟩));(case hv=>kernel_rfl)));refine XReg.done1 (fun X=>?_))
  go_upto_region 10 with fail
  refine gen_world (fun W4 hW=>?_)
  obtain⟨m4,hn0,hn1,hn⟩:∃ n:Int,0≤n∧n≤18446744073709551615∧SrcM w W4 g _ _ n:=⟨_,(u64_bits_bd _ _ _).1,(u64_bits_bd _ _ _).2,by rw[hW];exact(H3.out.set2 _).plus _⟩
  clear d0 d1 d2 ho3 hfz3 hW
  have H4:=tH (hn.src (l:=l) (k:=(at_+1)) (by omega) hn0 hn1)
  have HC:=tH hn.chg
  obtain⟨ho4,d0,d1,d2,hfz4,hch4⟩:=hn
  clear hch4
  have hwm:IntKind.u64.wrap most=most:=HWM.out
  have hz0:¬ most=0:=HZ0.out
  go_wp2
  go_ret
  exact⟨_,rfl,(drawn_bd HGT.out HI.out _).1,.inl (drawn_bd HGT.out HI.out _).2,HC.out,H4.out⟩
 ·have hge:l.length≤at_:=by omega
  have HM:=tH (And.intro hm0 hm1)
  have HW0:Hid (SrcM w w g (.slice av l.length cp) at_ m):=tH ⟨ho,c0,c1,c2,hfz,Chg.refl _ _⟩
  have hb1:decide ((at_:Int) < (l.length:Int))=false:=decide_eq_false (by omega)
  have hb2:decide (at_ < l.length)=false:=decide_eq_false (by omega)
  clear HGN hm0 hm1 hlt
  go_enter Tryz.func52,Tryz.ntmps52
  go_upto_region 4 with fail
  (refine wp_region_x 10 (by kernel_rfl) (by kernel_rfl) (by kernel_rfl) ?_;(iterate 10 (apply XReg.step;(case h=>(intro w' hw';obtain⟨X',rfl⟩:=hw';go_wp2_with (fail);exact⟨rfl,xE⟩));(case hv=>kernel_rfl)));refine XReg.doneN (fun X=>?_))
  go_upto_region 7 with fail
  refine gen_world (fun W1 hW1=>?_)
  have H1:Hid (SrcM w W1 g (.slice av l.length cp) (at_:Int) m):=tH (by rw[hW1];exact HW0.out.plus _)
  clear hW1
  obtain⟨ho1,d0,d1,d2,hfz1,hch1⟩:=H1.out
  clear hch1 c0 c1 c2 hfz ho
  (refine wp_region_x 13 (by kernel_rfl) (by kernel_rfl) (by kernel_rfl) ?_;(iterate 13 (apply XReg.step;(case h=>(intro w' hw';obtain⟨X',rfl⟩:=hw';go_wp2_with (fail);exact⟨rfl,xE⟩));(case hv=>kernel_rfl)));refine XReg.done1 (fun X=>?_))
  go_upto_region 8 with fail
  refine gen_world (fun W2 hW=>?_)
  obtain⟨m2,hn0,hn1,hn⟩:∃ n:Int,0≤n∧n≤18446744073709551615∧SrcM w W2 g _ _ n:=⟨_,(u64_bits_bd _ _ _).1,(u64_bits_bd _ _ _).2,by rw[hW];exact(H1.out.set2 _).plus _⟩
  clear d0 d1 d2 ho1 hfz1 hW hn0 hn1
  have H2:=tH hn
  obtain⟨ho2,d0,d1,d2,hfz2,hch2⟩:=hn
  clear hch2
  (refine wp_region_x 13 (by kernel_rfl) (by kernel_rfl) (by kernel_rfl) ?_;(iterate 13 (apply XReg.step;(case h=>(intro w' hw';obtain⟨X',rfl⟩:=hw';go_wp2_with (fail);exact⟨rfl,xE⟩));(case hv=>kernel_rfl)));refine XReg.done1 (fun X=>?_))
  go_upto_region 9 with fail
  refine gen_world (fun W3 hW=>?_)
  obtain⟨m3,hn0,hn1,hn⟩:∃ n:Int,0≤n∧n≤18446744073709551615∧SrcM w W3 g _ _ n:=⟨_,(u64_bits_bd _ _ _).1,(u64_bits_bd _ _ _).2,by rw[hW];exact(H2.out.set2 _).plus _⟩
  clear d0 d1 d2 ho2 hfz2 hW hn0 hn1
  have H3:=tH hn
  obtain⟨ho3,d0,d1,d2,hfz3,hch3⟩:=hn
  clear hch3
  (refine wp_region_x 13 (by kernel_rfl) (by kernel_rfl) (by kernel_rfl) ?_;(iterate 13 (apply XReg.step;(case h=>(intro w' hw';obtain⟨X',rfl⟩:=hw';go_wp2_with (fail);exact⟨rfl,xE⟩));(case hv=>kernel_rfl)));refine XReg.done1 (fun X=>?_))
  go_upto_region 10 with fail
  refine gen_world (fun W4 hW=>?_)
  obtain⟨m4,hn0,hn1,hn⟩:∃ n:Int,0≤n∧n≤18446744073709551615∧SrcM w W4 g _ _ n:=⟨_,(u64_bits_bd _ _ _).1,(u64_bits_bd _ _ _).2,by rw[hW];exact(H3.out.set2 _).plus _⟩
  clear d0 d1 d2 ho3 hfz3 hW
  have H4:=tH (hn.src (l:=l) (k:=at_) (by omega) hn0 hn1)
  have HC:=tH hn.chg
  obtain⟨ho4,d0,d1,d2,hfz4,hch4⟩:=hn
  clear hch4
  have hwm:IntKind.u64.wrap most=most:=HWM.out
  have hz0:¬ most=0:=HZ0.out
  go_wp2
  go_ret
  exact⟨_,rfl,(drawn_bd HGT.out HI.out _).1,.inl (drawn_bd HGT.out HI.out _).2,HC.out,H4.out⟩
end Go.Proofs.YtbmbanelodabgaaGreatDoor
set_option maxRecDepth 100000
set_option linter.unusedVariables false
namespace Go.Proofs.YtbmbanelodabgaaGreatDoor
open Go.RowKit Go.Fin1
theorem Src.ext {w w':World} {g:Nat} {cv:Value} {l:List Int} (h:Src w g cv l) (hx:Ext w w'):Src w' g cv l:=by
 obtain⟨⟨k,hk,h1⟩,h0,⟨m,m0,m1,h2⟩,hf⟩:=h
 have ho:=World.old_of_cell h0
 refine⟨⟨k,hk,hx.cell h1⟩,hx.cell h0,⟨m,m0,m1,hx.cell h2⟩,fun j=>?_⟩
 obtain⟨X,rfl⟩:=hx
 rw[World.frozen?_plus _ _ _ _ ho];exact hf j
theorem u8s_chg {S:List Nat} {w w':World} {v:Value} {l:List Int} (h:SlR w 1 rU8 v l) (hx:Chg S w w') (hb:0 < l.length→∀ a n c,v=.slice (some a) n c→a.block∉S):SlR w' 1 rU8 v l:=by
 obtain⟨a,cap,rfl,h1,h2,h3⟩:=h
 refine⟨a,cap,rfl,h1,h2,fun i hi=>?_⟩
 obtain⟨b,off,cs,rfl,hk,hc,hr⟩:=h3 i hi
 refine⟨b,off,cs,rfl,hk,fun j u hu=>?_,hr⟩
 have hq:=hc j u hu
 have hlt:=World.block_lt_of_cell? w _ hq
 simp only[World.cell?,hx.block b hlt (hb (Nat.lt_of_le_of_lt (Nat.zero_le _) hi) _ _ _ rfl)] at hq ⊢
 exact hq
theorem u8s_past {S:List Nat} {w w':World} {v:Value} {l:List Int} (h:SlR w 1 rU8 v l) (hx:Chg S w w') (hS:∀ b∈S,w.heap.size≤b):SlR w' 1 rU8 v l :=
 u8s_chg h hx fun h0 a n c e hb=>by
  subst e
  obtain⟨b,off,he⟩:=slr_some h h0
  simp at he
  subst he
  have h1:=(u8_at h h0).1
  have h2:=hS _ hb
  unfold World.old at h1
  simp at h2
  omega
structure SrcA (w:World) (g:Nat) (cv:Value) (l:List Int):Prop where
 src:Src w g cv l
 code:SlR w 1 rU8 cv l
 far:0 < l.length→∀ a n c,cv=.slice (some a) n c→a.block≠g
theorem SrcA.ext {w w':World} {g:Nat} {cv:Value} {l:List Int} (h:SrcA w g cv l) (hx:Ext w w'):SrcA w' g cv l:=⟨h.src.ext hx,h.code.ext rU8_stable hx,h.far⟩
theorem SrcA.old {w:World} {g:Nat} {cv:Value} {l:List Int} (h:SrcA w g cv l):g < w.heap.size:=World.old_of_cell h.src.code
theorem srcN' (g:Nat) (most:Int) (w:World) (cv:Value) (l:List Int) (h:SrcA w g cv l) (hm:I64 most) :
  Calls Tryz.prog 52 #[.pointer (some ⟨g,0,none⟩),(.int .i64 most)] w fun e w'=>∃ v:Nat,e=.returned (.int .i64 (v:Int))∧((v:Int) < most∨v=0)∧Chg [g] w w'∧SrcA w' g cv l:=by
 obtain⟨h1,h2,h3⟩:=h
 refine(srcN_any g cv l most w h1 h2 h3 hm).mono ?_
 rintro e w' ⟨v,rfl,h0,hlt,hc,hs⟩
 refine⟨v.toNat,by rw[Int.toNat_of_nonneg h0],by omega,hc,hs,u8s_chg h2 hc (fun h0 a n c e hb=>h3 h0 a n c e (by simpa using hb)),h3⟩
set_option maxHeartbeats 400000 in
theorem srcOne_any (g:Nat) (most:Int) (w:World) (cv:Value) (l:List Int) (h:SrcA w g cv l) (hm:I64 most) :
  Calls Tryz.prog 26 #[.pointer (some ⟨g,0,none⟩),(.int .i64 most)] w fun e w'=>∃ b:Bool,e=.returned (.bool b)∧Chg [g] w w'∧SrcA w' g cv l:=by
 have HS:=tH h
 have HM:=tH hm
 clear h hm
 go_enter Tryz.func26,Tryz.ntmps26
 go_wp2_with fail
 refine(srcN' g most _ cv l HS.out HM.out).mono ?_
 rintro e w2 ⟨v,rfl,hb,hc,hs⟩
 have HC:=tH hc
 have HS2:=tH hs
 clear hc hs hb
 go_wp2
 go_ret
 exact⟨_,rfl,HC.out,HS2.out⟩
end Go.Proofs.YtbmbanelodabgaaGreatDoor
set_option maxRecDepth 100000
set_option linter.unusedVariables false
namespace Go
open Go.RowKit
section
variable {P:Program} {ops:Array Oper} {rest:List Oper} {op:Oper} {a:Act} {Q:Exit→Act→World→Prop}
end
end Go
namespace Go.Proofs.YtbmbanelodabgaaGreatDoor
open Go.RowKit Go.Fin1
theorem u64_wrap_bd (x:Int):0≤IntKind.u64.wrap x∧IntKind.u64.wrap x≤18446744073709551615:=by
 have hw:IntKind.u64.wrap x=x % 18446744073709551616:=by simp[IntKind.wrap,IntKind.bits,IntKind.signed]
 rw[hw];omega
theorem SrcM.set3 {w W:World} {g:Nat} {cv:Value} {k m:Int} (h:SrcM w W g cv k m) (u:Value):SrcM w (W.setCell ⟨g,3,none⟩ u) g cv k m :=
 ⟨by rw[World.old_setCell];exact h.old,by rw[World.cell?_setCell_other _ _ _ _ (by simp)];exact h.c0,by rw[World.cell?_setCell_other _ _ _ _ (by simp)];exact h.c1,by rw[World.cell?_setCell_other _ _ _ _ (by simp)];exact h.c2,fun j=>by rw[World.frozen?_setCell];exact h.fz j,h.chg.setCell (.inl (by simp)) _⟩
theorem SrcM.fin {w W:World} {cv:Value} {m:Int} {l:List Int} (h:SrcM w W w.heap.size cv 0 m) (h0:0≤m) (h1:m≤18446744073709551615) (hs:SlR w 1 rU8 cv l):Ext w W∧SrcA W w.heap.size cv l :=
 ⟨h.chg.ext (Ext.refl _) (by simp),SrcM.src (k:=0) h (Nat.zero_le _) h0 h1,u8s_past hs h.chg (by simp),fun hl a n c e=>by
  subst e
  obtain⟨b,off,he⟩:=slr_some hs hl
  simp at he
  subst he
  have:=(u8_at hs hl).1
  unfold World.old at this
  simp;omega⟩
@[irreducible] def lwV (l:List Int) (a:Nat) (m:Int):Int:=if m≤1∨l.length=0 then 0 else l.getD (a % l.length) 0 % m
theorem lwV_none {l:List Int} {a:Nat} {m:Int} (h:m≤1∨l.length=0):lwV l a m=0:=by unfold lwV;rw[if_pos h]
theorem lwV_some {l:List Int} {a:Nat} {m:Int} (h:1 < m) (hl:a % l.length < l.length):lwV l a m=l[a % l.length] % m:=by
 unfold lwV;rw[if_neg (by omega)];simp[List.getD,hl]
theorem lwV_nat (l:List Int) (a:Nat) (m:Int):∃ k:Nat,lwV l a m=(k:Int)∧((k:Int) < m∨k=0):=by
 unfold lwV
 split
 ·exact⟨0,rfl,.inr rfl⟩
 ·rename_i h
  have q0:=Int.emod_nonneg (l.getD (a % l.length) 0) (show m≠0 by omega)
  have q1:=Int.emod_lt_of_pos (l.getD (a % l.length) 0) (show 0 < m by omega)
  exact⟨(l.getD (a % l.length) 0 % m).toNat,by rw[Int.toNat_of_nonneg q0],.inl (by rw[Int.toNat_of_nonneg q0];exact q1)⟩
set_option maxHeartbeats 800000 in
theorem lwAt_any (v:Value) (l:List Int) (at_:Nat) (most:Int) (w:World) (h:SlR w 1 rU8 v l) (hl:l.length≤1048576) (ha:at_≤1048576) :
  Calls Tryz.prog 13 #[v,(.int .i64 (at_:Int)),(.int .i64 most)] w fun e w'=>e=.returned (.int .i64 (lwV l at_ most))∧w=w':=by
 obtain⟨a,cap,rfl⟩:=h.len
 have HS:=tH h
 clear h
 by_cases hle:most≤1
 ·have hd:decide (most≤1)=true:=decide_eq_true hle
  have HV:=tH (lwV_none (l:=l) (a:=at_) (m:=most) (.inl hle))
  clear hle
  go_enter Tryz.func13,Tryz.ntmps13
  go_wp2
  go_ret
  exact⟨ret_int HV.out.symm,rfl⟩
 have hd:decide (most≤1)=false:=decide_eq_false hle
 have HGT:=tH (show 1 < most by omega)
 clear hle
 by_cases h0:l.length=0
 ·have hb:((l.length:Int) == 0)=true:=by simp[h0]
  have HV:=tH (lwV_none (l:=l) (a:=at_) (m:=most) (.inr h0))
  clear h0
  go_enter Tryz.func13,Tryz.ntmps13
  go_wp2
  go_ret
  exact⟨ret_int HV.out.symm,rfl⟩
 ·have hb:((l.length:Int) == 0)=false:=by rw[beq_eq_false_iff_ne];omega
  have hpos:0 < l.length:=by omega
  have hmod:at_ % l.length < l.length:=Nat.mod_lt _ hpos
  have hz:¬ ((l.length:Int)=0):=by omega
  obtain⟨b,off,rfl⟩:=slr_some HS.out hmod
  obtain⟨ho,b0,b1,hc⟩:=u8_at HS.out hmod
  have hz2:¬ most=0:=by have:=HGT.out;omega
  have HV:=tH (lwV_some (l:=l) (a:=at_) HGT.out hmod)
  clear h0 hpos
  go_enter Tryz.func13,Tryz.ntmps13
  go_wp2
  go_ret
  exact⟨ret_int HV.out.symm,rfl⟩
end Go.Proofs.YtbmbanelodabgaaGreatDoor
set_option maxRecDepth 100000
set_option linter.unusedVariables false
namespace Go.Proofs.YtbmbanelodabgaaGreatDoor
open Go.RowKit Go.Fin1
end Go.Proofs.YtbmbanelodabgaaGreatDoor
set_option maxRecDepth 100000
set_option linter.unusedVariables false
namespace Go.Proofs.YtbmbanelodabgaaGreatDoor
open Go.RowKit Go.Fin1
end Go.Proofs.YtbmbanelodabgaaGreatDoor
set_option maxRecDepth 100000
set_option linter.unusedVariables false
namespace Go.Proofs.YtbmbanelodabgaaGreatDoor
open Go.RowKit Go.Fin1
end Go.Proofs.YtbmbanelodabgaaGreatDoor
set_option maxRecDepth 100000
set_option linter.unusedVariables false
namespace Go.Proofs.YtbmbanelodabgaaGreatDoor
open Go.RowKit Go.Fin1
end Go.Proofs.YtbmbanelodabgaaGreatDoor
set_option maxRecDepth 100000
set_option linter.unusedVariables false
namespace Go.Proofs.YtbmbanelodabgaaGreatDoor
open Go.RowKit Go.Fin1
set_option maxHeartbeats 3200000 in
theorem srcSpoil_any (g:Nat) (t:ByteArray) (w:World) (cv:Value) (l:List Int) (h:SrcA w g cv l) (ht:t.size≤1000) :
  Calls Tryz.prog 27 #[.pointer (some ⟨g,0,none⟩),.string t] w fun e w'=>∃ s:ByteArray,e=.returned (.string s)∧s.size≤t.size+1∧Chg [g] w w'∧SrcA w' g cv l:=by
 have HS:=Lib.hid h
 clear h
 have H17:Hid (I64 17):=Lib.hid (by unfold I64;omega)
 have H3:Hid (I64 3):=Lib.hid (by unfold I64;omega)
 have H2:Hid (I64 2):=Lib.hid (by unfold I64;omega)
 have HT1:Hid (I64 ((t.size:Int)+1)):=Lib.hid (by unfold I64;omega)
 have hw1:wrap64 ((t.size:Int)+1)=(t.size:Int)+1:=by unfold wrap64;omega
 go_enter Tryz.func27,Tryz.ntmps27
 go_wp2_with fail
 refine(srcN' g _ _ cv l HS.out HT1.out).mono ?_
 rintro e w2 ⟨k,rfl,hb,hc,hs⟩
 have hk:k≤t.size:=by omega
 have HC:=Lib.hid hc
 have HA:=Lib.hid hs
 clear hc hs hb hw1
 go_wp2_with fail
 refine(srcN' g 17 _ cv l HA.out H17.out).mono ?_
 rintro e w3 ⟨q,rfl,hb,hc,hs⟩
 have hq:q < 17:=by omega
 have HC2:=Lib.hid (HC.out.trans hc)
 have HA2:=Lib.hid hs
 clear hc hs hb HC HA
 have hs:=run_string_own (P:=Tryz.prog) (src:=27) (dst:=9) Tryz.underlying27 Tryz.underlying5 Tryz.underlying9 (ownsOne9 w3 ((((⟨#[32,10,48,97,45,110,44,58,93,255,40,120,126,49,128,225,59]⟩:ByteArray)[q]'hq).toNat:Nat):Int))
 obtain⟨cs,hcs,hz1⟩:∃ cs:ByteArray,cs=strOfNums [((((⟨#[32,10,48,97,45,110,44,58,93,255,40,120,126,49,128,225,59]⟩:ByteArray)[q]'hq).toNat:Nat):Int)]∧cs.size=1:=⟨_,rfl,strOfNums_size _⟩
 rw[← hcs] at hs
 clear hcs
 have HA3:=Lib.hid (HA2.out.ext ((Ext.refl w3).alloc (.cells #[.int .u8 ((((⟨#[32,10,48,97,45,110,44,58,93,255,40,120,126,49,128,225,59]⟩:ByteArray)[q]'hq).toNat:Nat):Int)] 5)))
 have HC3:=Lib.hid (HC2.out.trans (((Ext.refl w3).alloc (.cells #[.int .u8 ((((⟨#[32,10,48,97,45,110,44,58,93,255,40,120,126,49,128,225,59]⟩:ByteArray)[q]'hq).toNat:Nat):Int)] 5)).chg [g]))
 have hx1:(t.extract 0 k).size=k:=by rw[ByteArray.size_extract];omega
 have hx2:(t.extract k t.size).size=t.size-k:=by rw[ByteArray.size_extract];omega
 go_upto_region 3 with fail
 refine gen_world (fun w4 hW=>?_)
 rw[← hW] at HA3 HC3
 clear hW HA2 HC2 hs
 by_cases hkt:k=t.size
 ·have hkb:((k:Int) == (t.size:Int))=true:=by simp[hkt]
  clear hkt
  go_upto_region 4 with fail
  (refine wp_region_x 10 (by kernel_rfl) (by kernel_rfl) (by kernel_rfl) ?_;(iterate 10 (apply XReg.step;(case h=>(intro w' hw';obtain⟨X',rfl⟩:=hw';go_wp2_with (fail);exact⟨rfl,(by repeat (first | exact Ext.refl _ | apply Ext.plus | apply Ext.alloc | apply Ext.drew))⟩));(case hv=>kernel_rfl)));refine XReg.doneN (fun X=>?_))
  go_wp2
  go_ret
  exact⟨_,rfl,by simp only[ByteArray.size_append,hx1,hx2,hz1];omega,HC3.out.trans (Ext.chg (by repeat (first | exact Ext.refl _ | apply Ext.plus | apply Ext.alloc | apply Ext.drew)) _),HA3.out.ext (by repeat (first | exact Ext.refl _ | apply Ext.plus | apply Ext.alloc | apply Ext.drew))⟩
 ·have hkb:((k:Int) == (t.size:Int))=false:=by simp;omega
  have hk1:k+1≤t.size:=by omega
  have hw2:wrap64 ((k:Int)+1)=(k:Int)+1:=by unfold wrap64;omega
  have hx3:(t.extract (k+1) t.size).size=t.size-(k+1):=by rw[ByteArray.size_extract];omega
  clear hkt
  go_wp2_with fail
  refine(srcOne_any g 3 _ cv l HA3.out H3.out).mono ?_
  rintro e w5 ⟨b,rfl,hc,hs⟩
  have HC4:=Lib.hid (HC3.out.trans hc)
  have HA4:=Lib.hid hs
  clear hc hs HC3 HA3
  cases b
  ·go_wp2_with fail
   refine(srcOne_any g 2 _ cv l HA4.out H2.out).mono ?_
   rintro e w6 ⟨b,rfl,hc,hs⟩
   have HC5:=Lib.hid (HC4.out.trans hc)
   have HA5:=Lib.hid hs
   clear hc hs HC4 HA4
   cases b
   ·go_upto_region 7 with fail
    (refine wp_region_x 11 (by kernel_rfl) (by kernel_rfl) (by kernel_rfl) ?_;(iterate 11 (apply XReg.step;(case h=>(intro w' hw';obtain⟨X',rfl⟩:=hw';go_wp2_with (fail);exact⟨rfl,(by repeat (first | exact Ext.refl _ | apply Ext.plus | apply Ext.alloc | apply Ext.drew))⟩));(case hv=>kernel_rfl)));refine XReg.doneN (fun X=>?_))
    go_wp2
    go_ret
    exact⟨_,rfl,by simp only[ByteArray.size_append,hx1,hx3,hz1];omega,HC5.out.trans (Ext.chg (by repeat (first | exact Ext.refl _ | apply Ext.plus | apply Ext.alloc | apply Ext.drew)) _),HA5.out.ext (by repeat (first | exact Ext.refl _ | apply Ext.plus | apply Ext.alloc | apply Ext.drew))⟩
   ·go_upto_region 6 with fail
    (refine wp_region_x 9 (by kernel_rfl) (by kernel_rfl) (by kernel_rfl) ?_;(iterate 9 (apply XReg.step;(case h=>(intro w' hw';obtain⟨X',rfl⟩:=hw';go_wp2_with (fail);exact⟨rfl,(by repeat (first | exact Ext.refl _ | apply Ext.plus | apply Ext.alloc | apply Ext.drew))⟩));(case hv=>kernel_rfl)));refine XReg.doneN (fun X=>?_))
    go_wp2
    go_ret
    exact⟨_,rfl,by simp only[ByteArray.size_append,hx1,hx3];omega,HC5.out.trans (Ext.chg (by repeat (first | exact Ext.refl _ | apply Ext.plus | apply Ext.alloc | apply Ext.drew)) _),HA5.out.ext (by repeat (first | exact Ext.refl _ | apply Ext.plus | apply Ext.alloc | apply Ext.drew))⟩
  ·go_upto_region 4 with fail
   (refine wp_region_x 10 (by kernel_rfl) (by kernel_rfl) (by kernel_rfl) ?_;(iterate 10 (apply XReg.step;(case h=>(intro w' hw';obtain⟨X',rfl⟩:=hw';go_wp2_with (fail);exact⟨rfl,(by repeat (first | exact Ext.refl _ | apply Ext.plus | apply Ext.alloc | apply Ext.drew))⟩));(case hv=>kernel_rfl)));refine XReg.doneN (fun X=>?_))
   go_wp2
   go_ret
   exact⟨_,rfl,by simp only[ByteArray.size_append,hx1,hx2,hz1];omega,HC4.out.trans (Ext.chg (by repeat (first | exact Ext.refl _ | apply Ext.plus | apply Ext.alloc | apply Ext.drew)) _),HA4.out.ext (by repeat (first | exact Ext.refl _ | apply Ext.plus | apply Ext.alloc | apply Ext.drew))⟩
end Go.Proofs.YtbmbanelodabgaaGreatDoor
