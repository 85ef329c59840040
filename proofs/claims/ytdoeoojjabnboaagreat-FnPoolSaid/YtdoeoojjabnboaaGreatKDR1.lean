/- The source that the draws draw from: what a draw leaves of it. -/
import Derived.Test.YtdoeoojjabnboaaGreatKBG
import Derived.Test.YtdoeoojjabnboaaGreatKBA
import Derived.Test.YtdoeoojjabnboaaGreatKJE
set_option maxRecDepth 100000
set_option linter.unusedVariables false
namespace Go.Proofs.YtdoeoojjabnboaaGreat
open Go.RowKit Go.Fin1
def rU8:World→List Value→Int→Prop:=fun _ cs x=>cs=[.int .u8 x]∧0≤x∧x≤255
theorem rU8_stable:Stable rU8:=fun _ _ _ _ _ h=>h
theorem u8_at {w:World} {b off n cap:Nat} {xs:List Int} (h:SlR w 1 rU8 (.slice (some ⟨b,off,none⟩) n cap) xs) {i:Nat} (hi:i < xs.length) :
  w.old b∧0≤xs[i]∧xs[i]≤255∧w.cell? ⟨b,off+i,none⟩=some (.int .u8 xs[i]):=by
 obtain⟨cs,_,hc,rfl,h0,h1⟩:=slr_cells h hi
 have h2:=hc 0 _ rfl
 rw[Nat.mul_one] at h2
 exact⟨World.old_of_cell h2,h0,h1,h2⟩
structure Src (w:World) (g:Nat) (cv:Value) (l:List Int):Prop where
 at_:∃ at_:Nat,at_≤l.length∧w.cell? ⟨g,1,none⟩=some (.int .i64 (at_:Int))
 code:w.cell? ⟨g,0,none⟩=some cv
 mix:∃ m:Int,0≤m∧m≤18446744073709551615∧w.cell? ⟨g,2,none⟩=some (.int .u64 m)
 fz:∀ j,w.frozen? ⟨g,j,none⟩=false
theorem u64_bits_bd (op:BinOp) (x y:Int):0≤bits op .u64 x y∧bits op .u64 x y≤18446744073709551615:=by
 have hw:∀ m:Int,IntKind.u64.wrap m=m % 18446744073709551616:=fun m=>by simp[IntKind.wrap,IntKind.bits,IntKind.signed]
 unfold bits;rw[hw];omega
structure SrcM (w W:World) (g:Nat) (cv:Value) (k m:Int):Prop where
 old:W.old g
 c0:W.cell? ⟨g,0,none⟩=some cv
 c1:W.cell? ⟨g,1,none⟩=some (.int .i64 k)
 c2:W.cell? ⟨g,2,none⟩=some (.int .u64 m)
 fz:∀ j,W.frozen? ⟨g,j,none⟩=false
 chg:Chg [g] w W
theorem SrcM.plus {w W:World} {g:Nat} {cv:Value} {k m:Int} (h:SrcM w W g cv k m) (X:More):SrcM w (W.plus X) g cv k m :=
 ⟨by rw[World.old_plus];exact .inr h.old,((Ext.refl _).plus X).cell h.c0,((Ext.refl _).plus X).cell h.c1,((Ext.refl _).plus X).cell h.c2,fun j=>by rw[World.frozen?_plus _ _ _ _ h.old];exact h.fz j,h.chg.plus X⟩
theorem SrcM.set1 {w W:World} {g:Nat} {cv:Value} {k m:Int} (h:SrcM w W g cv k m) (k':Int):SrcM w (W.setCell ⟨g,1,none⟩ (.int .i64 k')) g cv k' m :=
 ⟨by rw[World.old_setCell];exact h.old,by rw[World.cell?_setCell_other _ _ _ _ (by simp)];exact h.c0,World.cell?_setCell_same _ _ _ h.c1,by rw[World.cell?_setCell_other _ _ _ _ (by simp)];exact h.c2,fun j=>by rw[World.frozen?_setCell];exact h.fz j,h.chg.setCell (.inl (by simp)) _⟩
theorem SrcM.set2 {w W:World} {g:Nat} {cv:Value} {k m:Int} (h:SrcM w W g cv k m) (m':Int):SrcM w (W.setCell ⟨g,2,none⟩ (.int .u64 m')) g cv k m' :=
 ⟨by rw[World.old_setCell];exact h.old,by rw[World.cell?_setCell_other _ _ _ _ (by simp)];exact h.c0,by rw[World.cell?_setCell_other _ _ _ _ (by simp)];exact h.c1,World.cell?_setCell_same _ _ _ h.c2,fun j=>by rw[World.frozen?_setCell];exact h.fz j,h.chg.setCell (.inl (by simp)) _⟩
theorem SrcM.src {w W:World} {g:Nat} {cv:Value} {k:Nat} {m:Int} {l:List Int} (h:SrcM w W g cv k m) (hk:k≤l.length) (h0:0≤m) (h1:m≤18446744073709551615):Src W g cv l:=⟨⟨k,hk,h.c1⟩,h.c0,⟨m,h0,h1,h.c2⟩,h.fz⟩
theorem drawn_bd {most:Int} (h:1 < most) (hi:I64 most) (x:Int):0≤wrap64 (x % most)∧wrap64 (x % most) < most:=by
 have h0:=Int.emod_nonneg x (show most≠0 by omega)
 have h1:=Int.emod_lt_of_pos x (show 0 < most by omega)
 have:=hi.2
 have e:wrap64 (x % most)=x % most:=by unfold wrap64;omega
 rw[e];exact⟨h0,h1⟩
set_option maxHeartbeats 1600000 in
theorem srcN_any (g:Nat) (cv:Value) (l:List Int) (most:Int) (w:World) (h:Src w g cv l) (hs:SlR w 1 rU8 cv l) (hg:0 < l.length→∀ a n c,cv=.slice (some a) n c→a.block≠g) (hm:I64 most) :
  Calls Tryz.prog 45 #[.pointer (some ⟨g,0,none⟩),(.int .i64 most)] w fun e w'=>∃ v:Int,e=.returned (.int .i64 v)∧0≤v∧(v < most∨v=0)∧Chg [g] w w'∧Src w' g cv l:=by
 have HS:=tH h
 have HGN:=tH hg
 clear hg
 obtain⟨⟨at_,hat,c1⟩,c0,⟨m,hm0,hm1,c2⟩,hfz⟩:=h
 have ho:=World.old_of_cell c0
 by_cases hle:most≤1
 ·have hd:decide (most≤1)=true:=decide_eq_true hle
  go_enter Tryz.func45,Tryz.ntmps45
  go_wp2
  go_ret
  exact⟨0,rfl,Int.le_refl 0,.inr rfl,Chg.refl _ _,HS.out⟩
 have hd:decide (most≤1)=false:=decide_eq_false hle
 have HGT:=tH (show 1 < most by omega)
 have HI:=tH hm
 have HWM:Hid (IntKind.u64.wrap most=most):=tH (by
  have:=hm.2
  simp only[IntKind.wrap,IntKind.bits,IntKind.signed]
  simp
  omega)
 have HZ0:Hid (¬ most=0):=tH (by omega)
 clear hle hm
 obtain⟨av,cp,rfl⟩:=hs.len
 obtain⟨-,hlc,hcm⟩:=slr_len hs
 have hlm:l.length≤9223372036854775807:=by unfold maxLen at hcm;omega
 clear hlc hcm
 have HB:=tH hs
 clear hs HS
 by_cases hlt:at_ < l.length
 ·obtain⟨b,off,rfl⟩:=slr_some HB.out hlt
  obtain⟨hob,b0,b1,hcb⟩:=u8_at HB.out hlt
  have hne:b≠g:=HGN.out (Nat.lt_of_le_of_lt (Nat.zero_le _) hlt) _ _ _ rfl
  have HM:=tH (And.intro hm0 hm1)
  have HW0:Hid (SrcM w w g (.slice (some ⟨b,off,none⟩) l.length cp) at_ m):=tH ⟨ho,c0,c1,c2,hfz,Chg.refl _ _⟩
  clear HGN hm0 hm1
  go_enter Tryz.func45,Tryz.ntmps45
  go_upto_region 4 with fail
  (refine wp_region_x 10 (by kernel_rfl) (by kernel_rfl) (by kernel_rfl) ?_;(iterate 10 (apply XReg.step;(case h=>(intro w' hw';obtain⟨X',rfl⟩:=hw';go_wp2_with (fail);exact⟨rfl,xE⟩));(case hv=>kernel_rfl)));refine XReg.doneN (fun X=>?_))
  go_upto_region 5 with fail
  (refine wp_region_x 12 (by kernel_rfl) (by kernel_rfl) (by kernel_rfl) ?_;(iterate 12 (apply XReg.step;(case h=>(intro w' hw';obtain⟨X',rfl⟩:=hw';go_wp2_with (fail);exact⟨rfl,xE⟩));(case hv=>kernel_rfl)));refine XReg.doneN (fun X=>?_))
  go_upto_region 7 with fail
  refine gen_world (fun W1 hW1=>?_)
  have H1:Hid (SrcM w W1 g (.slice (some ⟨b,off,none⟩) l.length cp) ((at_:Int)+1) m):=tH (by rw[hW1];exact(((HW0.out.set1 _).plus _).plus _))
  clear hW1
  obtain⟨ho1,d0,d1,d2,hfz1,hch1⟩:=H1.out
  clear hch1 hcb hob c0 c1 c2 hfz ho
  (refine wp_region_x 13 (by kernel_rfl) (by kernel_rfl) (by kernel_rfl) ?_;(iterate 13 (apply XReg.step;(case h=>(intro w' hw';obtain⟨X',rfl⟩:=hw';go_wp2_with (fail);exact⟨rfl,xE⟩));(case hv=>kernel_rfl)));refine XReg.done1 (fun X=>?_))
  go_upto_region 8 with fail
  refine gen_world (fun W2 hW=>?_)
  obtain⟨m2,hn0,hn1,hn⟩:∃ n:Int,0≤n∧n≤18446744073709551615∧SrcM w W2 g _ _ n:=⟨_,(u64_bits_bd _ _ _).1,(u64_bits_bd _ _ _).2,by rw[hW];exact(H1.out.set2 _).plus _⟩
  clear d0 d1 d2 ho1 hfz1 hW hn0 hn1
  have H2:=tH hn
  obtain⟨ho2,d0,d1,d2,hfz2,hch2⟩:=hn
  clear hch2
  (refine wp_region_x 13 (by kernel_rfl) (by kernel_rfl) (by kernel_rfl) ?_;(iterate 13 (apply XReg.step;(case h=>(intro w' hw';obtain⟨X',rfl⟩:=hw';go_wp2_with (fail);exact⟨rfl,xE⟩));(case hv=>kernel_rfl)));refine XReg.done1 (fun X=>?_))
  go_upto_region 9 with fail
  refine gen_world (fun W3 hW=>?_)
  obtain⟨m3,hn0,hn1,hn⟩:∃ n:Int,0≤n∧n≤18446744073709551615∧SrcM w W3 g _ _ n:=⟨_,(u64_bits_bd _ _ _).1,(u64_bits_bd _ _ _).2,by rw[hW];exact(H2.out.set2 _).plus _⟩
  clear d0 d1 d2 ho2 hfz2 hW hn0 hn1
  have H3:=tH hn
  obtain⟨ho3,d0,d1,d2,hfz3,hch3⟩:=hn
  clear hch3
  (refine wp_region_x 13 (by kernel_rfl) (by kernel_rfl) (by kernel_rfl) ?_;(iterate 13 (apply XReg.step;(case h=>(intro w' hw';obtain⟨X',rfl⟩:=hw';go_wp2_with (fail);exact⟨rfl,xE⟩));(case hv=>kernel_rfl)));refine XReg.done1 (fun X=>?_))
  go_upto_region 10 with fail
  refine gen_world (fun W4 hW=>?_)
  obtain⟨m4,hn0,hn1,hn⟩:∃ n:Int,0≤n∧n≤18446744073709551615∧SrcM w W4 g _ _ n:=⟨_,(u64_bits_bd _ _ _).1,(u64_bits_bd _ _ _).2,by rw[hW];exact(H3.out.set2 _).plus _⟩
  clear d0 d1 d2 ho3 hfz3 hW
  have H4:=tH (hn.src (l:=l) (k:=(at_+1)) (by omega) hn0 hn1)
  have HC:=tH hn.chg
  obtain⟨ho4,d0,d1,d2,hfz4,hch4⟩:=hn
  clear hch4
  have hwm:IntKind.u64.wrap most=most:=HWM.out
  have hz0:¬ most=0:=HZ0.out
  go_wp2
  go_ret
  exact⟨_,rfl,(drawn_bd HGT.out HI.out _).1,.inl (drawn_bd HGT.out HI.out _).2,HC.out,H4.out⟩
 ·have hge:l.length≤at_:=by omega
  have HM:=tH (And.intro hm0 hm1)
  have HW0:Hid (SrcM w w g (.slice av l.length cp) at_ m):=tH ⟨ho,c0,c1,c2,hfz,Chg.refl _ _⟩
  have hb1:decide ((at_:Int) < (l.length:Int))=false:=decide_eq_false (by omega)
  have hb2:decide (at_ < l.length)=false:=decide_eq_false (by omega)
  clear HGN hm0 hm1 hlt
  go_enter Tryz.func45,Tryz.ntmps45
  go_upto_region 4 with fail
  (refine wp_region_x 10 (by kernel_rfl) (by kernel_rfl) (by kernel_rfl) ?_;(iterate 10 (apply XReg.step;(case h=>(intro w' hw';obtain⟨X',rfl⟩:=hw';go_wp2_with (fail);exact⟨rfl,xE⟩));(case hv=>kernel_rfl)));refine XReg.doneN (fun X=>?_))
  go_upto_region 7 with fail
  refine gen_world (fun W1 hW1=>?_)
  have H1:Hid (SrcM w W1 g (.slice av l.length cp) (at_:Int) m):=tH (by rw[hW1];exact HW0.out.plus _)
  clear hW1
  obtain⟨ho1,d0,d1,d2,hfz1,hch1⟩:=H1.out
  clear hch1 c0 c1 c2 hfz ho
  (refine wp_region_x 13 (by kernel_rfl) (by kernel_rfl) (by kernel_rfl) ?_;(iterate 13 (apply XReg.step;(case h=>(intro w' hw';obtain⟨X',rfl⟩:=hw';go_wp2_with (fail);exact⟨rfl,xE⟩));(case hv=>kernel_rfl)));refine XReg.done1 (fun X=>?_))
  go_upto_region 8 with fail
  refine gen_world (fun W2 hW=>?_)
  obtain⟨m2,hn0,hn1,hn⟩:∃ n:Int,0≤n∧n≤18446744073709551615∧SrcM w W2 g _ _ n:=⟨_,(u64_bits_bd _ _ _).1,(u64_bits_bd _ _ _).2,by rw[hW];exact(H1.out.set2 _).plus _⟩
  clear d0 d1 d2 ho1 hfz1 hW hn0 hn1
  have H2:=tH hn
  obtain⟨ho2,d0,d1,d2,hfz2,hch2⟩:=hn
  clear hch2
  (refine wp_region_x 13 (by kernel_rfl) (by kernel_rfl) (by kernel_rfl) ?_;(iterate 13 (apply XReg.step;(case h=>(intro w' hw';obtain⟨X',rfl⟩:=hw';go_wp2_with (fail);exact⟨rfl,xE⟩));(case hv=>kernel_rfl)));refine XReg.done1 (fun X=>?_))
  go_upto_region 9 with fail
  refine gen_world (fun W3 hW=>?_)
  obtain⟨m3,hn0,hn1,hn⟩:∃ n:Int,0≤n∧n≤18446744073709551615∧SrcM w W3 g _ _ n:=⟨_,(u64_bits_bd _ _ _).1,(u64_bits_bd _ _ _).2,by rw[hW];exact(H2.out.set2 _).plus _⟩
  clear d0 d1 d2 ho2 hfz2 hW hn0 hn1
  have H3:=tH hn
  obtain⟨ho3,d0,d1,d2,hfz3,hch3⟩:=hn
  clear hch3
  (refine wp_region_x 13 (by kernel_rfl) (by kernel_rfl) (by kernel_rfl) ?_;(iterate 13 (apply XReg.step;(case h=>(intro w' hw';obtain⟨X',rfl⟩:=hw';go_wp2_with (fail);exact⟨rfl,xE⟩));(case hv=>kernel_rfl)));refine XReg.done1 (fun X=>?_))
  go_upto_region 10 with fail
  refine gen_world (fun W4 hW=>?_)
  obtain⟨m4,hn0,hn1,hn⟩:∃ n:Int,0≤n∧n≤18446744073709551615∧SrcM w W4 g _ _ n:=⟨_,(u64_bits_bd _ _ _).1,(u64_bits_bd _ _ _).2,by rw[hW];exact(H3.out.set2 _).plus _⟩
  clear d0 d1 d2 ho3 hfz3 hW
  have H4:=tH (hn.src (l:=l) (k:=at_) (by omega) hn0 hn1)
  have HC:=tH hn.chg
  obtain⟨ho4,d0,d1,d2,hfz4,hch4⟩:=hn
  clear hch4
  have hwm:IntKind.u64.wrap most=most:=HWM.out
  have hz0:¬ most=0:=HZ0.out
  go_wp2
  go_ret
  exact⟨_,rfl,(drawn_bd HGT.out HI.out _).1,.inl (drawn_bd HGT.out HI.out _).2,HC.out,H4.out⟩
end Go.Proofs.YtdoeoojjabnboaaGreat
