/- The reference's desk: a line. -/
import Derived.Test.YtbmbanelodabgaaGreatDoorKMS5
set_option maxRecDepth 100000
set_option linter.unusedVariables false
set_option linter.unusedSimpArgs false
namespace Go.Proofs.YtbmbanelodabgaaGreatDoor
open Go.RowKit Go.Fin1
theorem ownP_boxM {B:Nat} {w:World} {fc fj:List Nat} {c j:Value} {p:Pl} (h:OwnP B w fc fj c j p) {g:Nat} {cs:List Value} {t:TypeId} (hg:Blk w g cs t) (h1:t∉[45,36]) (h2:t∉[92,2]):∀ b∈fc++fj,b∉[g]:=fun b hb hm=>by
 obtain rfl:=List.mem_singleton.1 hm
 rcases List.mem_append.1 hb with hb | hb
 ·exact oLabelSS_typed.apart h.1.1 hg h1 hb
 ·exact oJobS_typed.apart h.2.1.1 hg h2 hb
def DeskW (w:World) (b:Nat) (p:Pl):Prop:=∃ (pa:Option Addr) (pc:Nat) (pb:Option Addr) (pd:Nat) (fc fj:List Nat),Blk w b [.slice pa p.clear.length pc,.slice pb p.jobs.length pd,(.int .i64 p.now)] 47∧OwnP 0 w fc fj (.slice pa p.clear.length pc) (.slice pb p.jobs.length pd) p
theorem DeskW.ext {w w':World} {b:Nat} {p:Pl} (h:DeskW w b p) (hx:Ext w w'):DeskW w' b p:=by
 obtain⟨pa,pc,pb,pd,fc,fj,h1,h2⟩:=h
 exact⟨pa,pc,pb,pd,fc,fj,h1.ext hx,h2.ext hx⟩
theorem subR_nat {p:Pl} {x:Lab} {n l q:Int}:∃ i c:Nat,(subR p x n l q).2=((i:Int),(c:Int))∧i < 1000∧c < 1000∧(c=0→0 < i):=by
 unfold subR
 split
 ·exact⟨0,1,rfl,by omega,by omega,by omega⟩
 ·split
  ·exact⟨0,11,rfl,by omega,by omega,by omega⟩
  ·split
   ·exact⟨0,9,rfl,by omega,by omega,by omega⟩
   ·rename_i h
    exact⟨cntL p.jobs x+1,0,by push_cast;rfl,by omega,by omega,by omega⟩
theorem chR_nat {p:Pl} {x:Lab} {id s:Int}:∃ c:Nat,(chR p x id s).2=(0,(c:Int))∧c < 1000:=by
 unfold chR
 split
 ·exact⟨1,rfl,by omega⟩
 ·split
  ·exact⟨6,rfl,by omega⟩
  ·split
   ·exact⟨10,rfl,by omega⟩
   ·exact⟨0,rfl,by omega⟩
theorem subR_okD (p:Pl) (x:Lab) (need long prio:Int):PlFit (subR p x need long prio).1:=by
 by_cases h:(subR p x need long prio).2.2=0
 ·exact(right_ok (subR_right h).2).2.1
 ·have:(subR p x need long prio).1=zPl:=by
   unfold subR at h ⊢
   split
   ·rfl
   ·split
    ·rfl
    ·split
     ·rfl
     ·rename_i a b c;rw[if_neg a,if_neg b,if_neg c] at h;exact absurd rfl h
  rw[this];exact zPl_ok.2.1
theorem chR_okD (p:Pl) (x:Lab) (id st:Int):PlFit (chR p x id st).1:=by
 by_cases h:(chR p x id st).2.2=0
 ·exact(right_ok (chR_right h).2).2.1
 ·have:(chR p x id st).1=zPl:=by
   unfold chR at h ⊢
   split
   ·rfl
   ·split
    ·rfl
    ·split
     ·rfl
     ·rename_i a b c;rw[if_neg a,if_neg b,if_neg c] at h;exact absurd rfl h
  rw[this];exact zPl_ok.2.1
theorem resT_sub {p q:Pl} {id c:Nat} {Y:Pl×Int×Int} (hY:Y=(q,(id:Int),(c:Int))) (hp:c=0→0 < id):takeT id c=(resT p Y (Lib.itoa Y.2.1)).2∧(if c=0 then q else p)=(resT p Y (Lib.itoa Y.2.1)).1:=by
 subst hY
 unfold takeT resT
 by_cases h:c=0
 ·subst h;have:=hp rfl;simp[this]
 ·have h2:¬ (c:Int)=0:=by omega
  simp[h,h2]
theorem resT_ch {p q:Pl} {c:Nat} {Y:Pl×Int×Int} (hY:Y=(q,0,(c:Int))):takeT 0 c=(resT p Y okT).2∧(if c=0 then q else p)=(resT p Y okT).1:=by
 subst hY
 unfold takeT resT
 by_cases h:c=0
 ·subst h;simp
 ·have h2:¬ (c:Int)=0:=by omega
  simp[h,h2]
theorem desk_take {w w':World} {b:Nat} {p q:Pl} {c:Nat} {fc fj:List Nat} {ca:Option Addr} {cc:Nat} {ja:Option Addr} {jc:Nat} (hD:DeskW w b p) (hO:OwnP 0 w fc fj (.slice ca q.clear.length cc) (.slice ja q.jobs.length jc) q) (h1:c≠0→Ext w w') (h2:c=0→Chg [b] w w'∧Blk w' b [.slice ca q.clear.length cc,.slice ja q.jobs.length jc,(.int .i64 q.now)] 47) :
  Chg [b] w w'∧DeskW w' b (if c=0 then q else p):=by
 obtain⟨pa,pc,pb,pd,gc,gj,h3,h4⟩:=hD
 by_cases h:c=0
 ·rw[if_pos h]
  obtain⟨h5,h6⟩:=h2 h
  exact⟨h5,ca,cc,ja,jc,fc,fj,h6,hO.far h5 (ownP_boxM hO h3 (by decide) (by decide))⟩
 ·rw[if_neg h]
  exact⟨(h1 h).chg _,DeskW.ext ⟨pa,pc,pb,pd,gc,gj,h3,h4⟩ (h1 h)⟩
set_option maxHeartbeats 1600000 in
theorem line_submit (b:Nat) (p:Pl) (x:Lab) (n1 n2 n3:Int) (na:Option Addr) (nc:Nat) (w:World) (hD:DeskW w b p) (hR:poolR p=true) (hx:x.ok) (hS:SlR w 1 rInt (.slice na 3 nc) [n1,n2,n3]) :
  Calls Tryz.prog 18 #[.pointer (some ⟨b,0,none⟩),.agg #[.string ⟨kSubmit.toArray⟩,(.int .i64 x.lv),(.int .i64 x.st),.slice na 3 nc]] w fun e w'=>∃ z,e=.returned (.string z)∧z.size≤2000∧dl z=(resT p (subR p x n1 n2 n3) (Lib.itoa (subR p x n1 n2 n3).2.1)).2∧Chg [b] w w'∧DeskW w' b (resT p (subR p x n1 n2 n3) (Lib.itoa (subR p x n1 n2 n3).2.1)).1:=by
 have HR:=tH hR
 have HXO:=tH hx
 have HD:=tH hD
 have HS:=tH hS
 clear hD hR hx hS
 unfold kSubmit
 go_enter Tryz.func18,Tryz.ntmps18
 go_upto_region 3 with fail
 refine gen_world (fun W1 hW=>?_)
 have HX1:=tH (show Ext w W1 by rw[hW];exact xE)
 have HD1:=tH (HD.out.ext HX1.out)
 have HS1:=tH (HS.out.ext rInt_stable HX1.out)
 have HB1:=tH (show Blk W1 w.heap.size _ 50 by rw[hW];exact(Blk.new (w:=w) (cs:=#[.string _,(.int .i64 x.lv),(.int .i64 x.st),.slice na 3 nc]) rfl).ext xE)
 clear hW HD HS
 generalize w.heap.size=bX at HB1 ⊢
 obtain⟨pa,pc,pb,pd,fc,fj,hB,hO⟩:=HD1.out
 have HE:=tH (hO.e' (right_ok HR.out).1)
 have b0:W1.cell? ⟨b,0,none⟩=some (.slice pa p.clear.length pc):=hB.cell 0
 have b1:W1.cell? ⟨b,1,none⟩=some (.slice pb p.jobs.length pd):=hB.cell 1
 have b2:W1.cell? ⟨b,2,none⟩=some (.int .i64 p.now):=hB.cell 2
 have bo:=hB.old
 have x1:W1.cell? ⟨bX,1,none⟩=some (.int .i64 x.lv):=HB1.out.cell 1
 have x2:W1.cell? ⟨bX,2,none⟩=some (.int .i64 x.st):=HB1.out.cell 2
 have x3:W1.cell? ⟨bX,3,none⟩=some (.slice na 3 nc):=HB1.out.cell 3
 have xo:=HB1.out.old
 obtain⟨bN,oN,rfl⟩:=slr_some HS1.out (i:=0) (by exact Nat.succ_pos _)
 obtain⟨io,m1,i0⟩:=int_at HS1.out (i:=0) (by simp)
 obtain⟨io,m2,i1⟩:=int_at HS1.out (i:=1) (by simp)
 obtain⟨io,m3,i2⟩:=int_at HS1.out (i:=2) (by simp)
 simp only[List.getElem_cons_zero,List.getElem_cons_succ,Nat.add_zero] at m1 m2 m3 i0 i1 i2
 have HNI:=tH (And.intro m1 (And.intro m2 m3))
 clear m1 m2 m3
 obtain⟨id,c,hsub,hid,hc,hpos⟩:=subR_nat (p:=p) (x:=x) (n:=n1) (l:=n2) (q:=n3)
 have HRG:=tH (show c=0→poolR (subR p x n1 n2 n3).1=true from fun h=>(subR_right (by rw[hsub];simpa using h)).2)
 have HPF:=tH (subR_okD p x n1 n2 n3)
 generalize hY:subR p x n1 n2 n3=Y at hsub HPF ⊢
 obtain⟨q,y2⟩:=Y
 simp only at hsub
 subst hsub
 (refine wp_region_y 20 [(fun u _=>u=(.pointer (some ⟨b,0,none⟩))),(fun u _=>u=(.pointer (some ⟨b,0,none⟩))),(fun u _=>u=(.pointer (some ⟨b,0,none⟩))),(fun u _=>u=(.pointer (some ⟨b,0,none⟩))),(fun u _=>u=(.agg #[.slice pa p.clear.length pc,.slice pb p.jobs.length pd,(.int .i64 p.now)])),(fun u _=>u=(.pointer (some ⟨bX,1,none⟩))),(fun u _=>u=(.agg #[(.int .i64 x.lv),(.int .i64 x.st)])),(fun u _=>u=(.pointer (some ⟨bX,3,none⟩))),(fun u _=>u=(.slice (some ⟨bN,oN,none⟩) 3 nc)),(fun u _=>u=(.pointer (some ⟨bN,oN,none⟩))),(fun u _=>u=((.int .i64 n1))),(fun u _=>u=(.pointer (some ⟨bX,3,none⟩))),(fun u _=>u=(.slice (some ⟨bN,oN,none⟩) 3 nc)),(fun u _=>u=(.pointer (some ⟨bN,oN+1,none⟩))),(fun u _=>u=((.int .i64 n2))),(fun u _=>u=(.pointer (some ⟨bX,3,none⟩))),(fun u _=>u=(.slice (some ⟨bN,oN,none⟩) 3 nc)),(fun u _=>u=(.pointer (some ⟨bN,oN+2,none⟩))),(fun u _=>u=((.int .i64 n3))),kOutO 0 q (id:Int) (c:Int)] (by kernel_rfl) (by kernel_rfl) (by kernel_rfl) rfl ?_ (by (repeat' (first | exact trivial | exact XReg.GoodK.same _ default | refine And.intro ?_ ?_));all_goals (first | exact kOutO_good HPF.out)))
 refine YReg.va (.pointer (some ⟨b,0,none⟩)) ?_
 refine YReg.va (.pointer (some ⟨b,0,none⟩)) ?_
 refine YReg.va (.pointer (some ⟨b,0,none⟩)) ?_
 refine YReg.va (.pointer (some ⟨b,0,none⟩)) ?_
 refine YReg.va (.agg #[.slice pa p.clear.length pc,.slice pb p.jobs.length pd,(.int .i64 p.now)]) ?_
 refine YReg.va (.pointer (some ⟨bX,1,none⟩)) ?_
 refine YReg.va (.agg #[(.int .i64 x.lv),(.int .i64 x.st)]) ?_
 refine YReg.va (.pointer (some ⟨bX,3,none⟩)) ?_
 refine YReg.va (.slice (some ⟨bN,oN,none⟩) 3 nc) ?_
 refine YReg.va (.pointer (some ⟨bN,oN,none⟩)) ?_
 refine YReg.va ((.int .i64 n1)) ?_
 refine YReg.va (.pointer (some ⟨bX,3,none⟩)) ?_
 refine YReg.va (.slice (some ⟨bN,oN,none⟩) 3 nc) ?_
 refine YReg.va (.pointer (some ⟨bN,oN+1,none⟩)) ?_
 refine YReg.va ((.int .i64 n2)) ?_
 refine YReg.va (.pointer (some ⟨bX,3,none⟩)) ?_
 refine YReg.va (.slice (some ⟨bN,oN,none⟩) 3 nc) ?_
 refine YReg.va (.pointer (some ⟨bN,oN+2,none⟩)) ?_
 refine YReg.va ((.int .i64 n3)) ?_
 refine YReg.kind (fun w' hw' hF'=>?_) (fun v w1 hK=>?_)
 ·obtain⟨X',rfl⟩:=hw'
  clear hF'
  go_wp2_with fail
  refine(specSubmit_any p (p.val (.slice pa p.clear.length pc) (.slice pb p.jobs.length pd)) x n1 n2 n3 _ (HE.out.ext xE) (right_fits HR.out) HXO.out HNI.out.1 HNI.out.2.1 HNI.out.2.2).mono ?_
  rintro e _ ⟨cv,jv,fc9,fj9,rfl,⟨X2,rfl⟩,hO9⟩
  rw[hY] at hO9 ⊢
  go_wp2
  exact⟨xE,kOutO_in (hO9.mono (Nat.zero_le _))⟩
 obtain⟨qa,qe,qb,qd,-,-,rfl,-⟩:=hK
 clear w1
 refine YReg.done (fun X9 hF=>?_)
 obtain⟨fc9,fj9,hO9⟩:=kOutO_out (hF 19 (kOutO 0 q (id:Int) (c:Int),poV q (id:Int) (c:Int) (.slice qa q.clear.length qe) (.slice qb q.jobs.length qd)) (by kernel_rfl))
 have HO9:=tH hO9
 have HB9:=tH (hB.ext ((Ext.refl W1).plus X9))
 have HD9:=tH (HD1.out.ext ((Ext.refl W1).plus X9))
 have HX9:=tH (HX1.out.trans ((Ext.refl W1).plus X9))
 clear hF hO9 hB hO HE b0 b1 b2 bo x1 x2 xo x3 HB1 HD1 HX1 HS1
 generalize W1.plus X9=W9 at HO9 HB9 HD9 HX9 ⊢
 simp only[List.drop_succ_cons,List.drop_zero]
 unfold poV
 go_wp2_with fail
 refine(take_any b _ _ _ qa _ qe qb _ qd q.now id c _ (HB9.out.ext xE) hid hc).mono ?_
 rintro e w9 ⟨z,rfl,hz,hd,h1,h2⟩
 have h3:=desk_take HD9.out HO9.out h1 h2
 have H3:=tH h3
 clear h1 h2 h3
 go_wp2
 go_ret
 have h4:=resT_sub (p:=p) hY hpos
 rw[← h4.1,← h4.2]
 exact⟨z,rfl,hz,hd,(HX9.out.chg _).trans H3.out.1,H3.out.2⟩
theorem line_done (b:Nat) (p:Pl) (x:Lab) (n1:Int) (na:Option Addr) (nc:Nat) (w:World) (hD:DeskW w b p) (hR:poolR p=true) (hx:x.ok) (hS:SlR w 1 rInt (.slice na 1 nc) [n1]) :
  Calls Tryz.prog 18 #[.pointer (some ⟨b,0,none⟩),.agg #[.string ⟨kDone.toArray⟩,(.int .i64 x.lv),(.int .i64 x.st),.slice na 1 nc]] w fun e w'=>∃ z,e=.returned (.string z)∧z.size≤2000∧dl z=(resT p (chR p x n1 3) okT).2∧Chg [b] w w'∧DeskW w' b (resT p (chR p x n1 3) okT).1:=by
 have HR:=tH hR
 have HXO:=tH hx
 have HD:=tH hD
 have HS:=tH hS
 clear hD hR hx hS
 unfold kDone
 go_enter Tryz.func18,Tryz.ntmps18
 go_upto_region 5 with fail
 refine gen_world (fun W1 hW=>?_)
 have HX1:=tH (show Ext w W1 by rw[hW];exact xE)
 have HD1:=tH (HD.out.ext HX1.out)
 have HS1:=tH (HS.out.ext rInt_stable HX1.out)
 have HB1:=tH (show Blk W1 w.heap.size _ 50 by rw[hW];exact(Blk.new (w:=w) (cs:=#[.string _,(.int .i64 x.lv),(.int .i64 x.st),.slice na 1 nc]) rfl).ext xE)
 clear hW HD HS
 generalize w.heap.size=bX at HB1 ⊢
 obtain⟨pa,pc,pb,pd,fc,fj,hB,hO⟩:=HD1.out
 have HE:=tH (hO.e' (right_ok HR.out).1)
 have b0:W1.cell? ⟨b,0,none⟩=some (.slice pa p.clear.length pc):=hB.cell 0
 have b1:W1.cell? ⟨b,1,none⟩=some (.slice pb p.jobs.length pd):=hB.cell 1
 have b2:W1.cell? ⟨b,2,none⟩=some (.int .i64 p.now):=hB.cell 2
 have bo:=hB.old
 have x1:W1.cell? ⟨bX,1,none⟩=some (.int .i64 x.lv):=HB1.out.cell 1
 have x2:W1.cell? ⟨bX,2,none⟩=some (.int .i64 x.st):=HB1.out.cell 2
 have x3:W1.cell? ⟨bX,3,none⟩=some (.slice na 1 nc):=HB1.out.cell 3
 have xo:=HB1.out.old
 obtain⟨bN,oN,rfl⟩:=slr_some HS1.out (i:=0) (by exact Nat.succ_pos _)
 obtain⟨io,m1,i0⟩:=int_at HS1.out (i:=0) (by simp)
 simp only[List.getElem_cons_zero,List.getElem_cons_succ,Nat.add_zero] at m1 i0
 have HNI:=tH m1
 clear m1
 obtain⟨c,hsub,hc⟩:=chR_nat (p:=p) (x:=x) (id:=n1) (s:=3)
 have HPF:=tH (chR_okD p x n1 3)
 generalize hY:chR p x n1 3=Y at hsub HPF ⊢
 obtain⟨q,y2⟩:=Y
 simp only at hsub
 subst hsub
 have hid:0 < 1000:=by decide
 (refine wp_region_y 12 [(fun u _=>u=(.pointer (some ⟨b,0,none⟩))),(fun u _=>u=(.pointer (some ⟨b,0,none⟩))),(fun u _=>u=(.pointer (some ⟨b,0,none⟩))),(fun u _=>u=(.pointer (some ⟨b,0,none⟩))),(fun u _=>u=(.agg #[.slice pa p.clear.length pc,.slice pb p.jobs.length pd,(.int .i64 p.now)])),(fun u _=>u=(.pointer (some ⟨bX,1,none⟩))),(fun u _=>u=(.agg #[(.int .i64 x.lv),(.int .i64 x.st)])),(fun u _=>u=(.pointer (some ⟨bX,3,none⟩))),(fun u _=>u=(.slice (some ⟨bN,oN,none⟩) 1 nc)),(fun u _=>u=(.pointer (some ⟨bN,oN,none⟩))),(fun u _=>u=((.int .i64 n1))),kOutO 0 q 0 (c:Int)] (by kernel_rfl) (by kernel_rfl) (by kernel_rfl) rfl ?_ (by (repeat' (first | exact trivial | exact XReg.GoodK.same _ default | refine And.intro ?_ ?_));all_goals (first | exact kOutO_good HPF.out)))
 refine YReg.va (.pointer (some ⟨b,0,none⟩)) ?_
 refine YReg.va (.pointer (some ⟨b,0,none⟩)) ?_
 refine YReg.va (.pointer (some ⟨b,0,none⟩)) ?_
 refine YReg.va (.pointer (some ⟨b,0,none⟩)) ?_
 refine YReg.va (.agg #[.slice pa p.clear.length pc,.slice pb p.jobs.length pd,(.int .i64 p.now)]) ?_
 refine YReg.va (.pointer (some ⟨bX,1,none⟩)) ?_
 refine YReg.va (.agg #[(.int .i64 x.lv),(.int .i64 x.st)]) ?_
 refine YReg.va (.pointer (some ⟨bX,3,none⟩)) ?_
 refine YReg.va (.slice (some ⟨bN,oN,none⟩) 1 nc) ?_
 refine YReg.va (.pointer (some ⟨bN,oN,none⟩)) ?_
 refine YReg.va ((.int .i64 n1)) ?_
 refine YReg.kind (fun w' hw' hF'=>?_) (fun v w1 hK=>?_)
 ·obtain⟨X',rfl⟩:=hw'
  clear hF'
  go_wp2_with fail
  refine(specChange_any p (p.val (.slice pa p.clear.length pc) (.slice pb p.jobs.length pd)) x n1 3 _ (HE.out.ext xE) (right_fits HR.out)).mono ?_
  rintro e _ ⟨cv,jv,fc9,fj9,rfl,⟨X2,rfl⟩,hO9⟩
  rw[hY] at hO9 ⊢
  go_wp2
  exact⟨xE,kOutO_in (hO9.mono (Nat.zero_le _))⟩
 obtain⟨qa,qe,qb,qd,-,-,rfl,-⟩:=hK
 clear w1
 refine YReg.done (fun X9 hF=>?_)
 obtain⟨fc9,fj9,hO9⟩:=kOutO_out (hF 11 (kOutO 0 q 0 (c:Int),poV q 0 (c:Int) (.slice qa q.clear.length qe) (.slice qb q.jobs.length qd)) (by kernel_rfl))
 have HO9:=tH hO9
 have HB9:=tH (hB.ext ((Ext.refl W1).plus X9))
 have HD9:=tH (HD1.out.ext ((Ext.refl W1).plus X9))
 have HX9:=tH (HX1.out.trans ((Ext.refl W1).plus X9))
 clear hF hO9 hB hO HE b0 b1 b2 bo x1 x2 xo x3 HB1 HD1 HX1 HS1
 generalize W1.plus X9=W9 at HO9 HB9 HD9 HX9 ⊢
 simp only[List.drop_succ_cons,List.drop_zero]
 unfold poV
 go_wp2_with fail
 refine(take_any b _ _ _ qa _ qe qb _ qd q.now 0 c _ (HB9.out.ext xE) hid hc).mono ?_
 rintro e w9 ⟨z,rfl,hz,hd,h1,h2⟩
 have h3:=desk_take HD9.out HO9.out h1 h2
 have H3:=tH h3
 clear h1 h2 h3
 go_wp2
 go_ret
 have h4:=resT_ch (p:=p) hY
 rw[← h4.1,← h4.2]
 exact⟨z,rfl,hz,hd,(HX9.out.chg _).trans H3.out.1,H3.out.2⟩
theorem line_hold (b:Nat) (p:Pl) (x:Lab) (n1:Int) (na:Option Addr) (nc:Nat) (w:World) (hD:DeskW w b p) (hR:poolR p=true) (hx:x.ok) (hS:SlR w 1 rInt (.slice na 1 nc) [n1]) :
  Calls Tryz.prog 18 #[.pointer (some ⟨b,0,none⟩),.agg #[.string ⟨kHold.toArray⟩,(.int .i64 x.lv),(.int .i64 x.st),.slice na 1 nc]] w fun e w'=>∃ z,e=.returned (.string z)∧z.size≤2000∧dl z=(resT p (chR p x n1 4) okT).2∧Chg [b] w w'∧DeskW w' b (resT p (chR p x n1 4) okT).1:=by
 have HR:=tH hR
 have HXO:=tH hx
 have HD:=tH hD
 have HS:=tH hS
 clear hD hR hx hS
 unfold kHold
 go_enter Tryz.func18,Tryz.ntmps18
 go_upto_region 7 with fail
 refine gen_world (fun W1 hW=>?_)
 have HX1:=tH (show Ext w W1 by rw[hW];exact xE)
 have HD1:=tH (HD.out.ext HX1.out)
 have HS1:=tH (HS.out.ext rInt_stable HX1.out)
 have HB1:=tH (show Blk W1 w.heap.size _ 50 by rw[hW];exact(Blk.new (w:=w) (cs:=#[.string _,(.int .i64 x.lv),(.int .i64 x.st),.slice na 1 nc]) rfl).ext xE)
 clear hW HD HS
 generalize w.heap.size=bX at HB1 ⊢
 obtain⟨pa,pc,pb,pd,fc,fj,hB,hO⟩:=HD1.out
 have HE:=tH (hO.e' (right_ok HR.out).1)
 have b0:W1.cell? ⟨b,0,none⟩=some (.slice pa p.clear.length pc):=hB.cell 0
 have b1:W1.cell? ⟨b,1,none⟩=some (.slice pb p.jobs.length pd):=hB.cell 1
 have b2:W1.cell? ⟨b,2,none⟩=some (.int .i64 p.now):=hB.cell 2
 have bo:=hB.old
 have x1:W1.cell? ⟨bX,1,none⟩=some (.int .i64 x.lv):=HB1.out.cell 1
 have x2:W1.cell? ⟨bX,2,none⟩=some (.int .i64 x.st):=HB1.out.cell 2
 have x3:W1.cell? ⟨bX,3,none⟩=some (.slice na 1 nc):=HB1.out.cell 3
 have xo:=HB1.out.old
 obtain⟨bN,oN,rfl⟩:=slr_some HS1.out (i:=0) (by exact Nat.succ_pos _)
 obtain⟨io,m1,i0⟩:=int_at HS1.out (i:=0) (by simp)
 simp only[List.getElem_cons_zero,List.getElem_cons_succ,Nat.add_zero] at m1 i0
 have HNI:=tH m1
 clear m1
 obtain⟨c,hsub,hc⟩:=chR_nat (p:=p) (x:=x) (id:=n1) (s:=4)
 have HPF:=tH (chR_okD p x n1 4)
 generalize hY:chR p x n1 4=Y at hsub HPF ⊢
 obtain⟨q,y2⟩:=Y
 simp only at hsub
 subst hsub
 have hid:0 < 1000:=by decide
 (refine wp_region_y 12 [(fun u _=>u=(.pointer (some ⟨b,0,none⟩))),(fun u _=>u=(.pointer (some ⟨b,0,none⟩))),(fun u _=>u=(.pointer (some ⟨b,0,none⟩))),(fun u _=>u=(.pointer (some ⟨b,0,none⟩))),(fun u _=>u=(.agg #[.slice pa p.clear.length pc,.slice pb p.jobs.length pd,(.int .i64 p.now)])),(fun u _=>u=(.pointer (some ⟨bX,1,none⟩))),(fun u _=>u=(.agg #[(.int .i64 x.lv),(.int .i64 x.st)])),(fun u _=>u=(.pointer (some ⟨bX,3,none⟩))),(fun u _=>u=(.slice (some ⟨bN,oN,none⟩) 1 nc)),(fun u _=>u=(.pointer (some ⟨bN,oN,none⟩))),(fun u _=>u=((.int .i64 n1))),kOutO 0 q 0 (c:Int)] (by kernel_rfl) (by kernel_rfl) (by kernel_rfl) rfl ?_ (by (repeat' (first | exact trivial | exact XReg.GoodK.same _ default | refine And.intro ?_ ?_));all_goals (first | exact kOutO_good HPF.out)))
 refine YReg.va (.pointer (some ⟨b,0,none⟩)) ?_
 refine YReg.va (.pointer (some ⟨b,0,none⟩)) ?_
 refine YReg.va (.pointer (some ⟨b,0,none⟩)) ?_
 refine YReg.va (.pointer (some ⟨b,0,none⟩)) ?_
 refine YReg.va (.agg #[.slice pa p.clear.length pc,.slice pb p.jobs.length pd,(.int .i64 p.now)]) ?_
 refine YReg.va (.pointer (some ⟨bX,1,none⟩)) ?_
 refine YReg.va (.agg #[(.int .i64 x.lv),(.int .i64 x.st)]) ?_
 refine YReg.va (.pointer (some ⟨bX,3,none⟩)) ?_
 refine YReg.va (.slice (some ⟨bN,oN,none⟩) 1 nc) ?_
 refine YReg.va (.pointer (some ⟨bN,oN,none⟩)) ?_
 refine YReg.va ((.int .i64 n1)) ?_
 refine YReg.kind (fun w' hw' hF'=>?_) (fun v w1 hK=>?_)
 ·obtain⟨X',rfl⟩:=hw'
  clear hF'
  go_wp2_with fail
  refine(specChange_any p (p.val (.slice pa p.clear.length pc) (.slice pb p.jobs.length pd)) x n1 4 _ (HE.out.ext xE) (right_fits HR.out)).mono ?_
  rintro e _ ⟨cv,jv,fc9,fj9,rfl,⟨X2,rfl⟩,hO9⟩
  rw[hY] at hO9 ⊢
  go_wp2
  exact⟨xE,kOutO_in (hO9.mono (Nat.zero_le _))⟩
 obtain⟨qa,qe,qb,qd,-,-,rfl,-⟩:=hK
 clear w1
 refine YReg.done (fun X9 hF=>?_)
 obtain⟨fc9,fj9,hO9⟩:=kOutO_out (hF 11 (kOutO 0 q 0 (c:Int),poV q 0 (c:Int) (.slice qa q.clear.length qe) (.slice qb q.jobs.length qd)) (by kernel_rfl))
 have HO9:=tH hO9
 have HB9:=tH (hB.ext ((Ext.refl W1).plus X9))
 have HD9:=tH (HD1.out.ext ((Ext.refl W1).plus X9))
 have HX9:=tH (HX1.out.trans ((Ext.refl W1).plus X9))
 clear hF hO9 hB hO HE b0 b1 b2 bo x1 x2 xo x3 HB1 HD1 HX1 HS1
 generalize W1.plus X9=W9 at HO9 HB9 HD9 HX9 ⊢
 simp only[List.drop_succ_cons,List.drop_zero]
 unfold poV
 go_wp2_with fail
 refine(take_any b _ _ _ qa _ qe qb _ qd q.now 0 c _ (HB9.out.ext xE) hid hc).mono ?_
 rintro e w9 ⟨z,rfl,hz,hd,h1,h2⟩
 have h3:=desk_take HD9.out HO9.out h1 h2
 have H3:=tH h3
 clear h1 h2 h3
 go_wp2
 go_ret
 have h4:=resT_ch (p:=p) hY
 rw[← h4.1,← h4.2]
 exact⟨z,rfl,hz,hd,(HX9.out.chg _).trans H3.out.1,H3.out.2⟩
theorem line_wait (b:Nat) (p:Pl) (x:Lab) (n1:Int) (na:Option Addr) (nc:Nat) (w:World) (hD:DeskW w b p) (hR:poolR p=true) (hx:x.ok) (hS:SlR w 1 rInt (.slice na 1 nc) [n1]) :
  Calls Tryz.prog 18 #[.pointer (some ⟨b,0,none⟩),.agg #[.string ⟨kWait.toArray⟩,(.int .i64 x.lv),(.int .i64 x.st),.slice na 1 nc]] w fun e w'=>∃ z,e=.returned (.string z)∧z.size≤2000∧dl z=(resT p (chR p x n1 1) okT).2∧Chg [b] w w'∧DeskW w' b (resT p (chR p x n1 1) okT).1:=by
 have HR:=tH hR
 have HXO:=tH hx
 have HD:=tH hD
 have HS:=tH hS
 clear hD hR hx hS
 unfold kWait
 go_enter Tryz.func18,Tryz.ntmps18
 go_upto_region 9 with fail
 refine gen_world (fun W1 hW=>?_)
 have HX1:=tH (show Ext w W1 by rw[hW];exact xE)
 have HD1:=tH (HD.out.ext HX1.out)
 have HS1:=tH (HS.out.ext rInt_stable HX1.out)
 have HB1:=tH (show Blk W1 w.heap.size _ 50 by rw[hW];exact(Blk.new (w:=w) (cs:=#[.string _,(.int .i64 x.lv),(.int .i64 x.st),.slice na 1 nc]) rfl).ext xE)
 clear hW HD HS
 generalize w.heap.size=bX at HB1 ⊢
 obtain⟨pa,pc,pb,pd,fc,fj,hB,hO⟩:=HD1.out
 have HE:=tH (hO.e' (right_ok HR.out).1)
 have b0:W1.cell? ⟨b,0,none⟩=some (.slice pa p.clear.length pc):=hB.cell 0
 have b1:W1.cell? ⟨b,1,none⟩=some (.slice pb p.jobs.length pd):=hB.cell 1
 have b2:W1.cell? ⟨b,2,none⟩=some (.int .i64 p.now):=hB.cell 2
 have bo:=hB.old
 have x1:W1.cell? ⟨bX,1,none⟩=some (.int .i64 x.lv):=HB1.out.cell 1
 have x2:W1.cell? ⟨bX,2,none⟩=some (.int .i64 x.st):=HB1.out.cell 2
 have x3:W1.cell? ⟨bX,3,none⟩=some (.slice na 1 nc):=HB1.out.cell 3
 have xo:=HB1.out.old
 obtain⟨bN,oN,rfl⟩:=slr_some HS1.out (i:=0) (by exact Nat.succ_pos _)
 obtain⟨io,m1,i0⟩:=int_at HS1.out (i:=0) (by simp)
 simp only[List.getElem_cons_zero,List.getElem_cons_succ,Nat.add_zero] at m1 i0
 have HNI:=tH m1
 clear m1
 obtain⟨c,hsub,hc⟩:=chR_nat (p:=p) (x:=x) (id:=n1) (s:=1)
 have HPF:=tH (chR_okD p x n1 1)
 generalize hY:chR p x n1 1=Y at hsub HPF ⊢
 obtain⟨q,y2⟩:=Y
 simp only at hsub
 subst hsub
 have hid:0 < 1000:=by decide
 (refine wp_region_y 12 [(fun u _=>u=(.pointer (some ⟨b,0,none⟩))),(fun u _=>u=(.pointer (some ⟨b,0,none⟩))),(fun u _=>u=(.pointer (some ⟨b,0,none⟩))),(fun u _=>u=(.pointer (some ⟨b,0,none⟩))),(fun u _=>u=(.agg #[.slice pa p.clear.length pc,.slice pb p.jobs.length pd,(.int .i64 p.now)])),(fun u _=>u=(.pointer (some ⟨bX,1,none⟩))),(fun u _=>u=(.agg #[(.int .i64 x.lv),(.int .i64 x.st)])),(fun u _=>u=(.pointer (some ⟨bX,3,none⟩))),(fun u _=>u=(.slice (some ⟨bN,oN,none⟩) 1 nc)),(fun u _=>u=(.pointer (some ⟨bN,oN,none⟩))),(fun u _=>u=((.int .i64 n1))),kOutO 0 q 0 (c:Int)] (by kernel_rfl) (by kernel_rfl) (by kernel_rfl) rfl ?_ (by (repeat' (first | exact trivial | exact XReg.GoodK.same _ default | refine And.intro ?_ ?_));all_goals (first | exact kOutO_good HPF.out)))
 refine YReg.va (.pointer (some ⟨b,0,none⟩)) ?_
 refine YReg.va (.pointer (some ⟨b,0,none⟩)) ?_
 refine YReg.va (.pointer (some ⟨b,0,none⟩)) ?_
 refine YReg.va (.pointer (some ⟨b,0,none⟩)) ?_
 refine YReg.va (.agg #[.slice pa p.clear.length pc,.slice pb p.jobs.length pd,(.int .i64 p.now)]) ?_
 refine YReg.va (.pointer (some ⟨bX,1,none⟩)) ?_
 refine YReg.va (.agg #[(.int .i64 x.lv),(.int .i64 x.st)]) ?_
 refine YReg.va (.pointer (some ⟨bX,3,none⟩)) ?_
 refine YReg.va (.slice (some ⟨bN,oN,none⟩) 1 nc) ?_
 refine YReg.va (.pointer (some ⟨bN,oN,none⟩)) ?_
 refine YReg.va ((.int .i64 n1)) ?_
 refine YReg.kind (fun w' hw' hF'=>?_) (fun v w1 hK=>?_)
 ·obtain⟨X',rfl⟩:=hw'
  clear hF'
  go_wp2_with fail
  refine(specChange_any p (p.val (.slice pa p.clear.length pc) (.slice pb p.jobs.length pd)) x n1 1 _ (HE.out.ext xE) (right_fits HR.out)).mono ?_
  rintro e _ ⟨cv,jv,fc9,fj9,rfl,⟨X2,rfl⟩,hO9⟩
  rw[hY] at hO9 ⊢
  go_wp2
  exact⟨xE,kOutO_in (hO9.mono (Nat.zero_le _))⟩
 obtain⟨qa,qe,qb,qd,-,-,rfl,-⟩:=hK
 clear w1
 refine YReg.done (fun X9 hF=>?_)
 obtain⟨fc9,fj9,hO9⟩:=kOutO_out (hF 11 (kOutO 0 q 0 (c:Int),poV q 0 (c:Int) (.slice qa q.clear.length qe) (.slice qb q.jobs.length qd)) (by kernel_rfl))
 have HO9:=tH hO9
 have HB9:=tH (hB.ext ((Ext.refl W1).plus X9))
 have HD9:=tH (HD1.out.ext ((Ext.refl W1).plus X9))
 have HX9:=tH (HX1.out.trans ((Ext.refl W1).plus X9))
 clear hF hO9 hB hO HE b0 b1 b2 bo x1 x2 xo x3 HB1 HD1 HX1 HS1
 generalize W1.plus X9=W9 at HO9 HB9 HD9 HX9 ⊢
 simp only[List.drop_succ_cons,List.drop_zero]
 unfold poV
 go_wp2_with fail
 refine(take_any b _ _ _ qa _ qe qb _ qd q.now 0 c _ (HB9.out.ext xE) hid hc).mono ?_
 rintro e w9 ⟨z,rfl,hz,hd,h1,h2⟩
 have h3:=desk_take HD9.out HO9.out h1 h2
 have H3:=tH h3
 clear h1 h2 h3
 go_wp2
 go_ret
 have h4:=resT_ch (p:=p) hY
 rw[← h4.1,← h4.2]
 exact⟨z,rfl,hz,hd,(HX9.out.chg _).trans H3.out.1,H3.out.2⟩
end Go.Proofs.YtbmbanelodabgaaGreatDoor
