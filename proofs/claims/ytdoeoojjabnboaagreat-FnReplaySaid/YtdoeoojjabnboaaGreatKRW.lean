/- FnReplay's walk (printed by tools/genrw.py out of XRW0.tpl). -/
import Derived.Test.YtdoeoojjabnboaaGreatKLQ
import Derived.Test.YtdoeoojjabnboaaGreatKRT
import Derived.Test.YtdoeoojjabnboaaGreatKRR
import Derived.Test.YtdoeoojjabnboaaGreatKY3
import Derived.Test.YtdoeoojjabnboaaGreatKAJ
import Derived.Test.YtdoeoojjabnboaaGreatKRY
set_option maxRecDepth 100000
set_option linter.unusedVariables false
namespace Go.Proofs.YtdoeoojjabnboaaGreat
open Go.RowKit Go.Fin1
theorem subR_ok9 (p:Pl) (x:Lab) (need long prio:Int):PlOk (subR p x need long prio).1∧PlFit (subR p x need long prio).1∧wPl (subR p x need long prio).1≤64*1048576:=by
 by_cases h:(subR p x need long prio).2.2=0
 ·exact right_ok (subR_right h).2
 ·have:(subR p x need long prio).1=zPl:=by
   unfold subR at h ⊢
   split
   ·rfl
   ·split
    ·rfl
    ·split
     ·rfl
     ·rename_i a b c;rw[if_neg a,if_neg b,if_neg c] at h;exact absurd rfl h
  rw[this];exact zPl_ok
theorem chR_ok9 (p:Pl) (x:Lab) (id st:Int):PlOk (chR p x id st).1∧PlFit (chR p x id st).1∧wPl (chR p x id st).1≤64*1048576:=by
 by_cases h:(chR p x id st).2.2=0
 ·exact right_ok (chR_right h).2
 ·have:(chR p x id st).1=zPl:=by
   unfold chR at h ⊢
   split
   ·rfl
   ·split
    ·rfl
    ·split
     ·rfl
     ·rename_i a b c;rw[if_neg a,if_neg b,if_neg c] at h;exact absurd rfl h
  rw[this];exact zPl_ok
theorem actR_ok9 (p:Pl) (e:Ent):PlOk (actR p e).1∧PlFit (actR p e).1∧wPl (actR p e).1≤64*1048576:=by
 unfold actR
 split
 ·exact zPl_ok
 ·split
  ·exact subR_ok9 _ _ _ _ _
  ·split
   ·exact chR_ok9 _ _ _ _
   ·exact advR_ok p
theorem actR_right9 {p:Pl} {e:Ent} (h:(actR p e).2.2=0):poolR (actR p e).1=true:=by
 have hE:=actR_ent h
 unfold actR at h ⊢
 rw[if_neg (by rw[hE];simp)] at h ⊢
 split at h
 ·rename_i h1;rw[if_pos h1];exact(subR_right h).2
 ·rename_i h1
  rw[if_neg h1]
  split at h
  ·rename_i h2;rw[if_pos h2];exact(chR_right h).2
  ·rename_i h2;rw[if_neg h2];exact advR_right h
def kAct9 (p:Pl) (id q:Int):XReg.Kind:=fun v w=>∃ a b c d,v=.agg #[.slice a p.clear.length b,.slice c p.jobs.length d,(.int .i64 p.now),(.int .i64 id),(.int .i64 q)]∧ePool w (p.val (.slice a p.clear.length b) (.slice c p.jobs.length d)) p
theorem kAct9_good {p:Pl} {id q:Int} {a c:Option Addr} {b d:Nat} {w:World} (h:ePool w (p.val (.slice a p.clear.length b) (.slice c p.jobs.length d)) p):XReg.GoodK (kAct9 p id q) :=
 ⟨fun _ _ _ hx ⟨a,b,c,d,hv,h⟩=>⟨a,b,c,d,hv,h.ext hx⟩,_,_,a,b,c,d,rfl,h⟩
theorem kAct9_of {p:Pl} {id q:Int} (h:PlOk p) (hf:PlFit p):XReg.GoodK (kAct9 p id q):=by
 obtain⟨-,v',w',hk⟩:=kOutO_good (B:=0) (id:=id) (c:=q) hf
 obtain⟨_,_,_,_,_,_,-,hO⟩:=hk
 exact kAct9_good (hO.e h.now h.cl h.jb)
def kPl9 (p:Pl):XReg.Kind:=fun v w=>∃ a b c d,v=.agg #[.slice a p.clear.length b,.slice c p.jobs.length d,(.int .i64 p.now)]∧ePool w (p.val (.slice a p.clear.length b) (.slice c p.jobs.length d)) p
theorem kPl9_of {p:Pl} (h:PlOk p) (hf:PlFit p):XReg.GoodK (kPl9 p):=by
 obtain⟨-,v',w',hk⟩:=kOutO_good (B:=0) (id:=0) (c:=0) hf
 obtain⟨a,b,c,d,_,_,-,hO⟩:=hk
 exact⟨fun _ _ _ hx ⟨a,b,c,d,hv,h⟩=>⟨a,b,c,d,hv,h.ext hx⟩,_,_,_,_,_,_,rfl,hO.e h.now h.cl h.jb⟩
set_option maxHeartbeats 3200000 in
theorem fnReplay_any (a:Arg (List Int)) (b:Arg (List Int)) (w:World) (ha:SlR w 1 rU8 a.v a.x) (hb:SlR w 1 rU8 b.v b.x) :
  Calls Tryz.prog 4 #[a.v,b.v] w fun e w'=>e=.returned (.bool true)∧Ext w w':=by
 obtain⟨v,l⟩:=a
 obtain⟨v2,l2⟩:=b
 change SlR w 1 rU8 v l at ha
 change SlR w 1 rU8 v2 l2 at hb
 change Calls Tryz.prog 4 #[v,v2] w _
 obtain⟨va,vc,rfl⟩:=ha.len
 obtain⟨va2,vc2,rfl⟩:=hb.len
 have HS:=tH ha
 have HS2:=tH hb
 clear ha hb
 by_cases hl:l.length≤1048576
 case neg =>
  have hlb:decide ((1048576:Int) < (l.length:Int))=true:=decide_eq_true (by omega)
  go_enter Tryz.func4,Tryz.ntmps4
  go_wp2
  go_ret
  exact⟨rfl,xE⟩
 have hlb:decide ((1048576:Int) < (l.length:Int))=false:=decide_eq_false (by omega)
 by_cases hl2:l2.length≤1048576
 case neg =>
  have hlb2:decide ((1048576:Int) < (l2.length:Int))=true:=decide_eq_true (by omega)
  go_enter Tryz.func4,Tryz.ntmps4
  go_wp2
  go_ret
  exact⟨rfl,xE⟩
 have hlb2:decide ((1048576:Int) < (l2.length:Int))=false:=decide_eq_false (by omega)
 go_enter Tryz.func4,Tryz.ntmps4
 go_wp2_with fail
 refine(drawReplay_any _ l _ (HS.out.ext rU8_stable xE) hl).mono ?_
 rintro e w2 ⟨ca,cc,L,s,rfl,hL,hz,hs,hx⟩
 have HX2:=tH hx
 have HL2:=tH hL
 have HZ:=tH hz
 have HSZ:=tH hs
 clear hx hL hz hs
 go_wp2_with fail
 refine(implReplay_any _ L s _ (HL2.out.ext rLabS_stable xE) (by have:=HZ.out;omega) (by have:=HSZ.out;omega)).mono ?_
 rintro e w3 ⟨cv,jv,fc,fj,rfl,hx,hO⟩
 have hok:=repR_ok L s
 obtain⟨⟨P,n,q⟩,hR⟩:∃ R,repR L s=R:=⟨_,rfl⟩
 rw[hR] at hO hok ⊢
 have HRE:=tH hR
 have HOK:=tH hok.1.1
 have HN:=tH hok.2
 clear hR hok
 obtain⟨xa,xc,rfl⟩:=hO.1.shape
 obtain⟨xb,xd,rfl⟩:=hO.2.1.shape
 have HX3:=tH (HX2.out.trans hx)
 have HL3:=tH (HL2.out.ext rLabS_stable hx)
 have HPX3:=tH (hO.e HOK.out.now HOK.out.cl HOK.out.jb)
 clear hx hO HX2 HL2
 go_wp2_with fail
 refine(specReplay_any _ L s _ (HL3.out.ext rLabS_stable xE) (by have:=HZ.out;omega) (by have:=HSZ.out;omega)).mono ?_
 rintro e w4 ⟨cv,jv,fc,fj,rfl,hx,hO⟩
 rw[HRE.out] at hO ⊢
 obtain⟨ya,yc,rfl⟩:=hO.1.shape
 obtain⟨yb,yd,rfl⟩:=hO.2.1.shape
 have HX4:=tH (HX3.out.trans hx)
 have HL4:=tH (HL3.out.ext rLabS_stable hx)
 have HPX4:=tH (HPX3.out.ext hx)
 have HPY4:=tH (hO.e HOK.out.now HOK.out.cl HOK.out.jb)
 clear hx hO HX3 HL3 HPX3
 unfold poV
 go_upto_region 5 with fail
 refine gen_world (fun W5 hW=>?_)
 have HX5:=tH (show Ext w W5 by rw[hW];exact HX4.out.trans xE)
 have HL5:=tH (show SlR W5 1 rLabS _ L by rw[hW];exact HL4.out.ext rLabS_stable xE)
 have HPX5:=tH (show ePool W5 _ P by rw[hW];exact HPX4.out.ext xE)
 have HPY5:=tH (show ePool W5 _ P by rw[hW];exact HPY4.out.ext xE)
 have HBX5:=tH (show Blk W5 w4.heap.size [.slice xa P.clear.length xc,.slice xb P.jobs.length xd,(.int .i64 P.now),(.int .i64 n),(.int .i64 q)] 54 by rw[hW];exact(Blk.new (w:=w4) (cs:=#[.slice xa P.clear.length xc,.slice xb P.jobs.length xd,(.int .i64 P.now),(.int .i64 n),(.int .i64 q)]) rfl).ext xE)
 have HBY5:=tH (show Blk W5 (w4.heap.size+1) [.slice ya P.clear.length yc,.slice yb P.jobs.length yd,(.int .i64 P.now),(.int .i64 n),(.int .i64 q)] 54 by rw[hW];exact Blk.new (cs:=#[.slice ya P.clear.length yc,.slice yb P.jobs.length yd,(.int .i64 P.now),(.int .i64 n),(.int .i64 q)]) (by simp))
 clear hW HX4 HL4 HPX4 HPY4
 obtain⟨bY,hbY⟩:∃ bY,w4.heap.size+1=bY:=⟨_,rfl⟩
 rw[hbY] at HBY5 ⊢
 clear hbY
 generalize w4.heap.size=bX at HBX5 ⊢
 go_wp2_with fail
 refine(drawEntryBytes_any _ l2 _ (HS2.out.ext rU8_stable (HX5.out.trans xE)) hl2).mono ?_
 rintro e w6 ⟨⟨ek,⟨el,es⟩,ea,eb,ec⟩,rfl,he,hx⟩
 have HE:=tH he
 have HC6:=tH hx
 clear hx he
 unfold Ent.val
 go_upto_region 6 with fail
 refine gen_world (fun W6 hW=>?_)
 have HD6:=tH (show Ext W5 W6 by rw[hW];exact HC6.out.trans xE)
 have HBE6:=tH (show Blk W6 w6.heap.size [(.int .i64 ek),(.int .i64 el),(.int .i64 es),(.int .i64 ea),(.int .i64 eb),(.int .i64 ec)] 57 by rw[hW];exact Blk.new (cs:=#[(.int .i64 ek),(.int .i64 el),(.int .i64 es),(.int .i64 ea),(.int .i64 eb),(.int .i64 ec)]) rfl)
 clear hW HC6
 generalize w6.heap.size=bE at HBE6 ⊢
 have ge0:W6.cell? ⟨bE,0,none⟩=some (.int .i64 ek):=HBE6.out.cell 0
 have ge1:W6.cell? ⟨bE,1,none⟩=some (.int .i64 el):=HBE6.out.cell 1
 have ge2:W6.cell? ⟨bE,2,none⟩=some (.int .i64 es):=HBE6.out.cell 2
 have ge3:W6.cell? ⟨bE,3,none⟩=some (.int .i64 ea):=HBE6.out.cell 3
 have ge4:W6.cell? ⟨bE,4,none⟩=some (.int .i64 eb):=HBE6.out.cell 4
 have ge5:W6.cell? ⟨bE,5,none⟩=some (.int .i64 ec):=HBE6.out.cell 5
 have geo:=HBE6.out.old
 go_wp2_with fail
 refine(implEntryBytes_any ⟨ek,⟨el,es⟩,ea,eb,ec⟩ _ HE.out).mono ?_
 rintro e _ ⟨rfl,X6,rfl⟩
 obtain⟨t,ht⟩:∃ t,entB ⟨ek,⟨el,es⟩,ea,eb,ec⟩=t:=⟨_,rfl⟩
 have HT:=tH ht
 rw[ht]
 clear ht ge0 ge1 ge2 ge3 ge4 ge5 geo
 go_wp2_with fail
 refine(drawEntryRead_any _ l2 _ (HS2.out.ext rU8_stable (HX5.out.trans (HD6.out.trans xE))) hl2).mono ?_
 rintro e w7 ⟨tu,rfl,hu,hx⟩
 have HU:=tH (show tu.size≤1048576 by omega)
 have HC7:=tH (HD6.out.trans (((Ext.refl W6).plus X6).trans hx))
 have HBE7:=tH ((HBE6.out.ext ((Ext.refl W6).plus X6)).ext hx)
 clear hx hu HD6 HBE6
 go_wp2_with fail
 refine(implEntryRead_any tu _ HU.out).mono ?_
 rintro e _ ⟨rfl,X7,rfl⟩
 obtain⟨⟨R,rq⟩,hr⟩:∃ z,entRd tu=z:=⟨_,rfl⟩
 have HR9:=tH hr
 rw[hr]
 clear hr
 unfold entOV
 go_upto_region 9 with fail
 refine gen_world (fun W7 hW=>?_)
 have HC8:=tH (show Ext W5 W7 by rw[hW];exact HC7.out.trans xE)
 have HBE8:=tH (show Blk W7 bE _ _ by rw[hW];exact HBE7.out.ext xE)
 have HBR8:=tH (show Blk W7 (w7.heap.size+X7.n) [(.int .i64 R.k),(.int .i64 R.l.lv),(.int .i64 R.l.st),(.int .i64 R.a),(.int .i64 R.b),(.int .i64 R.c),(.int .i64 rq)] 62 by rw[hW];exact Blk.new (cs:=#[(.int .i64 R.k),(.int .i64 R.l.lv),(.int .i64 R.l.st),(.int .i64 R.a),(.int .i64 R.b),(.int .i64 R.c),(.int .i64 rq)]) (by simp))
 clear hW HC7 HBE7
 generalize w7.heap.size+X7.n=bR at HBR8 ⊢
 go_wp2_with fail
 refine(drawAct_any _ l _ (HS.out.ext rU8_stable (HX5.out.trans (HC8.out.trans xE))) hl).mono ?_
 rintro e w8 ⟨p,pa,pc,pb,pd,⟨ak,⟨al,az⟩,aa,ab,ac⟩,rfl,hx,hP,hB,hA⟩
 have HC9:=tH (HC8.out.trans hx)
 have HBE9':=tH (HBE8.out.ext hx)
 have HBR9':=tH (HBR8.out.ext hx)
 have HPP9':=tH hP
 have HFp:=tH hB.fits
 have HA9:=tH hA
 clear hx hP hB hA HC8 HBE8 HBR8
 unfold Ent.val
 go_upto_region 10 with fail
 refine gen_world (fun W9 hW=>?_)
 have HC10:=tH (show Ext W5 W9 by rw[hW];exact HC9.out.trans xE)
 have HBE:=tH (show Blk W9 bE _ _ by rw[hW];exact HBE9'.out.ext xE)
 have HBR:=tH (show Blk W9 bR _ _ by rw[hW];exact HBR9'.out.ext xE)
 have HPP9:=tH (show ePool W9 _ p by rw[hW];exact HPP9'.out.ext xE)
 have HBP:=tH (show Blk W9 w8.heap.size [.slice pa p.clear.length pc,.slice pb p.jobs.length pd,(.int .i64 p.now)] 26 by rw[hW];exact(Blk.new (w:=w8) (cs:=#[.slice pa p.clear.length pc,.slice pb p.jobs.length pd,(.int .i64 p.now)]) rfl).ext xE)
 have HBA:=tH (show Blk W9 (w8.heap.size+1) [(.int .i64 ak),(.int .i64 al),(.int .i64 az),(.int .i64 aa),(.int .i64 ab),(.int .i64 ac)] 57 by rw[hW];exact Blk.new (cs:=#[(.int .i64 ak),(.int .i64 al),(.int .i64 az),(.int .i64 aa),(.int .i64 ab),(.int .i64 ac)]) (by simp))
 clear hW HC9 HBE9' HBR9' HPP9'
 obtain⟨bA,hbA⟩:∃ bA,w8.heap.size+1=bA:=⟨_,rfl⟩
 rw[hbA] at HBA ⊢
 clear hbA
 generalize w8.heap.size=bP at HBP ⊢
 have HX9:=tH (HX5.out.trans HC10.out)
 have HL9:=tH (HL5.out.ext rLabS_stable HC10.out)
 have HPX9:=tH (HPX5.out.ext HC10.out)
 have HPY9:=tH (HPY5.out.ext HC10.out)
 have HBX:=tH (HBX5.out.ext HC10.out)
 have HBY:=tH (HBY5.out.ext HC10.out)
 clear HX5 HL5 HPX5 HPY5 HBX5 HBY5 HC10
 have hao:=actR_ok9 p ⟨ak,⟨al,az⟩,aa,ab,ac⟩
 have har:=actR_right9 (p:=p) (e:=⟨ak,⟨al,az⟩,aa,ab,ac⟩)
 obtain⟨⟨AP,AI,AQ⟩,haq⟩:∃ z,actR p ⟨ak,⟨al,az⟩,aa,ab,ac⟩=z:=⟨_,rfl⟩
 rw[haq] at hao har
 have HAQ:=tH haq
 have HAO:=tH hao.1
 have HAR:=tH har
 have HGO:Hid (XReg.GoodK (kAct9 AP AI AQ)):=tH (by
  obtain⟨-,v',w',hk⟩:=kOutO_good (B:=0) (id:=AI) (c:=AQ) hao.2.1
  obtain⟨_,_,_,_,_,_,-,hO⟩:=hk
  exact kAct9_good (hO.e hao.1.now hao.1.cl hao.1.jb))
 clear haq hao har
 obtain⟨er,her⟩:∃ er,entR ⟨ek,⟨el,es⟩,ea,eb,ec⟩=er:=⟨_,rfl⟩
 have HER:=tH her
 clear her
 have x0:W9.cell? ⟨bX,0,none⟩=some (.slice xa P.clear.length xc):=HBX.out.cell 0
 have x1:W9.cell? ⟨bX,1,none⟩=some (.slice xb P.jobs.length xd):=HBX.out.cell 1
 have x2:W9.cell? ⟨bX,2,none⟩=some ((.int .i64 P.now)):=HBX.out.cell 2
 have x3:W9.cell? ⟨bX,3,none⟩=some ((.int .i64 n)):=HBX.out.cell 3
 have x4:W9.cell? ⟨bX,4,none⟩=some ((.int .i64 q)):=HBX.out.cell 4
 have xo:=HBX.out.old
 have y0:W9.cell? ⟨bY,0,none⟩=some (.slice ya P.clear.length yc):=HBY.out.cell 0
 have y1:W9.cell? ⟨bY,1,none⟩=some (.slice yb P.jobs.length yd):=HBY.out.cell 1
 have y2:W9.cell? ⟨bY,2,none⟩=some ((.int .i64 P.now)):=HBY.out.cell 2
 have y3:W9.cell? ⟨bY,3,none⟩=some ((.int .i64 n)):=HBY.out.cell 3
 have y4:W9.cell? ⟨bY,4,none⟩=some ((.int .i64 q)):=HBY.out.cell 4
 have yo:=HBY.out.old
 have e0:W9.cell? ⟨bE,0,none⟩=some ((.int .i64 ek)):=HBE.out.cell 0
 have e1:W9.cell? ⟨bE,1,none⟩=some ((.int .i64 el)):=HBE.out.cell 1
 have e2:W9.cell? ⟨bE,2,none⟩=some ((.int .i64 es)):=HBE.out.cell 2
 have e3:W9.cell? ⟨bE,3,none⟩=some ((.int .i64 ea)):=HBE.out.cell 3
 have e4:W9.cell? ⟨bE,4,none⟩=some ((.int .i64 eb)):=HBE.out.cell 4
 have e5:W9.cell? ⟨bE,5,none⟩=some ((.int .i64 ec)):=HBE.out.cell 5
 have eo:=HBE.out.old
 have r0:W9.cell? ⟨bR,0,none⟩=some ((.int .i64 R.k)):=HBR.out.cell 0
 have r1:W9.cell? ⟨bR,1,none⟩=some ((.int .i64 R.l.lv)):=HBR.out.cell 1
 have r2:W9.cell? ⟨bR,2,none⟩=some ((.int .i64 R.l.st)):=HBR.out.cell 2
 have r3:W9.cell? ⟨bR,3,none⟩=some ((.int .i64 R.a)):=HBR.out.cell 3
 have r4:W9.cell? ⟨bR,4,none⟩=some ((.int .i64 R.b)):=HBR.out.cell 4
 have r5:W9.cell? ⟨bR,5,none⟩=some ((.int .i64 R.c)):=HBR.out.cell 5
 have r6:W9.cell? ⟨bR,6,none⟩=some ((.int .i64 rq)):=HBR.out.cell 6
 have ro:=HBR.out.old
 have p0:W9.cell? ⟨bP,0,none⟩=some (.slice pa p.clear.length pc):=HBP.out.cell 0
 have p1:W9.cell? ⟨bP,1,none⟩=some (.slice pb p.jobs.length pd):=HBP.out.cell 1
 have p2:W9.cell? ⟨bP,2,none⟩=some ((.int .i64 p.now)):=HBP.out.cell 2
 have po:=HBP.out.old
 have a0:W9.cell? ⟨bA,0,none⟩=some ((.int .i64 ak)):=HBA.out.cell 0
 have a1:W9.cell? ⟨bA,1,none⟩=some ((.int .i64 al)):=HBA.out.cell 1
 have a2:W9.cell? ⟨bA,2,none⟩=some ((.int .i64 az)):=HBA.out.cell 2
 have a3:W9.cell? ⟨bA,3,none⟩=some ((.int .i64 aa)):=HBA.out.cell 3
 have a4:W9.cell? ⟨bA,4,none⟩=some ((.int .i64 ab)):=HBA.out.cell 4
 have a5:W9.cell? ⟨bA,5,none⟩=some ((.int .i64 ac)):=HBA.out.cell 5
 have ao:=HBA.out.old
 (refine wp_region_y 49 [(fun u _=>u=(.pointer (some ⟨bX,4,none⟩))),(fun u _=>u=((.int .i64 q))),(fun u _=>u=(.pointer (some ⟨bY,4,none⟩))),(fun u _=>u=((.int .i64 q))),(fun u _=>u=(.bool false)),(fun u _=>u=(.bool false)),(fun u _=>u=(.pointer (some ⟨bX,3,none⟩))),(fun u _=>u=((.int .i64 n))),(fun u _=>u=(.pointer (some ⟨bY,3,none⟩))),(fun u _=>u=((.int .i64 n))),(fun u _=>u=(.bool false)),(fun u _=>u=(.bool false)),(fun u _=>u=(.bool false)),(fun u _=>u=(.pointer (some ⟨bX,0,none⟩))),(fun u _=>u=(.agg #[.slice xa P.clear.length xc,.slice xb P.jobs.length xd,(.int .i64 P.now)])),(fun u _=>u=(.pointer (some ⟨bY,0,none⟩))),(fun u _=>u=(.agg #[.slice ya P.clear.length yc,.slice yb P.jobs.length yd,(.int .i64 P.now)])),(fun u _=>u=(.bool true)),(fun u _=>u=(.bool false)),(fun u _=>u=(.bool false)),(fun u _=>u=(.bool false)),(fun u _=>u=(.string t)),(fun u _=>u=(.agg #[(.int .i64 ek),(.int .i64 el),(.int .i64 es),(.int .i64 ea),(.int .i64 eb),(.int .i64 ec)])),(fun u _=>u=(.string t)),(fun u _=>u=(.bool false)),(fun u _=>u=(.bool false)),(fun u _=>u=(.bool false)),(fun u _=>u=(.agg #[(.int .i64 R.k),(.int .i64 R.l.lv),(.int .i64 R.l.st),(.int .i64 R.a),(.int .i64 R.b),(.int .i64 R.c),(.int .i64 rq)])),(fun u _=>u=(.string tu)),(fun u _=>u=(.agg #[(.int .i64 R.k),(.int .i64 R.l.lv),(.int .i64 R.l.st),(.int .i64 R.a),(.int .i64 R.b),(.int .i64 R.c),(.int .i64 rq)])),(fun u _=>u=(.bool false)),(fun u _=>u=(.bool false)),(fun u _=>u=(.bool false)),(fun u _=>u=(.agg #[.slice pa p.clear.length pc,.slice pb p.jobs.length pd,(.int .i64 p.now)])),(fun u _=>u=(.agg #[(.int .i64 ak),(.int .i64 al),(.int .i64 az),(.int .i64 aa),(.int .i64 ab),(.int .i64 ac)])),kAct9 AP AI AQ,(fun u _=>u=(.agg #[.slice pa p.clear.length pc,.slice pb p.jobs.length pd,(.int .i64 p.now)])),(fun u _=>u=(.agg #[(.int .i64 ak),(.int .i64 al),(.int .i64 az),(.int .i64 aa),(.int .i64 ab),(.int .i64 ac)])),kAct9 AP AI AQ,(fun u _=>u=(.bool true)),(fun u _=>u=(.bool false)),(fun u _=>u=(.bool false)),(fun u _=>u=(.bool false)),(fun u _=>u=(.agg #[(.int .i64 ek),(.int .i64 el),(.int .i64 es),(.int .i64 ea),(.int .i64 eb),(.int .i64 ec)])),(fun u _=>u=(.bool er)),(fun u _=>u=(.agg #[(.int .i64 ek),(.int .i64 el),(.int .i64 es),(.int .i64 ea),(.int .i64 eb),(.int .i64 ec)])),(fun u _=>u=(.bool er)),(fun u _=>u=(.bool false)),(fun u _=>u=(.bool false))] (by kernel_rfl) (by kernel_rfl) (by kernel_rfl) rfl ?_ (by (repeat' (first | exact trivial | exact XReg.GoodK.same _ default | refine And.intro ?_ ?_));all_goals exact HGO.out))
 refine YReg.va (.pointer (some ⟨bX,4,none⟩)) ?_
 refine YReg.va ((.int .i64 q)) ?_
 refine YReg.va (.pointer (some ⟨bY,4,none⟩)) ?_
 refine YReg.va ((.int .i64 q)) ?_
 refine YReg.va (.bool false) ?_
 refine YReg.va (.bool false) ?_
 refine YReg.va (.pointer (some ⟨bX,3,none⟩)) ?_
 refine YReg.va ((.int .i64 n)) ?_
 refine YReg.va (.pointer (some ⟨bY,3,none⟩)) ?_
 refine YReg.va ((.int .i64 n)) ?_
 refine YReg.va (.bool false) ?_
 refine YReg.va (.bool false) ?_
 refine YReg.va (.bool false) ?_
 refine YReg.va (.pointer (some ⟨bX,0,none⟩)) ?_
 refine YReg.va (.agg #[.slice xa P.clear.length xc,.slice xb P.jobs.length xd,(.int .i64 P.now)]) ?_
 refine YReg.va (.pointer (some ⟨bY,0,none⟩)) ?_
 refine YReg.va (.agg #[.slice ya P.clear.length yc,.slice yb P.jobs.length yd,(.int .i64 P.now)]) ?_
 (apply YReg.val (.bool true);(case h=>(intro w' hw' hF';obtain⟨X',rfl⟩:=hw';have HF':=tH hF';clear hF';go_wp2_with ((go_at_call 32;refine(lwPool_self P _ _ _ (HPX9.out.ext xE) (HPY9.out.ext xE)).mono ?_;rintro e _ ⟨rfl,Y1,rfl⟩));exact⟨rfl,xE⟩));(case hv=>kernel_rfl))
 refine YReg.va (.bool false) ?_
 refine YReg.va (.bool false) ?_
 refine YReg.va (.bool false) ?_
 refine YReg.va (.string t) ?_
 refine YReg.va (.agg #[(.int .i64 ek),(.int .i64 el),(.int .i64 es),(.int .i64 ea),(.int .i64 eb),(.int .i64 ec)]) ?_
 (apply YReg.val (.string t);(case h=>(intro w' hw' hF';obtain⟨X',rfl⟩:=hw';have HF':=tH hF';clear hF';go_wp2_with ((go_at_call 33;refine(specEntryBytes_any ⟨ek,⟨el,es⟩,ea,eb,ec⟩ _ HE.out).mono ?_;rintro e _ ⟨rfl,Y1,rfl⟩;rw[HT.out]));exact⟨rfl,xE⟩));(case hv=>kernel_rfl))
 refine YReg.va (.bool false) ?_
 refine YReg.va (.bool false) ?_
 refine YReg.va (.bool false) ?_
 refine YReg.va (.agg #[(.int .i64 R.k),(.int .i64 R.l.lv),(.int .i64 R.l.st),(.int .i64 R.a),(.int .i64 R.b),(.int .i64 R.c),(.int .i64 rq)]) ?_
 refine YReg.va (.string tu) ?_
 (apply YReg.val (.agg #[(.int .i64 R.k),(.int .i64 R.l.lv),(.int .i64 R.l.st),(.int .i64 R.a),(.int .i64 R.b),(.int .i64 R.c),(.int .i64 rq)]);(case h=>(intro w' hw' hF';obtain⟨X',rfl⟩:=hw';have HF':=tH hF';clear hF';go_wp2_with ((go_at_call 34;refine(specEntryRead_any tu _ HU.out).mono ?_;rintro e _ ⟨rfl,Y1,rfl⟩;rw[HR9.out];unfold entOV));exact⟨rfl,xE⟩));(case hv=>kernel_rfl))
 refine YReg.va (.bool false) ?_
 refine YReg.va (.bool false) ?_
 refine YReg.va (.bool false) ?_
 refine YReg.va (.agg #[.slice pa p.clear.length pc,.slice pb p.jobs.length pd,(.int .i64 p.now)]) ?_
 refine YReg.va (.agg #[(.int .i64 ak),(.int .i64 al),(.int .i64 az),(.int .i64 aa),(.int .i64 ab),(.int .i64 ac)]) ?_
 refine YReg.kind (fun w' hw' hF'=>?_) (fun v w1 hK=>?_)
 ·obtain⟨X',rfl⟩:=hw'
  clear hF'
  go_wp2_with fail
  refine(implAct_any p (p.val (.slice pa p.clear.length pc) (.slice pb p.jobs.length pd)) ⟨ak,⟨al,az⟩,aa,ab,ac⟩ _ (HPP9.out.ext xE) HFp.out HA9.out).mono ?_
  rintro e _ ⟨cv,jv,fc,fj,rfl,⟨Y1,rfl⟩,hO⟩
  rw[HAQ.out] at hO ⊢
  obtain⟨c1,d1,rfl⟩:=hO.1.shape
  obtain⟨c2,d2,rfl⟩:=hO.2.1.shape
  have HO9:=tH (hO.e HAO.out.now HAO.out.cl HAO.out.jb)
  clear hO
  unfold poV
  go_wp2
  exact⟨xE,_,_,_,_,rfl,HO9.out⟩
 obtain⟨i1,i2,i3,i4,rfl,hiP⟩:=hK
 clear hiP w1
 refine YReg.va (.agg #[.slice pa p.clear.length pc,.slice pb p.jobs.length pd,(.int .i64 p.now)]) ?_
 refine YReg.va (.agg #[(.int .i64 ak),(.int .i64 al),(.int .i64 az),(.int .i64 aa),(.int .i64 ab),(.int .i64 ac)]) ?_
 refine YReg.kind (fun w' hw' hF'=>?_) (fun v w1 hK=>?_)
 ·obtain⟨X',rfl⟩:=hw'
  clear hF'
  go_wp2_with fail
  refine(specAct_any p (p.val (.slice pa p.clear.length pc) (.slice pb p.jobs.length pd)) ⟨ak,⟨al,az⟩,aa,ab,ac⟩ _ (HPP9.out.ext xE) HFp.out HA9.out).mono ?_
  rintro e _ ⟨cv,jv,fc,fj,rfl,⟨Y1,rfl⟩,hO⟩
  rw[HAQ.out] at hO ⊢
  obtain⟨c1,d1,rfl⟩:=hO.1.shape
  obtain⟨c2,d2,rfl⟩:=hO.2.1.shape
  have HO9:=tH (hO.e HAO.out.now HAO.out.cl HAO.out.jb)
  clear hO
  unfold poV
  go_wp2
  exact⟨xE,_,_,_,_,rfl,HO9.out⟩
 obtain⟨s1,s2,s3,s4,rfl,hsP⟩:=hK
 clear hsP w1
 apply YReg.val (.bool true)
 case h =>
  intro w' hw' hF'
  obtain⟨X',rfl⟩:=hw'
  obtain⟨u1,u2,u3,u4,hu,hq1⟩:=hF'.get 35 (p:=(kAct9 AP AI AQ,.agg #[.slice i1 AP.clear.length i2,.slice i3 AP.jobs.length i4,(.int .i64 AP.now),(.int .i64 AI),(.int .i64 AQ)])) (by kernel_rfl) (by kernel_rfl)
  obtain⟨v1,v2,v3,v4,hv,hq2⟩:=hF'.get 38 (p:=(kAct9 AP AI AQ,.agg #[.slice s1 AP.clear.length s2,.slice s3 AP.jobs.length s4,(.int .i64 AP.now),(.int .i64 AI),(.int .i64 AQ)])) (by kernel_rfl) (by kernel_rfl)
  obtain⟨⟨rfl,rfl⟩,⟨rfl,rfl⟩⟩:(i1=u1∧i2=u2)∧(i3=u3∧i4=u4):=by simpa [and_assoc] using hu
  obtain⟨⟨rfl,rfl⟩,⟨rfl,rfl⟩⟩:(s1=v1∧s2=v2)∧(s3=v3∧s4=v4):=by simpa [and_assoc] using hv
  have HQ1:=tH hq1
  have HQ2:=tH hq2
  clear hF' hu hv hq1 hq2
  go_wp2_with fail
  refine(lwPools_self AP AI AQ _ _ _ _ _ (HQ1.out.ext xE) (HQ2.out.ext xE) HAR.out).mono ?_
  rintro e _ ⟨rfl,Y1,rfl⟩
  go_wp2
  exact⟨rfl,xE⟩
 case hv=>kernel_rfl
 refine YReg.va (.bool false) ?_
 refine YReg.va (.bool false) ?_
 refine YReg.va (.bool false) ?_
 refine YReg.va (.agg #[(.int .i64 ek),(.int .i64 el),(.int .i64 es),(.int .i64 ea),(.int .i64 eb),(.int .i64 ec)]) ?_
 (apply YReg.val (.bool er);(case h=>(intro w' hw' hF';obtain⟨X',rfl⟩:=hw';have HF':=tH hF';clear hF';go_wp2_with ((go_at_call 37;refine(implEntryRight_any ek el es ea eb ec _).mono ?_;rintro e _ ⟨rfl,Y1,rfl⟩;rw[HER.out]));exact⟨rfl,xE⟩));(case hv=>kernel_rfl))
 refine YReg.va (.agg #[(.int .i64 ek),(.int .i64 el),(.int .i64 es),(.int .i64 ea),(.int .i64 eb),(.int .i64 ec)]) ?_
 (apply YReg.val (.bool er);(case h=>(intro w' hw' hF';obtain⟨X',rfl⟩:=hw';have HF':=tH hF';clear hF';go_wp2_with ((go_at_call 38;refine(specEntryRight_any ek el es ea eb ec _).mono ?_;rintro e _ ⟨rfl,Y1,rfl⟩;rw[HER.out]));exact⟨rfl,xE⟩));(case hv=>kernel_rfl))
 refine YReg.va (.bool false) ?_
 refine YReg.va (.bool false) ?_
 refine YReg.doneN (fun X10 hF=>?_)
 clear hF
 have HRO:Hid R.ok:=tH (by have:=entRd_ok tu;rw[HR9.out] at this;exact this)
 have HRS:Hid (rq=0→entB R=tu):=tH (fun h=>by have:=entRd_same (u:=tu) (by rw[HR9.out];exact h);rw[HR9.out] at this;exact this)
 have HTR:Hid (er=true→entRd t=(⟨ek,⟨el,es⟩,ea,eb,ec⟩,0)):=tH (fun h=>by rw[← HT.out];exact entRd_put (by rw[HER.out];exact h))
 have HTZ:Hid (t.size≤1048576):=tH (by have:=entB_size ⟨ek,⟨el,es⟩,ea,eb,ec⟩;rw[HT.out] at this;omega)
 have HTE:Hid (er=false→t=⟨#[]⟩):=tH (fun h=>by rw[← HT.out];exact entB_no (by rw[HER.out];exact h))
 have HTN:Hid (er=true→4≤t.size):=tH (fun h=>by rw[← HT.out,entB_yes (by rw[HER.out];exact h),ByteArray.size_append,four_size];omega)
 go_wp2_with fail
 go_upto_region 12 with fail
 go_cut [119] from 18 (fun s119 wc=>s119=.bool false∧Ext (W9.plus X10) wc)
 case first =>
  by_cases hrq:rq=0
  ·have HBS:=tH (HRS.out hrq)
   subst hrq
   clear HRS
   cases er
   ·obtain rfl:=HTE.out rfl
    clear HTE HTN HTR HTZ
    (refine wp_region_x 21 (by kernel_rfl) (by kernel_rfl) (by kernel_rfl) ?_;(iterate 21 (apply XReg.step;(case h=>(intro w' hw';obtain⟨X',rfl⟩:=hw';go_wp2_with ((go_at_call 28;refine(implEntryBytes_any R _ HRO.out).mono ?_;rintro e _ ⟨rfl,Y1,rfl⟩;rw[HBS.out]));exact⟨rfl,xE⟩));(case hv=>kernel_rfl)));refine XReg.doneN (fun X=>?_))
    go_wp2
    go_meet
    case rel=>exact⟨rfl,xE⟩
   ·skip
    have HEQ:=tH (HTR.out rfl)
    have hne:t.toList.isEmpty=false:=by
     have h4:=HTN.out rfl
     cases hq:t.toList.isEmpty
     ·rfl
     ·exfalso
      rw[List.isEmpty_iff,toList_data] at hq
      have:=congrArg List.length hq
      simp at this
      rw[this] at h4
      exact absurd h4 (by decide)
    clear HTE HTN HTR
    (refine wp_region_x 21 (by kernel_rfl) (by kernel_rfl) (by kernel_rfl) ?_;(iterate 21 (apply XReg.step;(case h=>(intro w' hw';obtain⟨X',rfl⟩:=hw';go_wp2_with ((first | (go_at_call 28;refine(implEntryBytes_any R _ HRO.out).mono ?_;rintro e _ ⟨rfl,Y1,rfl⟩;rw[HBS.out]) | (go_at_call 30;refine(implEntryRead_any t _ HTZ.out).mono ?_;rintro e _ ⟨rfl,Y1,rfl⟩;rw[HEQ.out];unfold entOV)));exact⟨rfl,xE⟩));(case hv=>kernel_rfl)));refine XReg.doneN (fun X=>?_))
    clear hne
    go_wp2
    go_meet
    case rel=>exact⟨rfl,xE⟩
  ·have hrb:(rq == 0)=false:=by simp[hrq]
   clear hrq HRS HRO
   cases er
   ·obtain rfl:=HTE.out rfl
    clear HTE HTN HTR HTZ
    (refine wp_region_x 21 (by kernel_rfl) (by kernel_rfl) (by kernel_rfl) ?_;(iterate 21 (apply XReg.step;(case h=>(intro w' hw';obtain⟨X',rfl⟩:=hw';go_wp2_with (fail);exact⟨rfl,xE⟩));(case hv=>kernel_rfl)));refine XReg.doneN (fun X=>?_))
    clear hrb
    go_wp2
    go_meet
    case rel=>exact⟨rfl,xE⟩
   ·skip
    have HEQ:=tH (HTR.out rfl)
    have hne:t.toList.isEmpty=false:=by
     have h4:=HTN.out rfl
     cases hq:t.toList.isEmpty
     ·rfl
     ·exfalso
      rw[List.isEmpty_iff,toList_data] at hq
      have:=congrArg List.length hq
      simp at this
      rw[this] at h4
      exact absurd h4 (by decide)
    clear HTE HTN HTR
    (refine wp_region_x 21 (by kernel_rfl) (by kernel_rfl) (by kernel_rfl) ?_;(iterate 21 (apply XReg.step;(case h=>(intro w' hw';obtain⟨X',rfl⟩:=hw';go_wp2_with ((go_at_call 30;refine(implEntryRead_any t _ HTZ.out).mono ?_;rintro e _ ⟨rfl,Y1,rfl⟩;rw[HEQ.out];unfold entOV));exact⟨rfl,xE⟩));(case hv=>kernel_rfl)));refine XReg.doneN (fun X=>?_))
    clear hrb hne
    go_wp2
    go_meet
    case rel=>exact⟨rfl,xE⟩
 case rest =>
  clear HRS HTR HTZ HTE HTN HRO
  obtain⟨rfl,⟨X,rfl⟩⟩:=hcut
  go_upto_region 14 with fail
  by_cases hq:q=0
  case neg =>
   have hqb:(q != 0)=true:=by simp[hq]
   clear hq
   go_wp2
   go_ret
   exact⟨rfl,HX9.out.trans xE⟩
  subst hq
  obtain⟨m,rfl,hm,hPR,hcut,hany,hag⟩:=rep_law HRE.out HSZ.out
  have HPR:=tH hPR
  have HCUT:=tH hcut
  have HANY:=tH hany
  have HAG:=tH hag
  have HM:=tH hm
  clear hm hPR hcut hany hag
  have hw1:wrap64 ((m:Int)+1)=(m:Int)+1:=by have:=HSZ.out;have:=HM.out;unfold wrap64;omega
  go_wp2_with fail
  refine(lwAt_any _ l2 0 ((m:Int)+1) _ (HS2.out.ext rU8_stable (HX9.out.trans xE)) hl2 (by decide)).mono ?_
  rintro e _ ⟨rfl,rfl⟩
  obtain⟨k,hk,hk2⟩:=lwV_nat l2 0 ((m:Int)+1)
  rw[hk]
  have hkm:k≤m:=by omega
  have hks:k≤s.size:=by have:=HM.out;omega
  clear hk hk2 hw1
  obtain⟨P3,n3,h3,hn3,h33⟩:=HANY.out k hkm
  have HR3:=tH h3
  have HR33:=tH h33
  clear h3 h33
  go_wp2_with fail
  refine(implReplay_any _ L (s.extract 0 k) _ (HL9.out.ext rLabS_stable xE) (by have:=HZ.out;omega) (by rw[ByteArray.size_extract];have:=HSZ.out;omega)).mono ?_
  rintro e _ ⟨cv,jv,fc,fj,rfl,⟨XC,rfl⟩,hO⟩
  have hok:=repR_ok L (s.extract 0 k)
  rw[HR3.out] at hO hok ⊢
  obtain⟨c1,d1,rfl⟩:=hO.1.shape
  obtain⟨c2,d2,rfl⟩:=hO.2.1.shape
  have HPC:=tH (hO.e hok.1.1.now hok.1.1.cl hok.1.1.jb)
  have HOK3:=tH hok.1.1
  have HGC:Hid (XReg.GoodK (kAct9 P3 (n3:Int) 0)):=tH (kAct9_of hok.1.1 hok.1.2.1)
  have HGX:Hid (XReg.GoodK (kAct9 P (m:Int) 0)):=tH (by have h:=repR_ok L s;rw[HRE.out] at h;exact kAct9_of h.1.1 h.1.2.1)
  have HGC2:Hid (XReg.GoodK (kPl9 P3)):=tH (kPl9_of hok.1.1 hok.1.2.1)
  have HGX2:Hid (XReg.GoodK (kPl9 P)):=tH (by have h:=repR_ok L s;rw[HRE.out] at h;exact kPl9_of h.1.1 h.1.2.1)
  clear hO hok
  unfold poV
  go_upto_region 17 with fail
  refine gen_world (fun WD hW=>?_)
  have HXD:=tH (show Ext w WD by rw[hW];exact HX9.out.trans xE)
  have HLD:=tH (show SlR WD 1 rLabS _ L by rw[hW];exact HL9.out.ext rLabS_stable xE)
  have HPXD:=tH (show ePool WD _ P by rw[hW];exact HPX9.out.ext xE)
  have HPCD:=tH (show ePool WD _ P3 by rw[hW];exact HPC.out.ext xE)
  have HBXD:=tH (show Blk WD bX _ _ by rw[hW];exact HBX.out.ext xE)
  have HBED:=tH (show Blk WD bE _ _ by rw[hW];exact HBE.out.ext xE)
  obtain⟨bC,hbC⟩:∃ bC,(((W9.plus X10).plus X).plus XC).heap.size=bC:=⟨_,rfl⟩
  have HBCD:=tH (show Blk WD bC [.slice c1 P3.clear.length d1,.slice c2 P3.jobs.length d2,(.int .i64 P3.now),(.int .i64 (n3:Int)),(.int .i64 0)] 54 by rw[hW];exact Blk.new (cs:=#[.slice c1 P3.clear.length d1,.slice c2 P3.jobs.length d2,(.int .i64 P3.now),(.int .i64 (n3:Int)),(.int .i64 0)]) hbC.symm)
  simp only[World.size_plus] at hbC
  rw[hbC]
  clear hW hbC x0 x1 x2 x3 x4 xo HPX9 HPC HL9
  have hnm:decide (m < n3)=false:=decide_eq_false (by omega)
  have hns:n3≤s.size:=by omega
  have hms:m≤s.size:=HM.out
  have hfp:∀ (a b c d e:Value) w,(Instr.field 54 (.agg #[a,b,c,d,e]) 0).run Tryz.prog w=.ok (.agg #[a,b,c]) w:=fun a b c d e w=>by kernel_rfl
  have zc0:WD.cell? ⟨bC,0,none⟩=some (.slice c1 P3.clear.length d1):=HBCD.out.cell 0
  have zc1:WD.cell? ⟨bC,1,none⟩=some (.slice c2 P3.jobs.length d2):=HBCD.out.cell 1
  have zc2:WD.cell? ⟨bC,2,none⟩=some ((.int .i64 P3.now)):=HBCD.out.cell 2
  have zc3:WD.cell? ⟨bC,3,none⟩=some ((.int .i64 (n3:Int))):=HBCD.out.cell 3
  have zc4:WD.cell? ⟨bC,4,none⟩=some ((.int .i64 0)):=HBCD.out.cell 4
  have zco:=HBCD.out.old
  have zx0:WD.cell? ⟨bX,0,none⟩=some (.slice xa P.clear.length xc):=HBXD.out.cell 0
  have zx1:WD.cell? ⟨bX,1,none⟩=some (.slice xb P.jobs.length xd):=HBXD.out.cell 1
  have zx2:WD.cell? ⟨bX,2,none⟩=some ((.int .i64 P.now)):=HBXD.out.cell 2
  have zx3:WD.cell? ⟨bX,3,none⟩=some ((.int .i64 (m:Int))):=HBXD.out.cell 3
  have zx4:WD.cell? ⟨bX,4,none⟩=some ((.int .i64 0)):=HBXD.out.cell 4
  have zxo:=HBXD.out.old
  (refine wp_region_y 36 [(fun u _=>u=(.pointer (some ⟨bC,4,none⟩))),(fun u _=>u=((.int .i64 0))),(fun u _=>u=(.bool false)),(fun u _=>u=(.bool false)),(fun u _=>u=(.pointer (some ⟨bC,3,none⟩))),(fun u _=>u=((.int .i64 (n3:Int)))),(fun u _=>u=(.pointer (some ⟨bX,3,none⟩))),(fun u _=>u=((.int .i64 (m:Int)))),(fun u _=>u=(.bool false)),(fun u _=>u=(.bool false)),(fun u _=>u=(.bool false)),(fun u _=>u=(.slice ca L.length cc)),(fun u _=>u=(.string s)),(fun u _=>u=(.pointer (some ⟨bC,3,none⟩))),(fun u _=>u=((.int .i64 (n3:Int)))),(fun u _=>u=(.string (s.extract 0 n3))),kAct9 P3 (n3:Int) 0,kPl9 P3,(fun u _=>u=(.pointer (some ⟨bC,0,none⟩))),(fun u _=>u=(.agg #[.slice c1 P3.clear.length d1,.slice c2 P3.jobs.length d2,(.int .i64 P3.now)])),(fun u _=>u=(.bool true)),(fun u _=>u=(.bool false)),(fun u _=>u=(.bool false)),(fun u _=>u=(.bool false)),(fun u _=>u=(.slice ca L.length cc)),(fun u _=>u=(.string s)),(fun u _=>u=(.pointer (some ⟨bX,3,none⟩))),(fun u _=>u=((.int .i64 (m:Int)))),(fun u _=>u=(.string (s.extract 0 m))),kAct9 P (m:Int) 0,kPl9 P,(fun u _=>u=(.pointer (some ⟨bX,0,none⟩))),(fun u _=>u=(.agg #[.slice xa P.clear.length xc,.slice xb P.jobs.length xd,(.int .i64 P.now)])),(fun u _=>u=(.bool true)),(fun u _=>u=(.bool false)),(fun u _=>u=(.bool false))] (by kernel_rfl) (by kernel_rfl) (by kernel_rfl) rfl ?_ (by (repeat' (first | exact trivial | exact XReg.GoodK.same _ default | refine And.intro ?_ ?_));all_goals (first | exact HGC.out | exact HGX.out | exact HGC2.out | exact HGX2.out)))
  refine YReg.va (.pointer (some ⟨bC,4,none⟩)) ?_
  refine YReg.va ((.int .i64 0)) ?_
  refine YReg.va (.bool false) ?_
  refine YReg.va (.bool false) ?_
  refine YReg.va (.pointer (some ⟨bC,3,none⟩)) ?_
  refine YReg.va ((.int .i64 (n3:Int))) ?_
  refine YReg.va (.pointer (some ⟨bX,3,none⟩)) ?_
  refine YReg.va ((.int .i64 (m:Int))) ?_
  refine YReg.va (.bool false) ?_
  refine YReg.va (.bool false) ?_
  refine YReg.va (.bool false) ?_
  refine YReg.va (.slice ca L.length cc) ?_
  refine YReg.va (.string s) ?_
  refine YReg.va (.pointer (some ⟨bC,3,none⟩)) ?_
  refine YReg.va ((.int .i64 (n3:Int))) ?_
  refine YReg.va (.string (s.extract 0 n3)) ?_
  refine YReg.kind (fun w' hw' hF'=>?_) (fun v w1 hK=>?_)
  ·obtain⟨X',rfl⟩:=hw'
   clear hF'
   go_wp2_with fail
   refine(implReplay_any _ L (s.extract 0 n3) _ (HLD.out.ext rLabS_stable xE) (by have:=HZ.out;omega) (by rw[ByteArray.size_extract];have:=HSZ.out;omega)).mono ?_
   rintro e _ ⟨cv,jv,fc,fj,rfl,⟨Y1,rfl⟩,hO⟩
   rw[HR33.out] at hO ⊢
   obtain⟨e1,f1,rfl⟩:=hO.1.shape
   obtain⟨e2,f2,rfl⟩:=hO.2.1.shape
   have HO9:=tH (hO.e HOK3.out.now HOK3.out.cl HOK3.out.jb)
   clear hO
   unfold poV
   go_wp2
   exact⟨xE,_,_,_,_,rfl,HO9.out⟩
  obtain⟨i1,i2,i3,i4,rfl,hiP⟩:=hK
  clear hiP w1
  refine YReg.kind (fun w' hw' hF'=>?_) (fun v w1 hK=>?_)
  ·obtain⟨X',rfl⟩:=hw'
   obtain⟨u1,u2,u3,u4,hu,hq1⟩:=hF'.get 16 (p:=(kAct9 P3 (n3:Int) 0,.agg #[.slice i1 P3.clear.length i2,.slice i3 P3.jobs.length i4,(.int .i64 P3.now),(.int .i64 (n3:Int)),(.int .i64 0)])) (by kernel_rfl) (by kernel_rfl)
   obtain⟨⟨rfl,rfl⟩,⟨rfl,rfl⟩⟩:(i1=u1∧i2=u2)∧(i3=u3∧i4=u4):=by simpa [and_assoc] using hu
   have HQ1:=tH hq1
   clear hF' hu hq1
   go_wp2
   exact⟨xE,_,_,_,_,rfl,HQ1.out.ext xE⟩
  obtain⟨i5,i6,i7,i8,rfl,hiP⟩:=hK
  clear hiP w1
  refine YReg.va (.pointer (some ⟨bC,0,none⟩)) ?_
  refine YReg.va (.agg #[.slice c1 P3.clear.length d1,.slice c2 P3.jobs.length d2,(.int .i64 P3.now)]) ?_
  apply YReg.val (.bool true)
  case h =>
   intro w' hw' hF'
   obtain⟨X',rfl⟩:=hw'
   obtain⟨u1,u2,u3,u4,hu,hq1⟩:=hF'.get 17 (p:=(kPl9 P3,.agg #[.slice i5 P3.clear.length i6,.slice i7 P3.jobs.length i8,(.int .i64 P3.now)])) (by kernel_rfl) (by kernel_rfl)
   obtain⟨⟨rfl,rfl⟩,⟨rfl,rfl⟩⟩:(i5=u1∧i6=u2)∧(i7=u3∧i8=u4):=by simpa [and_assoc] using hu
   have HQ1:=tH hq1
   clear hF' hu hq1
   go_wp2_with fail
   refine(lwPool_self P3 _ _ _ (HQ1.out.ext xE) (HPCD.out.ext xE)).mono ?_
   rintro e _ ⟨rfl,Y1,rfl⟩
   go_wp2
   exact⟨rfl,xE⟩
  case hv=>kernel_rfl
  refine YReg.va (.bool false) ?_
  refine YReg.va (.bool false) ?_
  refine YReg.va (.bool false) ?_
  refine YReg.va (.slice ca L.length cc) ?_
  refine YReg.va (.string s) ?_
  refine YReg.va (.pointer (some ⟨bX,3,none⟩)) ?_
  refine YReg.va ((.int .i64 (m:Int))) ?_
  refine YReg.va (.string (s.extract 0 m)) ?_
  refine YReg.kind (fun w' hw' hF'=>?_) (fun v w1 hK=>?_)
  ·obtain⟨X',rfl⟩:=hw'
   clear hF'
   go_wp2_with fail
   refine(implReplay_any _ L (s.extract 0 m) _ (HLD.out.ext rLabS_stable xE) (by have:=HZ.out;omega) (by rw[ByteArray.size_extract];have:=HSZ.out;omega)).mono ?_
   rintro e _ ⟨cv,jv,fc,fj,rfl,⟨Y1,rfl⟩,hO⟩
   rw[HCUT.out] at hO ⊢
   obtain⟨e1,f1,rfl⟩:=hO.1.shape
   obtain⟨e2,f2,rfl⟩:=hO.2.1.shape
   have HO9:=tH (hO.e HOK.out.now HOK.out.cl HOK.out.jb)
   clear hO
   unfold poV
   go_wp2
   exact⟨xE,_,_,_,_,rfl,HO9.out⟩
  obtain⟨j1,j2,j3,j4,rfl,hjP⟩:=hK
  clear hjP w1
  refine YReg.kind (fun w' hw' hF'=>?_) (fun v w1 hK=>?_)
  ·obtain⟨X',rfl⟩:=hw'
   obtain⟨u1,u2,u3,u4,hu,hq1⟩:=hF'.get 29 (p:=(kAct9 P (m:Int) 0,.agg #[.slice j1 P.clear.length j2,.slice j3 P.jobs.length j4,(.int .i64 P.now),(.int .i64 (m:Int)),(.int .i64 0)])) (by kernel_rfl) (by kernel_rfl)
   obtain⟨⟨rfl,rfl⟩,⟨rfl,rfl⟩⟩:(j1=u1∧j2=u2)∧(j3=u3∧j4=u4):=by simpa [and_assoc] using hu
   have HQ1:=tH hq1
   clear hF' hu hq1
   go_wp2
   exact⟨xE,_,_,_,_,rfl,HQ1.out.ext xE⟩
  obtain⟨j5,j6,j7,j8,rfl,hjP⟩:=hK
  clear hjP w1
  refine YReg.va (.pointer (some ⟨bX,0,none⟩)) ?_
  refine YReg.va (.agg #[.slice xa P.clear.length xc,.slice xb P.jobs.length xd,(.int .i64 P.now)]) ?_
  apply YReg.val (.bool true)
  case h =>
   intro w' hw' hF'
   obtain⟨X',rfl⟩:=hw'
   obtain⟨u1,u2,u3,u4,hu,hq1⟩:=hF'.get 30 (p:=(kPl9 P,.agg #[.slice j5 P.clear.length j6,.slice j7 P.jobs.length j8,(.int .i64 P.now)])) (by kernel_rfl) (by kernel_rfl)
   obtain⟨⟨rfl,rfl⟩,⟨rfl,rfl⟩⟩:(j5=u1∧j6=u2)∧(j7=u3∧j8=u4):=by simpa [and_assoc] using hu
   have HQ1:=tH hq1
   clear hF' hu hq1
   go_wp2_with fail
   refine(lwPool_self P _ _ _ (HQ1.out.ext xE) (HPXD.out.ext xE)).mono ?_
   rintro e _ ⟨rfl,Y1,rfl⟩
   go_wp2
   exact⟨rfl,xE⟩
  case hv=>kernel_rfl
  refine YReg.va (.bool false) ?_
  refine YReg.va (.bool false) ?_
  refine YReg.doneN (fun X17 hF=>?_)
  clear hF hfp hnm hns zc0 zc1 zc2 zc3 zc4 zco HBCD HPCD HGC HGX HGC2 HGX2 HR33 HOK3 HR3
  have ze0:WD.cell? ⟨bE,0,none⟩=some (.int .i64 ek):=HBED.out.cell 0
  have ze1:WD.cell? ⟨bE,1,none⟩=some (.int .i64 el):=HBED.out.cell 1
  have ze2:WD.cell? ⟨bE,2,none⟩=some (.int .i64 es):=HBED.out.cell 2
  have ze3:WD.cell? ⟨bE,3,none⟩=some (.int .i64 ea):=HBED.out.cell 3
  have ze4:WD.cell? ⟨bE,4,none⟩=some (.int .i64 eb):=HBED.out.cell 4
  have ze5:WD.cell? ⟨bE,5,none⟩=some (.int .i64 ec):=HBED.out.cell 5
  have zeo:=HBED.out.old
  go_wp2_with fail
  refine(implAct_any P (P.val (.slice xa P.clear.length xc) (.slice xb P.jobs.length xd)) ⟨ek,⟨el,es⟩,ea,eb,ec⟩ _ (HPXD.out.ext xE) (right_fits HPR.out) HE.out).mono ?_
  rintro e _ ⟨cv,jv,fc,fj,rfl,⟨XA,rfl⟩,hO⟩
  have hao:=actR_ok9 P ⟨ek,⟨el,es⟩,ea,eb,ec⟩
  have hag:=HAG.out ⟨ek,⟨el,es⟩,ea,eb,ec⟩
  obtain⟨⟨AP2,AI2,AQ2⟩,haq⟩:∃ z,actR P ⟨ek,⟨el,es⟩,ea,eb,ec⟩=z:=⟨_,rfl⟩
  rw[haq] at hO hao hag ⊢
  obtain⟨k1,k2,rfl⟩:=hO.1.shape
  obtain⟨k3,k4,rfl⟩:=hO.2.1.shape
  have HPZ:=tH (hO.e hao.1.now hao.1.cl hao.1.jb)
  have HAGZ:=tH hag
  have HKZ:=tH hao.1
  have HKF:=tH hao.2.1
  clear hO hao hag haq
  unfold poV
  go_upto_region 20 with fail
  refine gen_world (fun WF hW=>?_)
  have HXF:=tH (show Ext w WF by rw[hW];exact HXD.out.trans xE)
  have HLF:=tH (show SlR WF 1 rLabS _ L by rw[hW];exact HLD.out.ext rLabS_stable xE)
  have HPZF:=tH (show ePool WF _ AP2 by rw[hW];exact HPZ.out.ext xE)
  have HBXF:=tH (show Blk WF bX _ _ by rw[hW];exact HBXD.out.ext xE)
  obtain⟨bZ,hbZ⟩:∃ bZ,((WD.plus X17).plus XA).heap.size=bZ:=⟨_,rfl⟩
  have HBZF:=tH (show Blk WF bZ [.slice k1 AP2.clear.length k2,.slice k3 AP2.jobs.length k4,(.int .i64 AP2.now),(.int .i64 AI2),(.int .i64 AQ2)] 32 by rw[hW];exact Blk.new (cs:=#[.slice k1 AP2.clear.length k2,.slice k3 AP2.jobs.length k4,(.int .i64 AP2.now),(.int .i64 AI2),(.int .i64 AQ2)]) hbZ.symm)
  simp only[World.size_plus] at hbZ
  rw[hbZ]
  clear hW hbZ zx0 zx1 zx2 zx3 zx4 zxo ze0 ze1 ze2 ze3 ze4 ze5 zeo HPZ HLD HXD HPXD HBXD HBED
  have zz4:WF.cell? ⟨bZ,4,none⟩=some (.int .i64 AQ2):=HBZF.out.cell 4
  have zzo:=HBZF.out.old
  by_cases hq2:AQ2=0
  case neg =>
   have hqb:(AQ2 != 0)=true:=by simp[hq2]
   clear hq2
   go_wp2
   go_ret
   exact⟨rfl,HXF.out.trans xE⟩
  subst hq2
  obtain⟨z2,hz2⟩:=HAGZ.out rfl
  rw[HT.out] at hz2
  have HRR:=tH hz2
  have HGK:Hid (XReg.GoodK (kOutO 0 AP2 z2 0)):=tH (kOutO_good HKF.out)
  have hts:(t).size≤64:=by have:=entB_size ⟨ek,⟨el,es⟩,ea,eb,ec⟩;rw[HT.out] at this;exact this
  have hc2:(putText t).size≤74:=putText_size hts
  have hc1:(s.extract 0 m).size≤1000:=by rw[ByteArray.size_extract];have:=HSZ.out;omega
  have HC12:=tH (show (s.extract 0 m++putText t).size≤1048576 by rw[ByteArray.size_append];omega)
  have HTS:=tH (show (t).size≤maxLen by unfold maxLen;omega)
  clear hz2 hts HAGZ HAG
  go_upto_region 22 with fail
  have zx3:WF.cell? ⟨bX,3,none⟩=some (.int .i64 (m:Int)):=HBXF.out.cell 3
  have zxo:=HBXF.out.old
  clear zz4 zzo
  (refine wp_region_y 10 [(fun u _=>u=(.slice ca L.length cc)),(fun u _=>u=(.string s)),(fun u _=>u=(.pointer (some ⟨bX,3,none⟩))),(fun u _=>u=(.int .i64 (m:Int))),(fun u _=>u=(.string (s.extract 0 m))),(fun u _=>u=(.string t)),(fun u _=>u=(.string (putText t))),(fun u _=>u=(.string (s.extract 0 m++putText t))),kOutO 0 AP2 z2 0,kBox WF.heap.size [.slice none 0 0,.slice none 0 0,(.int .i64 0),(.int .i64 0),(.int .i64 0)] 54] (by kernel_rfl) (by kernel_rfl) (by kernel_rfl) rfl ?_ (by (repeat' (first | exact trivial | exact XReg.GoodK.same _ default | refine And.intro ?_ ?_));all_goals (first | exact HGK.out | exact kBox_good _ _ _)))
  refine YReg.va (.slice ca L.length cc) ?_
  refine YReg.va (.string s) ?_
  refine YReg.va (.pointer (some ⟨bX,3,none⟩)) ?_
  refine YReg.va (.int .i64 (m:Int)) ?_
  refine YReg.va (.string (s.extract 0 m)) ?_
  refine YReg.va (.string t) ?_
  (apply YReg.val (.string (putText t));(case h=>(intro w' hw' hF';obtain⟨X',rfl⟩:=hw';have HF':=tH hF';clear hF';go_wp2_with ((go_at_call 40;refine(specPutText_any t _ HTS.out).mono ?_;rintro e _ ⟨rfl,Y1,rfl⟩));exact⟨rfl,xE⟩));(case hv=>kernel_rfl))
  refine YReg.va (.string (s.extract 0 m++putText t)) ?_
  refine YReg.kind (fun w' hw' hF'=>?_) (fun v w1 hK=>?_)
  ·obtain⟨X',rfl⟩:=hw'
   clear hF'
   go_wp2_with fail
   refine(implReplay_any _ L (s.extract 0 m++putText t) _ (HLF.out.ext rLabS_stable xE) (by have:=HZ.out;omega) HC12.out).mono ?_
   rintro e _ ⟨cv,jv,fc,fj,rfl,⟨Y1,rfl⟩,hO⟩
   rw[HRR.out] at hO ⊢
   obtain⟨e1,f1,rfl⟩:=hO.1.shape
   obtain⟨e2,f2,rfl⟩:=hO.2.1.shape
   have HO9:=tH (hO.mono (Nat.zero_le _))
   clear hO
   unfold poV
   go_wp2
   exact⟨xE,_,_,_,_,_,_,rfl,HO9.out⟩
  obtain⟨y1,y2,y3,y4,y5,y6,rfl,-⟩:=hK
  unfold poV
  clear w1
  refine YReg.kind (fun w' hw' hF'=>?_) (fun v w1 hK=>?_)
  ·obtain⟨X',rfl⟩:=hw'
   clear hF'
   go_wp2_with fail
   refine⟨xE,_,rfl,?_,?_⟩
   ·first | omega | (simp only[World.size_plus,World.size_alloc];omega)
   ·have h:=heap_alloc_new (WF.plus X') (.cells (List.toArray [.slice none 0 0,.slice none 0 0,(.int .i64 0),(.int .i64 0),(.int .i64 0)]) 54)
    simp only[World.size_plus] at h
    exact h
  obtain⟨bO,rfl,-,-⟩:=hK
  clear w1
  refine YReg.done1 (fun X22 hF=>?_)
  obtain⟨hgB,hbx⟩:=kBox_g (hF 9 (kBox WF.heap.size [.slice none 0 0,.slice none 0 0,(.int .i64 0),(.int .i64 0),(.int .i64 0)] 54,.pointer (some ⟨bO,0,none⟩)) (by kernel_rfl))
  obtain⟨u1,u2,u3,u4,fc9,fj9,hu,hO⟩:=hF 8 (kOutO 0 AP2 z2 0,.agg #[.slice y1 AP2.clear.length y2,.slice y3 AP2.jobs.length y4,(.int .i64 AP2.now),(.int .i64 z2),(.int .i64 0)]) (by kernel_rfl)
  obtain⟨⟨rfl,rfl⟩,⟨rfl,rfl⟩⟩:(y1=u1∧y2=u2)∧(y3=u3∧y4=u4):=by simpa [poV,and_assoc] using hu
  clear hF hu
  generalize hWX:WF.plus X22=WX at hbx hO ⊢
  have hexX:Ext WF WX:=by rw[← hWX];exact xE
  have hb9:Blk WX bO [.slice none 0 0,.slice none 0 0,(.int .i64 0),(.int .i64 0),(.int .i64 0)] 54:=hbx
  have e0:WX.cell? ⟨bO,0,none⟩=some (.slice none 0 0):=hb9.cell 0
  have e1:WX.cell? ⟨bO,1,none⟩=some (.slice none 0 0):=hb9.cell 1
  have e2:WX.cell? ⟨bO,2,none⟩=some (.int .i64 0):=hb9.cell 2
  have e3:WX.cell? ⟨bO,3,none⟩=some (.int .i64 0):=hb9.cell 3
  have e4:WX.cell? ⟨bO,4,none⟩=some (.int .i64 0):=hb9.cell 4
  have eo:=hb9.old
  have ef:=hb9.fz
  have HB9:=tH hb9
  have HEX:=tH hexX
  have HGB:=tH hgB
  have HO22:=tH hO
  clear hbx hb9 hexX hgB hWX hO zx3 zxo hc1 hc2
  go_upto_region 23 with fail
  refine gen_world (fun WG hW=>?_)
  have hC:Chg [bO] WX WG:=by rw[hW];exact set5_chg9 _ _ _ _ _ _ _
  have HFG:Hid (Ext WF WG):=tH (hC.ext HEX.out (by have:=HGB.out;simpa using this))
  have HXG:=tH (HXF.out.trans HFG.out)
  have HPZG:=tH (HPZF.out.ext HFG.out)
  have HBZG:=tH (HBZF.out.ext HFG.out)
  have HBO:=tH (show Blk WG bO [.slice y1 AP2.clear.length y2,.slice y3 AP2.jobs.length y4,(.int .i64 AP2.now),(.int .i64 z2),(.int .i64 0)] 54 by rw[hW];exact set5_blk9 HB9.out _ _ _ _ _)
  have HPO:=tH ((HO22.out.far hC (ownP_box9 HO22.out HB9.out (by decide) (by decide))).e HKZ.out.now HKZ.out.cl HKZ.out.jb)
  clear hW hC e0 e1 e2 e3 e4 eo ef HB9 HEX HGB HO22 HXF HPZF HBZF HFG
  have o0:WG.cell? ⟨bO,0,none⟩=some (.slice y1 AP2.clear.length y2):=HBO.out.cell 0
  have o1:WG.cell? ⟨bO,1,none⟩=some (.slice y3 AP2.jobs.length y4):=HBO.out.cell 1
  have o2:WG.cell? ⟨bO,2,none⟩=some (.int .i64 AP2.now):=HBO.out.cell 2
  have o4:WG.cell? ⟨bO,4,none⟩=some (.int .i64 0):=HBO.out.cell 4
  have oo:=HBO.out.old
  have p0:WG.cell? ⟨bZ,0,none⟩=some (.slice k1 AP2.clear.length k2):=HBZG.out.cell 0
  have p1:WG.cell? ⟨bZ,1,none⟩=some (.slice k3 AP2.jobs.length k4):=HBZG.out.cell 1
  have p2:WG.cell? ⟨bZ,2,none⟩=some (.int .i64 AP2.now):=HBZG.out.cell 2
  have po:=HBZG.out.old
  go_wp2_with fail
  refine(lwPool_self AP2 _ _ _ (HPO.out.ext xE) (HPZG.out.ext xE)).mono ?_
  rintro e _ ⟨rfl,Y23,rfl⟩
  go_wp2
  go_ret
  exact⟨rfl,HXG.out.trans xE⟩
end Go.Proofs.YtdoeoojjabnboaaGreat
