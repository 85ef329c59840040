/- FnPool's walk (printed by tools/genfp.py out of XFP0.tpl). -/
import Derived.Test.YtdoeoojjabnboaaGreatKDM
import Derived.Test.YtdoeoojjabnboaaGreatKCPG
import Derived.Test.YtdoeoojjabnboaaGreatKPX
import Derived.Test.YtdoeoojjabnboaaGreatKVG
import Derived.Test.YtdoeoojjabnboaaGreatKVH
import Derived.Test.YtdoeoojjabnboaaGreatKAG
set_option maxRecDepth 100000
set_option linter.unusedVariables false
namespace Go.Proofs.YtdoeoojjabnboaaGreat
open Go.RowKit Go.Fin1
theorem subR_ok8 (p:Pl) (x:Lab) (need long prio:Int):PlOk (subR p x need long prio).1∧PlFit (subR p x need long prio).1:=by
 by_cases h:(subR p x need long prio).2.2=0
 ·exact⟨(right_ok (subR_right h).2).1,(right_ok (subR_right h).2).2.1⟩
 ·have:(subR p x need long prio).1=zPl:=by
   unfold subR at h ⊢
   split
   ·rfl
   ·split
    ·rfl
    ·split
     ·rfl
     ·rename_i a b c;rw[if_neg a,if_neg b,if_neg c] at h;exact absurd rfl h
  rw[this];exact⟨zPl_ok.1,zPl_ok.2.1⟩
theorem chR_ok8 (p:Pl) (x:Lab) (id st:Int):PlOk (chR p x id st).1∧PlFit (chR p x id st).1:=by
 by_cases h:(chR p x id st).2.2=0
 ·exact⟨(right_ok (chR_right h).2).1,(right_ok (chR_right h).2).2.1⟩
 ·have:(chR p x id st).1=zPl:=by
   unfold chR at h ⊢
   split
   ·rfl
   ·split
    ·rfl
    ·split
     ·rfl
     ·rename_i a b c;rw[if_neg a,if_neg b,if_neg c] at h;exact absurd rfl h
  rw[this];exact⟨zPl_ok.1,zPl_ok.2.1⟩
theorem newR_ok8 (l:List (List Lab)):PlOk (newR l).1∧PlFit (newR l).1:=by
 rcases newR_Z l with h | h
 ·exact⟨(right_ok h).1,(right_ok h).2.1⟩
 ·rw[h];exact⟨zPl_ok.1,zPl_ok.2.1⟩
theorem newR_right8 {l:List (List Lab)} (h:(newR l).2=0):poolR (newR l).1=true:=by
 by_cases h4:400 < l.length
 ·rw[newR_long h4] at h;cases h
 ·cases hc:clearR l
  ·rw[newR_no h4 hc] at h;cases h
  ·rw[newR_yes h4 hc];exact newP_right hc
def kAct8 (p:Pl) (id q:Int):XReg.Kind:=fun v w=>∃ a b c d,v=.agg #[.slice a p.clear.length b,.slice c p.jobs.length d,(.int .i64 p.now),(.int .i64 id),(.int .i64 q)]∧ePool w (p.val (.slice a p.clear.length b) (.slice c p.jobs.length d)) p
theorem kAct8_of {p:Pl} {id q:Int} (h:PlOk p) (hf:PlFit p):XReg.GoodK (kAct8 p id q):=by
 obtain⟨-,v',w',hk⟩:=kOutO_good (B:=0) (id:=id) (c:=q) hf
 obtain⟨a,c,b,d,_,_,-,hO⟩:=hk
 exact⟨fun _ _ _ hx ⟨a,b,c,d,hv,h⟩=>⟨a,b,c,d,hv,h.ext hx⟩,_,w',a,c,b,d,rfl,hO.e h.now h.cl h.jb⟩
def kJv8 (jl jz jid jn jlo jp js:Int) (l:Nat):XReg.Kind:=fun v _=>∃ a c,v=.agg #[(.int .i64 jl),(.int .i64 jz),(.int .i64 jid),(.int .i64 jn),(.int .i64 jlo),(.int .i64 jp),(.int .i64 1),(.int .i64 js),.slice a l c]
theorem kJv8_good {jl jz jid jn jlo jp js:Int} {l:Nat}:XReg.GoodK (kJv8 jl jz jid jn jlo jp js l):=⟨fun _ _ _ _ h=>h,_,default,none,0,rfl⟩
theorem ba_beq8 (a b:ByteArray):(a.toList == b.toList)=decide (a=b):=by
 by_cases h:a=b
 ·subst h;simp
 ·rw[decide_eq_false h,beq_eq_false_iff_ne]
  intro e
  rw[ByteArray.toList_eq,ByteArray.toList_eq] at e
  exact h (ByteArray.ext (Array.ext' e))
set_option maxHeartbeats 3200000 in
theorem fnPool_any (a:Arg (List Int)) (b:Arg (List Int)) (w:World) (ha:SlR w 1 rU8 a.v a.x) (hb:SlR w 1 rU8 b.v b.x) :
  Calls Tryz.prog 3 #[a.v,b.v] w fun e w'=>e=.returned (.bool true)∧Ext w w':=by
 obtain⟨v,l⟩:=a
 obtain⟨v2,l2⟩:=b
 change SlR w 1 rU8 v l at ha
 change SlR w 1 rU8 v2 l2 at hb
 change Calls Tryz.prog 3 #[v,v2] w _
 obtain⟨va,vc,rfl⟩:=ha.len
 obtain⟨va2,vc2,rfl⟩:=hb.len
 have HS:=tH ha
 have HS2:=tH hb
 clear ha hb
 by_cases hl:l.length≤1048576
 case neg =>
  have hlb:decide ((1048576:Int) < (l.length:Int))=true:=decide_eq_true (by omega)
  go_enter Tryz.func3,Tryz.ntmps3
  go_wp2
  go_ret
  exact⟨rfl,xE⟩
 have hlb:decide ((1048576:Int) < (l.length:Int))=false:=decide_eq_false (by omega)
 by_cases hl2:l2.length≤1048576
 case neg =>
  have hlb2:decide ((1048576:Int) < (l2.length:Int))=true:=decide_eq_true (by omega)
  go_enter Tryz.func3,Tryz.ntmps3
  go_wp2
  go_ret
  exact⟨rfl,xE⟩
 have hlb2:decide ((1048576:Int) < (l2.length:Int))=false:=decide_eq_false (by omega)
 go_enter Tryz.func3,Tryz.ntmps3
 go_wp2_with fail
 refine(drawSubmit_any _ l _ (HS.out.ext rU8_stable xE) hl).mono ?_
 rintro e w2 ⟨p,pa,pc,pb,pd,⟨xl,xz⟩,n1,n2,n3,rfl,hx,hP,hB,hxo,h1,h2,h3⟩
 have HX2:=tH hx
 have HP2:=tH hP
 have HFp:=tH hB.fits
 have HXO:=tH hxo
 have HN:=tH (And.intro h1 (And.intro h2 h3))
 clear hx hP hB hxo h1 h2 h3
 go_upto_region 4 with fail
 refine gen_world (fun W3 hW=>?_)
 have HX3:=tH (show Ext w W3 by rw[hW];exact HX2.out.trans xE)
 have HP3:=tH (show ePool W3 _ p by rw[hW];exact HP2.out.ext xE)
 have HBP3:=tH (show Blk W3 w2.heap.size [.slice pa p.clear.length pc,.slice pb p.jobs.length pd,(.int .i64 p.now)] 26 by rw[hW];exact(Blk.new (w:=w2) (cs:=#[.slice pa p.clear.length pc,.slice pb p.jobs.length pd,(.int .i64 p.now)]) rfl).ext xE)
 have HBL3:=tH (show Blk W3 (w2.heap.size+1) [(.int .i64 xl),(.int .i64 xz)] 28 by rw[hW];exact Blk.new (cs:=#[(.int .i64 xl),(.int .i64 xz)]) (by simp))
 clear hW HX2 HP2
 obtain⟨bL,hbL⟩:∃ bL,w2.heap.size+1=bL:=⟨_,rfl⟩
 rw[hbL] at HBL3 ⊢
 clear hbL
 generalize w2.heap.size=bP at HBP3 ⊢
 have zp0:W3.cell? ⟨bP,0,none⟩=some (.slice pa p.clear.length pc):=HBP3.out.cell 0
 have zp1:W3.cell? ⟨bP,1,none⟩=some (.slice pb p.jobs.length pd):=HBP3.out.cell 1
 have zp2:W3.cell? ⟨bP,2,none⟩=some ((.int .i64 p.now)):=HBP3.out.cell 2
 have zpo:=HBP3.out.old
 have zl0:W3.cell? ⟨bL,0,none⟩=some ((.int .i64 xl)):=HBL3.out.cell 0
 have zl1:W3.cell? ⟨bL,1,none⟩=some ((.int .i64 xz)):=HBL3.out.cell 1
 have zlo:=HBL3.out.old
 go_wp2_with fail
 refine(implSubmit_any p (p.val (.slice pa p.clear.length pc) (.slice pb p.jobs.length pd)) ⟨xl,xz⟩ n1 n2 n3 _ (HP3.out.ext xE) HFp.out HXO.out HN.out.1 HN.out.2.1 HN.out.2.2).mono ?_
 rintro e w4 ⟨cv,jv,fc,fj,rfl,hx,hO⟩
 have hao:=subR_ok8 p ⟨xl,xz⟩ n1 n2 n3
 have hsv:(subR p ⟨xl,xz⟩ n1 n2 n3).2.2=0→SubV p (subR p ⟨xl,xz⟩ n1 n2 n3).1 ⟨xl,xz⟩ (subR p ⟨xl,xz⟩ n1 n2 n3).2.1:=fun h=>subR_view h
 obtain⟨⟨SP,SI,SQ⟩,hsq⟩:∃ z,subR p ⟨xl,xz⟩ n1 n2 n3=z:=⟨_,rfl⟩
 rw[hsq] at hO hao hsv ⊢
 obtain⟨sa,sc,rfl⟩:=hO.1.shape
 obtain⟨sb,sd,rfl⟩:=hO.2.1.shape
 have HSE:=tH hsq
 have HSO:=tH hao.1
 have HSV:=tH hsv
 have HGS:=tH (kAct8_of (id:=SI) (q:=SQ) hao.1 hao.2)
 have HPS4:=tH (hO.e hao.1.now hao.1.cl hao.1.jb)
 have HE4:=tH hx
 clear hsq hao hsv hx hO
 unfold poV
 go_upto_region 5 with fail
 refine gen_world (fun W5 hW=>?_)
 have HE5:=tH (show Ext W3 W5 by rw[hW];exact HE4.out.trans xE)
 have HPS5:=tH (show ePool W5 _ SP by rw[hW];exact HPS4.out.ext xE)
 have HBS5:=tH (show Blk W5 w4.heap.size [.slice sa SP.clear.length sc,.slice sb SP.jobs.length sd,(.int .i64 SP.now),(.int .i64 SI),(.int .i64 SQ)] 32 by rw[hW];exact Blk.new (cs:=#[.slice sa SP.clear.length sc,.slice sb SP.jobs.length sd,(.int .i64 SP.now),(.int .i64 SI),(.int .i64 SQ)]) rfl)
 clear hW HE4 HPS4
 clear zp0 zp1 zp2 zpo zl0 zl1 zlo
 generalize w4.heap.size=bS at HBS5 ⊢
 go_wp2_with fail
 refine(drawChange_any _ l2 _ (HS2.out.ext rU8_stable ((HX3.out.trans HE5.out).trans xE)) hl2).mono ?_
 rintro e w6 ⟨q,qa,qc,qb,qd,⟨yl,yz⟩,kid,kst,rfl,hx,hP,hB,hyo,h1,h2⟩
 have HE6:=tH hx
 have HP6:=tH hP
 have HFq:=tH hB.fits
 clear hx hP hB hyo h1 h2
 go_upto_region 6 with fail
 refine gen_world (fun W7 hW=>?_)
 have HE7:=tH (show Ext W5 W7 by rw[hW];exact HE6.out.trans xE)
 have HPQ7:=tH (show ePool W7 _ q by rw[hW];exact HP6.out.ext xE)
 have HBQ7:=tH (show Blk W7 w6.heap.size [.slice qa q.clear.length qc,.slice qb q.jobs.length qd,(.int .i64 q.now)] 26 by rw[hW];exact(Blk.new (w:=w6) (cs:=#[.slice qa q.clear.length qc,.slice qb q.jobs.length qd,(.int .i64 q.now)]) rfl).ext xE)
 have HBM7:=tH (show Blk W7 (w6.heap.size+1) [(.int .i64 yl),(.int .i64 yz)] 28 by rw[hW];exact Blk.new (cs:=#[(.int .i64 yl),(.int .i64 yz)]) (by simp))
 clear hW HE6 HP6
 obtain⟨bM,hbM⟩:∃ bM,w6.heap.size+1=bM:=⟨_,rfl⟩
 rw[hbM] at HBM7 ⊢
 clear hbM
 generalize w6.heap.size=bQ at HBQ7 ⊢
 go_wp2_with fail
 refine(drawAdvance_any _ l _ (HS.out.ext rU8_stable ((HX3.out.trans (HE5.out.trans HE7.out)).trans xE)) hl).mono ?_
 rintro e w8 ⟨d,da,dc,db,dd,rfl,hx,hP,hB⟩
 have HE8:=tH hx
 have HP8:=tH hP
 have HFd:=tH hB.fits
 clear hx hP hB
 go_upto_region 7 with fail
 refine gen_world (fun W9 hW=>?_)
 have HE9:=tH (show Ext W7 W9 by rw[hW];exact HE8.out.trans xE)
 have HPD9:=tH (show ePool W9 (d.val (.slice da d.clear.length dc) (.slice db d.jobs.length dd)) d by rw[hW];exact HP8.out.ext xE)
 have HBD9:=tH (show Blk W9 w8.heap.size [.slice da d.clear.length dc,.slice db d.jobs.length dd,(.int .i64 d.now)] 26 by rw[hW];exact Blk.new (cs:=#[.slice da d.clear.length dc,.slice db d.jobs.length dd,(.int .i64 d.now)]) rfl)
 clear hW HE8 HP8
 generalize w8.heap.size=bD at HBD9 ⊢
 go_wp2_with fail
 refine(drawPoolNew_any _ l2 _ (HS2.out.ext rU8_stable ((HX3.out.trans (HE5.out.trans (HE7.out.trans HE9.out))).trans xE)) hl2).mono ?_
 rintro e w10 ⟨na,nc,L,rfl,hx,hL,hz⟩
 have HE10:=tH (HE9.out.trans hx)
 have HL10:=tH hL
 have HZ:=tH hz
 have HPD10:=tH (HPD9.out.ext hx)
 have HBD10:=tH (HBD9.out.ext hx)
 clear hx hL hz HE9 HPD9 HBD9
 go_wp2_with fail
 refine(drawView_any _ l _ (HS.out.ext rU8_stable ((HX3.out.trans (HE5.out.trans (HE7.out.trans HE10.out))).trans xE)) hl).mono ?_
 rintro e w11 ⟨o,ua,uc,ub,ud,⟨zl,zz⟩,rfl,hx,hP,hB,hzo⟩
 have HE11:=tH hx
 have HP11:=tH hP
 clear hx hP hB hzo
 go_upto_region 9 with fail
 refine gen_world (fun W9 hW=>?_)
 have HE12:=tH (show Ext w10 W9 by rw[hW];exact HE11.out.trans xE)
 have HPU:=tH (show ePool W9 _ o by rw[hW];exact HP11.out.ext xE)
 have HBU:=tH (show Blk W9 w11.heap.size [.slice ua o.clear.length uc,.slice ub o.jobs.length ud,(.int .i64 o.now)] 26 by rw[hW];exact(Blk.new (w:=w11) (cs:=#[.slice ua o.clear.length uc,.slice ub o.jobs.length ud,(.int .i64 o.now)]) rfl).ext xE)
 have HBV:=tH (show Blk W9 (w11.heap.size+1) [(.int .i64 zl),(.int .i64 zz)] 28 by rw[hW];exact Blk.new (cs:=#[(.int .i64 zl),(.int .i64 zz)]) (by simp))
 clear hW HE11 HP11
 obtain⟨bV,hbV⟩:∃ bV,w11.heap.size+1=bV:=⟨_,rfl⟩
 rw[hbV] at HBV ⊢
 clear hbV
 generalize w11.heap.size=bU at HBU ⊢
 have HE79:=tH (HE10.out.trans HE12.out)
 have HE59:=tH (HE7.out.trans HE79.out)
 have HE39:=tH (HE5.out.trans HE59.out)
 have HX9:=tH (HX3.out.trans HE39.out)
 have HPP:=tH (HP3.out.ext HE39.out)
 have HBP:=tH (HBP3.out.ext HE39.out)
 have HBL:=tH (HBL3.out.ext HE39.out)
 have HPS:=tH (HPS5.out.ext HE59.out)
 have HBS:=tH (HBS5.out.ext HE59.out)
 have HPQ:=tH (HPQ7.out.ext HE79.out)
 have HBQ:=tH (HBQ7.out.ext HE79.out)
 have HBM:=tH (HBM7.out.ext HE79.out)
 have HPD:=tH (HPD10.out.ext HE12.out)
 have HBD:=tH (HBD10.out.ext HE12.out)
 have HL:=tH (HL10.out.ext rLabS_stable HE12.out)
 clear HX3 HE5 HE7 HE10 HE12 HE79 HE59 HE39 HP3 HBP3 HBL3 HPS5 HBS5 HPQ7 HBQ7 HBM7 HPD10 HBD10 HL10
 have hao:=chR_ok8 q ⟨yl,yz⟩ kid kst
 have har:(chR q ⟨yl,yz⟩ kid kst).2.2=0→poolR (chR q ⟨yl,yz⟩ kid kst).1=true:=fun h=>(chR_right h).2
 obtain⟨⟨CP,CI,CQ⟩,hce⟩:∃ z,chR q ⟨yl,yz⟩ kid kst=z:=⟨_,rfl⟩
 rw[hce] at hao har
 have HCE:=tH hce
 have HCO:=tH hao.1
 have HCR:=tH har
 have HGC:=tH (kAct8_of (id:=CI) (q:=CQ) hao.1 hao.2)
 clear hao har hce
 have hao:=advR_ok d
 have har:(advR d).2.2=0→poolR (advR d).1=true:=fun h=>advR_right h
 obtain⟨⟨AP,AI,AQ⟩,hce⟩:∃ z,advR d=z:=⟨_,rfl⟩
 rw[hce] at hao har
 have HAE:=tH hce
 have HAO:=tH hao.1
 have HAR:=tH har
 have HGA:=tH (kAct8_of (id:=AI) (q:=AQ) hao.1 hao.2.1)
 clear hao har hce
 have hao:=newR_ok8 L
 have har:(newR L).2=0→poolR (newR L).1=true:=fun h=>newR_right8 h
 obtain⟨⟨NP,NQ⟩,hce⟩:∃ z,newR L=z:=⟨_,rfl⟩
 rw[hce] at hao har
 have HNE:=tH hce
 have HNO:=tH hao.1
 have HNR:=tH har
 have HGN:=tH (kAct8_of (id:=0) (q:=NQ) hao.1 hao.2)
 clear hao har hce
 have HSR:Hid (SQ=0→poolR SP=true):=tH (fun h=>(HSV.out h).new)
 obtain⟨pr,hpr⟩:∃ z,poolR p=z:=⟨_,rfl⟩
 have HPR:=tH hpr
 clear hpr
 obtain⟨tv,htv⟩:∃ z,viewS o ⟨zl,zz⟩=z:=⟨_,rfl⟩
 have HTV:=tH htv
 clear htv
 have zs0:W9.cell? ⟨bS,0,none⟩=some (.slice sa SP.clear.length sc):=HBS.out.cell 0
 have zs1:W9.cell? ⟨bS,1,none⟩=some (.slice sb SP.jobs.length sd):=HBS.out.cell 1
 have zs2:W9.cell? ⟨bS,2,none⟩=some ((.int .i64 SP.now)):=HBS.out.cell 2
 have zs3:W9.cell? ⟨bS,3,none⟩=some ((.int .i64 SI)):=HBS.out.cell 3
 have zs4:W9.cell? ⟨bS,4,none⟩=some ((.int .i64 SQ)):=HBS.out.cell 4
 have zso:=HBS.out.old
 have zp0:W9.cell? ⟨bP,0,none⟩=some (.slice pa p.clear.length pc):=HBP.out.cell 0
 have zp1:W9.cell? ⟨bP,1,none⟩=some (.slice pb p.jobs.length pd):=HBP.out.cell 1
 have zp2:W9.cell? ⟨bP,2,none⟩=some ((.int .i64 p.now)):=HBP.out.cell 2
 have zpo:=HBP.out.old
 have zl0:W9.cell? ⟨bL,0,none⟩=some ((.int .i64 xl)):=HBL.out.cell 0
 have zl1:W9.cell? ⟨bL,1,none⟩=some ((.int .i64 xz)):=HBL.out.cell 1
 have zlo:=HBL.out.old
 have zq0:W9.cell? ⟨bQ,0,none⟩=some (.slice qa q.clear.length qc):=HBQ.out.cell 0
 have zq1:W9.cell? ⟨bQ,1,none⟩=some (.slice qb q.jobs.length qd):=HBQ.out.cell 1
 have zq2:W9.cell? ⟨bQ,2,none⟩=some ((.int .i64 q.now)):=HBQ.out.cell 2
 have zqo:=HBQ.out.old
 have zm0:W9.cell? ⟨bM,0,none⟩=some ((.int .i64 yl)):=HBM.out.cell 0
 have zm1:W9.cell? ⟨bM,1,none⟩=some ((.int .i64 yz)):=HBM.out.cell 1
 have zmo:=HBM.out.old
 have zd0:W9.cell? ⟨bD,0,none⟩=some (.slice da d.clear.length dc):=HBD.out.cell 0
 have zd1:W9.cell? ⟨bD,1,none⟩=some (.slice db d.jobs.length dd):=HBD.out.cell 1
 have zd2:W9.cell? ⟨bD,2,none⟩=some ((.int .i64 d.now)):=HBD.out.cell 2
 have zdo:=HBD.out.old
 have zu0:W9.cell? ⟨bU,0,none⟩=some (.slice ua o.clear.length uc):=HBU.out.cell 0
 have zu1:W9.cell? ⟨bU,1,none⟩=some (.slice ub o.jobs.length ud):=HBU.out.cell 1
 have zu2:W9.cell? ⟨bU,2,none⟩=some ((.int .i64 o.now)):=HBU.out.cell 2
 have zuo:=HBU.out.old
 have zv0:W9.cell? ⟨bV,0,none⟩=some ((.int .i64 zl)):=HBV.out.cell 0
 have zv1:W9.cell? ⟨bV,1,none⟩=some ((.int .i64 zz)):=HBV.out.cell 1
 have zvo:=HBV.out.old
 (refine wp_region_y 55 [(fun u _=>u=(.agg #[.slice sa SP.clear.length sc,.slice sb SP.jobs.length sd,(.int .i64 SP.now),(.int .i64 SI),(.int .i64 SQ)])),(fun u _=>u=(.agg #[.slice pa p.clear.length pc,.slice pb p.jobs.length pd,(.int .i64 p.now)])),(fun u _=>u=(.agg #[(.int .i64 xl),(.int .i64 xz)])),(fun u _=>u=((.int .i64 n1))),(fun u _=>u=((.int .i64 n2))),(fun u _=>u=((.int .i64 n3))),kAct8 SP SI SQ,(fun u _=>u=(.bool true)),(fun u _=>u=(.bool false)),(fun u _=>u=(.bool false)),(fun u _=>u=(.agg #[.slice qa q.clear.length qc,.slice qb q.jobs.length qd,(.int .i64 q.now)])),(fun u _=>u=(.agg #[(.int .i64 yl),(.int .i64 yz)])),(fun u _=>u=((.int .i64 kid))),(fun u _=>u=((.int .i64 kst))),kAct8 CP CI CQ,(fun u _=>u=(.agg #[.slice qa q.clear.length qc,.slice qb q.jobs.length qd,(.int .i64 q.now)])),(fun u _=>u=(.agg #[(.int .i64 yl),(.int .i64 yz)])),(fun u _=>u=((.int .i64 kid))),(fun u _=>u=((.int .i64 kst))),kAct8 CP CI CQ,(fun u _=>u=(.bool true)),(fun u _=>u=(.bool false)),(fun u _=>u=(.bool false)),(fun u _=>u=(.bool false)),(fun u _=>u=(.agg #[.slice da d.clear.length dc,.slice db d.jobs.length dd,(.int .i64 d.now)])),kAct8 AP AI AQ,(fun u _=>u=(.agg #[.slice da d.clear.length dc,.slice db d.jobs.length dd,(.int .i64 d.now)])),kAct8 AP AI AQ,(fun u _=>u=(.bool true)),(fun u _=>u=(.bool false)),(fun u _=>u=(.bool false)),(fun u _=>u=(.bool false)),(fun u _=>u=(.slice na L.length nc)),kAct8 NP 0 NQ,(fun u _=>u=(.slice na L.length nc)),kAct8 NP 0 NQ,(fun u _=>u=(.bool true)),(fun u _=>u=(.bool false)),(fun u _=>u=(.bool false)),(fun u _=>u=(.bool false)),(fun u _=>u=(.agg #[.slice ua o.clear.length uc,.slice ub o.jobs.length ud,(.int .i64 o.now)])),(fun u _=>u=(.agg #[(.int .i64 zl),(.int .i64 zz)])),(fun u _=>u=(.string tv)),(fun u _=>u=(.agg #[.slice ua o.clear.length uc,.slice ub o.jobs.length ud,(.int .i64 o.now)])),(fun u _=>u=(.agg #[(.int .i64 zl),(.int .i64 zz)])),(fun u _=>u=(.string tv)),(fun u _=>u=(.bool false)),(fun u _=>u=(.bool false)),(fun u _=>u=(.bool false)),(fun u _=>u=(.agg #[.slice pa p.clear.length pc,.slice pb p.jobs.length pd,(.int .i64 p.now)])),(fun u _=>u=(.bool pr)),(fun u _=>u=(.agg #[.slice pa p.clear.length pc,.slice pb p.jobs.length pd,(.int .i64 p.now)])),(fun u _=>u=(.bool pr)),(fun u _=>u=(.bool false)),(fun u _=>u=(.bool false))] (by kernel_rfl) (by kernel_rfl) (by kernel_rfl) rfl ?_ (by (repeat' (first | exact trivial | exact XReg.GoodK.same _ default | refine And.intro ?_ ?_));all_goals (first | exact HGS.out | exact HGC.out | exact HGA.out | exact HGN.out)))
 refine YReg.va (.agg #[.slice sa SP.clear.length sc,.slice sb SP.jobs.length sd,(.int .i64 SP.now),(.int .i64 SI),(.int .i64 SQ)]) ?_
 refine YReg.va (.agg #[.slice pa p.clear.length pc,.slice pb p.jobs.length pd,(.int .i64 p.now)]) ?_
 refine YReg.va (.agg #[(.int .i64 xl),(.int .i64 xz)]) ?_
 refine YReg.va ((.int .i64 n1)) ?_
 refine YReg.va ((.int .i64 n2)) ?_
 refine YReg.va ((.int .i64 n3)) ?_
 refine YReg.kind (fun w' hw' hF'=>?_) (fun v w1 hK=>?_)
 ·obtain⟨X',rfl⟩:=hw'
  clear hF'
  go_wp2_with fail
  refine(specSubmit_any p (p.val (.slice pa p.clear.length pc) (.slice pb p.jobs.length pd)) ⟨xl,xz⟩ n1 n2 n3 _ (HPP.out.ext xE) HFp.out HXO.out HN.out.1 HN.out.2.1 HN.out.2.2).mono ?_
  rintro e _ ⟨cv,jv,fc,fj,rfl,⟨Y1,rfl⟩,hO⟩
  rw[HSE.out] at hO ⊢
  obtain⟨e1,f1,rfl⟩:=hO.1.shape
  obtain⟨e2,f2,rfl⟩:=hO.2.1.shape
  have HO9:=tH (hO.e HSO.out.now HSO.out.cl HSO.out.jb)
  clear hO
  unfold poV
  go_wp2
  exact⟨xE,_,_,_,_,rfl,HO9.out⟩
 obtain⟨i1,i2,i3,i4,rfl,hiP⟩:=hK
 clear hiP w1
 apply YReg.val (.bool true)
 case h =>
  intro w' hw' hF'
  obtain⟨X',rfl⟩:=hw'
  obtain⟨v1,v2,v3,v4,hv,hq2⟩:=hF'.get 6 (p:=(kAct8 SP SI SQ,.agg #[.slice i1 SP.clear.length i2,.slice i3 SP.jobs.length i4,(.int .i64 SP.now),(.int .i64 SI),(.int .i64 SQ)])) (by kernel_rfl) (by kernel_rfl)
  obtain⟨⟨rfl,rfl⟩,⟨rfl,rfl⟩⟩:(i1=v1∧i2=v2)∧(i3=v3∧i4=v4):=by simpa [and_assoc] using hv
  have HQ2:=tH hq2
  have HQ1:=tH (HPS.out.ext ((Ext.refl W9).plus X'))
  clear hF' hv hq2
  go_wp2_with fail
  refine(lwPools_self SP SI SQ _ _ _ _ _ (HQ1.out.ext xE) (HQ2.out.ext xE) HSR.out).mono ?_
  rintro e _ ⟨rfl,Y1,rfl⟩
  go_wp2
  exact⟨rfl,xE⟩
 case hv=>kernel_rfl
 refine YReg.va (.bool false) ?_
 refine YReg.va (.bool false) ?_
 refine YReg.va (.agg #[.slice qa q.clear.length qc,.slice qb q.jobs.length qd,(.int .i64 q.now)]) ?_
 refine YReg.va (.agg #[(.int .i64 yl),(.int .i64 yz)]) ?_
 refine YReg.va ((.int .i64 kid)) ?_
 refine YReg.va ((.int .i64 kst)) ?_
 refine YReg.kind (fun w' hw' hF'=>?_) (fun v w1 hK=>?_)
 ·obtain⟨X',rfl⟩:=hw'
  clear hF'
  go_wp2_with fail
  refine(implChange_any q (q.val (.slice qa q.clear.length qc) (.slice qb q.jobs.length qd)) ⟨yl,yz⟩ kid kst _ (HPQ.out.ext xE) HFq.out).mono ?_
  rintro e _ ⟨cv,jv,fc,fj,rfl,⟨Y1,rfl⟩,hO⟩
  rw[HCE.out] at hO ⊢
  obtain⟨e1,f1,rfl⟩:=hO.1.shape
  obtain⟨e2,f2,rfl⟩:=hO.2.1.shape
  have HO9:=tH (hO.e HCO.out.now HCO.out.cl HCO.out.jb)
  clear hO
  unfold poV
  go_wp2
  exact⟨xE,_,_,_,_,rfl,HO9.out⟩
 obtain⟨j1,j2,j3,j4,rfl,hjP⟩:=hK
 clear hjP w1
 refine YReg.va (.agg #[.slice qa q.clear.length qc,.slice qb q.jobs.length qd,(.int .i64 q.now)]) ?_
 refine YReg.va (.agg #[(.int .i64 yl),(.int .i64 yz)]) ?_
 refine YReg.va ((.int .i64 kid)) ?_
 refine YReg.va ((.int .i64 kst)) ?_
 refine YReg.kind (fun w' hw' hF'=>?_) (fun v w1 hK=>?_)
 ·obtain⟨X',rfl⟩:=hw'
  clear hF'
  go_wp2_with fail
  refine(specChange_any q (q.val (.slice qa q.clear.length qc) (.slice qb q.jobs.length qd)) ⟨yl,yz⟩ kid kst _ (HPQ.out.ext xE) HFq.out).mono ?_
  rintro e _ ⟨cv,jv,fc,fj,rfl,⟨Y1,rfl⟩,hO⟩
  rw[HCE.out] at hO ⊢
  obtain⟨e1,f1,rfl⟩:=hO.1.shape
  obtain⟨e2,f2,rfl⟩:=hO.2.1.shape
  have HO9:=tH (hO.e HCO.out.now HCO.out.cl HCO.out.jb)
  clear hO
  unfold poV
  go_wp2
  exact⟨xE,_,_,_,_,rfl,HO9.out⟩
 obtain⟨k1,k2,k3,k4,rfl,hkP⟩:=hK
 clear hkP w1
 apply YReg.val (.bool true)
 case h =>
  intro w' hw' hF'
  obtain⟨X',rfl⟩:=hw'
  obtain⟨v1,v2,v3,v4,hv,hq2⟩:=hF'.get 19 (p:=(kAct8 CP CI CQ,.agg #[.slice k1 CP.clear.length k2,.slice k3 CP.jobs.length k4,(.int .i64 CP.now),(.int .i64 CI),(.int .i64 CQ)])) (by kernel_rfl) (by kernel_rfl)
  obtain⟨⟨rfl,rfl⟩,⟨rfl,rfl⟩⟩:(k1=v1∧k2=v2)∧(k3=v3∧k4=v4):=by simpa [and_assoc] using hv
  have HQ2:=tH hq2
  obtain⟨u1,u2,u3,u4,hu,hq1⟩:=hF'.get 14 (p:=(kAct8 CP CI CQ,.agg #[.slice j1 CP.clear.length j2,.slice j3 CP.jobs.length j4,(.int .i64 CP.now),(.int .i64 CI),(.int .i64 CQ)])) (by kernel_rfl) (by kernel_rfl)
  obtain⟨⟨rfl,rfl⟩,⟨rfl,rfl⟩⟩:(j1=u1∧j2=u2)∧(j3=u3∧j4=u4):=by simpa [and_assoc] using hu
  have HQ1:=tH hq1
  clear hF' hu hv hq1 hq2
  go_wp2_with fail
  refine(lwPools_self CP CI CQ _ _ _ _ _ (HQ1.out.ext xE) (HQ2.out.ext xE) HCR.out).mono ?_
  rintro e _ ⟨rfl,Y1,rfl⟩
  go_wp2
  exact⟨rfl,xE⟩
 case hv=>kernel_rfl
 refine YReg.va (.bool false) ?_
 refine YReg.va (.bool false) ?_
 refine YReg.va (.bool false) ?_
 refine YReg.va (.agg #[.slice da d.clear.length dc,.slice db d.jobs.length dd,(.int .i64 d.now)]) ?_
 refine YReg.kind (fun w' hw' hF'=>?_) (fun v w1 hK=>?_)
 ·obtain⟨X',rfl⟩:=hw'
  clear hF'
  go_wp2_with fail
  refine(implAdvance_any d (d.val (.slice da d.clear.length dc) (.slice db d.jobs.length dd)) _ (HPD.out.ext xE) HFd.out).mono ?_
  rintro e _ ⟨cv,jv,fc,fj,rfl,⟨Y1,rfl⟩,hO⟩
  rw[HAE.out] at hO ⊢
  obtain⟨e1,f1,rfl⟩:=hO.1.shape
  obtain⟨e2,f2,rfl⟩:=hO.2.1.shape
  have HO9:=tH (hO.e HAO.out.now HAO.out.cl HAO.out.jb)
  clear hO
  unfold poV
  go_wp2
  exact⟨xE,_,_,_,_,rfl,HO9.out⟩
 obtain⟨m1,m2,m3,m4,rfl,hmP⟩:=hK
 clear hmP w1
 refine YReg.va (.agg #[.slice da d.clear.length dc,.slice db d.jobs.length dd,(.int .i64 d.now)]) ?_
 refine YReg.kind (fun w' hw' hF'=>?_) (fun v w1 hK=>?_)
 ·obtain⟨X',rfl⟩:=hw'
  clear hF'
  go_wp2_with fail
  refine(specAdvance_any d (d.val (.slice da d.clear.length dc) (.slice db d.jobs.length dd)) _ (HPD.out.ext xE) HFd.out).mono ?_
  rintro e _ ⟨cv,jv,fc,fj,rfl,⟨Y1,rfl⟩,hO⟩
  rw[HAE.out] at hO ⊢
  obtain⟨e1,f1,rfl⟩:=hO.1.shape
  obtain⟨e2,f2,rfl⟩:=hO.2.1.shape
  have HO9:=tH (hO.e HAO.out.now HAO.out.cl HAO.out.jb)
  clear hO
  unfold poV
  go_wp2
  exact⟨xE,_,_,_,_,rfl,HO9.out⟩
 obtain⟨r1,r2,r3,r4,rfl,hrP⟩:=hK
 clear hrP w1
 apply YReg.val (.bool true)
 case h =>
  intro w' hw' hF'
  obtain⟨X',rfl⟩:=hw'
  obtain⟨v1,v2,v3,v4,hv,hq2⟩:=hF'.get 27 (p:=(kAct8 AP AI AQ,.agg #[.slice r1 AP.clear.length r2,.slice r3 AP.jobs.length r4,(.int .i64 AP.now),(.int .i64 AI),(.int .i64 AQ)])) (by kernel_rfl) (by kernel_rfl)
  obtain⟨⟨rfl,rfl⟩,⟨rfl,rfl⟩⟩:(r1=v1∧r2=v2)∧(r3=v3∧r4=v4):=by simpa [and_assoc] using hv
  have HQ2:=tH hq2
  obtain⟨u1,u2,u3,u4,hu,hq1⟩:=hF'.get 25 (p:=(kAct8 AP AI AQ,.agg #[.slice m1 AP.clear.length m2,.slice m3 AP.jobs.length m4,(.int .i64 AP.now),(.int .i64 AI),(.int .i64 AQ)])) (by kernel_rfl) (by kernel_rfl)
  obtain⟨⟨rfl,rfl⟩,⟨rfl,rfl⟩⟩:(m1=u1∧m2=u2)∧(m3=u3∧m4=u4):=by simpa [and_assoc] using hu
  have HQ1:=tH hq1
  clear hF' hu hv hq1 hq2
  go_wp2_with fail
  refine(lwPools_self AP AI AQ _ _ _ _ _ (HQ1.out.ext xE) (HQ2.out.ext xE) HAR.out).mono ?_
  rintro e _ ⟨rfl,Y1,rfl⟩
  go_wp2
  exact⟨rfl,xE⟩
 case hv=>kernel_rfl
 refine YReg.va (.bool false) ?_
 refine YReg.va (.bool false) ?_
 refine YReg.va (.bool false) ?_
 refine YReg.va (.slice na L.length nc) ?_
 refine YReg.kind (fun w' hw' hF'=>?_) (fun v w1 hK=>?_)
 ·obtain⟨X',rfl⟩:=hw'
  clear hF'
  go_wp2_with fail
  refine(implPoolNew_any _ L _ (HL.out.ext rLabS_stable xE) HZ.out).mono ?_
  rintro e _ ⟨cv,jv,fc,fj,rfl,⟨Y1,rfl⟩,hO⟩
  rw[HNE.out] at hO ⊢
  obtain⟨e1,f1,rfl⟩:=hO.1.shape
  obtain⟨e2,f2,rfl⟩:=hO.2.1.shape
  have HO9:=tH (hO.e HNO.out.now HNO.out.cl HNO.out.jb)
  clear hO
  unfold poV
  go_wp2
  exact⟨xE,_,_,_,_,rfl,HO9.out⟩
 obtain⟨f1,f2,f3,f4,rfl,hfP⟩:=hK
 clear hfP w1
 refine YReg.va (.slice na L.length nc) ?_
 refine YReg.kind (fun w' hw' hF'=>?_) (fun v w1 hK=>?_)
 ·obtain⟨X',rfl⟩:=hw'
  clear hF'
  go_wp2_with fail
  refine(specPoolNew_any _ L _ (HL.out.ext rLabS_stable xE) HZ.out).mono ?_
  rintro e _ ⟨cv,jv,fc,fj,rfl,⟨Y1,rfl⟩,hO⟩
  rw[HNE.out] at hO ⊢
  obtain⟨e1,f1,rfl⟩:=hO.1.shape
  obtain⟨e2,f2,rfl⟩:=hO.2.1.shape
  have HO9:=tH (hO.e HNO.out.now HNO.out.cl HNO.out.jb)
  clear hO
  unfold poV
  go_wp2
  exact⟨xE,_,_,_,_,rfl,HO9.out⟩
 obtain⟨g1,g2,g3,g4,rfl,hgP⟩:=hK
 clear hgP w1
 apply YReg.val (.bool true)
 case h =>
  intro w' hw' hF'
  obtain⟨X',rfl⟩:=hw'
  obtain⟨v1,v2,v3,v4,hv,hq2⟩:=hF'.get 35 (p:=(kAct8 NP 0 NQ,.agg #[.slice g1 NP.clear.length g2,.slice g3 NP.jobs.length g4,(.int .i64 NP.now),(.int .i64 0),(.int .i64 NQ)])) (by kernel_rfl) (by kernel_rfl)
  obtain⟨⟨rfl,rfl⟩,⟨rfl,rfl⟩⟩:(g1=v1∧g2=v2)∧(g3=v3∧g4=v4):=by simpa [and_assoc] using hv
  have HQ2:=tH hq2
  obtain⟨u1,u2,u3,u4,hu,hq1⟩:=hF'.get 33 (p:=(kAct8 NP 0 NQ,.agg #[.slice f1 NP.clear.length f2,.slice f3 NP.jobs.length f4,(.int .i64 NP.now),(.int .i64 0),(.int .i64 NQ)])) (by kernel_rfl) (by kernel_rfl)
  obtain⟨⟨rfl,rfl⟩,⟨rfl,rfl⟩⟩:(f1=u1∧f2=u2)∧(f3=u3∧f4=u4):=by simpa [and_assoc] using hu
  have HQ1:=tH hq1
  clear hF' hu hv hq1 hq2
  go_wp2_with fail
  refine(lwPools_self NP 0 NQ _ _ _ _ _ (HQ1.out.ext xE) (HQ2.out.ext xE) HNR.out).mono ?_
  rintro e _ ⟨rfl,Y1,rfl⟩
  go_wp2
  exact⟨rfl,xE⟩
 case hv=>kernel_rfl
 refine YReg.va (.bool false) ?_
 refine YReg.va (.bool false) ?_
 refine YReg.va (.bool false) ?_
 refine YReg.va (.agg #[.slice ua o.clear.length uc,.slice ub o.jobs.length ud,(.int .i64 o.now)]) ?_
 refine YReg.va (.agg #[(.int .i64 zl),(.int .i64 zz)]) ?_
 (apply YReg.val (.string tv);(case h=>(intro w' hw' hF';obtain⟨X',rfl⟩:=hw';have HF':=tH hF';clear hF';go_wp2_with ((go_at_call 19;refine(implView_any o ⟨zl,zz⟩ ua uc ub ud _ (HPU.out.ext xE)).mono ?_;rintro e _ ⟨rfl,Y1,rfl⟩;rw[HTV.out]));exact⟨rfl,xE⟩));(case hv=>kernel_rfl))
 refine YReg.va (.agg #[.slice ua o.clear.length uc,.slice ub o.jobs.length ud,(.int .i64 o.now)]) ?_
 refine YReg.va (.agg #[(.int .i64 zl),(.int .i64 zz)]) ?_
 (apply YReg.val (.string tv);(case h=>(intro w' hw' hF';obtain⟨X',rfl⟩:=hw';have HF':=tH hF';clear hF';go_wp2_with ((go_at_call 20;refine(specView_any o ⟨zl,zz⟩ _ _ (HPU.out.ext xE)).mono ?_;rintro e _ ⟨rfl,Y1,rfl⟩;rw[HTV.out]));exact⟨rfl,xE⟩));(case hv=>kernel_rfl))
 refine YReg.va (.bool false) ?_
 refine YReg.va (.bool false) ?_
 refine YReg.va (.bool false) ?_
 refine YReg.va (.agg #[.slice pa p.clear.length pc,.slice pb p.jobs.length pd,(.int .i64 p.now)]) ?_
 (apply YReg.val (.bool pr);(case h=>(intro w' hw' hF';obtain⟨X',rfl⟩:=hw';have HF':=tH hF';clear hF';go_wp2_with ((go_at_call 21;refine(implPoolRight_any p _ _ (HPP.out.ext xE)).mono ?_;rintro e _ ⟨rfl,Y1,rfl⟩;rw[HPR.out]));exact⟨rfl,xE⟩));(case hv=>kernel_rfl))
 refine YReg.va (.agg #[.slice pa p.clear.length pc,.slice pb p.jobs.length pd,(.int .i64 p.now)]) ?_
 (apply YReg.val (.bool pr);(case h=>(intro w' hw' hF';obtain⟨X',rfl⟩:=hw';have HF':=tH hF';clear hF';go_wp2_with ((go_at_call 22;refine(specPoolRight_any p _ _ (HPP.out.ext xE)).mono ?_;rintro e _ ⟨rfl,Y1,rfl⟩;rw[HPR.out]));exact⟨rfl,xE⟩));(case hv=>kernel_rfl))
 refine YReg.va (.bool false) ?_
 refine YReg.va (.bool false) ?_
 refine YReg.doneN (fun X9 hF=>?_)
 clear hF
 clear zs0 zs1 zs2 zs3 zs4 zso zp0 zp1 zp2 zpo zl0 zl1 zlo zq0 zq1 zq2 zqo zm0 zm1 zmo zd0 zd1 zd2 zdo zu0 zu1 zu2 zuo zv0 zv1 zvo
 clear HPQ HBQ HBM HPD HBD HPU HBU HBV HL HCE HCO HCR HGC HAE HAO HAR HGA HNE HNO HNR HGN HGS HPR HTV HFq HFd
 have zs4:W9.cell? ⟨bS,4,none⟩=some (.int .i64 SQ):=HBS.out.cell 4
 have zso:=HBS.out.old
 by_cases hq:SQ=0
 case neg =>
  have hqb:(SQ != 0)=true:=by simp[hq]
  clear hq
  go_wp2
  go_ret
  exact⟨rfl,HX9.out.trans xE⟩
 subst hq
 have hsv:=HSV.out rfl
 have HSV':=tH hsv
 clear hsv
 go_upto_region 14 with fail
 refine gen_world (fun WE hW=>?_)
 have HXE:=tH (show Ext w WE by rw[hW];exact HX9.out.trans xE)
 have HPPE:=tH (show ePool WE _ p by rw[hW];exact HPP.out.ext xE)
 have HPSE:=tH (show ePool WE _ SP by rw[hW];exact HPS.out.ext xE)
 have HBPE:=tH (show Blk WE bP _ _ by rw[hW];exact HBP.out.ext xE)
 have HBLE:=tH (show Blk WE bL _ _ by rw[hW];exact HBL.out.ext xE)
 have HBSE:=tH (show Blk WE bS _ _ by rw[hW];exact HBS.out.ext xE)
 obtain⟨bT,hbT⟩:∃ bT,(W9.plus X9).heap.size=bT:=⟨_,rfl⟩
 have HBTE:=tH (show Blk WE bT [(.int .i64 3),(.int .i64 7)] 28 by rw[hW];exact Blk.new (cs:=#[(.int .i64 3),(.int .i64 7)]) hbT.symm)
 simp only[World.size_plus] at hbT
 rw[hbT]
 clear hW hbT zs4 zso HPP HPS HBP HBL HBS HX9
 have HJS:=tH (ePool_jobs9 HPSE.out)
 have HJN:Hid (∀ j∈SP.jobs,j.nodes.length≤1048576):=tH (fun j hj=>by have:=(right_B HSV'.out.new).j2 j hj;omega)
 have hst:=HSV'.out.st
 obtain⟨JJ,hjj⟩:∃ z,jobOf SP.jobs ⟨xl,xz⟩ SI=z:=⟨_,rfl⟩
 rw[hjj] at hst
 obtain⟨⟨jl,jz⟩,jid,jn,jlo,jp,jst,js,jns⟩:=JJ
 obtain rfl:jst=1:=hst
 have HJJ:=tH hjj
 clear hjj
 have hlow:=HSV'.out.low
 have htop:=HSV'.out.top
 obtain⟨t1,h1⟩:∃ z,viewS SP ⟨0,0⟩=z:=⟨_,rfl⟩
 obtain⟨t2,h2⟩:∃ z,viewS p ⟨0,0⟩=z:=⟨_,rfl⟩
 obtain⟨t3,h3⟩:∃ z,viewS SP ⟨3,7⟩=z:=⟨_,rfl⟩
 obtain⟨t4,h4⟩:∃ z,viewS p ⟨3,7⟩=z:=⟨_,rfl⟩
 rw[h1,h2] at hlow
 rw[h3,h4] at htop
 have HT1:=tH h1
 have HT2:=tH h2
 have HT3:=tH h3
 have HT4:=tH h4
 clear h1 h2 h3 h4 HSV HSV' HSR HSE HSO HN HZ HFp HS HS2 HXO
 have hfj:∀ (a b c d e f g h i:Value) w,(Instr.field 48 (.agg #[a,b,c,d,e,f,g,h,i]) 5).run Tryz.prog w=.ok g w:=fun a b c d e f g h i w=>by kernel_rfl
 obtain⟨sl,hsl⟩:∃ z,sameL ⟨xl,xz⟩ ⟨0,0⟩=z:=⟨_,rfl⟩
 rw[hsl] at hlow
 have zs0:WE.cell? ⟨bS,0,none⟩=some (.slice sa SP.clear.length sc):=HBSE.out.cell 0
 have zs1:WE.cell? ⟨bS,1,none⟩=some (.slice sb SP.jobs.length sd):=HBSE.out.cell 1
 have zs2:WE.cell? ⟨bS,2,none⟩=some ((.int .i64 SP.now)):=HBSE.out.cell 2
 have zs3:WE.cell? ⟨bS,3,none⟩=some ((.int .i64 SI)):=HBSE.out.cell 3
 have zs4:WE.cell? ⟨bS,4,none⟩=some ((.int .i64 0)):=HBSE.out.cell 4
 have zso:=HBSE.out.old
 have zp0:WE.cell? ⟨bP,0,none⟩=some (.slice pa p.clear.length pc):=HBPE.out.cell 0
 have zp1:WE.cell? ⟨bP,1,none⟩=some (.slice pb p.jobs.length pd):=HBPE.out.cell 1
 have zp2:WE.cell? ⟨bP,2,none⟩=some ((.int .i64 p.now)):=HBPE.out.cell 2
 have zpo:=HBPE.out.old
 have zl0:WE.cell? ⟨bL,0,none⟩=some ((.int .i64 xl)):=HBLE.out.cell 0
 have zl1:WE.cell? ⟨bL,1,none⟩=some ((.int .i64 xz)):=HBLE.out.cell 1
 have zlo:=HBLE.out.old
 have zt0:WE.cell? ⟨bT,0,none⟩=some ((.int .i64 3)):=HBTE.out.cell 0
 have zt1:WE.cell? ⟨bT,1,none⟩=some ((.int .i64 7)):=HBTE.out.cell 1
 have zto:=HBTE.out.old
 have htb:(t3.toList == t4.toList)=false:=(ba_beq8 _ _).trans (decide_eq_false htop)
 clear htop
 cases sl
 case false =>
  have hlt:(t1.toList == t2.toList)=true:=(ba_beq8 _ _).trans hlow
  clear hlow
  (refine wp_region_y 34 [(fun u _=>u=(.pointer (some ⟨bS,0,none⟩))),(fun u _=>u=(.pointer (some ⟨bS,1,none⟩))),(fun u _=>u=(.slice sb SP.jobs.length sd)),(fun u _=>u=(.agg #[(.int .i64 xl),(.int .i64 xz)])),(fun u _=>u=(.pointer (some ⟨bS,3,none⟩))),(fun u _=>u=((.int .i64 SI))),kJv8 jl jz jid jn jlo jp js jns.length,(fun u _=>u=((.int .i64 1))),(fun u _=>u=(.bool true)),(fun u _=>u=(.bool true)),(fun u _=>u=(.pointer (some ⟨bS,0,none⟩))),(fun u _=>u=(.agg #[.slice sa SP.clear.length sc,.slice sb SP.jobs.length sd,(.int .i64 SP.now)])),(fun u _=>u=(.agg #[(.int .i64 0),(.int .i64 0)])),(fun u _=>u=(.string t1)),(fun u _=>u=(.agg #[.slice pa p.clear.length pc,.slice pb p.jobs.length pd,(.int .i64 p.now)])),(fun u _=>u=(.agg #[(.int .i64 0),(.int .i64 0)])),(fun u _=>u=(.string t2)),(fun u _=>u=(.bool true)),(fun u _=>u=(.agg #[(.int .i64 xl),(.int .i64 xz)])),(fun u _=>u=(.agg #[(.int .i64 0),(.int .i64 0)])),(fun u _=>u=(.bool true)),(fun u _=>u=(.bool true)),(fun u _=>u=(.bool true)),(fun u _=>u=(.bool true)),(fun u _=>u=(.pointer (some ⟨bS,0,none⟩))),(fun u _=>u=(.agg #[.slice sa SP.clear.length sc,.slice sb SP.jobs.length sd,(.int .i64 SP.now)])),(fun u _=>u=(.agg #[(.int .i64 3),(.int .i64 7)])),(fun u _=>u=(.string t3)),(fun u _=>u=(.agg #[.slice pa p.clear.length pc,.slice pb p.jobs.length pd,(.int .i64 p.now)])),(fun u _=>u=(.agg #[(.int .i64 3),(.int .i64 7)])),(fun u _=>u=(.string t4)),(fun u _=>u=(.bool true)),(fun u _=>u=(.bool true)),(fun u _=>u=(.bool true))] (by kernel_rfl) (by kernel_rfl) (by kernel_rfl) rfl ?_ (by (repeat' (first | exact trivial | exact XReg.GoodK.same _ default | refine And.intro ?_ ?_));all_goals exact kJv8_good))
  refine YReg.va (.pointer (some ⟨bS,0,none⟩)) ?_
  refine YReg.va (.pointer (some ⟨bS,1,none⟩)) ?_
  refine YReg.va (.slice sb SP.jobs.length sd) ?_
  refine YReg.va (.agg #[(.int .i64 xl),(.int .i64 xz)]) ?_
  refine YReg.va (.pointer (some ⟨bS,3,none⟩)) ?_
  refine YReg.va ((.int .i64 SI)) ?_
  refine YReg.kind (fun w' hw' hF'=>?_) (fun v w1 hK=>?_)
  ·obtain⟨X',rfl⟩:=hw'
   clear hF'
   go_wp2_with fail
   refine(implJobOf_any _ SP.jobs ⟨xl,xz⟩ SI _ (HJS.out.ext rJob_stable xE) HJN.out).mono ?_
   rintro e _ ⟨nv9,fp9,rfl,⟨Y9,rfl⟩,hO⟩
   rw[HJJ.out] at hO ⊢
   obtain⟨a9,c9,rfl⟩:=hO.shape
   clear hO
   unfold Jb.val
   go_wp2
   exact⟨xE,_,_,rfl⟩
  obtain⟨j1,j2,rfl⟩:=hK
  clear w1
  refine YReg.va ((.int .i64 1)) ?_
  refine YReg.va (.bool true) ?_
  refine YReg.va (.bool true) ?_
  refine YReg.va (.pointer (some ⟨bS,0,none⟩)) ?_
  refine YReg.va (.agg #[.slice sa SP.clear.length sc,.slice sb SP.jobs.length sd,(.int .i64 SP.now)]) ?_
  refine YReg.va (.agg #[(.int .i64 0),(.int .i64 0)]) ?_
  (apply YReg.val (.string t1);(case h=>(intro w' hw' hF';obtain⟨X',rfl⟩:=hw';have HF':=tH hF';clear hF';go_wp2_with ((go_at_call 19;refine(implView_any SP ⟨0,0⟩ sa sc sb sd _ (HPSE.out.ext xE)).mono ?_;rintro e _ ⟨rfl,Y1,rfl⟩;rw[HT1.out]));exact⟨rfl,xE⟩));(case hv=>kernel_rfl))
  refine YReg.va (.agg #[.slice pa p.clear.length pc,.slice pb p.jobs.length pd,(.int .i64 p.now)]) ?_
  refine YReg.va (.agg #[(.int .i64 0),(.int .i64 0)]) ?_
  (apply YReg.val (.string t2);(case h=>(intro w' hw' hF';obtain⟨X',rfl⟩:=hw';have HF':=tH hF';clear hF';go_wp2_with ((go_at_call 19;refine(implView_any p ⟨0,0⟩ pa pc pb pd _ (HPPE.out.ext xE)).mono ?_;rintro e _ ⟨rfl,Y1,rfl⟩;rw[HT2.out]));exact⟨rfl,xE⟩));(case hv=>kernel_rfl))
  refine YReg.va (.bool true) ?_
  refine YReg.va (.agg #[(.int .i64 xl),(.int .i64 xz)]) ?_
  refine YReg.va (.agg #[(.int .i64 0),(.int .i64 0)]) ?_
  refine YReg.va (.bool true) ?_
  refine YReg.va (.bool true) ?_
  refine YReg.va (.bool true) ?_
  refine YReg.va (.bool true) ?_
  refine YReg.va (.pointer (some ⟨bS,0,none⟩)) ?_
  refine YReg.va (.agg #[.slice sa SP.clear.length sc,.slice sb SP.jobs.length sd,(.int .i64 SP.now)]) ?_
  refine YReg.va (.agg #[(.int .i64 3),(.int .i64 7)]) ?_
  (apply YReg.val (.string t3);(case h=>(intro w' hw' hF';obtain⟨X',rfl⟩:=hw';have HF':=tH hF';clear hF';go_wp2_with ((go_at_call 19;refine(implView_any SP ⟨3,7⟩ sa sc sb sd _ (HPSE.out.ext xE)).mono ?_;rintro e _ ⟨rfl,Y1,rfl⟩;rw[HT3.out]));exact⟨rfl,xE⟩));(case hv=>kernel_rfl))
  refine YReg.va (.agg #[.slice pa p.clear.length pc,.slice pb p.jobs.length pd,(.int .i64 p.now)]) ?_
  refine YReg.va (.agg #[(.int .i64 3),(.int .i64 7)]) ?_
  (apply YReg.val (.string t4);(case h=>(intro w' hw' hF';obtain⟨X',rfl⟩:=hw';have HF':=tH hF';clear hF';go_wp2_with ((go_at_call 19;refine(implView_any p ⟨3,7⟩ pa pc pb pd _ (HPPE.out.ext xE)).mono ?_;rintro e _ ⟨rfl,Y1,rfl⟩;rw[HT4.out]));exact⟨rfl,xE⟩));(case hv=>kernel_rfl))
  refine YReg.va (.bool true) ?_
  refine YReg.va (.bool true) ?_
  refine YReg.va (.bool true) ?_
  refine YReg.doneN (fun X14 hF=>?_)
  clear hF
  go_wp2
  go_ret
  exact⟨rfl,HXE.out.trans xE⟩
 case true =>
  have hlt:(t1.toList == t2.toList)=false:=(ba_beq8 _ _).trans hlow
  clear hlow
  (refine wp_region_y 34 [(fun u _=>u=(.pointer (some ⟨bS,0,none⟩))),(fun u _=>u=(.pointer (some ⟨bS,1,none⟩))),(fun u _=>u=(.slice sb SP.jobs.length sd)),(fun u _=>u=(.agg #[(.int .i64 xl),(.int .i64 xz)])),(fun u _=>u=(.pointer (some ⟨bS,3,none⟩))),(fun u _=>u=((.int .i64 SI))),kJv8 jl jz jid jn jlo jp js jns.length,(fun u _=>u=((.int .i64 1))),(fun u _=>u=(.bool true)),(fun u _=>u=(.bool true)),(fun u _=>u=(.pointer (some ⟨bS,0,none⟩))),(fun u _=>u=(.agg #[.slice sa SP.clear.length sc,.slice sb SP.jobs.length sd,(.int .i64 SP.now)])),(fun u _=>u=(.agg #[(.int .i64 0),(.int .i64 0)])),(fun u _=>u=(.string t1)),(fun u _=>u=(.agg #[.slice pa p.clear.length pc,.slice pb p.jobs.length pd,(.int .i64 p.now)])),(fun u _=>u=(.agg #[(.int .i64 0),(.int .i64 0)])),(fun u _=>u=(.string t2)),(fun u _=>u=(.bool false)),(fun u _=>u=(.agg #[(.int .i64 xl),(.int .i64 xz)])),(fun u _=>u=(.agg #[(.int .i64 0),(.int .i64 0)])),(fun u _=>u=(.bool false)),(fun u _=>u=(.bool true)),(fun u _=>u=(.bool true)),(fun u _=>u=(.bool true)),(fun u _=>u=(.pointer (some ⟨bS,0,none⟩))),(fun u _=>u=(.agg #[.slice sa SP.clear.length sc,.slice sb SP.jobs.length sd,(.int .i64 SP.now)])),(fun u _=>u=(.agg #[(.int .i64 3),(.int .i64 7)])),(fun u _=>u=(.string t3)),(fun u _=>u=(.agg #[.slice pa p.clear.length pc,.slice pb p.jobs.length pd,(.int .i64 p.now)])),(fun u _=>u=(.agg #[(.int .i64 3),(.int .i64 7)])),(fun u _=>u=(.string t4)),(fun u _=>u=(.bool true)),(fun u _=>u=(.bool true)),(fun u _=>u=(.bool true))] (by kernel_rfl) (by kernel_rfl) (by kernel_rfl) rfl ?_ (by (repeat' (first | exact trivial | exact XReg.GoodK.same _ default | refine And.intro ?_ ?_));all_goals exact kJv8_good))
  refine YReg.va (.pointer (some ⟨bS,0,none⟩)) ?_
  refine YReg.va (.pointer (some ⟨bS,1,none⟩)) ?_
  refine YReg.va (.slice sb SP.jobs.length sd) ?_
  refine YReg.va (.agg #[(.int .i64 xl),(.int .i64 xz)]) ?_
  refine YReg.va (.pointer (some ⟨bS,3,none⟩)) ?_
  refine YReg.va ((.int .i64 SI)) ?_
  refine YReg.kind (fun w' hw' hF'=>?_) (fun v w1 hK=>?_)
  ·obtain⟨X',rfl⟩:=hw'
   clear hF'
   go_wp2_with fail
   refine(implJobOf_any _ SP.jobs ⟨xl,xz⟩ SI _ (HJS.out.ext rJob_stable xE) HJN.out).mono ?_
   rintro e _ ⟨nv9,fp9,rfl,⟨Y9,rfl⟩,hO⟩
   rw[HJJ.out] at hO ⊢
   obtain⟨a9,c9,rfl⟩:=hO.shape
   clear hO
   unfold Jb.val
   go_wp2
   exact⟨xE,_,_,rfl⟩
  obtain⟨j1,j2,rfl⟩:=hK
  clear w1
  refine YReg.va ((.int .i64 1)) ?_
  refine YReg.va (.bool true) ?_
  refine YReg.va (.bool true) ?_
  refine YReg.va (.pointer (some ⟨bS,0,none⟩)) ?_
  refine YReg.va (.agg #[.slice sa SP.clear.length sc,.slice sb SP.jobs.length sd,(.int .i64 SP.now)]) ?_
  refine YReg.va (.agg #[(.int .i64 0),(.int .i64 0)]) ?_
  (apply YReg.val (.string t1);(case h=>(intro w' hw' hF';obtain⟨X',rfl⟩:=hw';have HF':=tH hF';clear hF';go_wp2_with ((go_at_call 19;refine(implView_any SP ⟨0,0⟩ sa sc sb sd _ (HPSE.out.ext xE)).mono ?_;rintro e _ ⟨rfl,Y1,rfl⟩;rw[HT1.out]));exact⟨rfl,xE⟩));(case hv=>kernel_rfl))
  refine YReg.va (.agg #[.slice pa p.clear.length pc,.slice pb p.jobs.length pd,(.int .i64 p.now)]) ?_
  refine YReg.va (.agg #[(.int .i64 0),(.int .i64 0)]) ?_
  (apply YReg.val (.string t2);(case h=>(intro w' hw' hF';obtain⟨X',rfl⟩:=hw';have HF':=tH hF';clear hF';go_wp2_with ((go_at_call 19;refine(implView_any p ⟨0,0⟩ pa pc pb pd _ (HPPE.out.ext xE)).mono ?_;rintro e _ ⟨rfl,Y1,rfl⟩;rw[HT2.out]));exact⟨rfl,xE⟩));(case hv=>kernel_rfl))
  refine YReg.va (.bool false) ?_
  refine YReg.va (.agg #[(.int .i64 xl),(.int .i64 xz)]) ?_
  refine YReg.va (.agg #[(.int .i64 0),(.int .i64 0)]) ?_
  refine YReg.va (.bool false) ?_
  refine YReg.va (.bool true) ?_
  refine YReg.va (.bool true) ?_
  refine YReg.va (.bool true) ?_
  refine YReg.va (.pointer (some ⟨bS,0,none⟩)) ?_
  refine YReg.va (.agg #[.slice sa SP.clear.length sc,.slice sb SP.jobs.length sd,(.int .i64 SP.now)]) ?_
  refine YReg.va (.agg #[(.int .i64 3),(.int .i64 7)]) ?_
  (apply YReg.val (.string t3);(case h=>(intro w' hw' hF';obtain⟨X',rfl⟩:=hw';have HF':=tH hF';clear hF';go_wp2_with ((go_at_call 19;refine(implView_any SP ⟨3,7⟩ sa sc sb sd _ (HPSE.out.ext xE)).mono ?_;rintro e _ ⟨rfl,Y1,rfl⟩;rw[HT3.out]));exact⟨rfl,xE⟩));(case hv=>kernel_rfl))
  refine YReg.va (.agg #[.slice pa p.clear.length pc,.slice pb p.jobs.length pd,(.int .i64 p.now)]) ?_
  refine YReg.va (.agg #[(.int .i64 3),(.int .i64 7)]) ?_
  (apply YReg.val (.string t4);(case h=>(intro w' hw' hF';obtain⟨X',rfl⟩:=hw';have HF':=tH hF';clear hF';go_wp2_with ((go_at_call 19;refine(implView_any p ⟨3,7⟩ pa pc pb pd _ (HPPE.out.ext xE)).mono ?_;rintro e _ ⟨rfl,Y1,rfl⟩;rw[HT4.out]));exact⟨rfl,xE⟩));(case hv=>kernel_rfl))
  refine YReg.va (.bool true) ?_
  refine YReg.va (.bool true) ?_
  refine YReg.va (.bool true) ?_
  refine YReg.doneN (fun X14 hF=>?_)
  clear hF
  go_wp2
  go_ret
  exact⟨rfl,HXE.out.trans xE⟩
end Go.Proofs.YtdoeoojjabnboaaGreat
