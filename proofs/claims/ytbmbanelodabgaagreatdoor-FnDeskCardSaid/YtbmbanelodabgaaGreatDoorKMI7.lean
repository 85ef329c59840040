/- The implementation's desk: what is planned. -/
import Derived.Test.YtbmbanelodabgaaGreatDoorKMI5
import Derived.Test.YtbmbanelodabgaaGreatDoorKAC
import Derived.Test.YtbmbanelodabgaaGreatDoorKAAB
set_option maxRecDepth 100000
set_option linter.unusedVariables false
set_option linter.unusedSimpArgs false
namespace Go.Proofs.YtbmbanelodabgaaGreatDoor
open Go.RowKit Go.Fin1
theorem oSltS_typed:Typed oSltS [104,2]:=oSl_typed (o:=oSlt) (fun w fp cs x ⟨v,_,h⟩=>oSl_typed (oFlat_typed _) w fp _ _ h)
theorem oSltS_mI {w:World} {fp:List Nat} {v:Value} {l:List Slt} (h:oSltS w fp [v] l):SlR w 5 (fun _ cs (s:Slt)=>∃ (a:Option Addr) (n c:Nat),cs=s.cells (.slice a n c)) v l:=by
 obtain⟨v',hv,hs⟩:=oSl_reads (r:=fun _ cs (s:Slt)=>∃ (a:Option Addr) (n c:Nat),cs=s.cells (.slice a n c)) (k:=5) (fun w fp cs s ⟨v,hv,h⟩=>by
  obtain⟨a,c,rfl⟩:=(oFl_reads (f:=intCell) (fun _=>rfl) h).len
  exact⟨by rw[hv];rfl,a,_,c,hv⟩) h
 obtain rfl:v=v':=by simpa using hv
 exact hs
theorem own_sltRow {B B':Nat} {w w':World} {fp:List Nat} {cs:List Value} {l:List Slt} {v:Value} {xs:List ByteArray} (h:Own B w oSltS fp cs l) (hr:Row B' w 9 1 sCell v xs) (hx:Chg (blkL v) w w'):Own B w' oSltS fp cs l :=
 own_chgD oSltS_local oSltS_held hx (fun b hb hs=>by
  obtain⟨cur,hc⟩:=hr.type b hs
  exact oSltS_typed.apart h.1 hc (by decide) hb) h
theorem labR_st {x:Lab} (h:labR x=true):I64 x.st:=by
 unfold labR isIn at h
 simp at h
 unfold I64
 omega
set_option maxHeartbeats 1600000 in
theorem planI_any (p:Pl) (ca:Option Addr) (cc:Nat) (ja:Option Addr) (jc:Nat) (x:Lab) (w:World) (hP:ePool w (p.val (.slice ca p.clear.length cc) (.slice ja p.jobs.length jc)) p) (hR:poolR p=true) (hL:LibW w) :
  Calls Tryz.prog 47 #[.agg #[.slice ca p.clear.length cc,.slice ja p.jobs.length jc,(.int .i64 p.now)],.agg #[(.int .i64 x.lv),(.int .i64 x.st)]] w fun e w'=>(∃ z,e=.returned (.string z)∧dl z=planT p x)∧Ext w w':=by
 have HP:=tH hP
 have HL:=tH hL
 have HR:=tH hR
 have HBD:=tH (planL_bd hR)
 have HST:=tH (show planT p x=joinW (((planL p.clear p.now p.jobs).filter (fun s=>blw s.l x)).map wordS) by unfold planT;rfl)
 clear hP hR hL
 go_enter Tryz.func47,Tryz.ntmps47
 go_wp2_with fail
 refine(plan_any p _ _ (HP.out.ext xE) (isIn_iff.1 (poolR_jobs HR.out).2) (poolR_clear HR.out).1 (poolR_clear HR.out).2 (jobsR_len (poolR_jobs HR.out).1) (jobsR_ne (poolR_jobs HR.out).1) (fun j hj=>(poolR_job HR.out hj).1)).mono ?_
 rintro e _ ⟨v',fp,rfl,⟨X2,rfl⟩,hO⟩
 obtain⟨PL,hPL⟩:∃ PL,planL p.clear p.now p.jobs=PL:=⟨_,rfl⟩
 rw[hPL] at hO HBD HST
 clear hPL
 obtain⟨va,vc,rfl⟩:=(oSltS_mI hO.1).len
 have HS:=tH (hO.mono (B':=w.heap.size) ((((Ext.refl w).alloc _).alloc _).alloc _).below.size)
 clear hO
 go_upto_region 3 with fail
 refine gen_world (fun W2 hW=>?_)
 have HX2:=tH (show Ext w W2 by rw[hW];exact xE)
 have HO2:=tH (show Row w.heap.size W2 9 1 sCell (.slice (some ⟨w.heap.size+1+1,0,none⟩) 0 0) [] by rw[hW];exact Row.ext ((Ext.refl _).plus X2) (Row.madeB' (by simp) (by simp;omega)))
 have HL2:=tH (show Blk W2 (w.heap.size+1) [(.int .i64 x.lv),(.int .i64 x.st)] 36 by rw[hW];exact(Blk.new (w:=w.alloc (.cells #[.slice ca p.clear.length cc,.slice ja p.jobs.length jc,(.int .i64 p.now)] 41)) (cs:=#[(.int .i64 x.lv),(.int .i64 x.st)]) (by simp)).ext xE)
 rw[← hW] at HS
 clear hW HP
 have hsl:PL.length≤96:=HBD.out.1
 go_loopw [5,12] (fun o i wr=>∃ (n:Nat) (ws:List ByteArray),n≤PL.length∧i=(.int .i64 (n:Int))∧ws.length≤n∧Hid (Row w.heap.size wr 9 1 sCell o ws)∧Hid (ws.map dl=((PL.take n).filter (fun s=>blw s.l x)).map wordS)∧Hid (∀ y∈ws,y.size≤100)∧Hid (Own w.heap.size wr oSltS fp [.slice va PL.length vc] PL)∧Hid (Blk wr (w.heap.size+1) [(.int .i64 x.lv),(.int .i64 x.st)] 36)∧Hid (Ext w wr)) (fun _ i _=>PL.length-(intOf i).toNat)
 case atStart=>exact⟨0,[],Nat.zero_le _,rfl,Nat.le_refl _,HO2,tH rfl,tH (by simp),HS,HL2,HX2⟩
 case round =>
  clear HS HO2 HX2 HL2
  obtain⟨n,ws,hn,rfl,hwl,HO,HW,HZ,HS,HLb,HX⟩:=hrel
  obtain⟨oa,oc,rfl⟩:=HO.out.shape
  by_cases hlt:n < PL.length
  ·obtain⟨bS,oS,hva⟩:=slr_some (oSltS_mI HS.out.1) hlt
   subst hva
   obtain⟨cs,_,hcs,na,nn,nc,he5⟩:=slr_cells (oSltS_mI HS.out.1) hlt
   subst he5
   have HTK:=tH (show PL.take (n+1)=PL.take n++[PL[n]] from List.take_succ_eq_append_getElem hlt)
   have hbd:=HBD.out.2 PL[n] (List.getElem_mem hlt)
   obtain⟨r,hr⟩:∃ r,PL[n]=r:=⟨_,rfl⟩
   rw[hr] at hcs HTK hbd
   clear hr
   obtain⟨⟨lv,st⟩,id,start,nodes⟩:=r
   obtain⟨N,rfl⟩:=Int.eq_ofNat_of_zero_le (show 0≤id by have:=hbd.1.2.1;simp only at this;omega)
   obtain⟨M,rfl⟩:=Int.eq_ofNat_of_zero_le (show 0≤start from hbd.2.1)
   have HBN:=tH (show labR ⟨lv,st⟩=true∧N≤3∧M≤1000000 from ⟨hbd.1.1,by have:=hbd.1.2.2;simp only at this;omega,by have:=hbd.2.2;simp only at this;omega⟩)
   have hst:I64 st:=labR_st HBN.out.1
   have c0:wr.cell? ⟨bS,oS+n*5,none⟩=some (.int .i64 lv):=hcs 0 _ rfl
   have c1:wr.cell? ⟨bS,oS+n*5+1,none⟩=some (.int .i64 st):=hcs 1 _ rfl
   have c2:wr.cell? ⟨bS,oS+n*5+2,none⟩=some (.int .i64 (N:Int)):=hcs 2 _ rfl
   have c3:wr.cell? ⟨bS,oS+n*5+3,none⟩=some (.int .i64 (M:Int)):=hcs 3 _ rfl
   have c4:wr.cell? ⟨bS,oS+n*5+4,none⟩=some (.slice na nn nc):=hcs 4 _ rfl
   have so:=World.old_of_cell c0
   clear hcs hbd
   go_upto_region 5 with fail
   refine gen_world (fun W3 hW=>?_)
   have HO3:=tH (show Row w.heap.size W3 9 1 sCell _ ws by rw[hW];exact HO.out.ext xE)
   have HS3:=tH (show Own w.heap.size W3 oSltS fp _ PL by rw[hW];exact HS.out.ext oSltS_local oSltS_held xE)
   have HL3:=tH (show Blk W3 (w.heap.size+1) _ _ by rw[hW];exact HLb.out.ext xE)
   have HX3:=tH (show Ext w W3 by rw[hW];exact HX.out.trans xE)
   have HJ3:=tH (show Blk W3 wr.heap.size [(.int .i64 lv),(.int .i64 st),(.int .i64 (N:Int)),(.int .i64 (M:Int)),.slice na nn nc] 104 by rw[hW];exact Blk.new (cs:=#[(.int .i64 lv),(.int .i64 st),(.int .i64 (N:Int)),(.int .i64 (M:Int)),.slice na nn nc]) rfl)
   clear hW c0 c1 c2 c3 c4 so HO HS HX HLb
   generalize wr.heap.size=bJ at HJ3 ⊢
   have j0:W3.cell? ⟨bJ,0,none⟩=some (.int .i64 lv):=HJ3.out.cell 0
   have j1:W3.cell? ⟨bJ,1,none⟩=some (.int .i64 st):=HJ3.out.cell 1
   have j2:W3.cell? ⟨bJ,2,none⟩=some (.int .i64 (N:Int)):=HJ3.out.cell 2
   have j3:W3.cell? ⟨bJ,3,none⟩=some (.int .i64 (M:Int)):=HJ3.out.cell 3
   have jo:=HJ3.out.old
   have l0:W3.cell? ⟨w.heap.size+1,0,none⟩=some (.int .i64 x.lv):=HL3.out.cell 0
   have l1:W3.cell? ⟨w.heap.size+1,1,none⟩=some (.int .i64 x.st):=HL3.out.cell 1
   have lo:=HL3.out.old
   go_wp2_with fail
   refine(implbelow_any lv st x.lv x.st _ hst).mono ?_
   rintro e _ ⟨rfl,X,rfl⟩
   cases hbl:blw ⟨lv,st⟩ ⟨x.lv,x.st⟩
   ·have HF:=tH (show (PL.take (n+1)).filter (fun s=>blw s.l x)=(PL.take n).filter (fun s=>blw s.l x) by
     rw[HTK.out,List.filter_append,List.filter_cons,if_neg (by simp only[Bool.not_eq_true];exact hbl)];simp)
    clear hbl
    go_wp2
    exact⟨⟨n+1,ws,by omega,by go_num,by omega,tH (HO3.out.ext xE),tH (by rw[HF.out];exact HW.out),HZ,tH (HS3.out.ext oSltS_local oSltS_held xE),tH (HL3.out.ext xE),tH (HX3.out.trans xE)⟩,by simp[intOf];omega⟩
   have HF:=tH (show (PL.take (n+1)).filter (fun s=>blw s.l x)=(PL.take n).filter (fun s=>blw s.l x)++[⟨⟨lv,st⟩,(N:Int),(M:Int),nodes⟩] by
    rw[HTK.out,List.filter_append,List.filter_cons,if_pos hbl];rfl)
   clear hbl
   have HLW:=tH (HL.out.ext HX3.out)
   go_upto_region 6 with fail
   obtain⟨zL,hzL⟩:∃ z,(⟨(lblT ⟨lv,st⟩).toArray⟩:ByteArray)=z:=⟨_,rfl⟩
   obtain⟨zI,hzI⟩:∃ z,(⟨(Lib.itoa (N:Int)).toArray⟩:ByteArray)=z:=⟨_,rfl⟩
   obtain⟨zS,hzS⟩:∃ z,(⟨(Lib.itoa (M:Int)).toArray⟩:ByteArray)=z:=⟨_,rfl⟩
   have HZL:=tH hzL
   have HZI:=tH hzI
   have HZS:=tH hzS
   have hN3:N≤3:=HBN.out.2.1
   have hM6:M≤1000000:=HBN.out.2.2
   have hl5:zL.size≤5:=by rw[← hzL,size_list];exact lblT_len _
   have hi7:zI.size≤7:=by rw[← hzI,size_list];exact itoa_len6 (by omega) (by omega)
   have hs7:zS.size≤7:=by rw[← hzS,size_list];exact itoa_len6 (by omega) (by omega)
   clear hzL hzI hzS
   (refine wp_region_y 15 [(fun u _=>u=(.slice oa ws.length oc)),(fun u _=>u=(.pointer (some ⟨bJ,0,none⟩))),(fun u _=>u=(.agg #[(.int .i64 lv),(.int .i64 st)])),(fun u _=>u=(.string zL)),(fun u _=>u=(.string (zL++⟨#[35]⟩))),(fun u _=>u=(.pointer (some ⟨bJ,2,none⟩))),(fun u _=>u=((.int .i64 (N:Int)))),(fun u _=>u=(.string zI)),(fun u _=>u=(.string (zL++⟨#[35]⟩++zI))),(fun u _=>u=(.string (zL++⟨#[35]⟩++zI++⟨#[64]⟩))),(fun u _=>u=(.pointer (some ⟨bJ,3,none⟩))),(fun u _=>u=((.int .i64 (M:Int)))),(fun u _=>u=(.string zS)),(fun u _=>u=(.string (zL++⟨#[35]⟩++zI++⟨#[64]⟩++zS))),kBk1 (zL++⟨#[35]⟩++zI++⟨#[64]⟩++zS)] (by kernel_rfl) (by kernel_rfl) (by kernel_rfl) rfl ?_ (by (repeat' (first | exact trivial | exact XReg.GoodK.same _ default | refine And.intro ?_ ?_));all_goals exact kBk1_good _))
   refine YReg.va (.slice oa ws.length oc) ?_
   refine YReg.va (.pointer (some ⟨bJ,0,none⟩)) ?_
   refine YReg.va (.agg #[(.int .i64 lv),(.int .i64 st)]) ?_
   (apply YReg.val (.string zL);(case h=>(intro w' hw' hF';obtain⟨X',rfl⟩:=hw';have HF':=tH hF';clear hF';go_wp2_with ((go_at_call 71;refine(implLabelText_any ⟨lv,st⟩ _).mono ?_;rintro e _ ⟨rfl,Y,rfl⟩;rw[HZL.out]));exact⟨rfl,xE⟩));(case hv=>kernel_rfl))
   (apply YReg.val (.string (zL++⟨#[35]⟩));(case h=>(intro w' hw' hF';obtain⟨X',rfl⟩:=hw';have HF':=tH hF';clear hF';go_wp2_with (fail);exact⟨rfl,xE⟩));(case hv=>kernel_rfl))
   refine YReg.va (.pointer (some ⟨bJ,2,none⟩)) ?_
   refine YReg.va ((.int .i64 (N:Int))) ?_
   (apply YReg.val (.string zI);(case h=>(intro w' hw' hF';obtain⟨X',rfl⟩:=hw';have HF':=tH hF';clear hF';go_wp2_with ((go_at_call 49;refine(decimal_any (N:Int) _ (by omega) (by omega) (HLW.out.ext xE)).mono ?_;rintro e _ ⟨rfl,Y,rfl⟩;rw[HZI.out]));exact⟨rfl,xE⟩));(case hv=>kernel_rfl))
   (apply YReg.val (.string (zL++⟨#[35]⟩++zI));(case h=>(intro w' hw' hF';obtain⟨X',rfl⟩:=hw';have HF':=tH hF';clear hF';go_wp2_with (fail);exact⟨rfl,xE⟩));(case hv=>kernel_rfl))
   (apply YReg.val (.string (zL++⟨#[35]⟩++zI++⟨#[64]⟩));(case h=>(intro w' hw' hF';obtain⟨X',rfl⟩:=hw';have HF':=tH hF';clear hF';go_wp2_with (fail);exact⟨rfl,xE⟩));(case hv=>kernel_rfl))
   refine YReg.va (.pointer (some ⟨bJ,3,none⟩)) ?_
   refine YReg.va ((.int .i64 (M:Int))) ?_
   (apply YReg.val (.string zS);(case h=>(intro w' hw' hF';obtain⟨X',rfl⟩:=hw';have HF':=tH hF';clear hF';go_wp2_with ((go_at_call 49;refine(decimal_any (M:Int) _ (by omega) (by omega) (HLW.out.ext xE)).mono ?_;rintro e _ ⟨rfl,Y,rfl⟩;rw[HZS.out]));exact⟨rfl,xE⟩));(case hv=>kernel_rfl))
   (apply YReg.val (.string (zL++⟨#[35]⟩++zI++⟨#[64]⟩++zS));(case h=>(intro w' hw' hF';obtain⟨X',rfl⟩:=hw';have HF':=tH hF';clear hF';go_wp2_with (fail);exact⟨rfl,xE⟩));(case hv=>kernel_rfl))
   refine YReg.kind (fun w' hw' hF'=>?_) (fun v w1 hK=>?_)
   ·obtain⟨X',rfl⟩:=hw'
    clear hF'
    go_wp2
    exact⟨xE,_,rfl,blk_str9 (by simp)⟩
   obtain⟨g1,rfl,-⟩:=hK
   clear w1
   refine YReg.done (fun X9 hF=>?_)
   obtain⟨g2,hv,hB9⟩:=hF 14 (kBk1 (zL++⟨#[35]⟩++zI++⟨#[64]⟩++zS),.slice (some ⟨g1,0,none⟩) 1 1) (by kernel_rfl)
   obtain rfl:g1=g2:=by simpa using hv
   have HB9:=tH hB9
   have HOx:=tH (HO3.out.ext (((Ext.refl W3).plus X).plus X9))
   have HSx:=tH (HS3.out.ext oSltS_local oSltS_held (((Ext.refl W3).plus X).plus X9))
   have HLx:=tH (HL3.out.ext (((Ext.refl W3).plus X).plus X9))
   have HXx:=tH (HX3.out.trans (((Ext.refl W3).plus X).plus X9))
   have hzz:=tH HXx.out.below.size
   obtain⟨z,hz⟩:∃ z,(zL++⟨#[35]⟩++zI++⟨#[64]⟩++zS)=z:=⟨_,rfl⟩
   have HDL:=tH (show dl z=wordS ⟨⟨lv,st⟩,(N:Int),(M:Int),nodes⟩ by
    rw[← hz]
    unfold wordS
    show ((zL++⟨#[35]⟩++zI++⟨#[64]⟩++zS)).data.toList=_
    rw[← HZL.out,← HZI.out,← HZS.out]
    simp)
   have HSZ:=tH (show z.size≤100 by
    rw[← hz]
    have h1:(⟨#[35]⟩:ByteArray).size=1:=rfl
    have h2:(⟨#[64]⟩:ByteArray).size=1:=rfl
    simp only[ByteArray.size_append,h1,h2]
    omega)
   rw[hz] at HB9
   clear hF hv hB9 hz hl5 hi7 hs7 hN3 hM6 HZL HZI HZS j0 j1 j2 j3 jo l0 l1 lo HO3 HS3 HL3 HX3 HJ3 HLW
   generalize (W3.plus X).plus X9=W9 at HB9 HOx HSx HLx HXx hzz ⊢
   simp only[List.drop_succ_cons,List.drop_zero]
   go_wp2_with (at_builtin;go_must (refine Row.appC (f:=sCell) el_Str9 rfl _ _ rfl w.heap.size hzz.out _ ws rfl HOx.out ⟨g1,0,none⟩ 1 1 [z] rfl rfl (fun _=>rfl) ?_ ?_ ?_ ?_ ?_);(intro i u hi;rw[Addr.add_lit,Nat.zero_add,HB9.out.cell i];simpa [sCell] using hi);(intro u hu;simp only[sCell,List.flatMap_cons,List.flatMap_nil,List.append_nil] at hu;obtain rfl:=List.mem_singleton.1 hu;rfl);(unfold maxLen;simp;omega);(simp;omega);intro v' w2 hR hC;have HR2:=tH hR;have HC2:=tH hC;clear hR hC)
   exact⟨⟨n+1,ws++[z],by omega,by go_num,by simp;omega,HR2,tH (by rw[List.map_append,HW.out,HF.out,List.map_append,List.map_cons,List.map_nil,HDL.out];rfl),tH (fun y hy=>by
    rcases List.mem_append.1 hy with hy | hy
    ·exact HZ.out y hy
    ·obtain rfl:=List.mem_singleton.1 hy;exact HSZ.out),tH (own_sltRow HSx.out HOx.out HC2.out),tH (blkM_row HLx.out HOx.out (by decide) HC2.out),tH (HC2.out.ext HXx.out (fun b hb=>(HOx.out.blk b hb).1))⟩,by simp[intOf];omega⟩
  ·obtain rfl:n=PL.length:=by omega
   have HPT:=tH (show joinW (ws.map dl)=planT p x by
    rw[HST.out,HW.out,List.take_of_length_le (Nat.le_refl _)])
   go_wp2_with fail
   refine(listOrNone_any oa oc ws _ (row_rc (f:=sCell) (fun _=>rfl) HO.out) (by omega) HZ.out).mono ?_
   rintro e _ ⟨⟨z,rfl,hd⟩,X,rfl⟩
   rw[HPT.out] at hd
   have HD:=tH hd
   clear hd
   go_wp2
   go_ret
   exact⟨⟨z,rfl,HD.out⟩,HX.out.trans xE⟩
end Go.Proofs.YtbmbanelodabgaaGreatDoor
set_option maxRecDepth 100000
set_option linter.unusedVariables false
namespace Go.Proofs.YtbmbanelodabgaaGreatDoor
open Go.RowKit Go.Fin1
theorem implAdvance_any (p:Pl) (v:Value) (w:World) (h:ePool w v p) (hf:p.fits 1048576) :
  Calls Tryz.prog 82 #[v] w fun e w'=>∃ cv jv fc fj,e=.returned (poV (advR p).1 (advR p).2.1 (advR p).2.2 cv jv)∧Ext w w'∧OwnP w.heap.size w' fc fj cv jv (advR p).1:=by
 cases hq:poolR p
 ·rw[advR_form hq];exact implAdvance_form p v w h hq
 ·by_cases hn:p.now=999900
  ·rw[advR_full hq hn];exact implAdvance_full p v w h hq hn
  ·rw[advR_yes hq hn];exact implAdvance_yes p v w h hf (tH hq) hn
end Go.Proofs.YtbmbanelodabgaaGreatDoor
set_option maxRecDepth 100000
set_option linter.unusedVariables false
set_option linter.unusedSimpArgs false
namespace Go.Proofs.YtbmbanelodabgaaGreatDoor
open Go.RowKit Go.Fin1
theorem set5_chgI (w:World) (g:Nat) (a b c d e:Value):Chg [g] w (((((w.setCell ⟨g,0,none⟩ a).setCell ⟨g,1,none⟩ b).setCell ⟨g,2,none⟩ c).setCell ⟨g,3,none⟩ d).setCell ⟨g,4,none⟩ e):=(((((Chg.refl _ _).setCell (.inl (by simp)) _).setCell (.inl (by simp)) _).setCell (.inl (by simp)) _).setCell (.inl (by simp)) _).setCell (.inl (by simp)) _
def PoW (w:World) (b:Nat) (q:Pl) (id c:Int):Prop:=∃ (pa:Option Addr) (pc:Nat) (pb:Option Addr) (pd:Nat) (fc fj:List Nat),Blk w b [.slice pa q.clear.length pc,.slice pb q.jobs.length pd,(.int .i64 q.now),(.int .i64 id),(.int .i64 c)] 43∧OwnP 0 w fc fj (.slice pa q.clear.length pc) (.slice pb q.jobs.length pd) q
set_option maxHeartbeats 1600000 in
theorem tick_any (p:Pl) (n:Nat) (ca:Option Addr) (cc:Nat) (ja:Option Addr) (jc:Nat) (fc fj:List Nat) (w:World) (hO:OwnP 0 w fc fj (.slice ca p.clear.length cc) (.slice ja p.jobs.length jc) p) (hR:poolR p=true) (hn:p.now+n≤100000) :
  Calls Tryz.prog 50 #[.agg #[.slice ca p.clear.length cc,.slice ja p.jobs.length jc,(.int .i64 p.now)],(.int .i64 (n:Int))] w fun e w'=>∃ cv jv gc gj,e=.returned (poV (tickN n p) 0 0 cv jv)∧Ext w w'∧OwnP 0 w' gc gj cv jv (tickN n p):=by
 have HR:=tH hR
 have HO:=tH hO
 have hpn:=(poolR_of hR).nw
 clear hO hR
 have hfp:∀ (a b c d e:Value) w,(Instr.field 43 (.agg #[a,b,c,d,e]) 0).run Tryz.prog w=.ok (.agg #[a,b,c]) w:=fun a b c d e w=>by kernel_rfl
 go_enter Tryz.func50,Tryz.ntmps50
 go_upto_region 2 with fail
 refine gen_world (fun W1 hW=>?_)
 have HX1:=tH (show Ext w W1 by rw[hW];exact xE)
 have HZ1:=tH (show Blk W1 (w.heap.size+1) [.slice none 0 0,.slice none 0 0,(.int .i64 0),(.int .i64 0),(.int .i64 0)] 43 by rw[hW];exact(Blk.new (w:=w.alloc (.cells #[.slice ca p.clear.length cc,.slice ja p.jobs.length jc,(.int .i64 p.now)] 41)) (cs:=#[.slice none 0 0,.slice none 0 0,(.int .i64 0),(.int .i64 0),(.int .i64 0)]) (by simp)).ext xE)
 have HQ1:=tH (show PoW W1 (w.heap.size+1+1) p 0 0 by
  rw[hW]
  exact⟨ca,cc,ja,jc,fc,fj,Blk.new (cs:=#[.slice ca p.clear.length cc,.slice ja p.jobs.length jc,(.int .i64 p.now),(.int .i64 0),(.int .i64 0)]) (by simp),HO.out.ext xE⟩)
 clear hW HO
 go_wp2
 go_loopw [9] (fun i wr=>∃ (m:Nat) (q:Pl),m≤n∧i=(.int .i64 (m:Int))∧Hid (tickN (n-m) q=tickN n p)∧Hid (poolR q=true)∧Hid (q.now=p.now+m)∧Hid (PoW wr (w.heap.size+1+1) q 0 0)∧Hid (Blk wr (w.heap.size+1) [.slice none 0 0,.slice none 0 0,(.int .i64 0),(.int .i64 0),(.int .i64 0)] 43)∧Hid (Ext w wr)) (fun i _=>n-(intOf i).toNat)
 case atStart=>exact⟨0,p,Nat.zero_le _,rfl,tH rfl,HR,tH (by simp),HQ1,HZ1,HX1⟩
 case round =>
  clear HQ1 HZ1 HX1
  obtain⟨m,q,hm,rfl,HT,HQR,hqn,HQ,HZ,HX⟩:=hrel
  obtain⟨pa,pc,pb,pd,gc,gj,hB,hO⟩:=HQ.out
  have HB:=tH hB
  have HO:=tH hO
  have HE:=tH (hO.e' (right_ok HQR.out).1)
  have b0:wr.cell? ⟨w.heap.size+1+1,0,none⟩=some (.slice pa q.clear.length pc):=hB.cell 0
  have b1:wr.cell? ⟨w.heap.size+1+1,1,none⟩=some (.slice pb q.jobs.length pd):=hB.cell 1
  have b2:wr.cell? ⟨w.heap.size+1+1,2,none⟩=some (.int .i64 q.now):=hB.cell 2
  have b3:wr.cell? ⟨w.heap.size+1+1,3,none⟩=some (.int .i64 0):=hB.cell 3
  have b4:wr.cell? ⟨w.heap.size+1+1,4,none⟩=some (.int .i64 0):=hB.cell 4
  have bo:=hB.old
  clear hB hO HQ
  by_cases hlt:m < n
  ·have hltb:decide ((m:Int) < (n:Int))=true:=decide_eq_true (by omega)
   have hltn:decide (m < n)=true:=decide_eq_true hlt
   go_wp2_with fail
   refine(implAdvance_any q (q.val (.slice pa q.clear.length pc) (.slice pb q.jobs.length pd)) _ (HE.out.ext xE) (right_fits HQR.out)).mono ?_
   rintro e _ ⟨cv,jv,fc9,fj9,rfl,⟨X2,rfl⟩,hO9⟩
   obtain⟨ca9,cc9,rfl⟩:=hO9.1.shape
   obtain⟨ja9,jc9,rfl⟩:=hO9.2.1.shape
   have hq9:¬ q.now=999900:=by have:=hqn.out;omega
   have e9:(advR q).1=advP q:=by rw[advR_yes HQR.out hq9]
   rw[advR_yes HQR.out hq9] at hO9 ⊢
   simp only at hO9 ⊢
   have HN3:=tH (show (advP q).now=q.now+1 by unfold advP;rfl)
   have HR3:=tH (advP_right HQR.out hq9)
   have HT3:=tH (show tickN (n-(m+1)) (advP q)=tickN n p by
    have h9:tickN (n-m) q=tickN n p:=HT.out
    rw[show n-m=(n-(m+1))+1 by omega,show tickN (n-(m+1)+1) q=tickN (n-(m+1)) (advR q).1 from rfl,e9] at h9;exact h9)
   have HO3:=tH (hO9.mono (Nat.zero_le _))
   have HB3:=tH (HB.out.ext ((Ext.refl wr).plus X2))
   have HZ3:=tH (HZ.out.ext ((Ext.refl wr).plus X2))
   have HX3:=tH (HX.out.plus X2)
   clear hO9 HB HO HE b0 b1 b2 b3 b4 bo HT hq9 e9 HZ HX
   generalize hQ9:advP q=q9 at HN3 HR3 HT3 HO3 ⊢
   clear hQ9
   unfold poV
   generalize wr.plus X2=W3 at HO3 HZ3 HX3 HB3 ⊢
   have b0:W3.cell? ⟨w.heap.size+1+1,0,none⟩=some (.slice pa q.clear.length pc):=HB3.out.cell 0
   have b1:W3.cell? ⟨w.heap.size+1+1,1,none⟩=some (.slice pb q.jobs.length pd):=HB3.out.cell 1
   have b2:W3.cell? ⟨w.heap.size+1+1,2,none⟩=some (.int .i64 q.now):=HB3.out.cell 2
   have b3:W3.cell? ⟨w.heap.size+1+1,3,none⟩=some (.int .i64 0):=HB3.out.cell 3
   have b4:W3.cell? ⟨w.heap.size+1+1,4,none⟩=some (.int .i64 0):=HB3.out.cell 4
   have bo:=HB3.out.old
   have bf:=HB3.out.fz
   go_upto_region 5 with fail
   refine gen_world (fun W4 hW=>?_)
   have hC:Chg [w.heap.size+1+1] W3 W4:=by rw[hW];exact set5_chgI _ _ _ _ _ _ _
   have HB4:=tH (show Blk W4 (w.heap.size+1+1) [.slice ca9 q9.clear.length cc9,.slice ja9 q9.jobs.length jc9,(.int .i64 q9.now),(.int .i64 0),(.int .i64 0)] 43 by rw[hW];exact((((HB3.out.set 0 _).set 1 _).set 2 _).set 3 _).set 4 _)
   have HO4:=tH (HO3.out.far hC (ownP_boxM HO3.out HB3.out (by decide) (by decide)))
   have HZ4:=tH (HZ3.out.chg hC (by simp))
   have HX4:=tH (hC.ext HX3.out (by simp;omega))
   clear hW hC b0 b1 b2 b3 b4 bo bf HB3 HO3 HZ3 HX3
   have b4:W4.cell? ⟨w.heap.size+1+1,4,none⟩=some (.int .i64 0):=HB4.out.cell 4
   have bo:=HB4.out.old
   go_wp2
   exact⟨⟨m+1,q9,by omega,by go_num,HT3,HR3,tH (by have:=HN3.out;have:=hqn.out;push_cast;omega),tH ⟨ca9,cc9,ja9,jc9,_,_,HB4.out,HO4.out⟩,HZ4,HX4⟩,by simp[intOf];omega⟩
  ·have hltb:decide ((m:Int) < (n:Int))=false:=decide_eq_false (by omega)
   have hltn:decide (m < n)=false:=decide_eq_false hlt
   obtain rfl:m=n:=by omega
   have HQ9:=tH (show q=tickN m p from by have h:=HT.out;rw[Nat.sub_self] at h;exact h)
   have z0:wr.cell? ⟨w.heap.size+1,0,none⟩=some (.slice none 0 0):=HZ.out.cell 0
   have z1:wr.cell? ⟨w.heap.size+1,1,none⟩=some (.slice none 0 0):=HZ.out.cell 1
   have z2:wr.cell? ⟨w.heap.size+1,2,none⟩=some (.int .i64 0):=HZ.out.cell 2
   have z3:wr.cell? ⟨w.heap.size+1,3,none⟩=some (.int .i64 0):=HZ.out.cell 3
   have z4:wr.cell? ⟨w.heap.size+1,4,none⟩=some (.int .i64 0):=HZ.out.cell 4
   have zo:=HZ.out.old
   have zf:=HZ.out.fz
   go_wp2
   refine gen_post (fun W9 hW=>?_)
   have hC:Chg [w.heap.size+1] wr W9:=by rw[hW];exact set5_chgI _ _ _ _ _ _ _
   have HB9:=tH (show Blk W9 (w.heap.size+1) [.slice pa q.clear.length pc,.slice pb q.jobs.length pd,(.int .i64 q.now),(.int .i64 0),(.int .i64 0)] 43 by rw[hW];exact((((HZ.out.set 0 _).set 1 _).set 2 _).set 3 _).set 4 _)
   have HO9:=tH (HO.out.far hC (ownP_boxM HO.out HZ.out (by decide) (by decide)))
   have HX9:=tH (hC.ext HX.out (by simp))
   have y0:W9.cell? ⟨w.heap.size+1,0,none⟩=some (.slice pa q.clear.length pc):=HB9.out.cell 0
   have y1:W9.cell? ⟨w.heap.size+1,1,none⟩=some (.slice pb q.jobs.length pd):=HB9.out.cell 1
   have y2:W9.cell? ⟨w.heap.size+1,2,none⟩=some (.int .i64 q.now):=HB9.out.cell 2
   have y3:W9.cell? ⟨w.heap.size+1,3,none⟩=some (.int .i64 0):=HB9.out.cell 3
   have y4:W9.cell? ⟨w.heap.size+1,4,none⟩=some (.int .i64 0):=HB9.out.cell 4
   refine bodyPost_ret (v:=poV q 0 0 (.slice pa q.clear.length pc) (.slice pb q.jobs.length pd)) (by unfold poV;simp[results,Tryz.results50,go_sem,y0,y1,y2,y3,y4]) rfl ?_
   rw[← HQ9.out]
   exact⟨_,_,gc,gj,rfl,HX9.out,HO9.out⟩
end Go.Proofs.YtbmbanelodabgaaGreatDoor
