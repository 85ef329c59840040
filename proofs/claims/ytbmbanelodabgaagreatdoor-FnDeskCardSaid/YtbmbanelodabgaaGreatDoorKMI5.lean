/- The implementation's desk: what a label sees. -/
import Derived.Test.YtbmbanelodabgaaGreatDoorKVN
set_option maxRecDepth 100000
set_option linter.unusedVariables false
set_option linter.unusedSimpArgs false
namespace Go.Proofs.YtbmbanelodabgaaGreatDoor
open Go.RowKit Go.Fin1
theorem seenR_any (l:List Jb) (ca:Option Addr) (cn cc:Nat) (ja:Option Addr) (jc:Nat) (now:Int) (x:Lab) (w:World) (h:SlR w 9 rJob (.slice ja l.length jc) l) (hl:l.length≤1000) (hn:l.Pairwise NeJ) :
  Calls Tryz.prog 72 #[.agg #[.slice ca cn cc,.slice ja l.length jc,(.int .i64 now)],.agg #[(.int .i64 x.lv),(.int .i64 x.st)]] w fun e w'=>∃ (a:Option Addr) (cp:Nat) (rs:List RJ),e=.returned (.slice a rs.length cp)∧Ext w w'∧Row w.heap.size w' 92 9 RJ.cells (.slice a rs.length cp) rs∧rs.map Prod.fst=seesL l x:=by
 cases ja with
 | none =>
  have h0:l=[]:=by
   cases l with
   | nil=>rfl
   | cons y l=>obtain⟨b,off,he⟩:=slr_some h (Nat.zero_lt_succ _);cases he
  subst h0
  have hs:seesL [] x=[]:=by unfold seesL;rw[sorted0];rfl
  rw[hs]
  refine(seen0_any _ _ _ x w).mono ?_
  rintro e w' ⟨rfl,hx⟩
  exact⟨none,0,[],rfl,hx,Row.nil _ _ _ _ _,rfl⟩
 | some ja =>
  refine(seen_any l ca cn cc ja jc now x w h hl hn).mono ?_
  rintro e w' ⟨g,k,cp,rs,rfl,hx,hR,hm,hk⟩
  have hkl:k=rs.length:=by
   rcases hR.2 with ⟨h1,_⟩ | ⟨_,_,_,h1,_⟩
   ·cases h1
   ·cases h1;rfl
  subst hkl
  exact⟨_,cp,rs,rfl,hx,hR,by unfold seesL;exact hm⟩
theorem rjR_at {B:Nat} {w:World} {b off n c:Nat} {rs:List RJ} (h:Row B w 92 9 RJ.cells (.slice (some ⟨b,off,none⟩) n c) rs) {i:Nat} (hi:i < rs.length) :
  w.old b∧∀ q u,(RJ.cells rs[i])[q]?=some u→w.cell? ⟨b,off+i*9+q,none⟩=some u:=by
 obtain⟨cs,_,hc,he⟩:=slr_cells (row_rc (f:=RJ.cells) (fun _=>rfl) h) hi
 have he':cs=RJ.cells rs[i]:=he
 subst he'
 exact⟨World.old_of_cell (hc 0 _ rfl),hc⟩
def letI8 (S:Nat):ByteArray:=(⟨#[32,119,114,100,104]⟩:ByteArray).extract S (S+1)
theorem letI8_dl {S:Nat} (h:1≤S∧S≤4):dl (letI8 S)=[letS (S:Int)]:=by
 have:S=1∨S=2∨S=3∨S=4:=by omega
 rcases this with rfl | rfl | rfl | rfl<;>decide
theorem letI8_size {S:Nat} (h:1≤S∧S≤4):(letI8 S).size≤1:=by
 have h1:=congrArg List.length (letI8_dl h)
 have h2:(dl (letI8 S)).length=(letI8 S).size:=ba_len _
 simp at h1;omega
theorem sees_bdR {p:Pl} (h:poolR p=true) (x:Lab):(seesL p.jobs x).length≤96∧∀ j∈seesL p.jobs x,(labR j.l=true∧(1≤j.id∧j.id≤3)∧(1≤j.state∧j.state≤4))∧(j.state=2→0≤j.start∧j.start≤1000000):=by
 obtain⟨h1,h2⟩:=sees_bd h
 exact⟨by unfold seesL;exact Nat.le_trans (List.length_filter_le _ _) h1,fun j hj=>by unfold seesL at hj;exact h2 j (List.mem_filter.1 hj).1⟩
set_option maxHeartbeats 1600000 in
theorem seeI_any (p:Pl) (ca:Option Addr) (cc:Nat) (ja:Option Addr) (jc:Nat) (x:Lab) (w:World) (hJ:SlR w 9 rJob (.slice ja p.jobs.length jc) p.jobs) (hR:poolR p=true) (hL:LibW w) :
  Calls Tryz.prog 46 #[.agg #[.slice ca p.clear.length cc,.slice ja p.jobs.length jc,(.int .i64 p.now)],.agg #[(.int .i64 x.lv),(.int .i64 x.st)]] w fun e w'=>(∃ z,e=.returned (.string z)∧dl z=seeT p x)∧Ext w w':=by
 have HJ:=tH hJ
 have HL:=tH hL
 have HR:=tH hR
 have HN:=tH (jobsR_ne (poolR_of hR).js)
 have HJL:=tH (jobsR_len (poolR_of hR).js)
 have HBD:=tH (sees_bdR hR x)
 have HST:=tH (show seeT p x=joinW ((seesL p.jobs x).map wordJ) by unfold seeT;rfl)
 clear hJ hR hL
 go_enter Tryz.func46,Tryz.ntmps46
 go_wp2_with fail
 refine(seenR_any p.jobs _ _ _ _ _ _ x _ (HJ.out.ext rJob_stable xE) (by have:=HJL.out;omega) HN.out).mono ?_
 rintro e _ ⟨va,vc,rs,rfl,⟨X2,rfl⟩,hS,hm⟩
 have HS:=tH (hS.mono (B':=w.heap.size) ((((Ext.refl w).alloc _).alloc _).alloc _).below.size)
 rw[← hm] at HBD HST
 have HM:=tH hm
 clear hS hm
 go_upto_region 3 with fail
 refine gen_world (fun W2 hW=>?_)
 have HX2:=tH (show Ext w W2 by rw[hW];exact xE)
 have HO2:=tH (show Row w.heap.size W2 9 1 sCell (.slice (some ⟨w.heap.size+1+1,0,none⟩) 0 0) [] by rw[hW];exact Row.ext ((Ext.refl _).plus X2) (Row.madeB' (by simp) (by simp;omega)))
 rw[← hW] at HS
 clear hW HJ HN HJL
 have hsl:rs.length≤96:=by have:=HBD.out.1;rw[List.length_map] at this;exact this
 go_loopw [5,14] (fun o i wr=>∃ (n:Nat) (ws:List ByteArray),n≤rs.length∧i=(.int .i64 (n:Int))∧ws.length≤n∧Hid (Row w.heap.size wr 9 1 sCell o ws)∧Hid (ws.map dl=((rs.map Prod.fst).take n).map wordJ)∧Hid (∀ y∈ws,y.size≤100)∧Hid (Row w.heap.size wr 92 9 RJ.cells (.slice va rs.length vc) rs)∧Hid (Ext w wr)) (fun _ i _=>rs.length-(intOf i).toNat)
 case atStart=>exact⟨0,[],Nat.zero_le _,rfl,Nat.le_refl _,HO2,tH rfl,tH (by simp),HS,HX2⟩
 case round =>
  clear HS HO2 HX2
  obtain⟨n,ws,hn,rfl,hwl,HO,HW,HZ,HS,HX⟩:=hrel
  obtain⟨oa,oc,rfl⟩:=HO.out.shape
  by_cases hlt:n < rs.length
  ·obtain⟨bS,oS,hva⟩:=slr_some (row_rc (f:=RJ.cells) (fun _=>rfl) HS.out) hlt
   subst hva
   obtain⟨so,hcs⟩:=rjR_at HS.out hlt
   have HTK:=tH (show (rs.map Prod.fst).take (n+1)=(rs.map Prod.fst).take n++[(rs[n]).1] by
    rw[List.take_succ_eq_append_getElem (by rw[List.length_map];exact hlt),List.getElem_map])
   have hbd:=HBD.out.2 (rs[n]).1 (List.mem_map_of_mem (List.getElem_mem hlt))
   obtain⟨r,hr⟩:∃ r,rs[n]=r:=⟨_,rfl⟩
   rw[hr] at hcs HTK hbd
   clear hr
   obtain⟨⟨⟨lv,st⟩,id,nd,lo9,pr,sta,start,nodes⟩,na,nc⟩:=r
   obtain⟨N,rfl⟩:=Int.eq_ofNat_of_zero_le (show 0≤id by have:=hbd.1.2.1.1;simp only at this;omega)
   obtain⟨S,rfl⟩:=Int.eq_ofNat_of_zero_le (show 0≤sta by have:=hbd.1.2.2.1;simp only at this;omega)
   have HBN:=tH (show labR ⟨lv,st⟩=true∧N≤3∧(1≤S∧S≤4)∧((S:Int)=2→0≤start∧start≤1000000) from ⟨hbd.1.1,by have:=hbd.1.2.1.2;simp only at this;omega,by have:=hbd.1.2.2;simp only at this;omega,hbd.2⟩)
   have c0:wr.cell? ⟨bS,oS+n*9,none⟩=some (.int .i64 lv):=hcs 0 _ rfl
   have c1:wr.cell? ⟨bS,oS+n*9+1,none⟩=some (.int .i64 st):=hcs 1 _ rfl
   have c2:wr.cell? ⟨bS,oS+n*9+2,none⟩=some (.int .i64 (N:Int)):=hcs 2 _ rfl
   have c3:wr.cell? ⟨bS,oS+n*9+3,none⟩=some (.int .i64 nd):=hcs 3 _ rfl
   have c4:wr.cell? ⟨bS,oS+n*9+4,none⟩=some (.int .i64 lo9):=hcs 4 _ rfl
   have c5:wr.cell? ⟨bS,oS+n*9+5,none⟩=some (.int .i64 pr):=hcs 5 _ rfl
   have c6:wr.cell? ⟨bS,oS+n*9+6,none⟩=some (.int .i64 (S:Int)):=hcs 6 _ rfl
   have c7:wr.cell? ⟨bS,oS+n*9+7,none⟩=some (.int .i64 start):=hcs 7 _ rfl
   have c8:wr.cell? ⟨bS,oS+n*9+8,none⟩=some (.slice na nodes.length nc):=hcs 8 _ rfl
   clear hcs hbd
   go_upto_region 5 with fail
   refine gen_world (fun W3 hW=>?_)
   have HO3:=tH (show Row w.heap.size W3 9 1 sCell _ ws by rw[hW];exact HO.out.ext xE)
   have HS3:=tH (show Row w.heap.size W3 92 9 RJ.cells _ rs by rw[hW];exact HS.out.ext xE)
   have HX3:=tH (show Ext w W3 by rw[hW];exact HX.out.trans xE)
   have HJ3:=tH (show Blk W3 wr.heap.size [(.int .i64 lv),(.int .i64 st),(.int .i64 (N:Int)),(.int .i64 nd),(.int .i64 lo9),(.int .i64 pr),(.int .i64 (S:Int)),(.int .i64 start),.slice na nodes.length nc] 92 by rw[hW];exact Blk.new (cs:=#[(.int .i64 lv),(.int .i64 st),(.int .i64 (N:Int)),(.int .i64 nd),(.int .i64 lo9),(.int .i64 pr),(.int .i64 (S:Int)),(.int .i64 start),.slice na nodes.length nc]) rfl)
   clear hW c0 c1 c2 c3 c4 c5 c6 c7 c8 so HO HS HX
   generalize wr.heap.size=bJ at HJ3 ⊢
   have HLW:=tH (HL.out.ext HX3.out)
   have j0:W3.cell? ⟨bJ,0,none⟩=some (.int .i64 lv):=HJ3.out.cell 0
   have j1:W3.cell? ⟨bJ,1,none⟩=some (.int .i64 st):=HJ3.out.cell 1
   have j2:W3.cell? ⟨bJ,2,none⟩=some (.int .i64 (N:Int)):=HJ3.out.cell 2
   have j6:W3.cell? ⟨bJ,6,none⟩=some (.int .i64 (S:Int)):=HJ3.out.cell 6
   have j7:W3.cell? ⟨bJ,7,none⟩=some (.int .i64 start):=HJ3.out.cell 7
   have jo:=HJ3.out.old
   obtain⟨zL,hzL⟩:∃ z,(⟨(lblT ⟨lv,st⟩).toArray⟩:ByteArray)=z:=⟨_,rfl⟩
   obtain⟨zI,hzI⟩:∃ z,(⟨(Lib.itoa (N:Int)).toArray⟩:ByteArray)=z:=⟨_,rfl⟩
   obtain⟨zC,hzC⟩:∃ z,letI8 S=z:=⟨_,rfl⟩
   have HZL:=tH hzL
   have HZI:=tH hzI
   have HZC:=tH hzC
   have hN3:N≤3:=HBN.out.2.1
   have hS1:1≤S:=HBN.out.2.2.1.1
   have hS4:S≤4:=HBN.out.2.2.1.2
   have hl5:zL.size≤5:=by rw[← hzL,size_list];exact lblT_len _
   have hi7:zI.size≤7:=by rw[← hzI,size_list];exact itoa_len6 (by omega) (by omega)
   have hc1:zC.size≤1:=by rw[← hzC];exact letI8_size ⟨hS1,hS4⟩
   clear hzL hzI hzC
   (refine wp_region_y 17 [(fun u _=>u=(.pointer (some ⟨bJ,0,none⟩))),(fun u _=>u=(.agg #[(.int .i64 lv),(.int .i64 st)])),(fun u _=>u=(.string zL)),(fun u _=>u=(.string (zL++⟨#[35]⟩))),(fun u _=>u=(.pointer (some ⟨bJ,2,none⟩))),(fun u _=>u=((.int .i64 (N:Int)))),(fun u _=>u=(.string zI)),(fun u _=>u=(.string (zL++⟨#[35]⟩++zI))),(fun u _=>u=(.string (zL++⟨#[35]⟩++zI++⟨#[61]⟩))),(fun u _=>u=(.pointer (some ⟨bJ,6,none⟩))),(fun u _=>u=((.int .i64 (S:Int)))),(fun u _=>u=(.pointer (some ⟨bJ,6,none⟩))),(fun u _=>u=((.int .i64 (S:Int)))),(fun u _=>u=((.int .i64 ((S:Int)+1)))),(fun u _=>u=(.string zC)),(fun u _=>u=(.string (zL++⟨#[35]⟩++zI++⟨#[61]⟩++zC))),(fun u _=>u=(.string (zL++⟨#[35]⟩++zI++⟨#[61]⟩++zC)))] (by kernel_rfl) (by kernel_rfl) (by kernel_rfl) rfl ?_ (by (repeat' (first | exact trivial | exact XReg.GoodK.same _ default | refine And.intro ?_ ?_));all_goals fail))
   refine YReg.va (.pointer (some ⟨bJ,0,none⟩)) ?_
   refine YReg.va (.agg #[(.int .i64 lv),(.int .i64 st)]) ?_
   (apply YReg.val (.string zL);(case h=>(intro w' hw' hF';obtain⟨X',rfl⟩:=hw';have HF':=tH hF';clear hF';go_wp2_with ((go_at_call 71;refine(implLabelText_any ⟨lv,st⟩ _).mono ?_;rintro e _ ⟨rfl,Y,rfl⟩;rw[HZL.out]));exact⟨rfl,xE⟩));(case hv=>kernel_rfl))
   (apply YReg.val (.string (zL++⟨#[35]⟩));(case h=>(intro w' hw' hF';obtain⟨X',rfl⟩:=hw';have HF':=tH hF';clear hF';go_wp2_with (fail);exact⟨rfl,xE⟩));(case hv=>kernel_rfl))
   refine YReg.va (.pointer (some ⟨bJ,2,none⟩)) ?_
   refine YReg.va ((.int .i64 (N:Int))) ?_
   (apply YReg.val (.string zI);(case h=>(intro w' hw' hF';obtain⟨X',rfl⟩:=hw';have HF':=tH hF';clear hF';go_wp2_with ((go_at_call 49;refine(decimal_any (N:Int) _ (by omega) (by omega) (HLW.out.ext xE)).mono ?_;rintro e _ ⟨rfl,Y,rfl⟩;rw[HZI.out]));exact⟨rfl,xE⟩));(case hv=>kernel_rfl))
   (apply YReg.val (.string (zL++⟨#[35]⟩++zI));(case h=>(intro w' hw' hF';obtain⟨X',rfl⟩:=hw';have HF':=tH hF';clear hF';go_wp2_with (fail);exact⟨rfl,xE⟩));(case hv=>kernel_rfl))
   (apply YReg.val (.string (zL++⟨#[35]⟩++zI++⟨#[61]⟩));(case h=>(intro w' hw' hF';obtain⟨X',rfl⟩:=hw';have HF':=tH hF';clear hF';go_wp2_with (fail);exact⟨rfl,xE⟩));(case hv=>kernel_rfl))
   refine YReg.va (.pointer (some ⟨bJ,6,none⟩)) ?_
   refine YReg.va ((.int .i64 (S:Int))) ?_
   refine YReg.va (.pointer (some ⟨bJ,6,none⟩)) ?_
   refine YReg.va ((.int .i64 (S:Int))) ?_
   refine YReg.va ((.int .i64 ((S:Int)+1))) ?_
   apply YReg.val (.string zC)
   case h =>
    intro w' hw' hF'
    obtain⟨X',rfl⟩:=hw'
    clear hF'
    go_wp2
    rw[show (⟨#[32,119,114,100,104]⟩:ByteArray).extract S (S+1)=zC from HZC.out]
    exact⟨rfl,xE⟩
   case hv=>kernel_rfl
   (apply YReg.val (.string (zL++⟨#[35]⟩++zI++⟨#[61]⟩++zC));(case h=>(intro w' hw' hF';obtain⟨X',rfl⟩:=hw';have HF':=tH hF';clear hF';go_wp2_with (fail);exact⟨rfl,xE⟩));(case hv=>kernel_rfl))
   (apply YReg.val (.string (zL++⟨#[35]⟩++zI++⟨#[61]⟩++zC));(case h=>(intro w' hw' hF';obtain⟨X',rfl⟩:=hw';have HF':=tH hF';clear hF';go_wp2_with (fail);exact⟨rfl,xE⟩));(case hv=>kernel_rfl))
   refine YReg.doneN (fun X9 hF=>?_)
   clear hF
   obtain⟨z,hz⟩:∃ z,(zL++⟨#[35]⟩++zI++⟨#[61]⟩++zC)=z:=⟨_,rfl⟩
   have HDT:=tH (show dl z=lblT ⟨lv,st⟩++35 :: (Lib.itoa (N:Int)++61 :: [letS (S:Int)]) by
    rw[← hz,← letI8_dl HBN.out.2.2.1]
    show ((zL++⟨#[35]⟩++zI++⟨#[61]⟩++zC)).data.toList=_
    rw[← HZL.out,← HZI.out,← HZC.out]
    simp)
   have hzs:z.size≤20:=by
    rw[← hz]
    have h1:(⟨#[35]⟩:ByteArray).size=1:=rfl
    have h2:(⟨#[61]⟩:ByteArray).size=1:=rfl
    simp only[ByteArray.size_append,h1,h2]
    omega
   rw[hz]
   have HO9:=tH (HO3.out.ext ((Ext.refl W3).plus X9))
   have HS9:=tH (HS3.out.ext ((Ext.refl W3).plus X9))
   have HX9:=tH (HX3.out.trans ((Ext.refl W3).plus X9))
   have HJ9:=tH (HJ3.out.ext ((Ext.refl W3).plus X9))
   have hzz:=tH HX9.out.below.size
   clear hz hl5 hi7 hc1 hN3 HZL HZI HZC j0 j1 j2 j6 j7 jo HO3 HS3 HX3 HJ3 HLW
   generalize W3.plus X9=W9 at HO9 HS9 HX9 HJ9 hzz ⊢
   have j6:W9.cell? ⟨bJ,6,none⟩=some (.int .i64 (S:Int)):=HJ9.out.cell 6
   have j7:W9.cell? ⟨bJ,7,none⟩=some (.int .i64 start):=HJ9.out.cell 7
   have jo:=HJ9.out.old
   by_cases hS2:S=2
   ·subst hS2
    obtain⟨M,rfl⟩:=Int.eq_ofNat_of_zero_le (HBN.out.2.2.2 rfl).1
    have hM6:(M:Int)≤1000000:=(HBN.out.2.2.2 rfl).2
    clear hS1 hS4
    go_wp2_with fail
    refine(decimal_any (M:Int) _ (by omega) (by omega) (HL.out.ext HX9.out)).mono ?_
    rintro e _ ⟨rfl,Y,rfl⟩
    obtain⟨zS,hzS⟩:∃ z,(⟨(Lib.itoa (M:Int)).toArray⟩:ByteArray)=z:=⟨_,rfl⟩
    have hs7:zS.size≤7:=by rw[← hzS,size_list];exact itoa_len6 (by omega) hM6
    have HDW:=tH (show dl (z++zS)=wordJ ⟨⟨lv,st⟩,(N:Int),nd,lo9,pr,((2:Nat):Int),(M:Int),nodes⟩ by
     unfold wordJ
     show (z++zS).data.toList=_
     rw[ByteArray.data_append,Array.toList_append]
     show dl z++dl zS=_
     rw[HDT.out,← hzS]
     simp)
    have HSW:=tH (show (z++zS).size≤100 by
     rw[ByteArray.size_append]
     omega)
    rw[hzS]
    have HOx:=tH (HO9.out.ext ((Ext.refl W9).plus Y))
    have HSx:=tH (HS9.out.ext ((Ext.refl W9).plus Y))
    have HXx:=tH (HX9.out.trans ((Ext.refl W9).plus Y))
    have hzy:=tH HXx.out.below.size
    clear hzS j6 j7 jo HO9 HS9 HX9 HJ9
    generalize W9.plus Y=WY at HOx HSx HXx hzy ⊢
    go_wp2_with (at_builtin;go_must (refine Row.appN (f:=sCell) el_Str9 rfl _ _ rfl w.heap.size hzy.out _ ws rfl HOx.out (z++zS) rfl _ ?_ rfl (fun _=>rfl) ?_ ?_ ?_ ?_);(simp);(simp[Value.oneCell']);(unfold maxLen;omega);(omega);intro v' w8 hR8 hc8;have HR2:=tH hR8;have HC2:=tH hc8;clear hR8 hc8)
    exact⟨⟨n+1,ws++[(z++zS)],by omega,by go_num,by simp;omega,HR2,tH (by rw[List.map_append,HW.out,HTK.out,List.map_append,List.map_cons,List.map_nil,HDW.out];rfl),tH (fun y hy=>by
     rcases List.mem_append.1 hy with hy | hy
     ·exact HZ.out y hy
     ·obtain rfl:=List.mem_singleton.1 hy;exact HSW.out),tH (rowM_two HSx.out HOx.out (by decide) HC2.out),tH (HC2.out.ext HXx.out (fun b hb=>(HOx.out.blk b hb).1))⟩,by simp[intOf];omega⟩
   ·have hb1:((S:Int) == 2)=false:=by simp;omega
    have hb2:(S == 2)=false:=by simp;omega
    have HDW:=tH (show dl z=wordJ ⟨⟨lv,st⟩,(N:Int),nd,lo9,pr,(S:Int),start,nodes⟩ by
     unfold wordJ
     rw[HDT.out]
     simp only
     rw[if_neg (by omega)])
    have HSW:=tH (show z.size≤100 by omega)
    have HOx:=HO9
    have HSx:=HS9
    have HXx:=HX9
    have hzy:=tH HXx.out.below.size
    clear hS1 hS4 HO9 HS9 HX9
    go_wp2_with (at_builtin;go_must (refine Row.appN (f:=sCell) el_Str9 rfl _ _ rfl w.heap.size hzy.out _ ws rfl HOx.out z rfl _ ?_ rfl (fun _=>rfl) ?_ ?_ ?_ ?_);(simp);(simp[Value.oneCell']);(unfold maxLen;omega);(omega);intro v' w8 hR8 hc8;have HR2:=tH hR8;have HC2:=tH hc8;clear hR8 hc8)
    exact⟨⟨n+1,ws++[z],by omega,by go_num,by simp;omega,HR2,tH (by rw[List.map_append,HW.out,HTK.out,List.map_append,List.map_cons,List.map_nil,HDW.out];rfl),tH (fun y hy=>by
     rcases List.mem_append.1 hy with hy | hy
     ·exact HZ.out y hy
     ·obtain rfl:=List.mem_singleton.1 hy;exact HSW.out),tH (rowM_two HSx.out HOx.out (by decide) HC2.out),tH (HC2.out.ext HXx.out (fun b hb=>(HOx.out.blk b hb).1))⟩,by simp[intOf];omega⟩
  ·obtain rfl:n=rs.length:=by omega
   have HPT:=tH (show joinW (ws.map dl)=seeT p x by
    rw[HST.out,HW.out,List.take_of_length_le (by rw[List.length_map];exact Nat.le_refl _)])
   go_wp2_with fail
   refine(listOrNone_any oa oc ws _ (row_rc (f:=sCell) (fun _=>rfl) HO.out) (by omega) HZ.out).mono ?_
   rintro e _ ⟨⟨z,rfl,hd⟩,X,rfl⟩
   rw[HPT.out] at hd
   have HD:=tH hd
   clear hd
   go_wp2
   go_ret
   exact⟨⟨z,rfl,HD.out⟩,HX.out.trans xE⟩
end Go.Proofs.YtbmbanelodabgaaGreatDoor
