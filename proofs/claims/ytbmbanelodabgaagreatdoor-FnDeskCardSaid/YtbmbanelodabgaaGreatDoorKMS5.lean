/- The reference's desk: see. -/
import Derived.Test.YtbmbanelodabgaaGreatDoorKMS4
set_option maxRecDepth 100000
set_option linter.unusedVariables false
namespace Go.Proofs.YtbmbanelodabgaaGreatDoor
open Go.RowKit Go.Fin1
theorem ePool_jobsM {w:World} {p:Pl} {c:Value} {b:Option Addr} {d:Nat} (h:ePool w (p.val c (.slice b p.jobs.length d)) p):SlR w 9 rJob (.slice b p.jobs.length d) p.jobs:=by
 obtain⟨a',c',b',d',hv,_,_,h2⟩:=h
 unfold Pl.val at hv
 simp at hv
 obtain⟨_,rfl,rfl⟩:=hv
 exact h2
theorem rjM_at {B:Nat} {w:World} {b off n c:Nat} {rs:List RJ} (h:RowJ B w (.slice (some ⟨b,off,none⟩) n c) rs) {i:Nat} (hi:i < rs.length) :
  w.old b∧∀ q u,(RJ.cells rs[i])[q]?=some u→w.cell? ⟨b,off+i*9+q,none⟩=some u:=by
 obtain⟨cs,_,hc,he⟩:=slr_cells (row_rc (f:=RJ.cells) (fun _=>rfl) h.row) hi
 have he':cs=RJ.cells rs[i]:=he
 subst he'
 exact⟨World.old_of_cell (hc 0 _ rfl),hc⟩
def letB (S:Nat):ByteArray:=if S=0 then ⟨#[]⟩ else if S=1 then ⟨#[119]⟩ else if S=2 then ⟨#[114]⟩ else if S=3 then ⟨#[100]⟩ else ⟨#[104]⟩
theorem letB_at {S:Nat} (h:S < 5):([.string ⟨#[]⟩,.string ⟨#[119]⟩,.string ⟨#[114]⟩,.string ⟨#[100]⟩,.string ⟨#[104]⟩]:List Value)[S]?=some (.string (letB S)):=by
 have:S=0∨S=1∨S=2∨S=3∨S=4:=by omega
 rcases this with rfl | rfl | rfl | rfl | rfl<;>rfl
theorem letB_dl {S:Nat} (h:1≤S∧S≤4):dl (letB S)=[letS (S:Int)]:=by
 have:S=1∨S=2∨S=3∨S=4:=by omega
 rcases this with rfl | rfl | rfl | rfl<;>rfl
theorem letB_size (S:Nat):(letB S).size≤1:=by unfold letB;split<;>(try split)<;>(try split)<;>(try split)<;>decide
def kAr5:XReg.Kind:=fun v u=>∃ g,v=.slice (some ⟨g,0,none⟩) 5 5∧Blk u g [.string ⟨#[]⟩,.string ⟨#[119]⟩,.string ⟨#[114]⟩,.string ⟨#[100]⟩,.string ⟨#[104]⟩] 9
theorem kAr5_good:XReg.GoodK kAr5:=⟨fun _ _ _ hx ⟨g,hv,h⟩=>⟨g,hv,h.ext hx⟩,_,_,(default:World).heap.size,rfl,Blk.new (w:=default) (cs:=#[.string ⟨#[]⟩,.string ⟨#[119]⟩,.string ⟨#[114]⟩,.string ⟨#[100]⟩,.string ⟨#[104]⟩]) rfl⟩
def kPt5 (S:Nat):XReg.Kind:=fun v u=>∃ g,v=.pointer (some ⟨g,S,none⟩)∧Blk u g [.string ⟨#[]⟩,.string ⟨#[119]⟩,.string ⟨#[114]⟩,.string ⟨#[100]⟩,.string ⟨#[104]⟩] 9
theorem kPt5_good (S:Nat):XReg.GoodK (kPt5 S):=⟨fun _ _ _ hx ⟨g,hv,h⟩=>⟨g,hv,h.ext hx⟩,_,_,(default:World).heap.size,rfl,Blk.new (w:=default) (cs:=#[.string ⟨#[]⟩,.string ⟨#[119]⟩,.string ⟨#[114]⟩,.string ⟨#[100]⟩,.string ⟨#[104]⟩]) rfl⟩
theorem sees_bd {p:Pl} (h:poolR p=true):(sortedJ p.jobs).length≤96∧∀ j∈sortedJ p.jobs,(labR j.l=true∧(1≤j.id∧j.id≤3)∧(1≤j.state∧j.state≤4))∧(j.state=2→0≤j.start∧j.start≤1000000):=by
 have hp:=poolR_of h
 refine⟨by rw[(sortedJ_perm p.jobs).length_eq];exact jobsR_len hp.js,fun j hj=>?_⟩
 have h3:=jobR_parts (jobsR_mem hp.js ((sortedJ_perm p.jobs).mem_iff.1 hj))
 exact⟨⟨h3.1.1,h3.1.2.1,h3.1.2.2.2.2.2⟩,fun e=>(h3.2.1 e).1⟩
set_option maxHeartbeats 1600000 in
theorem seeD_any (b:Nat) (p:Pl) (pa:Option Addr) (pc:Nat) (pb:Option Addr) (pd:Nat) (x:Lab) (w:World) (hb:Blk w b [.slice pa p.clear.length pc,.slice pb p.jobs.length pd,(.int .i64 p.now)] 47) (hP:ePool w (p.val (.slice pa p.clear.length pc) (.slice pb p.jobs.length pd)) p) (hR:poolR p=true) :
  Calls Tryz.prog 37 #[.pointer (some ⟨b,0,none⟩),.agg #[(.int .i64 x.lv),(.int .i64 x.st)]] w fun e w'=>(∃ z,e=.returned (.string z)∧dl z=seeT p x)∧Ext w w':=by
 have HB:=tH hb
 have HP:=tH hP
 have HR:=tH hR
 clear hb hP hR
 go_enter Tryz.func37,Tryz.ntmps37
 go_upto_region 2 with fail
 refine gen_world (fun W1 hW=>?_)
 have HX1:=tH (show Ext w W1 by rw[hW];exact xE)
 have HB1:=tH (show Blk W1 b _ _ by rw[hW];exact HB.out.ext xE)
 have HP1:=tH (show ePool W1 _ p by rw[hW];exact HP.out.ext xE)
 have HL1:=tH (show Blk W1 w.heap.size [(.int .i64 x.lv),(.int .i64 x.st)] 36 by rw[hW];exact(Blk.new (w:=w) (cs:=#[(.int .i64 x.lv),(.int .i64 x.st)]) rfl).ext xE)
 have HO1:=tH (show Row w.heap.size W1 9 1 sCell (.slice (some ⟨w.heap.size+1,0,none⟩) 0 0) [] by rw[hW];exact Row.madeB' (by simp) (by simp))
 clear hW HB HP
 have b1:W1.cell? ⟨b,1,none⟩=some (.slice pb p.jobs.length pd):=HB1.out.cell 1
 have bo:=HB1.out.old
 have HJS:=tH (ePool_jobsM HP1.out)
 have HJL:=tH (jobsR_len (poolR_of HR.out).js)
 have HJN:Hid (∀ j∈p.jobs,j.nodes.length≤1048576):=tH (fun j hj=>by have:=jobR_nodes (jobsR_mem (poolR_of HR.out).js hj);omega)
 go_wp2_with fail
 refine(l04Sorted_any _ p.jobs _ (HJS.out.ext rJob_stable xE) (by have:=HJL.out;omega) HJN.out).mono ?_
 rintro e _ ⟨v',ss,rfl,⟨X2,rfl⟩,hS,hm⟩
 obtain⟨va,vc,rfl⟩:=hS.row.shape
 have HBD:=tH (sees_bd HR.out)
 obtain⟨PL,hPL⟩:∃ PL,sortedJ p.jobs=PL:=⟨_,rfl⟩
 rw[hPL] at hm
 have HPL:=tH hPL
 have HBD2:=tH (show PL.length≤96∧∀ j∈PL,(labR j.l=true∧(1≤j.id∧j.id≤3)∧(1≤j.state∧j.state≤4))∧(j.state=2→0≤j.start∧j.start≤1000000) by rw[← hPL];exact HBD.out)
 have HM:=tH hm
 have hsl:ss.length≤96:=by
  have h1:=congrArg List.length hm
  rw[List.length_map] at h1
  have:=HBD2.out.1
  omega
 have HS2:=tH (hS.mono HX1.out.below.size)
 have HO2:=tH (HO1.out.ext ((Ext.refl W1).plus X2))
 have HL2:=tH (HL1.out.ext ((Ext.refl W1).plus X2))
 have HX2:=tH (HX1.out.trans ((Ext.refl W1).plus X2))
 generalize W1.plus X2=W2 at HS2 HO2 HL2 HX2 ⊢
 clear hS hm hPL HBD b1 bo HB1 HP1 HL1 HO1 HX1 HJS
 go_wp2
 go_loopw [5,7] (fun o i wr=>∃ (n:Nat) (ws:List ByteArray),n≤ss.length∧i=(.int .i64 (n:Int))∧ws.length≤n∧Hid (Row w.heap.size wr 9 1 sCell o ws)∧Hid (ws.map dl=((PL.take n).filter (fun j=>blw j.l x)).map wordJ)∧Hid (∀ y∈ws,0 < y.size∧y.size≤100)∧Hid (RowJ w.heap.size wr (.slice va ss.length vc) ss)∧Hid (Blk wr w.heap.size [(.int .i64 x.lv),(.int .i64 x.st)] 36)∧Hid (Ext w wr)) (fun _ i _=>ss.length-(intOf i).toNat)
 case atStart=>exact⟨0,[],Nat.zero_le _,rfl,Nat.le_refl _,HO2,tH rfl,tH (by simp),HS2,HL2,HX2⟩
 case round =>
  clear HS2 HO2 HL2 HX2
  obtain⟨n,ws,hn,rfl,hwl,HO,HW,HZ,HS,HL,HX⟩:=hrel
  obtain⟨oa,oc,rfl⟩:=HO.out.shape
  by_cases hlt:n < ss.length
  ·obtain⟨bS,oS,hva⟩:=slr_some (row_rc (f:=RJ.cells) (fun _=>rfl) HS.out.row) hlt
   subst hva
   obtain⟨so,hcs⟩:=rjM_at HS.out hlt
   have hnP:n < PL.length:=by have:=congrArg List.length HM.out;rw[List.length_map] at this;omega
   have HTK:=tH (show PL.take (n+1)=PL.take n++[(ss[n]).1] by
    rw[List.take_succ_eq_append_getElem hnP]
    congr 2
    have h1:(ss.map Prod.fst)[n]'(by rw[List.length_map];exact hlt)=PL[n]:=by simp only[HM.out]
    rw[← h1,List.getElem_map])
   have hbd:=HBD2.out.2 (ss[n]).1 (by rw[← HM.out];exact List.mem_map_of_mem (List.getElem_mem hlt))
   clear hnP
   obtain⟨r,hr⟩:∃ r,ss[n]=r:=⟨_,rfl⟩
   rw[hr] at hcs HTK hbd
   clear hr
   obtain⟨⟨⟨lv,st⟩,id,nd,lo9,pr,sta,start,nodes⟩,na,nc⟩:=r
   obtain⟨N,rfl⟩:=Int.eq_ofNat_of_zero_le (show 0≤id by have:=hbd.1.2.1.1;simp only at this;omega)
   obtain⟨S,rfl⟩:=Int.eq_ofNat_of_zero_le (show 0≤sta by have:=hbd.1.2.2.1;simp only at this;omega)
   have HBN:=tH (show labR ⟨lv,st⟩=true∧N≤3∧(1≤S∧S≤4)∧((S:Int)=2→0≤start∧start≤1000000) from ⟨hbd.1.1,by have:=hbd.1.2.1.2;simp only at this;omega,by have:=hbd.1.2.2;simp only at this;omega,hbd.2⟩)
   have c0:wr.cell? ⟨bS,oS+n*9,none⟩=some (.int .i64 lv):=hcs 0 _ rfl
   have c1:wr.cell? ⟨bS,oS+n*9+1,none⟩=some (.int .i64 st):=hcs 1 _ rfl
   have c2:wr.cell? ⟨bS,oS+n*9+2,none⟩=some (.int .i64 (N:Int)):=hcs 2 _ rfl
   have c3:wr.cell? ⟨bS,oS+n*9+3,none⟩=some (.int .i64 nd):=hcs 3 _ rfl
   have c4:wr.cell? ⟨bS,oS+n*9+4,none⟩=some (.int .i64 lo9):=hcs 4 _ rfl
   have c5:wr.cell? ⟨bS,oS+n*9+5,none⟩=some (.int .i64 pr):=hcs 5 _ rfl
   have c6:wr.cell? ⟨bS,oS+n*9+6,none⟩=some (.int .i64 (S:Int)):=hcs 6 _ rfl
   have c7:wr.cell? ⟨bS,oS+n*9+7,none⟩=some (.int .i64 start):=hcs 7 _ rfl
   have c8:wr.cell? ⟨bS,oS+n*9+8,none⟩=some (.slice na nodes.length nc):=hcs 8 _ rfl
   clear hcs hbd
   go_upto_region 7 with fail
   refine gen_world (fun W3 hW=>?_)
   have HO3:=tH (show Row w.heap.size W3 9 1 sCell _ ws by rw[hW];exact HO.out.ext xE)
   have HS3:=tH (show RowJ w.heap.size W3 _ ss by rw[hW];exact HS.out.ext xE)
   have HL3:=tH (show Blk W3 w.heap.size _ _ by rw[hW];exact HL.out.ext xE)
   have HX3:=tH (show Ext w W3 by rw[hW];exact HX.out.trans xE)
   have HJ3:=tH (show Blk W3 wr.heap.size [(.int .i64 lv),(.int .i64 st),(.int .i64 (N:Int)),(.int .i64 nd),(.int .i64 lo9),(.int .i64 pr),(.int .i64 (S:Int)),(.int .i64 start),.slice na nodes.length nc] 92 by rw[hW];exact Blk.new (cs:=#[(.int .i64 lv),(.int .i64 st),(.int .i64 (N:Int)),(.int .i64 nd),(.int .i64 lo9),(.int .i64 pr),(.int .i64 (S:Int)),(.int .i64 start),.slice na nodes.length nc]) rfl)
   clear hW c0 c1 c2 c3 c4 c5 c6 c7 c8 so HO HS HL HX
   generalize wr.heap.size=bJ at HJ3 ⊢
   have hsz:=tH HX3.out.below.size
   have j0:W3.cell? ⟨bJ,0,none⟩=some (.int .i64 lv):=HJ3.out.cell 0
   have j1:W3.cell? ⟨bJ,1,none⟩=some (.int .i64 st):=HJ3.out.cell 1
   have j2:W3.cell? ⟨bJ,2,none⟩=some (.int .i64 (N:Int)):=HJ3.out.cell 2
   have j6:W3.cell? ⟨bJ,6,none⟩=some (.int .i64 (S:Int)):=HJ3.out.cell 6
   have j7:W3.cell? ⟨bJ,7,none⟩=some (.int .i64 start):=HJ3.out.cell 7
   have jo:=HJ3.out.old
   have l0:W3.cell? ⟨w.heap.size,0,none⟩=some (.int .i64 x.lv):=HL3.out.cell 0
   have l1:W3.cell? ⟨w.heap.size,1,none⟩=some (.int .i64 x.st):=HL3.out.cell 1
   have lo:=HL3.out.old
   go_wp2_with fail
   refine(specbelow_any lv st x.lv x.st _).mono ?_
   rintro e _ ⟨rfl,X,rfl⟩
   cases hbl:blw ⟨lv,st⟩ ⟨x.lv,x.st⟩
   ·have HF:=tH (show (PL.take (n+1)).filter (fun j=>blw j.l x)=(PL.take n).filter (fun j=>blw j.l x) by
     rw[HTK.out,List.filter_append,List.filter_cons,if_neg (by simp only[Bool.not_eq_true];exact hbl)];simp)
    clear hbl
    go_wp2
    exact⟨⟨n+1,ws,by omega,by go_num,by omega,tH (HO3.out.ext xE),tH (by rw[HF.out];exact HW.out),HZ,tH (HS3.out.ext xE),tH (HL3.out.ext xE),tH (HX3.out.trans xE)⟩,by simp[intOf];omega⟩
   have HF:=tH (show (PL.take (n+1)).filter (fun j=>blw j.l x)=(PL.take n).filter (fun j=>blw j.l x)++[⟨⟨lv,st⟩,(N:Int),nd,lo9,pr,(S:Int),start,nodes⟩] by
    rw[HTK.out,List.filter_append,List.filter_cons,if_pos hbl];rfl)
   clear hbl
   go_upto_region 8 with fail
   obtain⟨zL,hzL⟩:∃ z,(⟨(lblT ⟨lv,st⟩).toArray⟩:ByteArray)=z:=⟨_,rfl⟩
   obtain⟨zI,hzI⟩:∃ z,(⟨(Lib.decDigits N).toArray⟩:ByteArray)=z:=⟨_,rfl⟩
   obtain⟨zC,hzC⟩:∃ z,letB S=z:=⟨_,rfl⟩
   have HZL:=tH hzL
   have HZI:=tH hzI
   have HZC:=tH hzC
   have hN3:N≤3:=HBN.out.2.1
   have hS5:S < 5:=by have:=HBN.out.2.2.1;omega
   have hl5:zL.size≤5:=by rw[← hzL];show (lblT ⟨lv,st⟩).toArray.size≤5;rw[List.size_toArray];exact lblT_len _
   have hi7:zI.size≤7:=by rw[← hzI];show (Lib.decDigits N).toArray.size≤7;rw[List.size_toArray];exact dec_len_pow 6 N (by omega)
   have hc1:zC.size≤1:=by rw[← hzC];exact letB_size S
   have HZ0:=tH (show 0 < zL.size by rw[← hzL];show 0 < (lblT ⟨lv,st⟩).toArray.size;rw[List.size_toArray];exact lblT_pos HBN.out.1)
   clear hzL hzI hzC
   (refine wp_region_y 16 [(fun u _=>u=(.pointer (some ⟨bJ,0,none⟩))),(fun u _=>u=(.agg #[(.int .i64 lv),(.int .i64 st)])),(fun u _=>u=(.string zL)),(fun u _=>u=(.string (zL++⟨#[35]⟩))),(fun u _=>u=(.pointer (some ⟨bJ,2,none⟩))),(fun u _=>u=((.int .i64 (N:Int)))),(fun u _=>u=(.string zI)),(fun u _=>u=(.string (zL++⟨#[35]⟩++zI))),(fun u _=>u=(.string (zL++⟨#[35]⟩++zI++⟨#[61]⟩))),kAr5,(fun u _=>u=(.pointer (some ⟨bJ,6,none⟩))),(fun u _=>u=((.int .i64 (S:Int)))),kPt5 S,(fun u _=>u=(.string zC)),(fun u _=>u=(.string (zL++⟨#[35]⟩++zI++⟨#[61]⟩++zC))),(fun u _=>u=(.string (zL++⟨#[35]⟩++zI++⟨#[61]⟩++zC)))] (by kernel_rfl) (by kernel_rfl) (by kernel_rfl) rfl ?_ (by (repeat' (first | exact trivial | exact XReg.GoodK.same _ default | refine And.intro ?_ ?_));all_goals (first | exact kAr5_good | exact kPt5_good _)))
   refine YReg.va (.pointer (some ⟨bJ,0,none⟩)) ?_
   refine YReg.va (.agg #[(.int .i64 lv),(.int .i64 st)]) ?_
   (apply YReg.val (.string zL);(case h=>(intro w' hw' hF';obtain⟨X',rfl⟩:=hw';have HF':=tH hF';clear hF';go_wp2_with ((go_at_call 56;refine(specLabelText_any ⟨lv,st⟩ _).mono ?_;rintro e _ ⟨rfl,Y,rfl⟩;rw[HZL.out]));exact⟨rfl,xE⟩));(case hv=>kernel_rfl))
   (apply YReg.val (.string (zL++⟨#[35]⟩));(case h=>(intro w' hw' hF';obtain⟨X',rfl⟩:=hw';have HF':=tH hF';clear hF';go_wp2_with (fail);exact⟨rfl,xE⟩));(case hv=>kernel_rfl))
   refine YReg.va (.pointer (some ⟨bJ,2,none⟩)) ?_
   refine YReg.va ((.int .i64 (N:Int))) ?_
   (apply YReg.val (.string zI);(case h=>(intro w' hw' hF';obtain⟨X',rfl⟩:=hw';have HF':=tH hF';clear hF';go_wp2_with ((go_at_call 40;refine(l01DecN_any N _ (by omega)).mono ?_;rintro e _ ⟨rfl,Y,rfl⟩;rw[HZI.out]));exact⟨rfl,xE⟩));(case hv=>kernel_rfl))
   (apply YReg.val (.string (zL++⟨#[35]⟩++zI));(case h=>(intro w' hw' hF';obtain⟨X',rfl⟩:=hw';have HF':=tH hF';clear hF';go_wp2_with (fail);exact⟨rfl,xE⟩));(case hv=>kernel_rfl))
   (apply YReg.val (.string (zL++⟨#[35]⟩++zI++⟨#[61]⟩));(case h=>(intro w' hw' hF';obtain⟨X',rfl⟩:=hw';have HF':=tH hF';clear hF';go_wp2_with (fail);exact⟨rfl,xE⟩));(case hv=>kernel_rfl))
   refine YReg.kind (fun w' hw' hF'=>?_) (fun v w1 hK=>?_)
   ·obtain⟨X',rfl⟩:=hw'
    clear hF'
    go_wp2
    exact⟨xE,_,rfl,Blk.new (cs:=#[.string ⟨#[]⟩,.string ⟨#[119]⟩,.string ⟨#[114]⟩,.string ⟨#[100]⟩,.string ⟨#[104]⟩]) (by simp)⟩
   obtain⟨g0,rfl,-⟩:=hK
   clear w1
   refine YReg.va (.pointer (some ⟨bJ,6,none⟩)) ?_
   refine YReg.va ((.int .i64 (S:Int))) ?_
   refine YReg.kind (fun w' hw' hF'=>?_) (fun v w1 hK=>?_)
   ·obtain⟨X',rfl⟩:=hw'
    obtain⟨g2,hv,hB⟩:=hF'.get 9 (p:=(kAr5,.slice (some ⟨g0,0,none⟩) 5 5)) (by kernel_rfl) (by kernel_rfl)
    obtain rfl:g0=g2:=by simpa using hv
    have HB:=tH hB
    clear hF' hv hB
    go_wp2
    exact⟨xE,_,rfl,HB.out.ext xE⟩
   obtain⟨g1,rfl,-⟩:=hK
   clear w1
   apply YReg.val (.string zC)
   case h =>
    intro w' hw' hF'
    obtain⟨X',rfl⟩:=hw'
    obtain⟨g2,hv,hB⟩:=hF'.get 12 (p:=(kPt5 S,.pointer (some ⟨g1,S,none⟩))) (by kernel_rfl) (by kernel_rfl)
    obtain rfl:g1=g2:=by simpa using hv
    have q0:=hB.cell S
    rw[letB_at hS5,HZC.out] at q0
    have qo:=hB.old
    clear hF' hv hB
    go_wp2
    exact⟨rfl,xE⟩
   case hv=>kernel_rfl
   (apply YReg.val (.string (zL++⟨#[35]⟩++zI++⟨#[61]⟩++zC));(case h=>(intro w' hw' hF';obtain⟨X',rfl⟩:=hw';have HF':=tH hF';clear hF';go_wp2_with (fail);exact⟨rfl,xE⟩));(case hv=>kernel_rfl))
   (apply YReg.val (.string (zL++⟨#[35]⟩++zI++⟨#[61]⟩++zC));(case h=>(intro w' hw' hF';obtain⟨X',rfl⟩:=hw';have HF':=tH hF';clear hF';go_wp2_with (fail);exact⟨rfl,xE⟩));(case hv=>kernel_rfl))
   refine YReg.doneN (fun X9 hF=>?_)
   clear hF
   obtain⟨z,hz⟩:∃ z,(zL++⟨#[35]⟩++zI++⟨#[61]⟩++zC)=z:=⟨_,rfl⟩
   have HDT:=tH (show dl z=lblT ⟨lv,st⟩++35 :: (Lib.itoa (N:Int)++61 :: [letS (S:Int)]) by
    rw[← hz,Lib.itoa_nonneg,← letB_dl HBN.out.2.2.1]
    show ((zL++⟨#[35]⟩++zI++⟨#[61]⟩++zC)).data.toList=_
    rw[← HZL.out,← HZI.out,← HZC.out]
    simp)
   have hzs:z.size≤20:=by
    rw[← hz]
    have h1:(⟨#[35]⟩:ByteArray).size=1:=rfl
    have h2:(⟨#[61]⟩:ByteArray).size=1:=rfl
    simp only[ByteArray.size_append,h1,h2]
    omega
   have HZP:=tH (show 0 < z.size by
    rw[← hz]
    simp only[ByteArray.size_append]
    have:=HZ0.out
    omega)
   rw[hz]
   have HO9:=tH (HO3.out.ext (((Ext.refl W3).plus X).plus X9))
   have HS9:=tH (HS3.out.ext (((Ext.refl W3).plus X).plus X9))
   have HL9:=tH (HL3.out.ext (((Ext.refl W3).plus X).plus X9))
   have HX9:=tH (HX3.out.trans (((Ext.refl W3).plus X).plus X9))
   have HJ9:=tH (HJ3.out.ext (((Ext.refl W3).plus X).plus X9))
   have hzz:=tH HX9.out.below.size
   clear hz hl5 hi7 hc1 hN3 HZL HZI HZC HZ0 j0 j1 j2 j6 j7 jo l0 l1 lo HO3 HS3 HL3 HX3 HJ3 hsz
   generalize (W3.plus X).plus X9=W9 at HO9 HS9 HL9 HX9 HJ9 hzz ⊢
   have j6:W9.cell? ⟨bJ,6,none⟩=some (.int .i64 (S:Int)):=HJ9.out.cell 6
   have j7:W9.cell? ⟨bJ,7,none⟩=some (.int .i64 start):=HJ9.out.cell 7
   have jo:=HJ9.out.old
   by_cases hS2:S=2
   ·subst hS2
    obtain⟨M,rfl⟩:=Int.eq_ofNat_of_zero_le (HBN.out.2.2.2 rfl).1
    have hM6:M≤1000000:=by have:=(HBN.out.2.2.2 rfl).2;omega
    clear hS5
    go_wp2_with fail
    refine(l01DecN_any M _ (by omega)).mono ?_
    rintro e _ ⟨rfl,Y,rfl⟩
    obtain⟨zS,hzS⟩:∃ z,(⟨(Lib.decDigits M).toArray⟩:ByteArray)=z:=⟨_,rfl⟩
    have hs7:zS.size≤7:=by rw[← hzS];show (Lib.decDigits M).toArray.size≤7;rw[List.size_toArray];exact dec_len_pow 6 M (by omega)
    have HDW:=tH (show dl (z++zS)=wordJ ⟨⟨lv,st⟩,(N:Int),nd,lo9,pr,((2:Nat):Int),(M:Int),nodes⟩ by
     unfold wordJ
     show (z++zS).data.toList=_
     rw[ByteArray.data_append,Array.toList_append]
     show dl z++dl zS=_
     rw[HDT.out,← hzS]
     simp[Lib.itoa_nonneg])
    have HSW:=tH (show 0 < (z++zS).size∧(z++zS).size≤100 by
     rw[ByteArray.size_append]
     have:=HZP.out
     omega)
    rw[hzS]
    have HOx:=tH (HO9.out.ext ((Ext.refl W9).plus Y))
    have HSx:=tH (HS9.out.ext ((Ext.refl W9).plus Y))
    have HLx:=tH (HL9.out.ext ((Ext.refl W9).plus Y))
    have HXx:=tH (HX9.out.trans ((Ext.refl W9).plus Y))
    have hzy:=tH HXx.out.below.size
    clear hzS j6 j7 jo HO9 HS9 HL9 HX9 HJ9
    generalize W9.plus Y=WY at HOx HSx HLx HXx hzy ⊢
    go_wp2_with (at_builtin;go_must (refine Row.appN (f:=sCell) el_Str9 rfl _ _ rfl w.heap.size hzy.out _ ws rfl HOx.out (z++zS) rfl _ ?_ rfl (fun _=>rfl) ?_ ?_ ?_ ?_);(simp);(simp[Value.oneCell']);(unfold maxLen;omega);(omega);intro v' w8 hR8 hc8;have HR2:=tH hR8;have HC2:=tH hc8;clear hR8 hc8)
    exact⟨⟨n+1,ws++[(z++zS)],by omega,by go_num,by simp;omega,HR2,tH (by rw[List.map_append,HW.out,HF.out,List.map_append,List.map_cons,List.map_nil,HDW.out];rfl),tH (fun y hy=>by
     rcases List.mem_append.1 hy with hy | hy
     ·exact HZ.out y hy
     ·obtain rfl:=List.mem_singleton.1 hy;exact HSW.out),tH (HSx.out.chgT HC2.out (other_row HOx.out (by decide)) (other_row HOx.out (by decide))),tH (blkM_row HLx.out HOx.out (by decide) HC2.out),tH (HC2.out.ext HXx.out (fun b hb=>(HOx.out.blk b hb).1))⟩,by simp[intOf];omega⟩
   ·have hb1:((S:Int) == 2)=false:=by simp;omega
    have hb2:(S == 2)=false:=by simp;omega
    have HDW:=tH (show dl z=wordJ ⟨⟨lv,st⟩,(N:Int),nd,lo9,pr,(S:Int),start,nodes⟩ by
     unfold wordJ
     rw[HDT.out]
     simp only
     rw[if_neg (by omega)])
    have HSW:=tH (show 0 < z.size∧z.size≤100 from ⟨HZP.out,by omega⟩)
    have HOx:=HO9
    have HSx:=HS9
    have HLx:=HL9
    have HXx:=HX9
    have hzy:=tH HXx.out.below.size
    clear hS5 HO9 HS9 HL9 HX9
    go_wp2_with (at_builtin;go_must (refine Row.appN (f:=sCell) el_Str9 rfl _ _ rfl w.heap.size hzy.out _ ws rfl HOx.out z rfl _ ?_ rfl (fun _=>rfl) ?_ ?_ ?_ ?_);(simp);(simp[Value.oneCell']);(unfold maxLen;omega);(omega);intro v' w8 hR8 hc8;have HR2:=tH hR8;have HC2:=tH hc8;clear hR8 hc8)
    exact⟨⟨n+1,ws++[z],by omega,by go_num,by simp;omega,HR2,tH (by rw[List.map_append,HW.out,HF.out,List.map_append,List.map_cons,List.map_nil,HDW.out];rfl),tH (fun y hy=>by
     rcases List.mem_append.1 hy with hy | hy
     ·exact HZ.out y hy
     ·obtain rfl:=List.mem_singleton.1 hy;exact HSW.out),tH (HSx.out.chgT HC2.out (other_row HOx.out (by decide)) (other_row HOx.out (by decide))),tH (blkM_row HLx.out HOx.out (by decide) HC2.out),tH (HC2.out.ext HXx.out (fun b hb=>(HOx.out.blk b hb).1))⟩,by simp[intOf];omega⟩
  ·obtain rfl:n=ss.length:=by omega
   have HPT:=tH (show joinW (ws.map dl)=seeT p x by
    unfold seeT seesL
    rw[HW.out,HPL.out]
    rw[List.take_of_length_le (by have h1:=congrArg List.length HM.out;rw[List.length_map] at h1;omega)])
   clear hlt hn
   go_wp2_with fail
   refine(l08Words_any _ ws _ (row_rc (fun _=>rfl) (HO.out.ext xE)) (by omega) HZ.out).mono ?_
   rintro e _ ⟨⟨z,rfl,hz⟩,X9,rfl⟩
   go_wp2
   go_ret
   exact⟨⟨z,rfl,by rw[hz,HPT.out]⟩,HX.out.trans xE⟩
end Go.Proofs.YtbmbanelodabgaaGreatDoor
