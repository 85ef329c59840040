/- The implementation's desk: a text. -/
import Derived.Test.YtbmbanelodabgaaGreatDoorKMIA
set_option maxRecDepth 100000
set_option linter.unusedVariables false
set_option linter.unusedSimpArgs false
namespace Go.Proofs.YtbmbanelodabgaaGreatDoor
open Go.RowKit Go.Fin1
def runWs (p:Pl):List (List Bs)→Bs
 | []=>[]
 | ws :: r=>(runW p ws).2++10 :: runWs (runW p ws).1 r
theorem runL_ws:∀ (l:List Bs) (p:Pl),(runL p l).2=runWs p (l.dropLast.map (splitL 32))
 | [],p=>rfl
 | [t],p=>rfl
 | t :: u :: r,p=>by
  rw[runL_more (by simp),List.dropLast_cons_cons,List.map_cons,runL_ws (u :: r)]
  rfl
theorem splitL_nil (c:UInt8) (s:Bs):splitL c s≠[]:=by obtain⟨h,q,e⟩:=splitL_ne c s;rw[e];simp
def PlW (w:World) (b:Nat) (q:Pl):Prop:=∃ (pa:Option Addr) (pc:Nat) (pb:Option Addr) (pd:Nat) (fc fj:List Nat),Blk w b [.slice pa q.clear.length pc,.slice pb q.jobs.length pd,(.int .i64 q.now)] 41∧OwnP 0 w fc fj (.slice pa q.clear.length pc) (.slice pb q.jobs.length pd) q
theorem WdR.mono {B B':Nat} {w:World} {v:Value} {rs:List WdS} (h:WdR B w v rs) (hb:B'≤B):WdR B' w v rs:=⟨h.row.mono hb,fun r hr=>(h.nd r hr).mono hb⟩
theorem WdR.box {B b:Nat} {w w':World} {v:Value} {rs:List WdS} {cs:List Value} (h:WdR B w v rs) (hb:Blk w b cs 41) (hx:Chg [b] w w'):WdR B w' v rs :=
 ⟨rowM_chg h.row hb (by decide) hx,fun r hr=>rowM_chg (h.nd r hr) hb (by decide) hx⟩
theorem wds_at {B:Nat} {w:World} {b off n c:Nat} {rs:List WdS} (h:WdR B w (.slice (some ⟨b,off,none⟩) n c) rs) {i:Nat} (hi:i < rs.length):w.old b∧w.cell? ⟨b,off+i,none⟩=some (rs[i]).val:=by
 obtain⟨cs,_,hc,he⟩:=slr_cells (row_rc (f:=WdS.cells) (fun _=>rfl) h.row) hi
 have he':cs=[(rs[i]).val]:=he
 subst he'
 have h0:=hc 0 _ rfl
 rw[Nat.mul_one,Nat.add_zero] at h0
 exact⟨World.old_of_cell h0,h0⟩
theorem isLongI_any (s:ByteArray) (w:World) :
  Calls Tryz.prog 19 #[.string s] w fun e w'=>e=.returned (.bool (decide ((8000:Int) < (s.size:Int))))∧w'=w:=by
 go_enter Tryz.func19,Tryz.ntmps19
 go_wp2
 go_ret
 exact⟨rfl,rfl⟩
set_option maxHeartbeats 1600000 in
theorem implDeskRun_any (t:ByteArray) (w:World) (hL:LibW w) :
  Calls Tryz.prog 7 #[.string t] w fun e w'=>(∃ z,e=.returned (.agg #[.string z,(.int .i64 (deskR t).2.1),(.int .i64 (deskR t).2.2)])∧dl z=(deskR t).1)∧Ext w w':=by
 have HL:=tH hL
 clear hL
 by_cases hbig:8000 < t.size
 ·have hb:decide ((8000:Int) < (t.size:Int))=true:=decide_eq_true (by omega)
  have HT:=tH (show deskR t=([],0,2) by unfold deskR;rw[if_pos hbig])
  clear hbig
  go_enter Tryz.func7,Tryz.ntmps7
  go_wp2_with (go_at_call 19;refine(isLongI_any t _).mono ?_;rintro e _ ⟨rfl,rfl⟩;rw[hb])
  exact bodyPost_ret (v:=.agg #[.string ⟨#[]⟩,(.int .i64 0),(.int .i64 2)]) (by simp[results,Tryz.results7,go_sem]) rfl ⟨⟨⟨#[]⟩,by rw[HT.out],by rw[HT.out]⟩,(by repeat' (first | exact Ext.refl _ | exact Nat.le_refl _ | (dsimp only;omega) | apply Ext.setCell | apply Ext.plus | apply Ext.alloc | apply Ext.drew))⟩
 have hb:decide ((8000:Int) < (t.size:Int))=false:=decide_eq_false (by omega)
 have hts:t.size≤8000:=by omega
 clear hbig
 go_enter Tryz.func7,Tryz.ntmps7
 go_wp2_with fail
 refine(isLongI_any t _).mono ?_
 rintro e _ ⟨rfl,rfl⟩
 rw[hb]
 go_wp2_with fail
 refine(linesOf_any t _ hts (HL.out.ext xE)).mono ?_
 rintro e w2 ⟨a,c,rs,rfl,hx,hW⟩
 obtain⟨LS,hLS⟩:∃ LS,splitL 10 (dl t)=LS:=⟨_,rfl⟩
 rw[hLS] at hW ⊢
 have HDR:=tH (show deskR t=if badL 0 LS < 0 then ((runL pool0 LS).2,0,0) else ([],badL 0 LS,3) by
  unfold deskR
  rw[if_neg (by omega)]
  show (if badL 0 (splitL 10 (dl t)) < 0 then ((runL pool0 (splitL 10 (dl t))).2,(0:Int),(0:Int)) else ([],badL 0 (splitL 10 (dl t)),3))=_
  rw[hLS])
 have HWR:=tH hW
 have HBO:=tH (badL_ok LS 0 (by omega))
 have HX2:=tH (((Ext.refl w).alloc (.cells #[.string ⟨#[]⟩,(.int .i64 0),(.int .i64 0)] 23)).trans hx)
 have HR2:=tH ((Blk.new (w:=w) (cs:=#[.string ⟨#[]⟩,(.int .i64 0),(.int .i64 0)]) (ty:=23) rfl).ext hx)
 clear hLS hW hx hb
 obtain⟨m,hm⟩:∃ m,badL 0 LS=m:=⟨_,rfl⟩
 rw[hm]
 by_cases h0:0≤m
 ·have hb0:decide ((0:Int)≤m)=true:=decide_eq_true h0
  have HRE:=tH (show deskR t=([],m,3) by rw[HDR.out,hm,if_neg (by omega)])
  clear hm h0
  have r0:w2.cell? ⟨w.heap.size,0,none⟩=some (.string ⟨#[]⟩):=HR2.out.cell 0
  have r1:w2.cell? ⟨w.heap.size,1,none⟩=some (.int .i64 0):=HR2.out.cell 1
  have r2:w2.cell? ⟨w.heap.size,2,none⟩=some (.int .i64 0):=HR2.out.cell 2
  have ro:=HR2.out.old
  have rf:=HR2.out.fz
  go_wp2
  refine gen_post (fun W9 hW=>?_)
  have HE9:=tH (show Ext w W9 by rw[hW];exact(set3_chgD _ _ _ _ _).ext HX2.out (fun b hb=>by simp at hb;omega))
  have HB9:=tH (show Blk W9 w.heap.size [(.string ⟨#[]⟩),(.int .i64 m),(.int .i64 3)] 23 by rw[hW];exact((HR2.out.set 0 _).set 1 _).set 2 _)
  have y0:W9.cell? ⟨w.heap.size,0,none⟩=some (.string ⟨#[]⟩):=HB9.out.cell 0
  have y1:W9.cell? ⟨w.heap.size,1,none⟩=some (.int .i64 m):=HB9.out.cell 1
  have y2:W9.cell? ⟨w.heap.size,2,none⟩=some (.int .i64 3):=HB9.out.cell 2
  refine bodyPost_ret (v:=.agg #[(.string ⟨#[]⟩),(.int .i64 m),(.int .i64 3)]) (by simp[results,Tryz.results7,go_sem,y0,y1,y2]) rfl ?_
  rw[HRE.out]
  exact⟨⟨⟨#[]⟩,rfl,rfl⟩,HE9.out⟩
 have hb0:decide ((0:Int)≤m)=false:=decide_eq_false h0
 obtain⟨hWR,hZR,hMR⟩:=HWR.out (by rw[hm];omega)
 obtain⟨L,hL⟩:∃ L,rs.map (fun r=>r.1.map dl)=L:=⟨_,rfl⟩
 have HLM:=tH hL
 have HLO:=tH (show (∀ ws∈L,okW ws=true∧ws≠[])∧rs.length≤40 by
  obtain⟨h1,h2⟩:=HBO.out (by rw[hm];omega)
  refine⟨fun ws hws=>?_,?_⟩
  ·rw[← hL,hMR] at hws
   obtain⟨s,hs,rfl⟩:=List.mem_map.1 hws
   exact⟨h1 s hs,splitL_nil 32 s⟩
  ·have h3:=congrArg List.length hMR
   rw[List.length_map,List.length_map] at h3
   omega)
 have HRE:=tH (show deskR t=(runWs pool0 L,0,0) by
  rw[HDR.out,if_pos (by rw[hm];omega),runL_ws,← hMR,hL])
 have HZR:=tH hZR
 have HW2:=tH (hWR.mono (Nat.zero_le _))
 clear hm h0 hWR hZR hMR hL HWR HBO HDR
 go_wp2_with fail
 refine(startPool_any w2).mono ?_
 rintro e _ ⟨ca,cc,fc,rfl,⟨X3,rfl⟩,hO⟩
 have HO:=tH hO
 clear hO
 go_upto_region 7 with fail
 refine gen_world (fun W3 hW=>?_)
 have HX3:=tH (show Ext w W3 by rw[hW];exact HX2.out.trans xE)
 have HR3:=tH (show Blk W3 w.heap.size [.string ⟨#[]⟩,(.int .i64 0),(.int .i64 0)] 23 by rw[hW];exact HR2.out.ext xE)
 have HW3:=tH (show WdR 0 W3 _ rs by rw[hW];exact HW2.out.ext xE)
 have HP3:=tH (show PlW W3 (w2.heap.size+X3.n) pool0 by
  rw[hW]
  exact⟨ca,cc,none,0,fc,[],Blk.new (w:=w2.plus X3) (cs:=#[.slice ca pool0.clear.length cc,.slice none 0 0,(.int .i64 0)]) (by simp),HO.out.ext xE⟩)
 have HBP:=tH (show w.heap.size < w2.heap.size+X3.n by have h:w.heap.size < w2.heap.size:=HR2.out.old;omega)
 clear hW HX2 HR2 HW2 HO
 generalize w2.heap.size+X3.n=bP at HP3 HBP ⊢
 have hrl:rs.length≤40:=HLO.out.2
 go_wp2
 go_loopw [6,25] (fun s k wr=>∃ (i:Nat) (q:Pl) (all:ByteArray),i≤rs.length∧k=(.int .i64 (i:Int))∧s=.string all∧all.size≤i*10001∧Hid (runWs pool0 L=dl all++runWs q (L.drop i))∧Hid (poolR q=true)∧Hid (q.now≤30*i)∧Hid (PlW wr bP q)∧Hid (WdR 0 wr (.slice a rs.length c) rs)∧Hid (Blk wr w.heap.size [.string ⟨#[]⟩,(.int .i64 0),(.int .i64 0)] 23)∧Hid (Ext w wr)) (fun _ k _=>rs.length-(intOf k).toNat)
 case atStart=>exact⟨0,pool0,⟨#[]⟩,Nat.zero_le _,rfl,rfl,Nat.zero_le _,tH rfl,tH pool0_right,tH (by decide),HP3,HW3,HR3,HX3⟩
 case round =>
  clear HX3 HR3 HW3 HP3
  obtain⟨i,q,all,hi,rfl,rfl,hal,HRU,HPR,HPN,HP,HW,HR,HX⟩:=hrel
  by_cases hlt:i < rs.length
  ·obtain⟨bL,oL,hxa⟩:=slr_some (row_rc (f:=WdS.cells) (fun _=>rfl) HW.out.row) hlt
   subst hxa
   obtain⟨ho,hc0⟩:=wds_at HW.out hlt
   have hli:i < L.length:=by rw[← HLM.out,List.length_map];exact hlt
   have HLI:=tH (show L.drop i=(rs[i]).1.map dl :: L.drop (i+1) by
    rw[List.drop_eq_getElem_cons hli]
    congr 1
    simp only[← HLM.out,List.getElem_map])
   have HOK:=tH (HLO.out.1 ((rs[i]).1.map dl) (by rw[← HLM.out];exact List.mem_map.2 ⟨rs[i],List.getElem_mem hlt,rfl⟩))
   have HZ9:=tH (HZR.out rs[i] (List.getElem_mem hlt))
   have HN9:=tH (HW.out.nd rs[i] (List.getElem_mem hlt))
   generalize hri:rs[i]=r at hc0 HLI HOK HZ9 HN9
   clear hri hli
   obtain⟨xs,xa,xc⟩:=r
   unfold WdS.val at hc0 HN9
   simp only at hc0 HLI HOK HZ9 HN9
   obtain⟨pa,pc,pb,pd,gc,gj,hB,hO⟩:=HP.out
   have HB:=tH hB
   have HO:=tH hO
   have b0:wr.cell? ⟨bP,0,none⟩=some (.slice pa q.clear.length pc):=hB.cell 0
   have b1:wr.cell? ⟨bP,1,none⟩=some (.slice pb q.jobs.length pd):=hB.cell 1
   have b2:wr.cell? ⟨bP,2,none⟩=some (.int .i64 q.now):=hB.cell 2
   have bo:=hB.old
   clear hB hO HP
   have HRT:=tH (runW_right HPR.out (by have:=HPN.out;omega) HOK.out.1 HOK.out.2)
   have HRL:=tH (runW_len HPR.out (by have:=HPN.out;omega) HOK.out.1 HOK.out.2)
   go_wp2_with fail
   refine(deskLine_any q pa pc pb pd gc gj xs xa xc _ HO.out HPR.out (by have:=HPN.out;omega) HZ9.out (row_rc (f:=sCell) (fun _=>rfl) HN9.out) HOK.out.1 (fun e=>HOK.out.2 (by rw[e];rfl)) (HL.out.ext HX.out)).mono ?_
   rintro e _ ⟨cv,jv,hc,hj,z,rfl,hd,⟨X4,rfl⟩,hO4⟩
   obtain⟨pa9,pc9,rfl⟩:=hO4.1.shape
   obtain⟨pb9,pd9,rfl⟩:=hO4.2.1.shape
   have HDZ:=tH hd
   have hz10:z.size≤10000:=by
    have h1:=HRL.out
    rw[← hd] at h1
    have h2:(dl z).length=z.size:=ba_len z
    omega
   have HRU1:=tH (show runWs pool0 L=dl (all++(z++(⟨#[10]⟩:ByteArray)))++runWs (runW q (xs.map dl)).1 (L.drop (i+1)) by
    rw[HRU.out,HLI.out]
    show dl all++((runW q (xs.map dl)).2++10 :: runWs (runW q (xs.map dl)).1 (L.drop (i+1)))=_
    rw[show dl (all++(z++(⟨#[10]⟩:ByteArray)))=dl all++(dl z++[10]) from by
     rw[← lf_list]
     unfold dl
     rw[ByteArray.data_append,Array.toList_append],HDZ.out]
    simp)
   have hsz9:(all++(z++(⟨#[10]⟩:ByteArray))).size≤(i+1)*10001:=by rw[ByteArray.size_append,lf_size];omega
   have HPR1:=tH HRT.out.1
   have HPN1:=tH (show (runW q (xs.map dl)).1.now≤30*((i+1:Nat):Int) by have h1:=HRT.out.2;have h2:=HPN.out;push_cast;omega)
   have HB4:=tH (HB.out.ext ((Ext.refl wr).plus X4))
   have HW4:=tH (HW.out.ext ((Ext.refl wr).plus X4))
   have HR4:=tH (HR.out.ext ((Ext.refl wr).plus X4))
   have HX4:=tH (HX.out.plus X4)
   have HO4:=tH hO4
   clear hd hO4 HB HO HW HR HX HRT HRL HRU HPR HPN HLI HOK HZ9 HN9 b0 b1 b2 bo hc0 ho
   generalize (runW q (xs.map dl)).1=q9 at HO4 HRU1 HPR1 HPN1 ⊢
   generalize wr.plus X4=W4 at HB4 HW4 HR4 HX4 HO4 ⊢
   have b0:W4.cell? ⟨bP,0,none⟩=some (.slice pa q.clear.length pc):=HB4.out.cell 0
   have b1:W4.cell? ⟨bP,1,none⟩=some (.slice pb q.jobs.length pd):=HB4.out.cell 1
   have b2:W4.cell? ⟨bP,2,none⟩=some (.int .i64 q.now):=HB4.out.cell 2
   have bo:=HB4.out.old
   have bf:=HB4.out.fz
   go_upto_region 12 with fail
   refine gen_world (fun W5 hW=>?_)
   have hC:Chg [bP] W4 W5:=by rw[hW];exact set3_chgI _ _ _ _ _
   have HB5:=tH (show Blk W5 bP [.slice pa9 q9.clear.length pc9,.slice pb9 q9.jobs.length pd9,(.int .i64 q9.now)] 41 by rw[hW];exact((HB4.out.set 0 _).set 1 _).set 2 _)
   have HO5:=tH (HO4.out.far hC (ownP_boxM HO4.out HB4.out (by decide) (by decide)))
   have HW5:=tH (HW4.out.box HB4.out hC)
   have HR5:=tH (HR4.out.chg hC (by have:=HBP.out;simp;omega))
   have HX5:=tH (hC.ext HX4.out (by have:=HBP.out;simp;omega))
   clear hW hC b0 b1 b2 bo bf HB4 HO4 HW4 HR4 HX4
   go_wp2
   exact⟨⟨i+1,q9,all++(z++(⟨#[10]⟩:ByteArray)),by omega,by go_num,rfl,hsz9,HRU1,HPR1,HPN1,tH ⟨_,_,_,_,_,_,HB5.out,HO5.out⟩,HW5,HR5,HX5⟩,by simp[intOf];omega⟩
  ·obtain rfl:i=rs.length:=by omega
   have HAL:=tH (show runWs pool0 L=dl all by
    rw[HRU.out,List.drop_of_length_le (by rw[← HLM.out,List.length_map];exact Nat.le_refl _)]
    show dl all++[]=_
    rw[List.append_nil])
   have r0:wr.cell? ⟨w.heap.size,0,none⟩=some (.string ⟨#[]⟩):=HR.out.cell 0
   have r1:wr.cell? ⟨w.heap.size,1,none⟩=some (.int .i64 0):=HR.out.cell 1
   have r2:wr.cell? ⟨w.heap.size,2,none⟩=some (.int .i64 0):=HR.out.cell 2
   have ro:=HR.out.old
   have rf:=HR.out.fz
   go_wp2
   refine gen_post (fun W9 hW=>?_)
   have HE9:=tH (show Ext w W9 by rw[hW];exact(set3_chgD _ _ _ _ _).ext HX.out (fun b hb=>by simp at hb;omega))
   have HB9:=tH (show Blk W9 w.heap.size [(.string all),(.int .i64 0),(.int .i64 0)] 23 by rw[hW];exact((HR.out.set 0 _).set 1 _).set 2 _)
   have y0:W9.cell? ⟨w.heap.size,0,none⟩=some (.string all):=HB9.out.cell 0
   have y1:W9.cell? ⟨w.heap.size,1,none⟩=some (.int .i64 0):=HB9.out.cell 1
   have y2:W9.cell? ⟨w.heap.size,2,none⟩=some (.int .i64 0):=HB9.out.cell 2
   refine bodyPost_ret (v:=.agg #[(.string all),(.int .i64 0),(.int .i64 0)]) (by simp[results,Tryz.results7,go_sem,y0,y1,y2]) rfl ?_
   rw[HRE.out]
   exact⟨⟨all,rfl,HAL.out.symm⟩,HE9.out⟩
end Go.Proofs.YtbmbanelodabgaaGreatDoor
