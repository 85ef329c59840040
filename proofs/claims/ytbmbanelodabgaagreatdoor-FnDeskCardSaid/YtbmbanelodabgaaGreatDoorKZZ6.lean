/- Pools that are made: copyClear, PoolNew. -/
import Derived.Test.YtbmbanelodabgaaGreatDoorKZZ1
import Derived.Test.YtbmbanelodabgaaGreatDoorKJE
import Derived.Test.YtbmbanelodabgaaGreatDoorKBG
import Derived.Test.YtbmbanelodabgaaGreatDoorKII
set_option maxRecDepth 100000
set_option linter.unusedVariables false
namespace Go.Proofs.YtbmbanelodabgaaGreatDoor
open Go.RowKit Go.Fin1
set_option maxHeartbeats 800000 in
theorem cloneLab_any (v:Value) (l:List Lab) (w:World) (h:SlR w 2 (rc Lab.cells) v l) (hl:l.length≤1048576) :
  Calls Tryz.prog 156 #[v] w fun e w'=>∃ v',e=.returned v'∧Ext w w'∧Row w.heap.size w' 36 2 Lab.cells v' l:=by
 obtain⟨ad,cap,rfl⟩:=h.len
 have q22:∀ (w:World) (a:Option Addr) (n c n' c':Nat),(binOp .eql 45 (.slice a n c) (.slice none n' c')).run Tryz.prog w=.ok (.bool a.isNone) w:=fun w a n c n' c'=>Lib.run_eql_slice_nil w _ _ a n c n' c' (show Tryz.prog.underlying 45=some (.slice 36) by kernel_rfl)
 have HS:=tH h
 cases ad with
 | none =>
  have h0:l=[]:=by
   cases l with
   | nil=>rfl
   | cons x l=>obtain⟨b,off,he⟩:=slr_some h (Nat.zero_lt_succ _);cases he
  subst h0
  clear h
  go_enter Tryz.func156,Tryz.ntmps156
  go_wp2
  go_ret
  exact⟨_,rfl,xE,Row.nil _ _ _ _ _⟩
 | some ad =>
  have HC:=tH (slr_flat (f:=Lab.cells) (K:=2) (fun _=>rfl) h)
  clear h
  go_enter Tryz.func156,Tryz.ntmps156
  go_wp2_with (at_builtin;go_must (refine Row.appS (f:=Lab.cells) el_Label rfl _ _ rfl w xE _ _ rfl (Row.made _ _ _ _) ad l.length cap l rfl rfl (fun _=>rfl) ?_ ?_ ?_ ?_ ?_);(exact fun j u hu=>Ext.cellA xE (HC.out j u hu));(intro u hu;obtain⟨x,_,hx⟩:=List.mem_flatMap.1 hu;simp[Lab.cells] at hx;first | (rcases hx with rfl | rfl<;>rfl) | (subst hx;rfl) | (rcases hx with rfl | rfl | rfl<;>rfl) | (rcases hx with rfl | rfl | rfl | rfl | rfl | rfl<;>rfl));(unfold maxLen;simp;omega);(simp;omega);intro v' X' hown' hne;have HO':=tH hown';clear hown' hne)
  go_ret
  exact⟨_,rfl,xE,by have:=HO'.out;simpa using this⟩
theorem rLab_rc {w:World} {v:Value} {l:List Lab} (h:SlR w 2 rLab v l):SlR w 2 (rc Lab.cells) v l:=slr_with h fun _ _ _ hr=>hr.1
set_option maxHeartbeats 1600000 in
theorem copyClear_any (v:Value) (l:List (List Lab)) (w:World) (h:SlR w 1 rLabS v l) (hl:szL List.length l≤1048576) :
  Calls Tryz.prog 119 #[v] w fun e w'=>∃ v' fp,e=.returned v'∧Ext w w'∧Own w.heap.size w' oLabelSS fp [v'] l:=by
 obtain⟨a,cap,rfl⟩:=h.len
 have hll:l.length≤1048576:=Nat.le_trans (szL_len List.length l) hl
 have HL:=tH hl
 have HS:=tH h
 clear h hl
 go_enter Tryz.func119,Tryz.ntmps119
 go_wp2
 go_loopw [9,3,5] (fun i o _ wr=>∃ k:Nat,k≤l.length∧i=.int .i64 k∧Ext w wr∧Hid (∃ fp,Own w.heap.size wr oLabelSS fp [o] (l.take k))) (fun i _ _ _=>l.length-(intOf i).toNat)
 case atStart=>exact⟨0,Nat.zero_le _,rfl,xE,tH ⟨_,Own.made rfl (Nat.le_refl _)⟩⟩
 case round =>
  obtain⟨k,hk,rfl,⟨X,rfl⟩,HH⟩:=hrel
  obtain⟨fp,hO⟩:=HH.out
  have HB:=tH (oLabelSS_held _ _ _ _ hO.1)
  obtain⟨ao,co,rfl⟩:=hO.shape
  have hZ:(l.take k).length=k:=by rw[List.length_take];omega
  rw[hZ] at hO ⊢
  have HO:=tH hO
  have HZ:=tH hZ
  clear hO HH hZ
  by_cases hlt:k < l.length
  ·obtain⟨b,off,rfl⟩:=slr_some HS.out hlt
   obtain⟨ho,vx,hsx,h0⟩:=sl_at HS.out hlt
   obtain⟨ax,cx,rfl⟩:=hsx.len
   have HX:=tH hsx
   have HT:=tH (List.take_append_getElem hlt)
   clear hsx
   go_wp2_with fail
   refine(cloneLab_any _ l[k] _ (rLab_rc (HX.out.ext rLab_stable xE)) (Nat.le_trans (szL_at List.length hlt) HL.out)).mono ?_
   rintro e _ ⟨v3,rfl,⟨Y,rfl⟩,hR⟩
   obtain⟨fy,hy⟩:=Row.own (f:=Lab.cells) (K:=2) (fun _=>rfl) hR
   obtain⟨a3,c3,rfl⟩:=hy.shape
   have HA:Hid (∀ b∈fp,b∉fy):=tH (fun b hb hby=>by have h1:=HB.out b hb;have h2:=hy.2.2 b hby;omega)
   have HY:=tH (hy.mono (B':=w.heap.size) (by simp))
   have hO2:=tH (HO.out.plus oLabelSS_local oLabelSS_held Y)
   clear hy hR
   go_wp2_with (at_builtin;go_must (refine Own.app (oSl_local (oFlat_local _)) (oSl_held (oFlat_held _)) el_eLabelS rfl _ _ rfl (w0:=w) xE _ (l.take k) fp rfl (hO2.out) _ (by simp) rfl l[k] fy HY.out rfl HA.out ?_ ?_ ?_ ?_);(simp[Value.oneCell']);(rw[HZ.out];unfold maxLen;omega);(rw[HZ.out];omega);intro v' X' fp' hown';rw[HT.out] at hown';have HO':=tH hown';clear hown')
   exact⟨⟨k+1,by omega,by go_num,xE,tH ⟨_,HO'.out⟩⟩,by simp[intOf];omega⟩
  ·go_wp2
   obtain rfl:k=l.length:=by omega
   go_ret
   exact⟨_,fp,rfl,xE,HO.out.cast List.take_length⟩
end Go.Proofs.YtbmbanelodabgaaGreatDoor
set_option maxRecDepth 100000
set_option linter.unusedVariables false
namespace Go.Proofs.YtbmbanelodabgaaGreatDoor
open Go.RowKit Go.Fin1
structure CpS (w W:World) (cv jv c j:Value) (now:Int):Prop where
 ext:Ext w W
 sz:w.heap.size+3≤W.heap.size
 s0:W.cell? ⟨w.heap.size,0,none⟩=some cv
 s1:W.cell? ⟨w.heap.size,1,none⟩=some jv
 r:CellsAt W (w.heap.size+1) [.slice none 0 0,.slice none 0 0,(.int .i64 0)]
 t0:W.cell? ⟨w.heap.size+1+1,0,none⟩=some c
 t1:W.cell? ⟨w.heap.size+1+1,1,none⟩=some j
 t2:W.cell? ⟨w.heap.size+1+1,2,none⟩=some (.int .i64 now)
 fr:∀ q,W.frozen? ⟨w.heap.size+1,q,none⟩=false
 ft:∀ q,W.frozen? ⟨w.heap.size+1+1,q,none⟩=false
theorem CpS.chg {w W W':World} {cv jv c j:Value} {now:Int} {S:List Nat} (h:CpS w W cv jv c j now) (hx:Chg S W W') (hS:∀ b∈S,w.heap.size+3≤b):CpS w W' cv jv c j now:=by
 have n0:w.heap.size∉S:=fun hb=>by have:=hS _ hb;omega
 have n1:w.heap.size+1∉S:=fun hb=>by have:=hS _ hb;omega
 have n2:w.heap.size+1+1∉S:=fun hb=>by have:=hS _ hb;omega
 have hsz:=h.sz
 refine⟨hx.ext h.ext (fun b hb=>by have:=hS _ hb;omega),Nat.le_trans h.sz hx.size,cell_chg hx h.s0 n0,cell_chg hx h.s1 n0,h.r.chg hx n1,cell_chg hx h.t0 n2,cell_chg hx h.t1 n2,cell_chg hx h.t2 n2,fun q=>?_,fun q=>?_⟩
 ·have:=h.fr q
  simp only[World.frozen?,hx.block (w.heap.size+1) (by omega) n1] at this ⊢;exact this
 ·have:=h.ft q
  simp only[World.frozen?,hx.block (w.heap.size+1+1) (by omega) n2] at this ⊢;exact this
theorem CpS.set0 {w W:World} {cv jv c j:Value} {now:Int} (h:CpS w W cv jv c j now) (u:Value):CpS w (W.setCell ⟨w.heap.size+1+1,0,none⟩ u) cv jv u j now:=by
 have hc:Chg [w.heap.size+1+1] W (W.setCell ⟨w.heap.size+1+1,0,none⟩ u):=(Chg.refl _ _).setCell (.inl (by simp)) u
 exact⟨hc.ext h.ext (by simp;omega),by simpa using h.sz,cell_chg hc h.s0 (by simp;omega),cell_chg hc h.s1 (by simp;omega),h.r.chg hc (by simp),World.cell?_setCell_same _ _ _ h.t0,by rw[World.cell?_setCell_other _ _ _ _ (by simp)];exact h.t1,by rw[World.cell?_setCell_other _ _ _ _ (by simp)];exact h.t2,fun q=>by rw[World.frozen?_setCell];exact h.fr q,fun q=>by rw[World.frozen?_setCell];exact h.ft q⟩
theorem CpS.set1 {w W:World} {cv jv c j:Value} {now:Int} (h:CpS w W cv jv c j now) (u:Value):CpS w (W.setCell ⟨w.heap.size+1+1,1,none⟩ u) cv jv c u now:=by
 have hc:Chg [w.heap.size+1+1] W (W.setCell ⟨w.heap.size+1+1,1,none⟩ u):=(Chg.refl _ _).setCell (.inl (by simp)) u
 exact⟨hc.ext h.ext (by simp;omega),by simpa using h.sz,cell_chg hc h.s0 (by simp;omega),cell_chg hc h.s1 (by simp;omega),h.r.chg hc (by simp),by rw[World.cell?_setCell_other _ _ _ _ (by simp)];exact h.t0,World.cell?_setCell_same _ _ _ h.t1,by rw[World.cell?_setCell_other _ _ _ _ (by simp)];exact h.t2,fun q=>by rw[World.frozen?_setCell];exact h.fr q,fun q=>by rw[World.frozen?_setCell];exact h.ft q⟩
def kJobX (B:Nat) (j:Jb) (_:Nat×Nat):XReg.Kind:=fun v w=>∃ a c fp,v=j.val (.slice a j.nodes.length c)∧Own B w oIntS fp [.slice a j.nodes.length c] j.nodes
theorem kJobX_in {B:Nat} {j:Jb} {nv:Value} {x:Nat×Nat} {w:World} {fp:List Nat} (h:Own B w oIntS fp [nv] j.nodes):kJobX B j x (j.val nv) w:=by
 obtain⟨a,c,rfl⟩:=h.shape
 exact⟨a,c,fp,rfl,h⟩
theorem kJobX_out {B:Nat} {j:Jb} {a:Option Addr} {c:Nat} {x:Nat×Nat} {w:World} (h:kJobX B j x (j.val (.slice a j.nodes.length c)) w):∃ fp,Own B w oIntS fp [.slice a j.nodes.length c] j.nodes:=by
 obtain⟨a',c',fp,hv,h⟩:=h
 rw[Jb.val_inj hv];exact⟨fp,h⟩
theorem canO_job {j:Jb} (hm:j.nodes.length≤maxLen):CanO 9 oJob j:=fun w=>by
 obtain⟨w',a,c,fp,hx,hO⟩:=own_can (ty:=2) (oFlat_local _) (oFlat_held _) (xs:=j.nodes) (fun y _=>canO_flat (f:=fun x=>[(.int .i64 x)]) (K:=1) (fun _=>rfl) y) hm w
 exact⟨w',fp,j.cells (.slice a j.nodes.length c),hx,⟨⟨_,rfl,hO.1⟩,hO.2.1,hO.2.2⟩,rfl⟩
theorem kJobX_good {B:Nat} {j:Jb} {S U V:List Nat} (hV:∀ b∈V,b < B) (hm:j.nodes.length≤maxLen):(XReg.ZOp.A (kJobX B j) S U V).Good :=
 ⟨fun x v w w' hx ⟨a,c,fp,hv,hO⟩=>⟨a,c,fp,hv,hO.chg oIntS_local oIntS_held hx hV⟩,by
  obtain⟨w',a,c,fp,hx,hO⟩:=own_can (ty:=2) (oFlat_local _) (oFlat_held _) (xs:=j.nodes) (fun y _=>canO_flat (f:=fun x=>[(.int .i64 x)]) (K:=1) (fun _=>rfl) y) hm (emptyH B)
  rw[emptyH_size] at hO
  exact⟨(0,0),_,w',a,c,fp,rfl,hO⟩⟩
set_option maxHeartbeats 3200000 in
theorem l05Copy_any (p:Pl) (v:Value) (w:World) (h:ePool w v p) (hf:p.fits 1048576) :
  Calls Tryz.prog 30 #[v] w fun e w'=>∃ c j fc fj,e=.returned (p.val c j)∧Ext w w'∧OwnP w.heap.size w' fc fj c j p:=by
 obtain⟨a,c,b,d,rfl,h0,h1,h2⟩:=h
 have HC:=tH h1
 have HJ:=tH h2
 have HSC:Hid (szL List.length p.clear≤1048576):=tH hf.1
 have HSJ:Hid (szL Jb.sz p.jobs≤1048576):=tH (Nat.le_trans hf.2 (Nat.sub_le _ _))
 have hlc:p.clear.length≤1048576:=Nat.le_trans (szL_len List.length _) HSC.out
 have hlj:p.jobs.length≤1048576:=Nat.le_trans (szL_len Jb.sz _) HSJ.out
 clear h0 h1 h2 hf
 unfold Pl.val
 go_enter Tryz.func30,Tryz.ntmps30
 go_upto_region 2 with fail
 refine gen_world (fun Wb hW=>?_)
 have HS0:Hid (CpS w Wb (.slice a p.clear.length c) (.slice b p.jobs.length d) (.slice none 0 0) (.slice none 0 0) p.now):=tH (by
  rw[hW]
  refine⟨xE,by simp,by simp[go_sem],by simp[go_sem],fun q u hu=>?_,by simp[go_sem],by simp[go_sem],by simp[go_sem],fun q=>by simp[go_sem],fun q=>by simp[go_sem]⟩
  rcases q with _ | _ | _ | q
  ·simp at hu;subst hu;simp[go_sem]
  ·simp at hu;subst hu;simp[go_sem]
  ·simp at hu;subst hu;simp[go_sem]
  ·simp at hu)
 clear hW
 go_wp2
 go_loopw [4] (fun i wr=>∃ (k:Nat) (v:Value),k≤p.clear.length∧i=.int .i64 k∧Hid (CpS w wr (.slice a p.clear.length c) (.slice b p.jobs.length d) v (.slice none 0 0) p.now)∧Hid (∃ fp,Own (w.heap.size+3) wr oLabelSS fp [v] (p.clear.take k))) (fun i _=>p.clear.length-(intOf i).toNat)
 case atStart=>exact⟨0,_,Nat.zero_le _,rfl,HS0,tH ⟨_,Own.nil _ _ _ _ _⟩⟩
 case round =>
  obtain⟨k,v,hk,rfl,HS,HO⟩:=hrel
  obtain⟨fp,hO⟩:=HO.out
  obtain⟨ao,co,rfl⟩:=hO.shape
  have hZ:(p.clear.take k).length=k:=by rw[List.length_take];omega
  rw[hZ] at hO HS
  have HR:=tH hO
  have HZ:=tH hZ
  clear hO HO hZ
  have HBK:Hid (∀ b∈(blkL (.slice ao k co)),w.heap.size+3≤b):=tH (fun b hb=>HR.out.2.2 b (HR.out.blkL_in b hb))
  by_cases hlt:k < p.clear.length
  ·obtain⟨b1,off,rfl⟩:=slr_some HC.out hlt
   obtain⟨ho,vx,hsx,h0⟩:=sl_at HC.out hlt
   obtain⟨ax,cx,rfl⟩:=hsx.len
   have HX:=tH hsx
   have HT:=tH (List.take_append_getElem hlt)
   have HSZ:=tH HS.out.sz
   have HKL:Hid (p.clear[k].length≤1048576):=tH (Nat.le_trans (szL_at List.length hlt) HSC.out)
   clear hsx
   have hkl:(p.clear.take (k+1)).length≤maxLen:=by rw[List.length_take];unfold maxLen;omega
   have hk2:p.clear[k].length≤maxLen:=by have:=HKL.out;unfold maxLen;omega
   have hbW:∀ q∈(blkL (.slice ao k co)),q < wr.heap.size:=fun q hq=>(oLabelSS_held _ _ _ _ HR.out.1) q (HR.out.blkL_in q hq)
   have HBW:=tH hbW
   have HKM:Hid (∀ y∈p.clear.take (k+1),y.length≤maxLen):=tH (fun y hy=>by
    obtain⟨q,hq,rfl⟩:=List.mem_iff_getElem.1 (show y∈p.clear from List.mem_of_mem_take hy)
    have h1:=szL_at List.length hq
    have h2:=HSC.out
    unfold maxLen;omega)
   clear hbW
   obtain⟨⟨X,rfl⟩,q2,c0,c1,q3,d0,d1,d2,q4,q5⟩:=HS.out
   obtain⟨B0,hB0⟩:∃ B0,B0=(w.plus X).heap.size:=⟨_,rfl⟩
   have HB0:=tH hB0
   rw[← hB0] at HBW
   clear hB0
   have g0:=World.old_of_cell c0
   have g1:=World.old_of_cell d0
   clear q2 q3 q4 q5
   go_upto_region 5 with fail
   (refine wp_region_z (blkL (.slice ao k co)) [.V (.pointer (some ⟨w.heap.size+1+1,0,none⟩)),XReg.ZOp.A (fun _ u _=>u=(.slice ao k co)) [] (blkL (.slice ao k co)) (blkL (.slice ao k co)),.A (kEmpX 36 2 Lab.cells B0) [] (blkL (.slice ao k co)) (blkL (.slice ao k co)),.V (.pointer (some ⟨w.heap.size,0,none⟩)),XReg.ZOp.A (fun _ u _=>u=(.slice (some ⟨b1,off,none⟩) p.clear.length c)) [] (blkL (.slice ao k co)) (blkL (.slice ao k co)),.V (.int .i64 (k:Int)),.V (.pointer (some ⟨b1,off+k,none⟩)),XReg.ZOp.A (fun _ u _=>u=(.slice ax p.clear[k].length cx)) [] (blkL (.slice ao k co)) (blkL (.slice ao k co)),.A (kOwnX 36 2 (oFlat Lab.cells) B0 p.clear[k]) [] (blkL (.slice ao k co)) (blkL (.slice ao k co)),.A (kElt 1 oLabelS B0 p.clear[k]) [] (blkL (.slice ao k co)) (blkL (.slice ao k co)),.A (kOwnX 45 1 oLabelS (w.heap.size+3) (p.clear.take (k+1))) (blkL (.slice ao k co)) [] [],.V (.pointer (some ⟨w.heap.size+1+1,0,none⟩)),.T] [_] (by kernel_rfl) (by kernel_rfl) (by kernel_rfl) (by kernel_rfl) rfl ?_ (by repeat' (first | exact trivial | exact XReg.ZOp.good_is _ _ _ _ | exact XReg.ZOp.good_v _ | exact XReg.ZOp.good_t | (first | exact kEmpX_good HBW.out | exact kOwnX_good (oFlat_local _) (oFlat_held _) HBW.out (fun y _=>canO_flat (fun _=>rfl) y) hk2 | exact kElt_good (oSl_local (oFlat_local _)) (oSl_held (oFlat_held _)) HBW.out (canO_sl (oFlat_local _) (oFlat_held _) (fun y _=>canO_flat (fun _=>rfl) y) hk2) | exact kOwnX_good (oSl_local (oFlat_local _)) (oSl_held (oFlat_held _)) (by simp) (fun y hy=>canO_sl (oFlat_local _) (oFlat_held _) (fun y _=>canO_flat (fun _=>rfl) y) (HKM.out y hy)) hkl) | refine And.intro ?_ ?_)) (by repeat' (first | exact trivial | exact XReg.subL_nil _ | exact XReg.subL_refl _ | exact Or.inr (XReg.subL_nil _) | exact Or.inr (XReg.subL_refl _) | exact Or.inl (by kernel_rfl) | refine And.intro ?_ ?_)))
   clear hkl hk2 c0 c1 d0 d1 d2 g0 g1
   (apply ZReg.val (.pointer (some ⟨w.heap.size+1+1,0,none⟩));(case h=>(intro w';go_wp2_with (fail);first | exact⟨rfl,rfl⟩ | exact rfl));(case hv=>kernel_rfl))
   apply ZReg.setU (.slice ao k co)
   case h =>
    intro w' hw' hF'
    clear hF'
    obtain⟨⟨Z',rfl⟩,zsz,y0,y1,yr,y2,y3,y4,yf,yg⟩:=HS.out.chg hw' HBK.out
    clear hw' yr yf yg zsz
    go_wp2
    exact⟨rfl,xE⟩
   case hv=>kernel_rfl
   intro _
   refine ZReg.kind (fun w' hw' hF'=>?_) (fun v1 w1 x1 hK=>?_)
   ·have hsz:B0≤w'.heap.size:=by rw[HB0.out];exact hw'.size
    clear hw' hF'
    go_wp2
    exact⟨(Ext.chg xE _),kEmpX_in (by first | rfl | simp) hsz⟩
   obtain⟨g1,rfl,q1,q2⟩:=hK
   clear q1 q2 w1
   (apply ZReg.val (.pointer (some ⟨w.heap.size,0,none⟩));(case h=>(intro w';go_wp2_with (fail);first | exact⟨rfl,rfl⟩ | exact rfl));(case hv=>kernel_rfl))
   apply ZReg.setU (.slice (some ⟨b1,off,none⟩) p.clear.length c)
   case h =>
    intro w' hw' hF'
    clear hF'
    obtain⟨⟨Z',rfl⟩,zsz,y0,y1,yr,y2,y3,y4,yf,yg⟩:=HS.out.chg hw' HBK.out
    clear hw' yr yf yg zsz
    go_wp2
    exact⟨rfl,xE⟩
   case hv=>kernel_rfl
   intro _
   (apply ZReg.val (.int .i64 (k:Int));(case h=>(intro w';go_wp2_with (fail);first | exact⟨rfl,rfl⟩ | exact rfl));(case hv=>kernel_rfl))
   (apply ZReg.val (.pointer (some ⟨b1,off+k,none⟩));(case h=>(intro w';go_wp2_with (fail);first | exact⟨rfl,rfl⟩ | exact rfl));(case hv=>kernel_rfl))
   apply ZReg.setU (.slice ax p.clear[k].length cx)
   case h =>
    intro w' hw' hF'
    clear hF'
    obtain⟨⟨Z',rfl⟩,zsz,y0,y1,yr,y2,y3,y4,yf,yg⟩:=HS.out.chg hw' HBK.out
    clear hw' yr yf yg zsz
    go_wp2
    exact⟨rfl,xE⟩
   case hv=>kernel_rfl
   intro _
   refine ZReg.kind (fun w' hw' hF'=>?_) (fun v1 w1 x2 hK=>?_)
   ·have HE:=tH (kEmpX_r (x:=x1) (hF'.get 2 (p:=(kEmpX 36 2 Lab.cells B0 x1,.slice (some ⟨g1,0,none⟩) 0 0)) (by kernel_rfl) (by kernel_rfl)))
    have hsz:B0≤w'.heap.size:=by rw[HB0.out];exact hw'.size
    obtain⟨Z',rfl⟩:=(HS.out.chg hw' HBK.out).ext
    have HSW:=tH hsz
    clear hF' hw' hsz
    refine Row.appE (f:=Lab.cells) el_Label rfl _ _ rfl g1 rfl _ p.clear[k] rfl (fun _=>rfl) (rLab_rc (HX.out.ext rLab_stable xE)) ?_ ?_ ?_ (HE.out.mono (Nat.zero_le _)) ?_ ?_
    ·intro x u hu
     simp[Lab.cells] at hu
     rcases hu with rfl | rfl<;>rfl
    ·have:=HKL.out;unfold maxLen;omega
    ·have:=HKL.out;omega
    ·intro hnil
     obtain⟨fp9,hO⟩:=Row.own (f:=Lab.cells) (K:=2) (fun _=>rfl) HE.out
     have H9:Hid (kOwnX 36 2 (oFlat Lab.cells) B0 p.clear[k] ((w.plus Z').heap.size,(w.plus Z').heap.size) (.slice (some ⟨g1,0,none⟩) 0 0) (w.plus Z')):=tH (by
      rw[hnil]
      exact kOwnX_in hO)
     clear hnil hO
     go_wp2
     exact⟨Chg.refl _ _,H9.out⟩
    ·intro v' Y' hR
     obtain⟨fp9,hO⟩:=Row.own (f:=Lab.cells) (K:=2) (fun _=>rfl) hR
     have H9:∀ x,Hid (kOwnX 36 2 (oFlat Lab.cells) B0 p.clear[k] x v' ((w.plus Z').plus Y')):=fun x=>tH (kOwnX_in (hO.mono HSW.out))
     have H8:=tH H9
     clear hO hR H9
     go_wp2
     exact⟨Ext.chg xE _,(H8.out _).out⟩
   obtain⟨a2,c2,fp2,rfl,q2⟩:=hK
   clear q2 w1 fp2
   refine ZReg.kind (fun w' hw' hF'=>?_) (fun v1 w1 x3 hK=>?_)
   ·obtain⟨fp9,hO⟩:=kOwnX_out (x:=x2) (hF'.get 8 (p:=(kOwnX 36 2 (oFlat Lab.cells) B0 p.clear[k] x2,.slice a2 p.clear[k].length c2)) (by kernel_rfl) (by kernel_rfl))
    have HY:=tH hO
    have HSW:Hid (B0≤w'.heap.size):=tH (by rw[HB0.out];exact hw'.size)
    clear hF' hw' hO
    go_wp2
    exact⟨Ext.chg xE _,kElt_in (oSl_local (oFlat_local _)) (oSl_held (oFlat_held _)) HY.out rfl (by first | rfl | simp) HSW.out⟩
   obtain⟨g3,cs3,fy3,rfl,q2⟩:=hK
   clear q2 w1 cs3 fy3
   refine ZReg.kind (fun w' hw' hF'=>?_) (fun v1 w1 x4 hK=>?_)
   ·obtain⟨cs9,fy9,hc9,hl9,hO9⟩:=kElt_out (x:=x3) (hF'.get 9 (p:=(kElt 1 oLabelS B0 p.clear[k] x3,.slice (some ⟨g3,0,none⟩) 1 1)) (by kernel_rfl) (by kernel_rfl))
    have HC9:=tH hc9
    have HL9:=tH hl9
    have HO9:=tH hO9
    have HRW:=tH (HR.out.ext oLabelSS_local oLabelSS_held hw'.ext0)
    have HA:Hid (∀ q∈fp,q∉fy9):=tH (fun q hq hq9=>by
     have q1:=oLabelSS_held _ _ _ _ HR.out.1 q hq
     have q2:=hO9.2.2 q hq9
     rw[HB0.out] at q2;omega)
    have HSW:Hid (w.heap.size+3≤w'.heap.size):=tH (Nat.le_trans HSZ.out hw'.size)
    have HOC:Hid (∀ u∈cs9,u.oneCell'=true):=tH (by
     obtain⟨v9,rfl,h9⟩:=hO9.1
     rcases h9 with ⟨rfl,_⟩ | ⟨_,_,_,_,rfl,_⟩<;>simp[Value.oneCell'])
    have HBB:Hid (w.heap.size+3≤B0):=tH (by rw[HB0.out];exact HSZ.out)
    clear hF' hw' hc9 hl9 hO9
    go_wp2_with (at_builtin;go_must (refine Own.app1 (oSl_local (oFlat_local _)) (oSl_held (oFlat_held _)) el_eLabelS rfl _ _ rfl (w.heap.size+3) _ (p.clear.take k) fp rfl HRW.out ⟨g3,0,none⟩ 1 rfl p.clear[k] fy9 cs9 (HO9.out.mono HBB.out) HL9.out HA.out HSW.out HC9.out HOC.out ?_ ?_ ?_);(rw[HZ.out];unfold maxLen;omega);(rw[HZ.out];omega);intro v' w2 fp' hO2 hC2 _;have HO2:=tH hO2;have HC2:=tH hC2;clear hO2 hC2)
    exact⟨HC2.out,kOwnX_in (HO2.out.cast HT.out)⟩
   have HV4:∃ a c,v1=.slice a (k+1) c:=by
    obtain⟨a,c,fp,rfl,_⟩:=hK
    exact⟨a,c,by rw[List.length_take,Nat.min_eq_left (by omega)]⟩
   obtain⟨a4,c4,rfl⟩:=HV4
   clear hK w1
   (apply ZReg.val (.pointer (some ⟨w.heap.size+1+1,0,none⟩));(case h=>(intro w';go_wp2_with (fail);first | exact⟨rfl,rfl⟩ | exact rfl));(case hv=>kernel_rfl))
   refine ZReg.T ?_
   refine ZReg.done (fun w2 hw2 hF hR=>?_)
   obtain⟨fp4,hO4⟩:=kOwnX_out (x:=x4) (hF 10 (kOwnX 45 1 oLabelS (w.heap.size+3) (p.clear.take (k+1)) x4,.slice a4 (k+1) c4) (by kernel_rfl))
   have HO4:=tH hO4
   have hS2:=HS.out.chg hw2 HBK.out
   have HS2:=tH hS2
   clear hF hR hO4 hw2 HS
   obtain⟨⟨X2,rfl⟩,r1,c0,c1,r2,d0,d1,d2,r3,hfr⟩:=hS2
   have g1:=World.old_of_cell d0
   clear r1 r2 r3
   refine ZReg.run ?_
   go_wp2
   refine ZReg.end_ ?_
   go_wp2
   exact⟨⟨k+1,_,by omega,by go_num,tH (HS2.out.set0 _),tH ⟨fp4,HO4.out.set (a:=⟨w.heap.size+1+1,0,none⟩) oLabelSS_local oLabelSS_held (by show w.heap.size+1+1 < w.heap.size+3;omega) _⟩⟩,by simp[intOf];omega⟩
  ·obtain rfl:k=p.clear.length:=by omega
   rw[List.take_length] at HR
   obtain⟨⟨X,rfl⟩,q2,c0,c1,q3,d0,d1,d2,q4,q5⟩:=HS.out
   have g0:=World.old_of_cell c0
   have g1:=World.old_of_cell d0
   clear q2 q3 q4 q5
   go_upto_region 6 with fail
   refine gen_world (fun Wc hWc=>?_)
   rw[← hWc] at HS HR
   clear hWc c0 c1 d0 d1 d2 g0 g1 HZ HBK hlt hk
   have HFC:Hid (∀ q∈fp,q < Wc.heap.size):=tH (oLabelSS_held _ _ _ _ HR.out.1)
   have HSC2:=tH HS.out.sz
   go_wp2
   go_loopw [5] (fun i wr=>∃ (k:Nat) (v:Value),k≤p.jobs.length∧i=.int .i64 k∧Hid (CpS w wr (.slice a p.clear.length c) (.slice b p.jobs.length d) (.slice ao p.clear.length co) v p.now)∧Hid (Own (w.heap.size+3) wr oLabelSS fp [.slice ao p.clear.length co] p.clear)∧Hid (Wc.heap.size≤wr.heap.size)∧Hid (∃ fp,Own Wc.heap.size wr oJobS fp [v] (p.jobs.take k))) (fun i _=>p.jobs.length-(intOf i).toNat)
   case atStart=>exact⟨0,_,Nat.zero_le _,rfl,HS,HR,tH (Nat.le_refl _),tH ⟨_,Own.nil _ _ _ _ _⟩⟩
   case round =>
    clear HS HR
    obtain⟨k,v,hk,rfl,HS,HRC,HWC,HO⟩:=hrel
    obtain⟨fj,hO⟩:=HO.out
    obtain⟨aj,cj,rfl⟩:=hO.shape
    have hZ:(p.jobs.take k).length=k:=by rw[List.length_take];omega
    rw[hZ] at hO HS
    have HR:=tH hO
    have HZ:=tH hZ
    clear hO HO hZ
    have HBK:Hid (∀ b∈(blkL (.slice aj k cj)),w.heap.size+3≤b):=tH (fun b hb=>Nat.le_trans HSC2.out (HR.out.2.2 b (HR.out.blkL_in b hb)))
    by_cases hlt:k < p.jobs.length
    ·obtain⟨b1,off,rfl⟩:=slr_some HJ.out hlt
     obtain⟨ho,an,cn,hok,hsn,e0,e1,e2,e3,e4,e5,e6,e7,e8⟩:=job_at HJ.out hlt
     have HX:=tH hsn
     have HT:=tH (List.take_append_getElem hlt)
     have HSZ:=tH HS.out.sz
     have HKL:Hid (p.jobs[k].nodes.length≤1048576):=tH (Nat.le_trans (szL_at Jb.sz hlt) HSJ.out)
     clear hsn hok
     have hkl:(p.jobs.take (k+1)).length≤maxLen:=by rw[List.length_take];unfold maxLen;omega
     have hk2:p.jobs[k].nodes.length≤maxLen:=by have:=HKL.out;unfold maxLen;omega
     have hbW:∀ q∈(blkL (.slice aj k cj)),q < wr.heap.size:=fun q hq=>(oJobS_held _ _ _ _ HR.out.1) q (HR.out.blkL_in q hq)
     have HBW:=tH hbW
     have HKM:Hid (∀ y∈p.jobs.take (k+1),y.nodes.length≤maxLen):=tH (fun y hy=>by
      obtain⟨q,hq,rfl⟩:=List.mem_iff_getElem.1 (show y∈p.jobs from List.mem_of_mem_take hy)
      have h3:p.jobs[q].nodes.length≤1048576:=Nat.le_trans (szL_at Jb.sz hq) HSJ.out
      unfold maxLen;omega)
     clear hbW
     obtain⟨⟨X,rfl⟩,q2,c0,c1,q3,d0,d1,d2,q4,q5⟩:=HS.out
     obtain⟨B0,hB0⟩:∃ B0,B0=(w.plus X).heap.size:=⟨_,rfl⟩
     have HB0:=tH hB0
     rw[← hB0] at HBW
     clear hB0
     have g0:=World.old_of_cell c0
     have g1:=World.old_of_cell d0
     clear q2 q3 q4 q5
     go_upto_region 9 with fail
     (refine wp_region_z (blkL (.slice aj k cj)) [.V (.pointer (some ⟨w.heap.size+1+1,1,none⟩)),XReg.ZOp.A (fun _ u _=>u=(.slice aj k cj)) [] (blkL (.slice aj k cj)) (blkL (.slice aj k cj)),.V (.pointer (some ⟨w.heap.size,1,none⟩)),XReg.ZOp.A (fun _ u _=>u=(.slice (some ⟨b1,off,none⟩) p.jobs.length d)) [] (blkL (.slice aj k cj)) (blkL (.slice aj k cj)),.V (.int .i64 (k:Int)),.V (.pointer (some ⟨b1,off+k*9,none⟩)),XReg.ZOp.A (fun _ u _=>u=(p.jobs[k].val (.slice an p.jobs[k].nodes.length cn))) [] (blkL (.slice aj k cj)) (blkL (.slice aj k cj)),.A (kJobX B0 p.jobs[k]) [] (blkL (.slice aj k cj)) (blkL (.slice aj k cj)),.A (kElt 9 oJob B0 p.jobs[k]) [] (blkL (.slice aj k cj)) (blkL (.slice aj k cj)),.A (kOwnX 92 9 oJob Wc.heap.size (p.jobs.take (k+1))) (blkL (.slice aj k cj)) [] [],.V (.pointer (some ⟨w.heap.size+1+1,1,none⟩)),.T] [_] (by kernel_rfl) (by kernel_rfl) (by kernel_rfl) (by kernel_rfl) rfl ?_ (by repeat' (first | exact trivial | exact XReg.ZOp.good_is _ _ _ _ | exact XReg.ZOp.good_v _ | exact XReg.ZOp.good_t | (first | exact kJobX_good HBW.out hk2 | exact kElt_good oJob_local oJob_held HBW.out (canO_job hk2) | exact kOwnX_good oJob_local oJob_held (by simp) (fun y hy=>canO_job (HKM.out y hy)) hkl) | refine And.intro ?_ ?_)) (by repeat' (first | exact trivial | exact XReg.subL_nil _ | exact XReg.subL_refl _ | exact Or.inr (XReg.subL_nil _) | exact Or.inr (XReg.subL_refl _) | exact Or.inl (by kernel_rfl) | refine And.intro ?_ ?_)))
     clear hkl hk2 c0 c1 d0 d1 d2 g0 g1
     (apply ZReg.val (.pointer (some ⟨w.heap.size+1+1,1,none⟩));(case h=>(intro w';go_wp2_with (fail);first | exact⟨rfl,rfl⟩ | exact rfl));(case hv=>kernel_rfl))
     apply ZReg.setU (.slice aj k cj)
     case h =>
      intro w' hw' hF'
      clear hF'
      obtain⟨⟨Z',rfl⟩,zsz,y0,y1,yr,y2,y3,y4,yf,yg⟩:=HS.out.chg hw' HBK.out
      clear hw' yr yf yg zsz
      go_wp2
      exact⟨rfl,xE⟩
     case hv=>kernel_rfl
     intro _
     (apply ZReg.val (.pointer (some ⟨w.heap.size,1,none⟩));(case h=>(intro w';go_wp2_with (fail);first | exact⟨rfl,rfl⟩ | exact rfl));(case hv=>kernel_rfl))
     apply ZReg.setU (.slice (some ⟨b1,off,none⟩) p.jobs.length d)
     case h =>
      intro w' hw' hF'
      clear hF'
      obtain⟨⟨Z',rfl⟩,zsz,y0,y1,yr,y2,y3,y4,yf,yg⟩:=HS.out.chg hw' HBK.out
      clear hw' yr yf yg zsz
      go_wp2
      exact⟨rfl,xE⟩
     case hv=>kernel_rfl
     intro _
     (apply ZReg.val (.int .i64 (k:Int));(case h=>(intro w';go_wp2_with (fail);first | exact⟨rfl,rfl⟩ | exact rfl));(case hv=>kernel_rfl))
     (apply ZReg.val (.pointer (some ⟨b1,off+k*9,none⟩));(case h=>(intro w';go_wp2_with (fail);first | exact⟨rfl,rfl⟩ | exact rfl));(case hv=>kernel_rfl))
     apply ZReg.setU (p.jobs[k].val (.slice an p.jobs[k].nodes.length cn))
     case h =>
      intro w' hw' hF'
      clear hF'
      obtain⟨⟨Z',rfl⟩,zsz,y0,y1,yr,y2,y3,y4,yf,yg⟩:=HS.out.chg hw' HBK.out
      clear hw' yr yf yg zsz
      go_wp2
      exact⟨rfl,xE⟩
     case hv=>kernel_rfl
     intro _
     refine ZReg.kind (fun w' hw' hF'=>?_) (fun v1 w1 x1 hK=>?_)
     ·have hsz:B0≤w'.heap.size:=by rw[HB0.out];exact hw'.size
      obtain⟨Z',rfl⟩:=(HS.out.chg hw' HBK.out).ext
      have HSW:=tH hsz
      clear hF' hw' hsz
      go_wp2_with fail
      refine(l04Copy_any p.jobs[k] _ _ (HX.out.ext rInt_stable xE) HKL.out).mono ?_
      rintro e _ ⟨nv,fp9,rfl,⟨Y',rfl⟩,hO⟩
      have H9:∀ x,Hid (kJobX B0 p.jobs[k] x (p.jobs[k].val nv) ((w.plus Z').plus Y')):=fun x=>tH (kJobX_in (hO.mono HSW.out))
      have H8:=tH H9
      clear hO H9
      go_wp2
      exact⟨Ext.chg xE _,(H8.out _).out⟩
     obtain⟨a2,c2,fp2,rfl,q2⟩:=hK
     clear q2 w1 fp2
     refine ZReg.kind (fun w' hw' hF'=>?_) (fun v1 w1 x2 hK=>?_)
     ·obtain⟨fp9,hO⟩:=kJobX_out (x:=x1) (hF'.get 7 (p:=(kJobX B0 p.jobs[k] x1,p.jobs[k].val (.slice a2 p.jobs[k].nodes.length c2))) (by kernel_rfl) (by kernel_rfl))
      have HY:Hid (Own B0 w' oJob fp9 (p.jobs[k].cells (.slice a2 p.jobs[k].nodes.length c2)) p.jobs[k]):=tH ⟨⟨_,rfl,hO.1⟩,hO.2.1,hO.2.2⟩
      have HSW:Hid (B0≤w'.heap.size):=tH (by rw[HB0.out];exact hw'.size)
      clear hF' hw' hO
      unfold Jb.val
      go_wp2
      exact⟨Ext.chg xE _,kElt_in oJob_local oJob_held HY.out rfl (by first | rfl | simp) HSW.out⟩
     obtain⟨g3,cs3,fy3,rfl,q2⟩:=hK
     clear q2 w1 cs3 fy3
     refine ZReg.kind (fun w' hw' hF'=>?_) (fun v1 w1 x4 hK=>?_)
     ·obtain⟨cs9,fy9,hc9,hl9,hO9⟩:=kElt_out (x:=x2) (hF'.get 8 (p:=(kElt 9 oJob B0 p.jobs[k] x2,.slice (some ⟨g3,0,none⟩) 1 1)) (by kernel_rfl) (by kernel_rfl))
      have HC9:=tH hc9
      have HL9:=tH hl9
      have HO9:=tH hO9
      have HRW:=tH (HR.out.ext oJobS_local oJobS_held hw'.ext0)
      have HA:Hid (∀ q∈fj,q∉fy9):=tH (fun q hq hq9=>by
       have q1:=oJobS_held _ _ _ _ HR.out.1 q hq
       have q2:=hO9.2.2 q hq9
       rw[HB0.out] at q2;omega)
      have HWX:Hid (Wc.heap.size≤(w.plus X).heap.size):=HWC
      have HSW:Hid (Wc.heap.size≤w'.heap.size):=tH (Nat.le_trans HWX.out hw'.size)
      have HOC:Hid (∀ u∈cs9,u.oneCell'=true):=tH (by
       obtain⟨v9,rfl,h9⟩:=hO9.1
       obtain⟨a9,c9,rfl,_⟩:=oSl_shape h9
       intro u hu
       simp[Jb.cells] at hu
       rcases hu with rfl | rfl | rfl | rfl | rfl | rfl | rfl | rfl | rfl<;>rfl)
      have HBB:Hid (Wc.heap.size≤B0):=tH (by rw[HB0.out];exact HWX.out)
      clear hF' hw' hc9 hl9 hO9
      go_wp2_with (at_builtin;go_must (refine Own.app1 oJob_local oJob_held el_eJob rfl _ _ rfl Wc.heap.size _ (p.jobs.take k) fj rfl HRW.out ⟨g3,0,none⟩ 1 rfl p.jobs[k] fy9 cs9 (HO9.out.mono HBB.out) HL9.out HA.out HSW.out HC9.out HOC.out ?_ ?_ ?_);(rw[HZ.out];unfold maxLen;omega);(rw[HZ.out];omega);intro v' w2 fp' hO2 hC2 _;have HO2:=tH hO2;have HC2:=tH hC2;clear hO2 hC2)
      exact⟨HC2.out,kOwnX_in (HO2.out.cast HT.out)⟩
     have HV4:∃ a c,v1=.slice a (k+1) c:=by
      obtain⟨a,c,fp,rfl,_⟩:=hK
      exact⟨a,c,by rw[List.length_take,Nat.min_eq_left (by omega)]⟩
     obtain⟨a4,c4,rfl⟩:=HV4
     clear hK w1
     (apply ZReg.val (.pointer (some ⟨w.heap.size+1+1,1,none⟩));(case h=>(intro w';go_wp2_with (fail);first | exact⟨rfl,rfl⟩ | exact rfl));(case hv=>kernel_rfl))
     refine ZReg.T ?_
     refine ZReg.done (fun w2 hw2 hF hR=>?_)
     obtain⟨fp4,hO4⟩:=kOwnX_out (x:=x4) (hF 9 (kOwnX 92 9 oJob Wc.heap.size (p.jobs.take (k+1)) x4,.slice a4 (k+1) c4) (by kernel_rfl))
     have HO4:=tH hO4
     have hS2:=HS.out.chg hw2 HBK.out
     have HS2:=tH hS2
     have HRC2:=tH (HRC.out.far oLabelSS_local oLabelSS_held hw2 (fun q hq hb=>by have h1:=HFC.out q hq;have h2:=HR.out.2.2 q (HR.out.blkL_in q hb);omega))
     have HW2:Hid (Wc.heap.size≤w2.heap.size):=tH (Nat.le_trans HWC.out hw2.size)
     clear hF hR hO4 hw2 HS
     obtain⟨⟨X2,rfl⟩,r1,c0,c1,r2,d0,d1,d2,r3,hfr⟩:=hS2
     have g1:=World.old_of_cell d0
     clear r1 r2 r3
     refine ZReg.run ?_
     go_wp2
     refine ZReg.end_ ?_
     go_wp2
     exact⟨⟨k+1,_,by omega,by go_num,tH (HS2.out.set1 _),tH (HRC2.out.set (a:=⟨w.heap.size+1+1,1,none⟩) oLabelSS_local oLabelSS_held (by show w.heap.size+1+1 < w.heap.size+3;omega) _),tH (by simpa using HW2.out),tH ⟨fp4,HO4.out.set (a:=⟨w.heap.size+1+1,1,none⟩) oJobS_local oJobS_held (by have:=HSC2.out;show w.heap.size+1+1 < Wc.heap.size;omega) _⟩⟩,by simp[intOf];omega⟩
    ·obtain rfl:k=p.jobs.length:=by omega
     rw[List.take_length] at HR
     obtain⟨⟨X,rfl⟩,q2,c0,c1,q3,d0,d1,d2,q4,q5⟩:=HS.out
     have g0:=World.old_of_cell c0
     have g1:=World.old_of_cell d0
     have r0:=q3 0 _ rfl
     have r1:=q3 1 _ rfl
     have r2:=q3 2 _ rfl
     have g2:=World.old_of_cell r0
     have HSZ:=tH q2
     clear q2 q3 q5
     go_wp2
     have hch:∀ u0 u1 u2,Chg [w.heap.size+1] (w.plus X) ((((w.plus X).setCell ⟨w.heap.size+1,0,none⟩ u0).setCell ⟨w.heap.size+1,1,none⟩ u1).setCell ⟨w.heap.size+1,2,none⟩ u2):=fun u0 u1 u2=>(((Chg.refl _ _).setCell (.inl (by simp)) _).setCell (.inl (by simp)) _).setCell (.inl (by simp)) _
     refine bodyPost_ret (v:=.agg #[.slice ao p.clear.length co,.slice aj p.jobs.length cj,(.int .i64 p.now)]) (by simp[results,Tryz.results30,go_sem,r0,r1,r2]) rfl ⟨_,_,fp,fj,rfl,(hch _ _ _).ext ((Ext.refl w).plus X) (by simp),?_,?_,?_⟩
     ·exact(HRC.out.chg oLabelSS_local oLabelSS_held (hch _ _ _) (by simp)).mono (by omega)
     ·exact(HR.out.chg oJobS_local oJobS_held (hch _ _ _) (by have:=HSC2.out;simp;omega)).mono (by have:=HSC2.out;omega)
     ·intro q hq hqj
      have h1:=HFC.out q hq
      have h2:=HR.out.2.2 q hqj
      omega
end Go.Proofs.YtbmbanelodabgaaGreatDoor
set_option maxRecDepth 100000
set_option linter.unusedVariables false
namespace Go
open Go.RowKit
theorem Own.swap2 {α:Type} {B:Nat} {A A':World} {X Y:More} {o:Ow α} (hl:Local o) {fp:List Nat} {cs:List Value} {x:α} (h:Own B ((A.plus X).plus Y) o fp cs x) (hb:A.heap.size≤B) (hs:A'.heap.size=A.heap.size):Own B ((A'.plus X).plus Y) o fp cs x:=by
 refine⟨hl _ _ _ _ _ (fun b hbm=>?_) h.1,h.2⟩
 have:=h.2.2 b hbm
 simp only[World.plus]
 rw[Array.append_assoc,Array.append_assoc,Array.getElem?_append_right (xs:=A'.heap) (by rw[hs];omega),Array.getElem?_append_right (xs:=A.heap) (by omega),hs]
section
variable {α:Type} {P:Program} {ops:Array Oper} {rest:List Oper} {op:Oper} {a:Act} {Q:Exit→Act→World→Prop}
theorem Own.appN {t e:TypeId} {size bytes:Nat} {W:World} {cs:Array Value} {o:Ow α} (hlo:Local o) (hhe:Held o) (E:ElemInfo P t e size bytes) (hgd:op.guard=none) (s x:Operand)
  (ho:op.op=.call { callee:=.builtin .append,args:=#[s,x],argTypes:=#[t,t] })
  (B:Nat) (hB:B≤W.heap.size) (v:Value) (xs:List α) (fp:List Nat) (hs:a.eval s=v) (hown:Own B W (oSl e size o) fp [v] xs)
  (b0:Nat) (hb0:b0=W.heap.size) (hx:a.eval x=.slice (some ⟨b0,0,none⟩) 1 1) (y:α) (fy:List Nat) (hy:Own B W o fy cs.toList y) (hcl:cs.size=size) (hap:∀ b∈fp,b∉fy)
  (h1:∀ u∈cs.toList,u.oneCell'=true) (h63:xs.length+1≤maxLen) (hbytes:(xs.length+1)*bytes≤140737488355328)
  (h:∀ v' w' fp',Own B w' (oSl e size o) fp' [v'] (xs++[y])→Chg (blkL v) W w'→(∀ b∈fp',b∈fp∨b∈fy∨W.heap.size≤b)→wpList P ops Q rest (a.put op.dst v') w'):wpList P ops Q (op :: rest) a (W.alloc (.cells cs e)):=by
 subst hb0
 have hx1:Ext W (W.alloc (.cells cs e)):=(Ext.refl _).alloc _
 refine Own.app1 hlo hhe E hgd s x ho B v xs fp hs (hown.ext (oSl_local hlo) (oSl_held hhe) hx1) ⟨W.heap.size,0,none⟩ 1 hx y fy cs.toList (hy.ext hlo hhe hx1) (by simpa using hcl) hap (by rw[World.size_alloc];omega) (fun j u hu=>?_) h1 h63 hbytes ?_
 ·rw[Addr.add_lit,Nat.zero_add,World.cell?_alloc_new]
  simpa using hu
 ·intro v' w' fp' hO hch hsub
  exact h v' w' fp' hO ((hx1.chg _).trans hch) (fun b hb=>by
   rcases hsub b hb with h | h | h
   ·exact .inl h
   ·exact .inr (.inl h)
   ·rw[World.size_alloc] at h;exact .inr (.inr (by omega)))
end
end Go
namespace Go.Proofs.YtbmbanelodabgaaGreatDoor
open Go.RowKit Go.Fin1
theorem kOwnX_goodK {α:Type} {ty K:Nat} {o:Ow α} (hlo:Local o) (hhe:Held o) {B:Nat} {xs:List α} (h:∀ y∈xs,CanO K o y) (hm:xs.length≤maxLen):XReg.GoodK (kOwnX ty K o B xs (0,0)) :=
 ⟨fun v w w' hx ⟨a,c,fp,hv,hO⟩=>⟨a,c,fp,hv,hO.ext (oSl_local hlo) (oSl_held hhe) hx⟩,by
  obtain⟨w',a,c,fp,_,hO⟩:=own_can (ty:=ty) hlo hhe h hm (emptyH B)
  rw[emptyH_size] at hO
  exact⟨_,w',a,c,fp,rfl,hO⟩⟩
def kPoolV (B:Nat) (p:Pl) (jv:Value):XReg.Kind:=fun v w=>∃ a c fp,v=.agg #[.slice a p.clear.length c,jv,(.int .i64 p.now)]∧Own B w oLabelSS fp [.slice a p.clear.length c] p.clear
theorem kPoolV_goodK {B:Nat} {p:Pl} {jv:Value} (h:∀ y∈p.clear,CanO 1 oLabelS y) (hm:p.clear.length≤maxLen):XReg.GoodK (kPoolV B p jv) :=
 ⟨fun v w w' hx ⟨a,c,fp,hv,hO⟩=>⟨a,c,fp,hv,hO.ext oLabelSS_local oLabelSS_held hx⟩,by
  obtain⟨w',a,c,fp,_,hO⟩:=own_can (ty:=45) (oSl_local (oFlat_local _)) (oSl_held (oFlat_held _)) h hm (emptyH B)
  rw[emptyH_size] at hO
  exact⟨_,w',a,c,fp,rfl,hO⟩⟩
theorem kPoolV_out {B:Nat} {p:Pl} {jv:Value} {a:Option Addr} {n c:Nat} {w:World} {now:Int} (h:kPoolV B p jv (.agg #[.slice a n c,jv,(.int .i64 now)]) w):∃ fp,Own B w oLabelSS fp [.slice a n c] p.clear:=by
 obtain⟨a',c',fp,hv,h⟩:=h
 simp at hv
 obtain⟨⟨rfl,rfl,rfl⟩,_⟩:=hv
 exact⟨fp,h⟩
theorem canLabS {l:List Lab} (hm:l.length≤maxLen):CanO 1 oLabelS l:=canO_sl (oFlat_local _) (oFlat_held _) (fun y _=>canO_flat (fun _=>rfl) y) hm
set_option maxHeartbeats 3200000 in
theorem copyPool_any (p:Pl) (v:Value) (w:World) (h:ePool w v p) (hf:p.fits 1048576) :
  Calls Tryz.prog 80 #[v] w fun e w'=>∃ c j fc fj,e=.returned (p.val c j)∧Ext w w'∧OwnP w.heap.size w' fc fj c j p:=by
 obtain⟨a,c,b,d,rfl,h0,h1,h2⟩:=h
 have HC:=tH h1
 have HJ:=tH h2
 have HSC:Hid (szL List.length p.clear≤1048576):=tH hf.1
 have HSJ:Hid (szL Jb.sz p.jobs≤1048576):=tH (Nat.le_trans hf.2 (Nat.sub_le _ _))
 have hlc:p.clear.length≤1048576:=Nat.le_trans (szL_len List.length _) HSC.out
 have hlj:p.jobs.length≤1048576:=Nat.le_trans (szL_len Jb.sz _) HSJ.out
 clear h0 h1 h2 hf
 unfold Pl.val
 go_enter Tryz.func80,Tryz.ntmps80
 go_wp2
 go_loopw [10,3,5] (fun i o _ wr=>∃ k:Nat,k≤p.jobs.length∧i=.int .i64 k∧Ext ((w.alloc (.cells #[.slice a p.clear.length c,.slice b p.jobs.length d,(.int .i64 p.now)] 41)).alloc (.cells #[.slice none 0 0,.slice none 0 0,(.int .i64 0)] 41)) wr∧Hid (∃ fp,Own ((w.alloc (.cells #[.slice a p.clear.length c,.slice b p.jobs.length d,(.int .i64 p.now)] 41)).alloc (.cells #[.slice none 0 0,.slice none 0 0,(.int .i64 0)] 41)).heap.size wr oJobS fp [o] (p.jobs.take k))) (fun i _ _ _=>p.jobs.length-(intOf i).toNat)
 case atStart=>exact⟨0,Nat.zero_le _,rfl,xE,tH ⟨_,Own.made (by simp) (Nat.le_refl _)⟩⟩
 case round =>
  obtain⟨k,hk,rfl,⟨X,rfl⟩,HH⟩:=hrel
  obtain⟨fp,hO⟩:=HH.out
  have HB:=tH (oJobS_held _ _ _ _ hO.1)
  obtain⟨ao,co,rfl⟩:=hO.shape
  have hZ:(p.jobs.take k).length=k:=by rw[List.length_take];omega
  rw[hZ] at hO ⊢
  have HO:=tH hO
  have HZ:=tH hZ
  clear hO HH hZ
  by_cases hlt:k < p.jobs.length
  ·obtain⟨b1,off,rfl⟩:=slr_some HJ.out hlt
   obtain⟨ho,an,cn,hok,hsn,e0,e1,e2,e3,e4,e5,e6,e7,e8⟩:=job_at HJ.out hlt
   have HX:=tH hsn
   have HT:=tH (List.take_append_getElem hlt)
   have HKL:Hid (p.jobs[k].nodes.length≤1048576):=tH (Nat.le_trans (szL_at Jb.sz hlt) HSJ.out)
   clear hsn hok
   go_wp2_with fail
   refine(copyJob_any p.jobs[k] _ _ (HX.out.ext rInt_stable xE) HKL.out).mono ?_
   rintro e _ ⟨nv,fy,rfl,⟨Y,rfl⟩,hO9⟩
   obtain⟨a3,c3,rfl⟩:=hO9.shape
   have HA:Hid (∀ q∈fp,q∉fy):=tH (fun q hq hq9=>by have h1:=HB.out q hq;have h2:=hO9.2.2 q hq9;simp at h1 h2;omega)
   have HY:=tH hO9
   have HE:Hid (∀ O Y,Own ((w.alloc (.cells #[.slice a p.clear.length c,.slice (some ⟨b1,off,none⟩) p.jobs.length d,(.int .i64 p.now)] 41)).alloc (.cells #[.slice none 0 0,.slice none 0 0,(.int .i64 0)] 41)).heap.size (((((w.alloc (.cells #[.slice a p.clear.length c,.slice (some ⟨b1,off,none⟩) p.jobs.length d,(.int .i64 p.now)] 41)).alloc (.cells #[.slice none 0 0,.slice none 0 0,(.int .i64 0)] 41)).plus X).alloc O).plus Y) oJobS fp [.slice ao k co] (p.jobs.take k)):=tH (fun O Y=>HO.out.ext oJobS_local oJobS_held (((Ext.refl _).alloc O).plus Y))
   clear hO9
   unfold Jb.val
   go_wp2_with (at_builtin;go_must (refine Own.app oJob_local oJob_held el_eJob rfl _ _ rfl (w0:=((w.alloc (.cells #[.slice a p.clear.length c,.slice (some ⟨b1,off,none⟩) p.jobs.length d,(.int .i64 p.now)] 41)).alloc (.cells #[.slice none 0 0,.slice none 0 0,(.int .i64 0)] 41))) xE _ (p.jobs.take k) fp rfl (HE.out _ _) _ (by simp) rfl p.jobs[k] fy ⟨⟨_,rfl,HY.out.1⟩,HY.out.2.1,fun q hq=>by have:=HY.out.2.2 q hq;simp at this ⊢;omega⟩ rfl HA.out ?_ ?_ ?_ ?_);(intro u hu;simp at hu;rcases hu with rfl | rfl | rfl | rfl | rfl | rfl | rfl | rfl | rfl<;>rfl);(rw[HZ.out];unfold maxLen;omega);(rw[HZ.out];omega);intro v' X' fp' hown';rw[HT.out] at hown';have HO':=tH hown';clear hown')
   exact⟨⟨k+1,by omega,by go_num,xE,tH ⟨_,HO'.out⟩⟩,by simp[intOf];omega⟩
  ·obtain rfl:k=p.jobs.length:=by omega
   rw[List.take_length] at HO
   go_upto_region 7 with fail
   obtain⟨B0,hB0⟩:∃ B0,B0=(((w.alloc (.cells #[.slice a p.clear.length c,.slice b p.jobs.length d,(.int .i64 p.now)] 41)).alloc (.cells #[.slice none 0 0,.slice none 0 0,(.int .i64 0)] 41)).plus X).heap.size:=⟨_,rfl⟩
   have HB0:=tH hB0
   have HKM:Hid (∀ y∈p.clear,CanO 1 oLabelS y):=tH (fun y hy=>by
    obtain⟨q,hq,rfl⟩:=List.mem_iff_getElem.1 hy
    have h1:=Nat.le_trans (szL_at List.length hq) HSC.out
    exact canLabS (by unfold maxLen;omega))
   have hkl:p.clear.length≤maxLen:=by unfold maxLen;omega
   clear hB0 hlt hk
   (refine wp_region_y 7 [(fun u _=>u=(.pointer (some ⟨w.heap.size,0,none⟩))),(fun u _=>u=(.slice a p.clear.length c)),kOwnX 45 1 oLabelS B0 p.clear (0,0),(fun u _=>u=(.slice ao p.jobs.length co)),(fun u _=>u=(.pointer (some ⟨w.heap.size,2,none⟩))),(fun u _=>u=(.int .i64 p.now)),kPoolV B0 p (.slice ao p.jobs.length co)] (by kernel_rfl) (by kernel_rfl) (by kernel_rfl) rfl ?_ (by (repeat' (first | exact trivial | exact XReg.GoodK.same _ default | refine And.intro ?_ ?_));all_goals (first | exact kOwnX_goodK (oSl_local (oFlat_local _)) (oSl_held (oFlat_held _)) HKM.out hkl | exact kPoolV_goodK HKM.out hkl)))
   clear hkl
   refine YReg.va (.pointer (some ⟨w.heap.size,0,none⟩)) ?_
   refine YReg.va (.slice a p.clear.length c) ?_
   refine YReg.kind (fun w' hw' hF'=>?_) (fun v1 w1 hK=>?_)
   ·have HSW:Hid (B0≤w'.heap.size):=tH (by rw[HB0.out];exact hw'.below.size)
    obtain⟨X',rfl⟩:=hw'
    clear hF'
    go_wp2_with fail
    refine(copyClear_any _ p.clear _ (HC.out.ext rLabS_stable xE) HSC.out).mono ?_
    rintro e _ ⟨v9,fp9,rfl,⟨Y,rfl⟩,hO9⟩
    have H9:=tH (kOwnX_in (x:=(0,0)) (hO9.mono HSW.out))
    clear hO9
    go_wp2
    exact⟨xE,H9.out⟩
   obtain⟨a2,c2,fp2,rfl,q2⟩:=hK
   clear q2 w1 fp2
   refine YReg.va (.slice ao p.jobs.length co) ?_
   refine YReg.va (.pointer (some ⟨w.heap.size,2,none⟩)) ?_
   refine YReg.va (.int .i64 p.now) ?_
   refine YReg.kind (fun w' hw' hF'=>?_) (fun v1 w1 hK=>?_)
   ·obtain⟨fp9,hO9⟩:=kOwnX_out (x:=(0,0)) (hF'.get 2 (p:=(kOwnX 45 1 oLabelS B0 p.clear (0,0),.slice a2 p.clear.length c2)) (by kernel_rfl) (by kernel_rfl))
    have H9:Hid (kPoolV B0 p (.slice ao p.jobs.length co) (.agg #[.slice a2 p.clear.length c2,.slice ao p.jobs.length co,(.int .i64 p.now)]) w'):=tH ⟨_,_,fp9,rfl,hO9⟩
    obtain⟨X',rfl⟩:=hw'
    clear hF' hO9
    go_wp2
    exact⟨xE,H9.out⟩
   obtain⟨a4,c4,fp4,rfl,q4⟩:=hK
   clear q4 w1 fp4
   refine YReg.done1 (fun X3 hF=>?_)
   obtain⟨fc,hOc⟩:=kPoolV_out (hF 6 (kPoolV B0 p (.slice ao p.jobs.length co),.agg #[.slice a4 p.clear.length c4,.slice ao p.jobs.length co,(.int .i64 p.now)]) (by kernel_rfl))
   have HOC:=tH hOc
   have HOJ:=tH ((HO.out.plus oJobS_local oJobS_held X3))
   clear hF hOc
   go_wp2
   refine bodyPost_ret (v:=.agg #[.slice a4 p.clear.length c4,.slice ao p.jobs.length co,(.int .i64 p.now)]) (by simp[results,Tryz.results80,go_sem]) rfl ⟨_,_,fc,fp,rfl,xF,?_,?_,?_⟩
   ·exact(HOC.out.swap2 oLabelSS_local (by rw[HB0.out];simp) (by simp)).mono (by rw[HB0.out];simp;omega)
   ·exact(HOJ.out.swap2 oJobS_local (by simp) (by simp)).mono (by simp;omega)
   ·intro q hq hqj
    have h1:=HOC.out.2.2 q hq
    have h2:=oJobS_held _ _ _ _ HO.out.1 q hqj
    rw[HB0.out] at h1
    omega
end Go.Proofs.YtbmbanelodabgaaGreatDoor
