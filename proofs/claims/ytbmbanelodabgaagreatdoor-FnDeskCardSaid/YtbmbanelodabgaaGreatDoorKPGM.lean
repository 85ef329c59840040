/- impl.plan, walked. -/
import Derived.Test.YtbmbanelodabgaaGreatDoorKPEF
import Derived.Test.YtbmbanelodabgaaGreatDoorKVSI
import Derived.Test.YtbmbanelodabgaaGreatDoorKTT
import Derived.Test.YtbmbanelodabgaaGreatDoorKZZ1
import Derived.Test.YtbmbanelodabgaaGreatDoorKPD
import Derived.Test.YtbmbanelodabgaaGreatDoorKZZ3
set_option maxRecDepth 100000
set_option linter.unusedVariables false
namespace Go.Proofs.YtbmbanelodabgaaGreatDoor
open Go.RowKit Go.Fin1
def oSlt:Ow Slt:=fun w fp cs s=>∃ v,cs=s.cells v∧oIntS w fp [v] s.nodes
theorem oSlt_local:Local oSlt:=fun w w' fp cs j hb ⟨v,hv,h⟩=>⟨v,hv,oIntS_local w w' fp _ _ hb h⟩
theorem oSlt_held:Held oSlt:=fun w fp cs j ⟨v,hv,h⟩=>oIntS_held w fp _ _ h
abbrev oSltS:Ow (List Slt):=oSl 104 5 oSlt
theorem oSltS_local:Local oSltS:=oSl_local oSlt_local
theorem oSltS_held:Held oSltS:=oSl_held oSlt_held
theorem own_ty {α:Type} {B:Nat} {w:World} {ty K:Nat} {o:Ow α} {fp:List Nat} {v:Value} {xs:List α} (h:Own B w (oSl ty K o) fp [v] xs) {ty':Nat} (hne:ty≠ty'):Other w ty' (blkL v):=fun b hb=>by
 obtain⟨⟨v',hv,h1⟩,_,_⟩:=h
 obtain rfl:v=v':=by simpa using hv
 rcases h1 with ⟨rfl,_⟩ | ⟨g,cap,cur,fps,rfl,hg,_⟩
 ·cases hb
 ·obtain rfl:b=g:=by simpa [blkL] using hb
  exact⟨cur,ty,hg,hne⟩
theorem own_chgD {α:Type} {B:Nat} {w w':World} {o:Ow α} (hl:Local o) (hh:Held o) {S:List Nat} (hx:Chg S w w') {fp:List Nat} {cs:List Value} {x:α} (hd:∀ b∈fp,b∉S) (h:Own B w o fp cs x):Own B w' o fp cs x :=
 ⟨hl.chg hh hx (fun b hb hs=>hd b hb hs) h.1,h.2⟩
def kE0 (B:Nat):XReg.Kind:=fun v w=>∃ g,v=.slice (some ⟨g,0,none⟩) 0 0∧B≤g∧Blk w g [] 104
theorem kE0_good (B:Nat):XReg.GoodK (kE0 B) :=
 ⟨fun _ _ _ hx ⟨g,h1,h2,h3⟩=>⟨g,h1,h2,h3.ext hx⟩,_,_,_,rfl,Nat.le_of_eq (emptyH_size B).symm,Blk.new (w:=emptyH B) (cs:=#[]) rfl⟩
def kNil (B n:Nat):XReg.Kind:=fun v w=>∃ g,v=.slice (some ⟨g,0,none⟩) n n∧RowR B w (.slice (some ⟨g,0,none⟩) n n) (List.replicate n ([],none,0))
theorem kNil_good (B n:Nat) (hn:n≤maxLen):XReg.GoodK (kNil B n):=by
 have hex:∃ u g,RowR B u (.slice (some ⟨g,0,none⟩) n n) (List.replicate n ([],none,0)):=by
  have h:=row_newB (W:=emptyH B) (ty:=129) (f:=RW.cells) (K:=1) (List.replicate n (([],none,0):RW)) (fun _=>rfl) (by simpa using hn)
  rw[List.length_replicate] at h
  refine⟨_,_,h.mono (by rw[emptyH_size];exact Nat.le_refl _),fun r hr=>?_⟩
  obtain⟨_,rfl⟩:=List.mem_replicate.1 hr
  exact⟨fun x hx=>(by cases hx),Row.nil _ _ _ _ _⟩
 obtain⟨u,g,h⟩:=hex
 exact⟨fun _ _ _ hx ⟨g,h1,h2⟩=>⟨g,h1,h2.ext hx⟩,_,u,g,rfl,h⟩
theorem jobs_of {B:Nat} {w:World} {v:Value} {rs:List RJ} (h:Row B w 92 9 RJ.cells v rs) (hr:∀ r∈rs,r.1.ok∧SlR w 1 rInt (RJ.nv r) r.1.nodes):SlR w 9 rJob v (rs.map Prod.fst) :=
 slr_mapR _ (row_rc (fun _=>rfl) h) fun cs r hm hc=>⟨RJ.nv r,hc,(hr r hm).1,(hr r hm).2⟩
theorem sortedJ_memQ {l:List Jb} (hn:l.Pairwise NeJ) {j:Jb} (h:j∈sortedJ l):j∈l:=by
 unfold sortedJ at h
 have h2:=((sortedJ_all (l:=l) (acc:=[]) List.Pairwise.nil hn (fun _ h=>by cases h)).2 j).1 h
 simpa using h2
set_option maxHeartbeats 3200000 in
theorem plan_any (p:Pl) (v:Value) (w:World) (h:ePool w v p) (hn:0≤p.now∧p.now≤999900) (hc1:1≤p.clear.length) (hc6:p.clear.length≤6) (hl:p.jobs.length≤96) (hne:p.jobs.Pairwise NeJ) (hj:∀ j∈p.jobs,JOk p.now p.clear.length j) :
  Calls Tryz.prog 74 #[v] w fun e w'=>∃ v' fp,e=.returned v'∧Ext w w'∧Own w.heap.size w' oSltS fp [v'] (planL p.clear p.now p.jobs):=by
 obtain⟨a,c,b,d,rfl,hnow,h1,h2⟩:=h
 have HC:=tH h1
 have HJ:=tH h2
 have HFT:=tH (slr_jobs h2)
 have HNE:=tH hne
 have HJK:=tH hj
 have HN:=tH hn
 clear h1 h2 hne hj hnow hn
 go_enter Tryz.func74,Tryz.ntmps74
 unfold Pl.val
 go_upto_region 1 with fail
 refine gen_world (fun W1 hW1=>?_)
 have HE0:Hid (Ext w W1):=tH (by rw[hW1];exact xE)
 have p0:W1.cell? ⟨w.heap.size,0,none⟩=some (.slice a p.clear.length c):=by rw[hW1];simp[go_sem]
 have p1:W1.cell? ⟨w.heap.size,1,none⟩=some (.slice b p.jobs.length d):=by rw[hW1];simp[go_sem]
 have p2:W1.cell? ⟨w.heap.size,2,none⟩=some (.int .i64 p.now):=by rw[hW1];simp[go_sem]
 have po:=World.old_of_cell p0
 have P0:=tH p0
 have P1:=tH p1
 have P2:=tH p2
 clear hW1
 (refine wp_region_y 7 [kE0 W1.heap.size,(fun u _=>u=(.pointer (some ⟨w.heap.size,0,none⟩))),(fun u _=>u=(.slice a p.clear.length c)),(fun u _=>u=(.int .i64 (p.clear.length:Int))),kNil W1.heap.size p.clear.length,kE0 W1.heap.size,kNil W1.heap.size p.clear.length] (by kernel_rfl) (by kernel_rfl) (by kernel_rfl) rfl ?_ (by (repeat' (first | exact trivial | exact XReg.GoodK.same _ default | refine And.intro ?_ ?_));all_goals (first | exact kE0_good _ | exact kNil_good _ _ (by unfold maxLen;omega))))
 refine YReg.kind (fun w' hw' hF'=>?_) (fun v1 w1 hK=>?_)
 ·have hle:=hw'.below.size
  have HLE:=tH hle
  clear hF' hw' hle
  go_wp2
  exact⟨xE,_,rfl,HLE.out,Blk.new (w:=w') (cs:=#[]) rfl⟩
 obtain⟨g1,rfl,hq1,hq2⟩:=hK
 clear hq1 hq2 w1
 refine YReg.va (.pointer (some ⟨w.heap.size,0,none⟩)) ?_
 refine YReg.va (.slice a p.clear.length c) ?_
 refine YReg.va (.int .i64 (p.clear.length:Int)) ?_
 refine YReg.kind (fun w' hw' hF'=>?_) (fun v1 w1 hK=>?_)
 ·have hle:=hw'.below.size
  have HLE:=tH hle
  clear hF' hw' hle
  go_wp2_with (at_make;refine make_nils Tryz.underlying122 info_SpnS rfl _ _ rfl w' (Ext.refl _) p.clear.length rfl rfl ?_ ?_ ?_;omega;(unfold maxLen;omega);intro w2 g hx2 hown;have HX2:=tH hx2;have HOW:=tH hown;clear hx2 hown)
  exact⟨HX2.out.trans xE,_,rfl,((RowR.nils HOW.out).mono HLE.out).ext xE⟩
 obtain⟨g2,rfl,hq1⟩:=hK
 clear hq1 w1
 refine YReg.kind (fun w' hw' hF'=>?_) (fun v1 w1 hK=>?_)
 ·have hf:=hF'.get 0 (p:=(kE0 W1.heap.size,.slice (some ⟨g1,0,none⟩) 0 0)) (by kernel_rfl) (by kernel_rfl)
  have HF:=tH hf
  clear hF' hw' hf
  go_wp2
  exact⟨xE,HF.out⟩
 obtain⟨g3,rfl,hq1,hq2⟩:=hK
 clear hq1 hq2 w1
 refine YReg.kind (fun w' hw' hF'=>?_) (fun v1 w1 hK=>?_)
 ·have hf:=hF'.get 4 (p:=(kNil W1.heap.size p.clear.length,.slice (some ⟨g2,0,none⟩) p.clear.length p.clear.length)) (by kernel_rfl) (by kernel_rfl)
  have HF:=tH hf
  clear hF' hw' hf
  go_wp2
  exact⟨xE,HF.out⟩
 obtain⟨g,rfl,hq1⟩:=hK
 clear hq1 w1
 refine YReg.doneN (fun X3 hF=>?_)
 have hk5:kE0 W1.heap.size (.slice (some ⟨g3,0,none⟩) 0 0) (W1.plus X3):=hF 5 (kE0 W1.heap.size,.slice (some ⟨g3,0,none⟩) 0 0) (by kernel_rfl)
 have hk6:kNil W1.heap.size p.clear.length (.slice (some ⟨g,0,none⟩) p.clear.length p.clear.length) (W1.plus X3):=hF 6 (kNil W1.heap.size p.clear.length,.slice (some ⟨g,0,none⟩) p.clear.length p.clear.length) (by kernel_rfl)
 obtain⟨g5,hg5,hb5,hk5⟩:=hk5
 obtain rfl:g3=g5:=by simpa using hg5
 obtain⟨g6,hg6,hk6⟩:=hk6
 obtain rfl:g=g6:=by simpa using hg6
 have HX1:Hid (Ext W1 (W1.plus X3)):=tH xE
 have HB5:=tH hk5
 have HB6:=tH hk6
 have HB5L:=tH hb5
 clear hF hg5 hg6 hk5 hk6 hb5 p0 p1 p2 po
 generalize W1.plus X3=w2 at HX1 HB5 HB6 ⊢
 have p1:=HX1.out.cell P1.out
 have po:=World.old_of_cell p1
 go_wp2_with fail
 refine(inOrderA_any _ p.jobs w _ HJ.out ((HE0.out.trans HX1.out).trans xE) (by omega) HNE.out).mono ?_
 rintro e _ ⟨ja,jc,rj,rfl,⟨X4,rfl⟩,hRJ,hm,hkj⟩
 go_upto_region 3 with fail
 refine gen_world (fun W3 hW3=>?_)
 have hE23:Ext w2 W3:=by rw[hW3];exact xE
 have hlj:=sortedJ_lenV p.jobs
 have HJL:Hid (∀ j∈sortedJ p.jobs,JOk p.now p.clear.length j∧j.fit):=tH (fun j hj=>⟨HJK.out j (sortedJ_memQ HNE.out hj),HFT.out j (sortedJ_memQ HNE.out hj)⟩)
 have HPL:Hid (planL p.clear p.now p.jobs=(foldP p.clear p.now (sortedJ p.jobs)).1):=tH (by unfold planL;rfl)
 have HRJ:Hid (Row W1.heap.size W3 92 9 RJ.cells (.slice ja rj.length jc) rj):=tH ((hRJ.ext (show Ext _ W3 by rw[hW3];exact xE)).mono HX1.out.below.size)
 have HKJ:=tH hkj
 clear hRJ hW3 X4 p1 po hkj
 have hrl:rj.length=(sortedJ p.jobs).length:=by rw[← hm,List.length_map]
 generalize sortedJ p.jobs=L at hm hlj HJL HPL hrl
 have hL:L.length≤96:=by omega
 rw[hrl] at HRJ ⊢
 have HM:=tH hm
 have HE1:=tH (HX1.out.trans hE23)
 have HR0:Hid (RowR W1.heap.size W3 (.slice (some ⟨g,0,none⟩) p.clear.length p.clear.length) (List.replicate p.clear.length ([],none,0))):=tH (HB6.out.ext hE23)
 have HS0:Hid (Own W1.heap.size W3 oSltS [g3] [.slice (some ⟨g3,0,none⟩) 0 0] []):=tH ⟨⟨_,rfl,.inr ⟨g3,0,#[],[],rfl,HB5.out.ext hE23,by simp,Nat.le_refl _,by unfold maxLen;omega,rfl,rfl,fun i hi=>by simp at hi⟩⟩,by simp,by simpa using HB5L.out⟩
 have HGN:Hid (g∉[g3]):=tH (fun hm=>by
  obtain rfl:=List.mem_singleton.1 hm
  obtain⟨cur,h1⟩:=HB6.out.row.type g (by simp[blkL])
  have h2:=HB5.out
  unfold Blk at h2
  rw[h1] at h2
  simp at h2)
 clear hm hlj hE23 hrl
 go_wp2
 go_loopw [21,3] (fun i o wr=>∃ k:Nat,∃ fp:List Nat,∃ rsR:List RW,∃ oa:Option Addr,∃ ol oc:Nat,k≤L.length∧i=.int .i64 k∧o=.slice oa ol oc∧Hid (Ext W1 wr)∧Hid (Own W1.heap.size wr oSltS fp [o] (foldP p.clear p.now (L.take k)).1)∧Hid (g∉fp)∧Hid (RowR W1.heap.size wr (.slice (some ⟨g,0,none⟩) p.clear.length p.clear.length) rsR)∧Hid (rsR.map Prod.fst=(foldP p.clear p.now (L.take k)).2)∧Hid (Row W1.heap.size wr 92 9 RJ.cells (.slice ja L.length jc) rj)) (fun i _ _=>L.length-(intOf i).toNat)
 case atStart=>exact⟨0,[g3],_,_,_,_,Nat.zero_le _,rfl,rfl,HE1,tH (by rw[List.take_zero,foldP_nil];exact HS0.out),HGN,HR0,tH (by rw[List.take_zero,foldP_nil];simp),HRJ⟩
 case round =>
  clear HE1 HS0 HR0 HRJ W3 HGN HB5 HB6 HB5L HX1 w2
  obtain⟨k,fp,rsR,oa,ol,oc,hk,rfl,rfl,HE,HS,HGF,HR,HRM,HRJ⟩:=hrel
  obtain⟨wo,rfl⟩:∃ wo,wo=wr:=⟨wr,rfl⟩
  by_cases hlt:k < L.length
  ·have hjs:=jobs_of HRJ.out (fun r hr=>⟨(HKJ.out r hr).1,(HKJ.out r hr).2.ext rInt_stable (HE0.out.trans HE.out)⟩)
   rw[HM.out] at hjs
   obtain⟨bj,oj,rfl⟩:=slr_some hjs hlt
   obtain⟨ho,na,nc,hok,hsn,c0,c1,c2,c3,c4,c5,c6,c7,c8⟩:=job_at hjs hlt
   have p0:=HE.out.cell P0.out
   have p1:=HE.out.cell P1.out
   have p2:=HE.out.cell P2.out
   have po:=World.old_of_cell p0
   have HNN:=tH hsn
   have HFO:=tH (foldP_take p.clear p.now hlt)
   have HJO:=tH (HJL.out _ (List.getElem_mem hlt))
   have HRO:=tH (foldP_ok HN.out k hk (fun j hj=>(HJL.out j hj).1))
   have HSL:=tH (foldP_len1 p.clear p.now k hk)
   clear hsn hok hjs
   cases hs2:(L[k].state == 2)
   ·cases hs1:(L[k].state == 1)
    ·have HOF:Hid ((L[k].state == 2 || L[k].state == 1)=false):=tH (by rw[hs2,hs1];rfl)
     have hn2:(L[k].state != 2)=true:=by unfold bne;rw[hs2];rfl
     have hn1:(L[k].state != 1)=true:=by unfold bne;rw[hs1];rfl
     go_wp2
     exact⟨⟨k+1,fp,rsR,oa,ol,oc,by omega,by go_num,rfl,tH (HE.out.trans xE),tH (by rw[HFO.out,stepP_off HOF.out];exact HS.out.ext oSltS_local oSltS_held xE),HGF,tH (HR.out.ext xE),tH (by rw[HFO.out,stepP_off HOF.out];exact HRM.out),tH (HRJ.out.ext xE)⟩,by simp[intOf];omega⟩
    ·have HSC:Hid ((L[k].state == 2 || L[k].state == 1)=true):=tH (by rw[hs2,hs1];rfl)
     have hn2:(L[k].state != 2)=true:=by unfold bne;rw[hs2];rfl
     have hn1:(L[k].state != 1)=false:=by unfold bne;rw[hs1];rfl
     go_upto_region 6 with fail
     refine gen_world (fun V hV=>?_)
     have HEV0:Hid (Ext wo V):=tH (by rw[hV];exact xE)
     have HBJ:Hid (Blk V wo.heap.size (L[k].cells (.slice na L[k].nodes.length nc)) 92):=tH (by rw[hV];exact(Blk.new (w:=wo) (cs:=(L[k].cells (.slice na L[k].nodes.length nc)).toArray) rfl).ext xE)
     clear hV ho c0 c1 c2 c3 c4 c5 c6 c7 c8
     have hp0:=HEV0.out.cell p0
     have hp1:=HEV0.out.cell p1
     have hp2:=HEV0.out.cell p2
     have hpo:=World.old_of_cell hp0
     clear p0 p1 p2 po hn2
     have j0:=HBJ.out.cell 0
     have j1:=HBJ.out.cell 1
     have j2:=HBJ.out.cell 2
     have j3:=HBJ.out.cell 3
     have j4:=HBJ.out.cell 4
     have j5:=HBJ.out.cell 5
     have j6:=HBJ.out.cell 6
     have j7:=HBJ.out.cell 7
     have j8:=HBJ.out.cell 8
     have jo:=HBJ.out.old
     simp only[Jb.cells,List.getElem?_cons_zero,List.getElem?_cons_succ] at j0 j1 j2 j3 j4 j5 j6 j7 j8
     have HRL:Hid (rsR.length=p.clear.length):=tH (by rw[← HRO.out.2,← HRM.out,List.length_map])
     have HRK:Hid (Rok (rsR.map Prod.fst)):=tH (by rw[HRM.out];exact HRO.out.1)
     go_wp2_with fail
     refine(placed_any _ _ p.clear _ _ _ L[k] _ rsR _ (((HR.out.ext HEV0.out).ext xE).mono (Nat.zero_le _)) (HC.out.ext rLabS_stable (((HE0.out.trans HE.out).trans HEV0.out).trans xE)) (HNN.out.ext rInt_stable (HEV0.out.trans xE)) HN.out HJO.out.1 HRL.out.symm (by rw[HRL.out];exact hc1) (by rw[HRL.out];exact hc6) HRK.out).mono ?_
     rintro e Wp ⟨hxp,hpost⟩
     clear hp0 hp1 hp2 hpo j0 j1 j2 j3 j4 j5 j6 j7 j8 jo
     cases hpl:placedP p.clear p.now (rsR.map Prod.fst) L[k] with
     | none =>
      rw[hpl] at hpost
      have hp2:e=.returned (.tuple #[.agg #[(.int .i64 0),(.int .i64 0),(.int .i64 0),(.int .i64 0),.slice none 0 0],.agg #[(.int .i64 0),(.int .i64 0)],.bool false]):=hpost
      subst hp2
      obtain⟨X2,rfl⟩:=hxp
      have HSN:Hid (foldP p.clear p.now (L.take (k+1))=foldP p.clear p.now (L.take k)):=tH (by rw[HFO.out,stepP_none (by rw[← HRM.out];exact hpl)])
      clear hpl hpost
      go_wp2
      exact⟨⟨k+1,fp,rsR,oa,ol,oc,by omega,by go_num,rfl,tH ((HE.out.trans HEV0.out).trans xE),tH (by rw[HSN.out];exact HS.out.ext oSltS_local oSltS_held (HEV0.out.trans xE)),HGF,tH ((HR.out.ext HEV0.out).ext xE),tH (by rw[HSN.out];exact HRM.out),tH ((HRJ.out.ext HEV0.out).ext xE)⟩,by simp[intOf];omega⟩
     | some r =>
      rw[hpl] at hpost
      obtain⟨SL,XX⟩:=r
      obtain⟨a5,c5,he5,hr5⟩:=hpost
      have he6:e=.returned (.tuple #[.agg #[(.int .i64 SL.l.lv),(.int .i64 SL.l.st),(.int .i64 SL.id),(.int .i64 SL.start),.slice a5 SL.nodes.length c5],.agg #[(.int .i64 XX.f),(.int .i64 XX.t)],.bool true]):=he5
      subst he6
      have HPP:=tH hpl
      have HN0:=tH hr5
      have HXP:=tH hxp
      clear hpl hr5 hxp he5
      go_upto_region 8 with fail
      refine gen_world (fun V2 hV2=>?_)
      have HPV:Hid (Ext Wp V2):=tH (by rw[hV2];exact xE)
      have HB8:Hid (Blk V2 Wp.heap.size [(.int .i64 SL.l.lv),(.int .i64 SL.l.st),(.int .i64 SL.id),(.int .i64 SL.start),.slice a5 SL.nodes.length c5] 104):=tH (by rw[hV2];exact(Blk.new (w:=Wp) (cs:=#[(.int .i64 SL.l.lv),(.int .i64 SL.l.st),(.int .i64 SL.id),(.int .i64 SL.start),.slice a5 SL.nodes.length c5]) rfl).ext xE)
      have HB9:Hid (Blk V2 (Wp.heap.size+1) [(.int .i64 XX.f),(.int .i64 XX.t)] 124):=tH (by rw[hV2];exact(Blk.new (w:=Wp.alloc _) (cs:=#[(.int .i64 XX.f),(.int .i64 XX.t)]) (by simp[go_sem])).ext xE)
      clear hV2
      have HEV:Hid (Ext wo V2):=tH ((HEV0.out.trans HXP.out).trans HPV.out)
      have HND:=tH (HN0.out.ext HPV.out)
      have HVW:Hid (wo.heap.size≤V.heap.size):=tH HEV0.out.below.size
      have HWP:Hid (wo.heap.size≤Wp.heap.size):=tH (Nat.le_trans HEV0.out.below.size HXP.out.below.size)
      have HFN:Hid (foldP p.clear p.now (L.take (k+1))=((foldP p.clear p.now (L.take k)).1++[SL],putAll XX (rsR.map Prod.fst) SL.nodes)):=tH (by rw[HFO.out,stepP_some HSC.out (by rw[← HRM.out];exact HPP.out),HRM.out])
      have hpg:=placed_good (clear:=p.clear) HN.out (by rw[HRM.out];exact HRO.out.2.symm) HJO.out.1 HPP.out
      have HXO:Hid (spnOk XX=true):=tH hpg.1
      have HGD:Hid (GoodN (rsR.map Prod.fst) XX SL.nodes):=tH hpg.2.1
      have HN6:Hid (SL.nodes.length≤6):=tH (by have h:=HGD.out.len;rw[List.length_map,HRL.out] at h;omega)
      have HGW:Hid (g < wo.heap.size):=tH (HR.out.row.blk g (by simp[blkL])).2
      have HRV:=tH (HR.out.ext HEV.out)
      have HOG1:Hid (Other V2 2 [g]):=tH (by simpa [blkL] using other_row (ty:=2) HRV.out.row (by decide))
      have hn6:=HN6.out
      have HPX:=HPV
      clear hpg HN0 HPV
      have s4:=HB8.out.cell 4
      have o8:=HB8.out.old
      simp only[List.getElem?_cons_zero,List.getElem?_cons_succ] at s4
      go_wp2
      clear s4 o8
      go_loopw [46,11] (fun i _ wr=>∃ m:Nat,∃ rsM:List RW,m≤SL.nodes.length∧i=.int .i64 m∧Hid (Chg [g] V2 wr)∧Hid (RowR W1.heap.size wr (.slice (some ⟨g,0,none⟩) p.clear.length p.clear.length) rsM)∧Hid (Rok (rsM.map Prod.fst)∧GoodN (rsM.map Prod.fst) XX (SL.nodes.drop m)∧putAll XX (rsM.map Prod.fst) (SL.nodes.drop m)=putAll XX (rsR.map Prod.fst) SL.nodes)) (fun i _ _=>SL.nodes.length-(intOf i).toNat)
      case atStart=>exact⟨0,rsR,Nat.zero_le _,rfl,tH ((Ext.refl _).chg _),HRV,tH ⟨HRK.out,HGD.out,rfl⟩⟩
      case round =>
       obtain⟨m,rsM,hm,rfl,HCM,HRR,HKK⟩:=hrel
       have HNQ:=tH (row_chgT HND.out HCM.out HOG1.out)
       have HB8Q:Hid (Blk wr Wp.heap.size [(.int .i64 SL.l.lv),(.int .i64 SL.l.st),(.int .i64 SL.id),(.int .i64 SL.start),.slice a5 SL.nodes.length c5] 104):=tH (HB8.out.chg HCM.out (by have:=HGW.out;have:=HWP.out;simp;omega))
       by_cases hlm:m < SL.nodes.length
       ·have hb9:Blk wr (Wp.heap.size+1) [(.int .i64 XX.f),(.int .i64 XX.t)] 124:=HB9.out.chg HCM.out (by have:=HGW.out;have:=HWP.out;simp;omega)
        have e0:=hb9.cell 0
        have e1:=hb9.cell 1
        have o9:=hb9.old
        simp only[List.getElem?_cons_zero,List.getElem?_cons_succ] at e0 e1
        clear hb9
        have hdr:=List.drop_eq_getElem_cons hlm
        have hkk:=HKK.out
        rw[hdr] at hkk
        obtain⟨q1,q2,q3⟩:=hkk.2.1.at_ _ (List.mem_cons_self ..)
        obtain⟨q,hq⟩:=Int.eq_ofNat_of_zero_le q1
        have hqM:q < rsM.length:=by rw[List.length_map] at q2;omega
        obtain⟨f1,f2,f3,f4⟩:=put_fact hkk.1 HXO.out hkk.2.1 hq (by simpa using hqM)
        have HF4:=tH hkk
        rw[List.getElem_map] at f1 f2 f3 f4
        have HF1:=tH f1
        have hqc:q < p.clear.length:=by have h:=HRR.out.len;omega
        have hnl:=HNQ.out
        obtain⟨nb,ncap,hnv⟩:=row_some hnl (Nat.lt_of_le_of_lt (Nat.zero_le _) hlm)
        have hn0:=row_cell (g:=nb) (by rw[← hnv];exact hnl) (j:=m) (u:=(.int .i64 (List.get SL.nodes ⟨m,hlm⟩))) (by rw[int_map];simp[hlm])
        have hn0q:wr.cell? ⟨nb,m,none⟩=some (.int .i64 (q:Int)):=by rw[← hq];exact hn0
        have hno:=World.old_of_cell hn0q
        obtain⟨rfl,rfl⟩:a5=some ⟨nb,0,none⟩∧c5=ncap:=by simpa using hnv
        have hcq:=HRR.out.cell hqM
        obtain⟨hfz,hro,hgB⟩:=HRR.out.fz q
        unfold RW.nv at hcq
        have HLK:Hid (rsM[q].1.length≤20):=tH (spnsOk_len f4)
        obtain⟨NL,hNL⟩:∃ NL,NL=putL rsM[q].1 XX:=⟨_,rfl⟩
        have HNL:=tH hNL
        have hNLl:NL.length≤maxLen:=by have:=putL_len rsM[q].1 XX;rw[hNL];unfold maxLen;omega
        clear hn0 hnv hnl q1 q2 q3 f1 f2 f3 f4 hkk hdr hq hgB hNL
        go_upto_region 11 with fail
        (apply wp_region_y (m:=9) (Ks:=[_,_,_,_,_,_,_,kRow 124 2 Spn.cells NL,_]);(case hm=>kernel_rfl);(case hc=>kernel_rfl);(case hd=>kernel_rfl);(case hl=>rfl))
        case h =>
         iterate 7 (apply YReg.step;(case h=>(intro w' hw' hF';obtain⟨X',rfl⟩:=hw';have HF':=tH hF';clear hF';go_wp2_with (fail);exact⟨rfl,xE⟩));(case hv=>kernel_rfl))
         refine YReg.kind (fun w' hw' hF'=>?_) (fun v9 w1 hK=>?_)
         ·obtain⟨X9,rfl⟩:=hw'
          clear hF'
          go_wp2_with fail
          refine(implSpanPut_any _ rsM[q].1 XX _ ((HRR.out.at_ hqM).ext rSpn_stable xE)).mono ?_
          rintro e _ ⟨v8,rfl,⟨Y9,rfl⟩,hO9⟩
          rw[← HNL.out] at hO9
          have H9:=tH (kRow_in (hO9.mono (Nat.zero_le _)))
          clear hO9
          go_wp2
          exact⟨xE,H9.out⟩
         obtain⟨a9,c9,rfl,hq9⟩:=hK
         clear hq9 w1
         refine YReg.va (.pointer (some ⟨g,q,none⟩)) ?_
         refine YReg.done1 (fun X3 hF=>?_)
         have hk9:kRow 124 2 Spn.cells NL (.slice a9 NL.length c9) (wr.plus X3):=hF 7 (kRow 124 2 Spn.cells NL,.slice a9 NL.length c9) (by kernel_rfl)
         obtain⟨_,_,hv9,hr9⟩:=hk9
         rw[← hv9] at hr9
         have HR9:=tH hr9
         have HEZ:Hid (Ext wr (wr.plus X3)):=tH ((Ext.refl _).plus _)
         clear hF hv9 hr9 e0 e1 o9 hn0q hno hcq hfz hro
         generalize wr.plus X3=Wz at HR9 HEZ ⊢
         have hcq:=(HRR.out.ext HEZ.out).cell hqM
         obtain⟨hfz,hro,hgB⟩:=(HRR.out.ext HEZ.out).fz q
         unfold RW.nv at hcq
         clear hgB
         go_upto_region 12 with fail
         refine gen_world (fun Z hZ=>?_)
         have hZ':Z=Wz.setCell ⟨g,q,none⟩ (.slice a9 NL.length c9):=hZ
         have HRZ:Hid (RowR W1.heap.size Z (.slice (some ⟨g,0,none⟩) p.clear.length p.clear.length) (rsM.set q (NL,(a9,c9)))):=tH (by rw[hZ'];exact(HRR.out.ext HEZ.out).set hqM (NL,(a9,c9)) ⟨by rw[HNL.out];exact putL_ok (HRR.out.nd _ (List.getElem_mem hqM)).1 (spnOk_ok HXO.out),HR9.out⟩)
         have HCZ:Hid (Chg [g] V2 Z):=tH (by rw[hZ'];exact Chg.setCell (HCM.out.trans (HEZ.out.chg _)) (.inl (by simp)) _)
         clear hZ hZ' hcq hfz hro
         have HM1:Hid ((rsM.set q (NL,(a9,c9))).map Prod.fst=put1 XX (rsM.map Prod.fst) (List.get SL.nodes ⟨m,hlm⟩)):=tH (by rw[List.map_set];exact(by rw[HNL.out];exact HF1.out.symm))
         go_wp2
         exact⟨⟨m+1,_,by omega,by go_num,HCZ,HRZ,tH (by rw[HM1.out];exact put_step HF4.out HXO.out)⟩,by simp[intOf];omega⟩
        case hg =>
         (repeat' (first | exact trivial | exact XReg.GoodK.same _ default | refine And.intro ?_ ?_))
         exact kRow_good wr (fun _=>rfl) hNLl
       ·obtain rfl:m=SL.nodes.length:=by omega
        have s0:=HB8Q.out.cell 0
        have s1:=HB8Q.out.cell 1
        have s2:=HB8Q.out.cell 2
        have s3:=HB8Q.out.cell 3
        have s4:=HB8Q.out.cell 4
        have o8:=HB8Q.out.old
        simp only[List.getElem?_cons_zero,List.getElem?_cons_succ] at s0 s1 s2 s3 s4
        have HKF:Hid (rsM.map Prod.fst=putAll XX (rsR.map Prod.fst) SL.nodes):=tH (by have h:=HKK.out.2.2;rw[List.drop_length,putAll_nil] at h;exact h)
        have HOV:∀ ty:Nat,¬ 129=ty→Other V2 ty [g]:=fun ty hne=>by simpa [blkL] using other_row (ty:=ty) HRV.out.row hne
        have HSV:=tH (HS.out.ext oSltS_local oSltS_held HEV.out)
        have HSQ:=tH (own_chgD oSltS_local oSltS_held HCM.out (fun b hb hm=>by obtain rfl:=List.mem_singleton.1 hm;exact HGF.out hb) HSV.out)
        have HJQ:=tH (row_chgT (HRJ.out.ext HEV.out) HCM.out (HOV _ (by decide)))
        have HEQ:Hid (Ext W1 wr):=tH (HCM.out.ext (HE.out.trans HEV.out) (fun b hb=>by obtain rfl:=List.mem_singleton.1 hb;exact(HRV.out.row.blk b (by simp[blkL])).1))
        obtain⟨fy,hfy⟩:=Row.own (f:=intCell) (K:=1) (fun _=>rfl) HNQ.out
        have HFP:Hid (∀ b∈fp,b < wo.heap.size):=tH (oSltS_held _ _ _ _ HS.out.1)
        have HBW:Hid (W1.heap.size≤V.heap.size):=tH (HE.out.trans HEV0.out).below.size
        have HWR:Hid (wo.heap.size≤wr.heap.size):=tH (Nat.le_trans HEV.out.below.size HCM.out.size)
        have HFY:Hid (∀ b∈fy,V.heap.size≤b):=tH hfy.2.2
        have HYO:Hid (∀ O,Own W1.heap.size (wr.alloc O) oSlt fy (SL.cells (.slice a5 SL.nodes.length c5)) SL):=tH (fun O=>⟨⟨_,rfl,(hfy.ext oIntS_local oIntS_held ((Ext.refl wr).alloc O)).1⟩,hfy.2.1,fun b hb=>Nat.le_trans HBW.out (hfy.2.2 b hb)⟩)
        have HAP:Hid (∀ b∈fp,b∉fy):=tH (fun b hb hm=>by have h1:=HFP.out b hb;have h2:=HFY.out b hm;have:=HVW.out;omega)
        have HW1:Hid (W1.heap.size≤wr.heap.size):=tH HEQ.out.below.size
        clear HOV hfy
        go_upto_region 13 with fail
        go_wp2_with (at_builtin;go_must (refine Own.app1 oSlt_local oSlt_held el_Slot rfl _ _ rfl W1.heap.size (.slice oa ol oc) (foldP p.clear p.now (L.take k)).1 fp rfl (HSQ.out.ext oSltS_local oSltS_held xE) ⟨wr.heap.size,0,none⟩ 1 rfl SL fy (SL.cells (.slice a5 SL.nodes.length c5)) (HYO.out _) rfl HAP.out ?_ ?_ ?_ ?_ ?_ ?_);(have:=HW1.out;simp;omega);(intro j u hu;rw[Addr.add_lit,Nat.zero_add,World.cell?_alloc_new];simpa [Slt.cells] using hu);(intro u hu;simp only[Slt.cells,List.mem_cons,List.not_mem_nil,or_false] at hu;rcases hu with rfl | rfl | rfl | rfl | rfl<;>rfl);(have:=HSL.out;unfold maxLen;omega);(have:=HSL.out;omega);intro v8 w8 fp8 hO8 hc8 hf8;have HO8:=tH hO8;have HC8:=tH hc8;have HF8:=tH hf8;clear hO8 hc8 hf8;obtain⟨a8,c8,rfl⟩:=HO8.out.shape;simp only[List.length_append,List.length_singleton] at HO8 ⊢)
        refine⟨⟨k+1,fp8,rsM,a8,_,c8,by omega,by go_num,rfl,tH ?_,tH ?_,tH ?_,tH ?_,tH ?_,tH ?_⟩,by simp[intOf];omega⟩
        ·exact HC8.out.ext (HEQ.out.trans xE) (fun b hb=>HSQ.out.2.2 b (HSQ.out.blkL_in b hb))
        ·rw[HFN.out];exact HO8.out
        ·intro hm
         have h1:=HGW.out
         have hf9:=HF8.out g hm
         rcases hf9 with h | h | h
         ·exact HGF.out h
         ·have h2:=HFY.out g h
          have:=HVW.out
          omega
         ·have:=HWR.out
          simp at h
          omega
        ·exact(HRR.out.ext xE).chgT HC8.out ((own_ty HSQ.out (by decide)).ext xE) ((own_ty HSQ.out (by decide)).ext xE)
        ·rw[HFN.out];exact HKF.out
        ·exact row_chgT (HJQ.out.ext xE) HC8.out ((own_ty HSQ.out (by decide)).ext xE)
   ·have HSC:Hid ((L[k].state == 2 || L[k].state == 1)=true):=tH (by rw[hs2];rfl)
    have hn2:(L[k].state != 2)=false:=by unfold bne;rw[hs2];rfl
    go_upto_region 6 with fail
    refine gen_world (fun V hV=>?_)
    have HEV0:Hid (Ext wo V):=tH (by rw[hV];exact xE)
    have HBJ:Hid (Blk V wo.heap.size (L[k].cells (.slice na L[k].nodes.length nc)) 92):=tH (by rw[hV];exact(Blk.new (w:=wo) (cs:=(L[k].cells (.slice na L[k].nodes.length nc)).toArray) rfl).ext xE)
    clear hV ho c0 c1 c2 c3 c4 c5 c6 c7 c8
    have hp0:=HEV0.out.cell p0
    have hp1:=HEV0.out.cell p1
    have hp2:=HEV0.out.cell p2
    have hpo:=World.old_of_cell hp0
    clear p0 p1 p2 po hn2
    have j0:=HBJ.out.cell 0
    have j1:=HBJ.out.cell 1
    have j2:=HBJ.out.cell 2
    have j3:=HBJ.out.cell 3
    have j4:=HBJ.out.cell 4
    have j5:=HBJ.out.cell 5
    have j6:=HBJ.out.cell 6
    have j7:=HBJ.out.cell 7
    have j8:=HBJ.out.cell 8
    have jo:=HBJ.out.old
    simp only[Jb.cells,List.getElem?_cons_zero,List.getElem?_cons_succ] at j0 j1 j2 j3 j4 j5 j6 j7 j8
    have HRL:Hid (rsR.length=p.clear.length):=tH (by rw[← HRO.out.2,← HRM.out,List.length_map])
    have HRK:Hid (Rok (rsR.map Prod.fst)):=tH (by rw[HRM.out];exact HRO.out.1)
    go_wp2_with fail
    refine(placed_any _ _ p.clear _ _ _ L[k] _ rsR _ (((HR.out.ext HEV0.out).ext xE).mono (Nat.zero_le _)) (HC.out.ext rLabS_stable (((HE0.out.trans HE.out).trans HEV0.out).trans xE)) (HNN.out.ext rInt_stable (HEV0.out.trans xE)) HN.out HJO.out.1 HRL.out.symm (by rw[HRL.out];exact hc1) (by rw[HRL.out];exact hc6) HRK.out).mono ?_
    rintro e Wp ⟨hxp,hpost⟩
    clear hp0 hp1 hp2 hpo j0 j1 j2 j3 j4 j5 j6 j7 j8 jo
    cases hpl:placedP p.clear p.now (rsR.map Prod.fst) L[k] with
    | none =>
     rw[hpl] at hpost
     have hp2:e=.returned (.tuple #[.agg #[(.int .i64 0),(.int .i64 0),(.int .i64 0),(.int .i64 0),.slice none 0 0],.agg #[(.int .i64 0),(.int .i64 0)],.bool false]):=hpost
     subst hp2
     obtain⟨X2,rfl⟩:=hxp
     have HSN:Hid (foldP p.clear p.now (L.take (k+1))=foldP p.clear p.now (L.take k)):=tH (by rw[HFO.out,stepP_none (by rw[← HRM.out];exact hpl)])
     clear hpl hpost
     go_wp2
     exact⟨⟨k+1,fp,rsR,oa,ol,oc,by omega,by go_num,rfl,tH ((HE.out.trans HEV0.out).trans xE),tH (by rw[HSN.out];exact HS.out.ext oSltS_local oSltS_held (HEV0.out.trans xE)),HGF,tH ((HR.out.ext HEV0.out).ext xE),tH (by rw[HSN.out];exact HRM.out),tH ((HRJ.out.ext HEV0.out).ext xE)⟩,by simp[intOf];omega⟩
    | some r =>
     rw[hpl] at hpost
     obtain⟨SL,XX⟩:=r
     obtain⟨a5,c5,he5,hr5⟩:=hpost
     have he6:e=.returned (.tuple #[.agg #[(.int .i64 SL.l.lv),(.int .i64 SL.l.st),(.int .i64 SL.id),(.int .i64 SL.start),.slice a5 SL.nodes.length c5],.agg #[(.int .i64 XX.f),(.int .i64 XX.t)],.bool true]):=he5
     subst he6
     have HPP:=tH hpl
     have HN0:=tH hr5
     have HXP:=tH hxp
     clear hpl hr5 hxp he5
     go_upto_region 8 with fail
     refine gen_world (fun V2 hV2=>?_)
     have HPV:Hid (Ext Wp V2):=tH (by rw[hV2];exact xE)
     have HB8:Hid (Blk V2 Wp.heap.size [(.int .i64 SL.l.lv),(.int .i64 SL.l.st),(.int .i64 SL.id),(.int .i64 SL.start),.slice a5 SL.nodes.length c5] 104):=tH (by rw[hV2];exact(Blk.new (w:=Wp) (cs:=#[(.int .i64 SL.l.lv),(.int .i64 SL.l.st),(.int .i64 SL.id),(.int .i64 SL.start),.slice a5 SL.nodes.length c5]) rfl).ext xE)
     have HB9:Hid (Blk V2 (Wp.heap.size+1) [(.int .i64 XX.f),(.int .i64 XX.t)] 124):=tH (by rw[hV2];exact(Blk.new (w:=Wp.alloc _) (cs:=#[(.int .i64 XX.f),(.int .i64 XX.t)]) (by simp[go_sem])).ext xE)
     clear hV2
     have HEV:Hid (Ext wo V2):=tH ((HEV0.out.trans HXP.out).trans HPV.out)
     have HND:=tH (HN0.out.ext HPV.out)
     have HVW:Hid (wo.heap.size≤V.heap.size):=tH HEV0.out.below.size
     have HWP:Hid (wo.heap.size≤Wp.heap.size):=tH (Nat.le_trans HEV0.out.below.size HXP.out.below.size)
     have HFN:Hid (foldP p.clear p.now (L.take (k+1))=((foldP p.clear p.now (L.take k)).1++[SL],putAll XX (rsR.map Prod.fst) SL.nodes)):=tH (by rw[HFO.out,stepP_some HSC.out (by rw[← HRM.out];exact HPP.out),HRM.out])
     have hpg:=placed_good (clear:=p.clear) HN.out (by rw[HRM.out];exact HRO.out.2.symm) HJO.out.1 HPP.out
     have HXO:Hid (spnOk XX=true):=tH hpg.1
     have HGD:Hid (GoodN (rsR.map Prod.fst) XX SL.nodes):=tH hpg.2.1
     have HN6:Hid (SL.nodes.length≤6):=tH (by have h:=HGD.out.len;rw[List.length_map,HRL.out] at h;omega)
     have HGW:Hid (g < wo.heap.size):=tH (HR.out.row.blk g (by simp[blkL])).2
     have HRV:=tH (HR.out.ext HEV.out)
     have HOG1:Hid (Other V2 2 [g]):=tH (by simpa [blkL] using other_row (ty:=2) HRV.out.row (by decide))
     have hn6:=HN6.out
     have HPX:=HPV
     clear hpg HN0 HPV
     have s4:=HB8.out.cell 4
     have o8:=HB8.out.old
     simp only[List.getElem?_cons_zero,List.getElem?_cons_succ] at s4
     go_wp2
     clear s4 o8
     go_loopw [46,11] (fun i _ wr=>∃ m:Nat,∃ rsM:List RW,m≤SL.nodes.length∧i=.int .i64 m∧Hid (Chg [g] V2 wr)∧Hid (RowR W1.heap.size wr (.slice (some ⟨g,0,none⟩) p.clear.length p.clear.length) rsM)∧Hid (Rok (rsM.map Prod.fst)∧GoodN (rsM.map Prod.fst) XX (SL.nodes.drop m)∧putAll XX (rsM.map Prod.fst) (SL.nodes.drop m)=putAll XX (rsR.map Prod.fst) SL.nodes)) (fun i _ _=>SL.nodes.length-(intOf i).toNat)
     case atStart=>exact⟨0,rsR,Nat.zero_le _,rfl,tH ((Ext.refl _).chg _),HRV,tH ⟨HRK.out,HGD.out,rfl⟩⟩
     case round =>
      obtain⟨m,rsM,hm,rfl,HCM,HRR,HKK⟩:=hrel
      have HNQ:=tH (row_chgT HND.out HCM.out HOG1.out)
      have HB8Q:Hid (Blk wr Wp.heap.size [(.int .i64 SL.l.lv),(.int .i64 SL.l.st),(.int .i64 SL.id),(.int .i64 SL.start),.slice a5 SL.nodes.length c5] 104):=tH (HB8.out.chg HCM.out (by have:=HGW.out;have:=HWP.out;simp;omega))
      by_cases hlm:m < SL.nodes.length
      ·have hb9:Blk wr (Wp.heap.size+1) [(.int .i64 XX.f),(.int .i64 XX.t)] 124:=HB9.out.chg HCM.out (by have:=HGW.out;have:=HWP.out;simp;omega)
       have e0:=hb9.cell 0
       have e1:=hb9.cell 1
       have o9:=hb9.old
       simp only[List.getElem?_cons_zero,List.getElem?_cons_succ] at e0 e1
       clear hb9
       have hdr:=List.drop_eq_getElem_cons hlm
       have hkk:=HKK.out
       rw[hdr] at hkk
       obtain⟨q1,q2,q3⟩:=hkk.2.1.at_ _ (List.mem_cons_self ..)
       obtain⟨q,hq⟩:=Int.eq_ofNat_of_zero_le q1
       have hqM:q < rsM.length:=by rw[List.length_map] at q2;omega
       obtain⟨f1,f2,f3,f4⟩:=put_fact hkk.1 HXO.out hkk.2.1 hq (by simpa using hqM)
       have HF4:=tH hkk
       rw[List.getElem_map] at f1 f2 f3 f4
       have HF1:=tH f1
       have hqc:q < p.clear.length:=by have h:=HRR.out.len;omega
       have hnl:=HNQ.out
       obtain⟨nb,ncap,hnv⟩:=row_some hnl (Nat.lt_of_le_of_lt (Nat.zero_le _) hlm)
       have hn0:=row_cell (g:=nb) (by rw[← hnv];exact hnl) (j:=m) (u:=(.int .i64 (List.get SL.nodes ⟨m,hlm⟩))) (by rw[int_map];simp[hlm])
       have hn0q:wr.cell? ⟨nb,m,none⟩=some (.int .i64 (q:Int)):=by rw[← hq];exact hn0
       have hno:=World.old_of_cell hn0q
       obtain⟨rfl,rfl⟩:a5=some ⟨nb,0,none⟩∧c5=ncap:=by simpa using hnv
       have hcq:=HRR.out.cell hqM
       obtain⟨hfz,hro,hgB⟩:=HRR.out.fz q
       unfold RW.nv at hcq
       have HLK:Hid (rsM[q].1.length≤20):=tH (spnsOk_len f4)
       obtain⟨NL,hNL⟩:∃ NL,NL=putL rsM[q].1 XX:=⟨_,rfl⟩
       have HNL:=tH hNL
       have hNLl:NL.length≤maxLen:=by have:=putL_len rsM[q].1 XX;rw[hNL];unfold maxLen;omega
       clear hn0 hnv hnl q1 q2 q3 f1 f2 f3 f4 hkk hdr hq hgB hNL
       go_upto_region 11 with fail
       (apply wp_region_y (m:=9) (Ks:=[_,_,_,_,_,_,_,kRow 124 2 Spn.cells NL,_]);(case hm=>kernel_rfl);(case hc=>kernel_rfl);(case hd=>kernel_rfl);(case hl=>rfl))
       case h =>
        iterate 7 (apply YReg.step;(case h=>(intro w' hw' hF';obtain⟨X',rfl⟩:=hw';have HF':=tH hF';clear hF';go_wp2_with (fail);exact⟨rfl,xE⟩));(case hv=>kernel_rfl))
        refine YReg.kind (fun w' hw' hF'=>?_) (fun v9 w1 hK=>?_)
        ·obtain⟨X9,rfl⟩:=hw'
         clear hF'
         go_wp2_with fail
         refine(implSpanPut_any _ rsM[q].1 XX _ ((HRR.out.at_ hqM).ext rSpn_stable xE)).mono ?_
         rintro e _ ⟨v8,rfl,⟨Y9,rfl⟩,hO9⟩
         rw[← HNL.out] at hO9
         have H9:=tH (kRow_in (hO9.mono (Nat.zero_le _)))
         clear hO9
         go_wp2
         exact⟨xE,H9.out⟩
        obtain⟨a9,c9,rfl,hq9⟩:=hK
        clear hq9 w1
        refine YReg.va (.pointer (some ⟨g,q,none⟩)) ?_
        refine YReg.done1 (fun X3 hF=>?_)
        have hk9:kRow 124 2 Spn.cells NL (.slice a9 NL.length c9) (wr.plus X3):=hF 7 (kRow 124 2 Spn.cells NL,.slice a9 NL.length c9) (by kernel_rfl)
        obtain⟨_,_,hv9,hr9⟩:=hk9
        rw[← hv9] at hr9
        have HR9:=tH hr9
        have HEZ:Hid (Ext wr (wr.plus X3)):=tH ((Ext.refl _).plus _)
        clear hF hv9 hr9 e0 e1 o9 hn0q hno hcq hfz hro
        generalize wr.plus X3=Wz at HR9 HEZ ⊢
        have hcq:=(HRR.out.ext HEZ.out).cell hqM
        obtain⟨hfz,hro,hgB⟩:=(HRR.out.ext HEZ.out).fz q
        unfold RW.nv at hcq
        clear hgB
        go_upto_region 12 with fail
        refine gen_world (fun Z hZ=>?_)
        have hZ':Z=Wz.setCell ⟨g,q,none⟩ (.slice a9 NL.length c9):=hZ
        have HRZ:Hid (RowR W1.heap.size Z (.slice (some ⟨g,0,none⟩) p.clear.length p.clear.length) (rsM.set q (NL,(a9,c9)))):=tH (by rw[hZ'];exact(HRR.out.ext HEZ.out).set hqM (NL,(a9,c9)) ⟨by rw[HNL.out];exact putL_ok (HRR.out.nd _ (List.getElem_mem hqM)).1 (spnOk_ok HXO.out),HR9.out⟩)
        have HCZ:Hid (Chg [g] V2 Z):=tH (by rw[hZ'];exact Chg.setCell (HCM.out.trans (HEZ.out.chg _)) (.inl (by simp)) _)
        clear hZ hZ' hcq hfz hro
        have HM1:Hid ((rsM.set q (NL,(a9,c9))).map Prod.fst=put1 XX (rsM.map Prod.fst) (List.get SL.nodes ⟨m,hlm⟩)):=tH (by rw[List.map_set];exact(by rw[HNL.out];exact HF1.out.symm))
        go_wp2
        exact⟨⟨m+1,_,by omega,by go_num,HCZ,HRZ,tH (by rw[HM1.out];exact put_step HF4.out HXO.out)⟩,by simp[intOf];omega⟩
       case hg =>
        (repeat' (first | exact trivial | exact XReg.GoodK.same _ default | refine And.intro ?_ ?_))
        exact kRow_good wr (fun _=>rfl) hNLl
      ·obtain rfl:m=SL.nodes.length:=by omega
       have s0:=HB8Q.out.cell 0
       have s1:=HB8Q.out.cell 1
       have s2:=HB8Q.out.cell 2
       have s3:=HB8Q.out.cell 3
       have s4:=HB8Q.out.cell 4
       have o8:=HB8Q.out.old
       simp only[List.getElem?_cons_zero,List.getElem?_cons_succ] at s0 s1 s2 s3 s4
       have HKF:Hid (rsM.map Prod.fst=putAll XX (rsR.map Prod.fst) SL.nodes):=tH (by have h:=HKK.out.2.2;rw[List.drop_length,putAll_nil] at h;exact h)
       have HOV:∀ ty:Nat,¬ 129=ty→Other V2 ty [g]:=fun ty hne=>by simpa [blkL] using other_row (ty:=ty) HRV.out.row hne
       have HSV:=tH (HS.out.ext oSltS_local oSltS_held HEV.out)
       have HSQ:=tH (own_chgD oSltS_local oSltS_held HCM.out (fun b hb hm=>by obtain rfl:=List.mem_singleton.1 hm;exact HGF.out hb) HSV.out)
       have HJQ:=tH (row_chgT (HRJ.out.ext HEV.out) HCM.out (HOV _ (by decide)))
       have HEQ:Hid (Ext W1 wr):=tH (HCM.out.ext (HE.out.trans HEV.out) (fun b hb=>by obtain rfl:=List.mem_singleton.1 hb;exact(HRV.out.row.blk b (by simp[blkL])).1))
       obtain⟨fy,hfy⟩:=Row.own (f:=intCell) (K:=1) (fun _=>rfl) HNQ.out
       have HFP:Hid (∀ b∈fp,b < wo.heap.size):=tH (oSltS_held _ _ _ _ HS.out.1)
       have HBW:Hid (W1.heap.size≤V.heap.size):=tH (HE.out.trans HEV0.out).below.size
       have HWR:Hid (wo.heap.size≤wr.heap.size):=tH (Nat.le_trans HEV.out.below.size HCM.out.size)
       have HFY:Hid (∀ b∈fy,V.heap.size≤b):=tH hfy.2.2
       have HYO:Hid (∀ O,Own W1.heap.size (wr.alloc O) oSlt fy (SL.cells (.slice a5 SL.nodes.length c5)) SL):=tH (fun O=>⟨⟨_,rfl,(hfy.ext oIntS_local oIntS_held ((Ext.refl wr).alloc O)).1⟩,hfy.2.1,fun b hb=>Nat.le_trans HBW.out (hfy.2.2 b hb)⟩)
       have HAP:Hid (∀ b∈fp,b∉fy):=tH (fun b hb hm=>by have h1:=HFP.out b hb;have h2:=HFY.out b hm;have:=HVW.out;omega)
       have HW1:Hid (W1.heap.size≤wr.heap.size):=tH HEQ.out.below.size
       clear HOV hfy
       go_upto_region 13 with fail
       go_wp2_with (at_builtin;go_must (refine Own.app1 oSlt_local oSlt_held el_Slot rfl _ _ rfl W1.heap.size (.slice oa ol oc) (foldP p.clear p.now (L.take k)).1 fp rfl (HSQ.out.ext oSltS_local oSltS_held xE) ⟨wr.heap.size,0,none⟩ 1 rfl SL fy (SL.cells (.slice a5 SL.nodes.length c5)) (HYO.out _) rfl HAP.out ?_ ?_ ?_ ?_ ?_ ?_);(have:=HW1.out;simp;omega);(intro j u hu;rw[Addr.add_lit,Nat.zero_add,World.cell?_alloc_new];simpa [Slt.cells] using hu);(intro u hu;simp only[Slt.cells,List.mem_cons,List.not_mem_nil,or_false] at hu;rcases hu with rfl | rfl | rfl | rfl | rfl<;>rfl);(have:=HSL.out;unfold maxLen;omega);(have:=HSL.out;omega);intro v8 w8 fp8 hO8 hc8 hf8;have HO8:=tH hO8;have HC8:=tH hc8;have HF8:=tH hf8;clear hO8 hc8 hf8;obtain⟨a8,c8,rfl⟩:=HO8.out.shape;simp only[List.length_append,List.length_singleton] at HO8 ⊢)
       refine⟨⟨k+1,fp8,rsM,a8,_,c8,by omega,by go_num,rfl,tH ?_,tH ?_,tH ?_,tH ?_,tH ?_,tH ?_⟩,by simp[intOf];omega⟩
       ·exact HC8.out.ext (HEQ.out.trans xE) (fun b hb=>HSQ.out.2.2 b (HSQ.out.blkL_in b hb))
       ·rw[HFN.out];exact HO8.out
       ·intro hm
        have h1:=HGW.out
        have hf9:=HF8.out g hm
        rcases hf9 with h | h | h
        ·exact HGF.out h
        ·have h2:=HFY.out g h
         have:=HVW.out
         omega
        ·have:=HWR.out
         simp at h
         omega
       ·exact(HRR.out.ext xE).chgT HC8.out ((own_ty HSQ.out (by decide)).ext xE) ((own_ty HSQ.out (by decide)).ext xE)
       ·rw[HFN.out];exact HKF.out
       ·exact row_chgT (HJQ.out.ext xE) HC8.out ((own_ty HSQ.out (by decide)).ext xE)
  ·obtain rfl:k=L.length:=by omega
   go_wp2
   go_ret
   refine⟨_,fp,rfl,HE0.out.trans (HE.out.trans xE),?_⟩
   have h9:=(HS.out.ext (w':=wo) oSltS_local oSltS_held (Ext.refl _)).mono HE0.out.below.size
   rw[List.take_length,← HPL.out] at h9
   exact h9
end Go.Proofs.YtbmbanelodabgaaGreatDoor
set_option maxRecDepth 100000
set_option linter.unusedVariables false
namespace Go.Proofs.YtbmbanelodabgaaGreatDoor
open Go.RowKit Go.Fin1
theorem poolR_clear {p:Pl} (h:poolR p=true):1≤p.clear.length∧p.clear.length≤6:=by
 unfold poolR at h
 simp only[Bool.and_eq_true] at h
 have h1:=h.1.1.1
 unfold clearR at h1
 simp only[Bool.and_eq_true,decide_eq_true_eq] at h1
 exact⟨h1.1.1,h1.1.2⟩
theorem poolR_job {p:Pl} (h:poolR p=true) {j:Jb} (hj:j∈p.jobs):JOk p.now p.clear.length j∧(j.state=2→j.start≤p.now):=by
 have hR:=jobsR_mem (poolR_jobs h).1 hj
 have hnow:=isIn_iff.1 (poolR_jobs h).2
 unfold poolR at h
 simp only[Bool.and_eq_true] at h
 have hst:=foldO_mem h.2 j hj
 by_cases hs:j.state=2
 ·obtain⟨⟨g1,g2⟩,⟨g3,g4⟩,hup,hl6⟩:=jobR_run hR hs
  obtain⟨u1,u2,hu⟩:=hst
  unfold stepJ at hu
  rw[if_pos hs] at hu
  split at hu
  ·cases hu
  ·rename_i hn
   obtain⟨n1,n2⟩:=nodesUp_pair hup
   have hneed:1≤j.need∧j.need≤6:=by
    unfold jobR at hR
    simp only[Bool.and_eq_true] at hR
    exact isIn_iff.1 hR.1.1.1.1.2
   refine⟨⟨hneed,⟨g3,g4⟩,⟨g1,g2⟩,fun _=>⟨⟨by omega,g1,by omega⟩,n1,fun n hn2=>⟨n2 n hn2,?_⟩⟩,fun e=>absurd hs e⟩,fun _=>by omega⟩
   obtain⟨u3,u4,h4⟩:=foldO_mem (by rw[hu];rfl) n hn2
   unfold step1 at h4
   split at h4
   ·rename_i h5
    simp only[Bool.and_eq_true,decide_eq_true_eq] at h5
    exact h5.1.1
   ·cases h4
 ·have hnil:=jobR_not hR hs
  unfold jobR at hR
  rw[if_neg hs] at hR
  simp only[Bool.and_eq_true,decide_eq_true_eq] at hR
  have h1:=isIn_iff.1 hR.1.1.1.1.2
  have h2:=isIn_iff.1 hR.1.1.1.2
  have h3:=hR.2.1
  exact⟨⟨h1,h2,⟨by omega,by omega⟩,fun e=>absurd e hs,fun _=>hnil⟩,fun e=>absurd e hs⟩
end Go.Proofs.YtbmbanelodabgaaGreatDoor
