/- spec.Advance, walked. -/
import Derived.Test.YtbmbanelodabgaaGreatDoorKAC
import Derived.Test.YtbmbanelodabgaaGreatDoorKAAB
set_option maxRecDepth 100000
set_option linter.unusedVariables false
namespace Go.Proofs.YtbmbanelodabgaaGreatDoor
open Go.RowKit Go.Fin1
theorem own_other {α:Type} {B:Nat} {w:World} {ty ty' K:Nat} {o:Ow α} {fp:List Nat} {v:Value} {xs:List α} (h:Own B w (oSl ty K o) fp [v] xs) (hne:ty≠ty'):Other w ty' (blkL v):=fun b hb=>by
 rcases h.blk with ⟨rfl,_,_⟩ | ⟨g,cap,cur,rfl,hg,_⟩
 ·cases hb
 ·obtain rfl:b=g:=by simpa [blkL] using hb
  exact⟨cur,ty,hg,hne⟩
theorem slt_atA {w:World} {b off n cap:Nat} {xs:List Slt} (h:SlR w 5 rSlt (.slice (some ⟨b,off,none⟩) n cap) xs) {i:Nat} (hi:i < xs.length) :
  w.old b∧∃ a c,xs[i].ok∧SlR w 1 rInt (.slice a xs[i].nodes.length c) xs[i].nodes∧w.cell? ⟨b,off+i*5,none⟩=some (.int .i64 xs[i].l.lv)∧w.cell? ⟨b,off+i*5+1,none⟩=some (.int .i64 xs[i].l.st)∧w.cell? ⟨b,off+i*5+2,none⟩=some (.int .i64 xs[i].id) ∧
   w.cell? ⟨b,off+i*5+3,none⟩=some (.int .i64 xs[i].start)∧w.cell? ⟨b,off+i*5+4,none⟩=some (.slice a xs[i].nodes.length c):=by
 obtain⟨cs,_,hc,v,rfl,hok,hs⟩:=slr_cells h hi
 obtain⟨a,c,rfl⟩:=hs.len
 have h0:=hc 0 _ rfl
 exact⟨World.old_of_cell h0,a,c,hok,hs,h0,hc 1 _ rfl,hc 2 _ rfl,hc 3 _ rfl,hc 4 _ rfl⟩
def kEA0 (B:Nat):XReg.Kind:=fun v w=>∃ g,v=.slice (some ⟨g,0,none⟩) 0 0∧Row B w 2 1 intCell v ([]:List Int)
def kNA0 (B:Nat) (xs:List Int):XReg.Kind:=fun v w=>∃ a c,v=.slice a xs.length c∧Row B w 2 1 intCell (.slice a xs.length c) xs
theorem kEA0_in {W:World} {g B:Nat} (hg:g=W.heap.size) (hB:B≤W.heap.size):kEA0 B (.slice (some ⟨g,0,none⟩) 0 0) (W.alloc (.cells #[] 2)):=⟨g,rfl,by subst hg;exact(Row.made W _ _ _).mono hB⟩
theorem kEA0_good (B:Nat):XReg.GoodK (kEA0 B):=⟨fun _ _ _ hx ⟨g,hv,h⟩=>⟨g,hv,h.ext hx⟩,_,_,kEA0_in (W:={ (default:World) with heap:=Array.replicate B (.cells #[] 0) }) rfl (by simp)⟩
theorem kNA0_good (B:Nat) (xs:List Int) (hm:xs.length≤maxLen):XReg.GoodK (kNA0 B xs):=by
 have h:=(row_newB (ty:=2) (f:=intCell) (K:=1) (W:={ (default:World) with heap:=Array.replicate B (.cells #[] 0) }) xs (fun _=>rfl) hm).mono (B':=B) (show B≤_ by simp)
 exact⟨fun _ _ _ hx ⟨a,c,hv,h⟩=>⟨a,c,hv,h.ext hx⟩,_,_,_,_,rfl,h⟩
theorem runs_own {B B0:Nat} {w0 Wq Wb Wc:World} {fj:List Nat} {gj n cap k:Nat} {J:List Jb} {cur:Array Value} {s:Slt} {a9:Option Addr} {c9:Nat}
  (hO:Own B Wq oJobS fj [.slice (some ⟨gj,0,none⟩) n cap] J) (hg:Wq.heap[gj]?=some (.cells cur 92 (0,0)))
  (hc:Wc.heap[gj]?=some (.cells (((cur.setIfInBounds (k*9+6) (.int .i64 2)).setIfInBounds (k*9+7) (.int .i64 s.start)).setIfInBounds (k*9+8) (.slice a9 s.nodes.length c9)) 92 (0,0)))
  (hQ:Chg [gj] Wq Wc) (hb:Chg [gj] Wb Wc) (hR:Row B0 Wb 2 1 intCell (.slice a9 s.nodes.length c9) s.nodes) (hB:Wq.heap.size≤B0) (hB2:B0≤Wb.heap.size) (hk:k < J.length) (hgf:gj∈fj) (hlo:B≤Wq.heap.size) :
  ∃ fp',(∀ q∈fp',q∈fj∨B0≤q)∧Own B Wc oJobS fp' [.slice (some ⟨gj,0,none⟩) n cap] (J.set k (runsJ J[k] s)):=by
 have hgl:gj < Wq.heap.size:=(Array.getElem?_eq_some_iff.1 hg).1
 have hgc:gj < Wc.heap.size:=(Array.getElem?_eq_some_iff.1 hc).1
 obtain⟨Wp,hWp⟩:∃ Wp:World,Wp={ Wc with heap:=Wc.heap.setIfInBounds gj (.cells cur 92 (0,0)) }:=⟨_,rfl⟩
 have hp1:Wp.heap[gj]?=some (.cells cur 92 (0,0)):=by rw[hWp];simp[hgc]
 have hp2:∀ q,q≠gj→Wp.heap[q]?=Wc.heap[q]?:=fun q hq=>by rw[hWp];simp[Ne.symm hq]
 have hps:Wp.heap.size=Wc.heap.size:=by rw[hWp];simp
 have hOp:Own B Wp oJobS fj [.slice (some ⟨gj,0,none⟩) n cap] J:=by
  refine⟨oJobS_local _ _ _ _ _ (fun q hq=>?_) hO.1,hO.2⟩
  by_cases e:q=gj
  ·subst e;rw[hp1,hg]
  ·rw[hp2 q e,hQ.block q (oJobS_held _ _ _ _ hO.1 q hq) (by simpa using e)]
 obtain⟨fy,hy⟩:=Row.own (f:=intCell) (K:=1) (fun _=>rfl) hR
 have hyg:∀ q∈fy,q≠gj:=fun q hq=>by have:=hy.2.2 q hq;omega
 have hyl:∀ q∈fy,q < Wb.heap.size:=fun q hq=>oIntS_held _ _ _ _ hy.1 q hq
 have hyp:oIntS Wp fy [.slice a9 s.nodes.length c9] s.nodes:=oIntS_local _ _ _ _ _ (fun q hq=>by rw[hp2 q (hyg q hq),hb.block q (hyl q hq) (by simpa using hyg q hq)]) hy.1
 obtain⟨fi9,cs9,_,_,_,_,⟨nv9,hcs9,_⟩,_,hset⟩:=hOp.setG oJob_local oJob_held hk
 subst hcs9
 have hlc:=layCells_chg [(.int .i64 2),(.int .i64 s.start),.slice a9 s.nodes.length c9] Wp gj (k*9+6)
 have hni3:=oIntS_local.chg oIntS_held hlc (fun q hq hm=>hyg q hq (List.mem_singleton.1 hm)) hyp
 obtain⟨fp',hsub,hown⟩:=hset 6 [(.int .i64 2),(.int .i64 s.start),.slice a9 s.nodes.length c9] (runsJ J[k] s) fy (by show 6+3≤9;decide) hy.2.1 (fun q hq=>⟨fun hm=>by have h1:=oJobS_held _ _ _ _ hO.1 q hm;have h2:=hy.2.2 q hq;omega,by have h2:=hy.2.2 q hq;omega⟩) ⟨.slice a9 s.nodes.length c9,rfl,hni3⟩
 have hlay:(Wp.layCells gj (k*9+6) [(.int .i64 2),(.int .i64 s.start),.slice a9 s.nodes.length c9]).heap[gj]?=some (.cells (((cur.setIfInBounds (k*9+6) (.int .i64 2)).setIfInBounds (k*9+7) (.int .i64 s.start)).setIfInBounds (k*9+8) (.slice a9 s.nodes.length c9)) 92 (0,0)):=setCell_heap (setCell_heap (setCell_heap hp1 (k*9+6) (.int .i64 2)) (k*9+7) (.int .i64 s.start)) (k*9+8) (.slice a9 s.nodes.length c9)
 refine⟨fp',fun q hq=>?_,oJobS_local _ _ _ _ _ (fun q hq=>?_) hown.1,hown.2⟩
 ·rcases hsub q hq with h | h
  ·exact .inl h
  ·exact .inr (hy.2.2 q h)
 ·by_cases e:q=gj
  ·subst e;rw[hc,hlay]
  ·have hlt:q < Wp.heap.size:=by
    rw[hps]
    rcases hsub q hq with h | h
    ·exact Nat.lt_of_lt_of_le (oJobS_held _ _ _ _ hO.1 q h) hQ.size
    ·exact Nat.lt_of_lt_of_le (hyl q h) hb.size
   rw[hlc.block q hlt (by simpa using e),hp2 q e]
set_option maxHeartbeats 3200000 in
theorem specAdvance_yes (p:Pl) (v:Value) (w:World) (h:ePool w v p) (hf:p.fits 1048576) (HQ:Hid (poolR p=true)) (hnn:¬ p.now=999900) :
  Calls Tryz.prog 39 #[v] w fun e w'=>∃ cv jv fc fj,e=.returned (poV (advP p) 0 0 cv jv)∧Ext w w'∧OwnP w.heap.size w' fc fj cv jv (advP p):=by
 have HP:=tH h
 obtain⟨a,c,b,d,rfl,h0,h1,h2⟩:=h
 have HI:=tH (And.intro (slr_labss h1) (slr_jobs h2))
 have hnow:=isIn_iff.1 (poolR_jobs HQ.out).2
 have hjl:=jobsR_len (poolR_jobs HQ.out).1
 have hnb:decide ((999900:Int)≤p.now)=false:=decide_eq_false (by omega)
 have HNN:=tH hnn
 clear h0 h1 h2 hnn
 unfold Pl.val at HP ⊢
 go_enter Tryz.func39,Tryz.ntmps39
 go_wp2_with fail
 refine(specPoolRight_any p _ _ (HP.out.ext xE)).mono ?_
 rintro e _ ⟨rfl,X,rfl⟩
 rw[HQ.out]
 go_wp2_with fail
 refine(l05Copy_any p _ _ (HP.out.ext xE) hf).mono ?_
 rintro e _ ⟨cv,jv,fc,fj,rfl,⟨Y,rfl⟩,hO⟩
 obtain⟨ac,cc,rfl⟩:=hO.1.shape
 obtain⟨aj,cj,rfl⟩:=hO.2.1.shape
 unfold Pl.val
 go_upto_region 7 with fail
 refine gen_world (fun W1 hW1=>?_)
 have hrb:Blk W1 (w.heap.size+1) [.slice none 0 0,.slice none 0 0,(.int .i64 0),(.int .i64 0),(.int .i64 0)] 43:=by rw[hW1];exact(Blk.new (w:=w.alloc _) (cs:=#[.slice none 0 0,.slice none 0 0,(.int .i64 0),(.int .i64 0),(.int .i64 0)]) (by simp[go_sem])).ext xE
 have hob:Blk W1 (w.heap.size+1+1+X.n+Y.n) [.slice ac p.clear.length cc,.slice aj p.jobs.length cj,(.int .i64 (p.now+1))] 41:=by rw[hW1];exact(Blk.new (w:=(((w.alloc _).alloc _).plus X).plus Y) (cs:=#[.slice ac p.clear.length cc,.slice aj p.jobs.length cj,(.int .i64 (p.now+1))]) (by simp[go_sem])).ext xE
 have hop:OwnP (w.heap.size+1+1) W1 fc fj (.slice ac p.clear.length cc) (.slice aj p.jobs.length cj) p:=by rw[hW1];exact(hO.ext xE).mono (by simp[go_sem])
 have hhi:∀ q∈fc++fj,q < w.heap.size+1+1+X.n+Y.n:=fun q hq=>by have:=hO.high q hq;simpa [go_sem] using this
 have hgb:w.heap.size+1+1≤w.heap.size+1+1+X.n+Y.n:=by omega
 have HE1:Hid (Ext w W1):=tH (by rw[hW1];exact xE)
 clear hW1 hO
 generalize w.heap.size+1+1+X.n+Y.n=gb at hob hhi hgb ⊢
 have HRB:=tH hrb
 have HOB:=tH hob
 have HOP:=tH hop
 have HHI:=tH hhi
 have HLO:Hid (∀ q∈fc++fj,w.heap.size+1+1≤q):=tH hop.low
 have HGB:=tH hgb
 have HJK:=tH (fun j hj=>poolR_job HQ.out (j:=j) hj)
 clear hrb hob hop hhi hgb
 go_wp2
 go_loopw [4] (fun i wr=>∃ n:Nat,∃ fj':List Nat,n≤p.jobs.length∧i=.int .i64 n∧Hid (Chg fj W1 wr)∧Hid (∀ q∈fj',q∈fj)∧Hid (Own (w.heap.size+1+1) wr oJobS fj' [.slice aj p.jobs.length cj] (mapN (endJ (p.now+1)) p.jobs n))) (fun i _=>p.jobs.length-(intOf i).toNat)
 case atStart=>exact⟨0,fj,Nat.zero_le _,rfl,tH ((Ext.refl _).chg _),tH (fun q hq=>hq),tH HOP.out.2.1⟩
 case round =>
  obtain⟨n,fj',hn,rfl,HC,HSB,HO⟩:=hrel
  obtain⟨wo,rfl⟩:∃ wo,wo=wr:=⟨wr,rfl⟩
  have HOB2:Hid (Blk wo gb [.slice ac p.clear.length cc,.slice aj p.jobs.length cj,(.int .i64 (p.now+1))] 41):=tH (HOB.out.chg HC.out (fun hm=>by have:=HHI.out gb (List.mem_append_right _ hm);omega))
  have o1:=HOB2.out.cell 1
  have o2:=HOB2.out.cell 2
  have oo:=HOB2.out.old
  simp only[List.getElem?_cons_zero,List.getElem?_cons_succ] at o1 o2
  by_cases hlt:n < p.jobs.length
  ·have hl':n < (mapN (endJ (p.now+1)) p.jobs n).length:=by rw[mapN_len];exact hlt
   obtain⟨gj,cap',hv⟩:=oSl_slice HO.out.1 hl'
   obtain⟨rfl,rfl⟩:aj=some ⟨gj,0,none⟩∧cj=cap':=by simpa [mapN_len] using hv
   obtain⟨fi,cs,hog,hfz,hcl,hcells,⟨nv,hcs,hni⟩,hgf,hset⟩:=HO.out.setE oJob_local oJob_held hl'
   obtain⟨an,cn,rfl⟩:∃ an cn,nv=.slice an (mapN (endJ (p.now+1)) p.jobs n)[n].nodes.length cn:=by
    obtain⟨an,cn,h9,_⟩:=oSl_shape hni
    exact⟨an,cn,h9⟩
   subst hcs
   have i0:=hcells 0 _ rfl
   have i1:=hcells 1 _ rfl
   have i2:=hcells 2 _ rfl
   have i3:=hcells 3 _ rfl
   have i4:=hcells 4 _ rfl
   have i5:=hcells 5 _ rfl
   have i6:=hcells 6 _ rfl
   have i7:=hcells 7 _ rfl
   have i8:=hcells 8 _ rfl
   rw[Nat.add_zero] at i0
   have e:=mapN_at (endJ (p.now+1)) hlt
   rw[e] at i0 i1 i2 i3 i4 i5 i6 i7 i8
   obtain⟨hk,_⟩:=HJK.out _ (List.getElem_mem hlt)
   obtain⟨t1,t2⟩:=hk.st
   obtain⟨t3,t4⟩:=hk.long
   have HSG:Hid (gj∈fj):=tH (HSB.out gj hgf)
   clear hv hk hcells hcl hgf hni
   by_cases hs:p.jobs[n].state=2
   ·have hsb:(p.jobs[n].state == 2)=true:=by simp[hs]
    have HS:=tH hs
    clear hs
    by_cases hle:p.jobs[n].start+p.jobs[n].long≤p.now+1
    ·have hlb:decide (p.jobs[n].start+p.jobs[n].long≤p.now+1)=true:=decide_eq_true hle
     have HLE:=tH hle
     clear hle hset e
     go_upto_region 15 with fail
     refine gen_world (fun Wc hWc=>?_)
     have HEc:Hid (Ext wo Wc):=tH (by rw[hWc];exact xE)
     have HBX:Hid (Blk Wc wo.heap.size [(.int .i64 p.jobs[n].l.lv),(.int .i64 p.jobs[n].l.st),(.int .i64 p.jobs[n].id),(.int .i64 p.jobs[n].need),(.int .i64 p.jobs[n].long),(.int .i64 p.jobs[n].prio),(.int .i64 3),(.int .i64 0),.slice none 0 0] 92):=tH (by rw[hWc];exact(Blk.new (w:=wo) (cs:=#[(.int .i64 p.jobs[n].l.lv),(.int .i64 p.jobs[n].l.st),(.int .i64 p.jobs[n].id),(.int .i64 p.jobs[n].need),(.int .i64 p.jobs[n].long),(.int .i64 p.jobs[n].prio),(.int .i64 3),(.int .i64 0),.slice none 0 0]) rfl).ext xE)
     clear hWc i0 i1 i2 i3 i4 i5 i6 i7 i8 hog hfz o1 o2 oo hsb hlb
     have hO2:=HO.out.ext oJobS_local oJobS_held HEc.out
     obtain⟨fi,cs,hog,hfz,hcl,hcells,⟨nv,hcs,_⟩,hgf,hset⟩:=hO2.setE oJob_local oJob_held hl'
     subst hcs
     have i0:=hcells 0 _ rfl
     have i1:=hcells 1 _ rfl
     have i2:=hcells 2 _ rfl
     have i3:=hcells 3 _ rfl
     have i4:=hcells 4 _ rfl
     have i5:=hcells 5 _ rfl
     have i6:=hcells 6 _ rfl
     have i7:=hcells 7 _ rfl
     have i8:=hcells 8 _ rfl
     rw[Nat.add_zero] at i0
     obtain⟨fp',hsub,hown⟩:=hset 0 [(.int .i64 p.jobs[n].l.lv),(.int .i64 p.jobs[n].l.st),(.int .i64 p.jobs[n].id),(.int .i64 p.jobs[n].need),(.int .i64 p.jobs[n].long),(.int .i64 p.jobs[n].prio),(.int .i64 3),(.int .i64 0),.slice none 0 0] (haltJ p.jobs[n] 3) (by show 0+9≤9;decide) (fun w'=>⟨.slice none 0 0,rfl,(Own.nil 0 _ _ _ _).1⟩)
     have HOWN:=tH hown
     have HSUB:=tH hsub
     have b0:=HBX.out.cell 0
     have b1:=HBX.out.cell 1
     have b2:=HBX.out.cell 2
     have b3:=HBX.out.cell 3
     have b4:=HBX.out.cell 4
     have b5:=HBX.out.cell 5
     have b6:=HBX.out.cell 6
     have b7:=HBX.out.cell 7
     have b8:=HBX.out.cell 8
     have bo:=HBX.out.old
     have o1:=(HOB2.out.ext HEc.out).cell 1
     have oo:=(HOB2.out.ext HEc.out).old
     simp only[List.getElem?_cons_zero,List.getElem?_cons_succ] at b0 b1 b2 b3 b4 b5 b6 b7 b8 o1
     clear hset hcells hcl hown hsub hO2 hgf
     go_upto_region 9 with fail
     refine gen_world (fun Z hZ=>?_)
     have hLay:Z=Wc.layCells gj (n*9) [(.int .i64 p.jobs[n].l.lv),(.int .i64 p.jobs[n].l.st),(.int .i64 p.jobs[n].id),(.int .i64 p.jobs[n].need),(.int .i64 p.jobs[n].long),(.int .i64 p.jobs[n].prio),(.int .i64 3),(.int .i64 0),.slice none 0 0]:=hZ
     have HCZ:Hid (Chg fj W1 Z):=tH ((HC.out.trans (HEc.out.chg _)).trans (by rw[hLay];exact(layCells_chg _ _ _ _).mono (fun q hq=>by obtain rfl:=List.mem_singleton.1 hq;exact HSG.out)))
     have HST:Hid ((mapN (endJ (p.now+1)) p.jobs n).set n (haltJ p.jobs[n] 3)=mapN (endJ (p.now+1)) p.jobs (n+1)):=tH (by
      rw[← mapN_set (endJ (p.now+1)) hlt]
      congr 1
      unfold endJ
      rw[if_pos ⟨HS.out,HLE.out⟩])
     have HOZ:Hid (Own (w.heap.size+1+1) Z oJobS fp' [.slice (some ⟨gj,0,none⟩) p.jobs.length cj] (mapN (endJ (p.now+1)) p.jobs (n+1))):=tH (by rw[hLay,← HST.out];exact HOWN.out)
     clear hZ hLay i0 i1 i2 i3 i4 i5 i6 i7 i8 hfz hog HOWN b0 b1 b2 b3 b4 b5 b6 b7 b8 bo o1 oo
     go_wp2
     exact⟨⟨n+1,fp',by omega,by go_num,HCZ,tH (fun q hq=>HSB.out q (HSUB.out q hq)),HOZ⟩,by simp[intOf];omega⟩
    ·have hlb:decide (p.jobs[n].start+p.jobs[n].long≤p.now+1)=false:=decide_eq_false hle
     have HST:=tH (mapN_same (endJ (p.now+1)) hlt (by unfold endJ;rw[if_neg (fun h=>hle h.2)]))
     clear hle hset e
     go_wp2
     exact⟨⟨n+1,fj',by omega,by go_num,tH (HC.out.trans (Ext.chg (show Ext wo _ from xE) _)),HSB,tH (by rw[HST.out];exact HO.out.ext oJobS_local oJobS_held xE)⟩,by simp[intOf];omega⟩
   ·have hsb:(p.jobs[n].state == 2)=false:=by simp[hs]
    have HST:=tH (mapN_same (endJ (p.now+1)) hlt (by unfold endJ;rw[if_neg (fun h=>hs h.1)]))
    clear hs hset e
    go_wp2
    exact⟨⟨n+1,fj',by omega,by go_num,tH (HC.out.trans (Ext.chg (show Ext wo _ from xE) _)),HSB,tH (by rw[HST.out];exact HO.out.ext oJobS_local oJobS_held xE)⟩,by simp[intOf];omega⟩
  ·obtain rfl:n=p.jobs.length:=by omega
   have hO3:=HO.out
   rw[mapN_all] at hO3
   have HO3:Hid (Own (w.heap.size+1+1) wo oJobS fj' [.slice aj p.jobs.length cj] (jobs1 p)):=tH (by unfold jobs1;exact hO3)
   clear hO3 HO
   have HCL:=tH (own_chgD oLabelSS_local oLabelSS_held HC.out (fun q hq=>HOP.out.2.2 q hq) HOP.out.1)
   have HEP:Hid (∀ W,Ext wo W→ePool W (.agg #[.slice ac p.clear.length cc,.slice aj p.jobs.length cj,(.int .i64 (p.now+1))]) ⟨p.clear,jobs1 p,p.now+1⟩):=tH (fun W hx=>by
    have h1:=(oLabelSS_r HCL.out.1 HI.out.1).ext rLabS_stable hx
    have h2:=(oJobS_r HO3.out.1 (jobs1_fit HI.out.2)).ext rJob_stable hx
    rw[← jobs1_len p] at h2 ⊢
    exact⟨_,_,_,_,rfl,⟨by show -9223372036854775808≤p.now+1;omega,by show p.now+1≤9223372036854775807;omega⟩,h1,h2⟩)
   have o0:=HOB2.out.cell 0
   simp only[List.getElem?_cons_zero] at o0
   go_wp2_with fail
   refine(l05Plan_any ⟨p.clear,jobs1 p,p.now+1⟩ _ _ (HEP.out _ xE) ⟨by show 0≤p.now+1;omega,by have:=HNN.out;show p.now+1≤999900;omega⟩ (poolR_clear HQ.out).2 (by show (jobs1 p).length≤96;rw[jobs1_len];exact hjl) (ne_key (jobs1_key p).symm (jobsR_ne (poolR_jobs HQ.out).1)) (jobs1_ok HQ.out HNN.out)).mono ?_
   rintro e _ ⟨sv,ss,rfl,⟨X5,rfl⟩,hS,hsm⟩
   have hsm1:ss.map Prod.fst=plan1 p:=by unfold plan1;exact hsm
   clear o0 o1 o2 oo hsm
   go_upto_region 17 with fail
   refine gen_world (fun W5 hW5=>?_)
   have HE5:Hid (Ext wo W5):=tH (by rw[hW5];exact xE)
   have HS5:Hid (RowS wo.heap.size W5 sv ss):=tH (hS.ext (show Ext _ W5 by rw[hW5];exact xE))
   have HSM:=tH hsm1
   clear hW5 hS X5 HEP hsm1
   have HC5:Hid (Chg fj W1 W5):=tH (HC.out.trans (HE5.out.chg _))
   have HO5:=tH (HO3.out.ext oJobS_local oJobS_held HE5.out)
   have HOJ5:=HO5
   have HOB5:=tH (HOB2.out.ext HE5.out)
   have HFJ5:Hid (∀ q∈fj',q < wo.heap.size):=tH (oJobS_held _ _ _ _ HO3.out.1)
   have HWG:Hid (W1.heap.size≤wo.heap.size):=tH HC.out.size
   clear HO3 HOB2 HC HCL
   go_wp2
   go_loopw [7] (fun i wr=>∃ n:Nat,∃ fj2:List Nat,n≤p.jobs.length∧i=.int .i64 n∧Hid (Chg (blkL (.slice aj p.jobs.length cj)) W5 wr)∧Hid (∀ q∈fj2,q∈fj)∧Hid (Own (w.heap.size+1+1) wr oJobS fj2 [.slice aj p.jobs.length cj] (mapN waitJ (jobs1 p) n))) (fun i _=>p.jobs.length-(intOf i).toNat)
   case atStart=>exact⟨0,fj',Nat.zero_le _,rfl,tH ((Ext.refl _).chg _),HSB,HO5⟩
   case round =>
    clear HO5
    obtain⟨n,fj2,hn,rfl,HC6,HSB2,HO6⟩:=hrel
    have HOB6:Hid (Blk wr gb [.slice ac p.clear.length cc,.slice aj p.jobs.length cj,(.int .i64 (p.now+1))] 41):=tH (HOB5.out.chg HC6.out (fun hm=>by have:=HHI.out gb (List.mem_append_right _ (HOP.out.2.1.blkL_in gb hm));omega))
    by_cases hlt:n < p.jobs.length
    ·have hlj:n < (jobs1 p).length:=by rw[jobs1_len];exact hlt
     have hl':n < (mapN waitJ (jobs1 p) n).length:=by rw[mapN_len];exact hlj
     obtain⟨gj,cap',hv⟩:=oSl_slice HO6.out.1 hl'
     obtain⟨rfl,rfl⟩:aj=some ⟨gj,0,none⟩∧cj=cap':=by simpa [mapN_len,jobs1_len] using hv
     obtain⟨fi,cs,hog,hfz,hcl,hcells,⟨nv,hcs,_⟩,hgf,hset⟩:=HO6.out.setE oJob_local oJob_held hl'
     subst hcs
     have i6:=hcells 6 _ rfl
     have i7:=hcells 7 _ rfl
     have i8:=hcells 8 _ rfl
     have e:=mapN_at waitJ hlj
     obtain⟨fp',hsub,hown⟩:=hset 6 [(.int .i64 1),(.int .i64 0),.slice none 0 0] (haltJ (mapN waitJ (jobs1 p) n)[n] 1) (by show 6+3≤9;decide) (fun w'=>⟨.slice none 0 0,rfl,(Own.nil 0 _ _ _ _).1⟩)
     rw[e] at i6 i7 hown
     have HOWN:=tH hown
     have HSUB:=tH hsub
     have HSG:Hid (gj∈fj):=tH (HSB2.out gj hgf)
     have o1:=HOB6.out.cell 1
     have oo:=HOB6.out.old
     simp only[List.getElem?_cons_zero,List.getElem?_cons_succ] at o1
     clear hv hset hcells hcl hown hsub hgf e
     by_cases hs:(jobs1 p)[n].state=2
     ·have hsb:((jobs1 p)[n].state == 2)=true:=by simp[hs]
      have HST:=tH (mapN_set waitJ hlj)
      have HWJ:Hid (waitJ (jobs1 p)[n]=haltJ (jobs1 p)[n] 1):=tH (by unfold waitJ;rw[if_pos hs])
      clear hs
      have hne1:¬ gj=gb:=fun e9=>by have:=HHI.out gj (List.mem_append_right _ HSG.out);omega
      have hne2:¬ gb=gj:=fun e9=>hne1 e9.symm
      go_upto_region 19 with fail
      refine gen_world (fun Z hZ=>?_)
      have hLay:Z=wr.layCells gj (n*9+6) [(.int .i64 1),(.int .i64 0),.slice none 0 0]:=hZ
      have HCZ:Hid (Chg (blkL (.slice (some ⟨gj,0,none⟩) p.jobs.length cj)) W5 Z):=tH (HC6.out.trans (by rw[hLay];exact(layCells_chg _ _ _ _).mono (fun q hq=>by obtain rfl:=List.mem_singleton.1 hq;simp[blkL])))
      have HOZ:Hid (Own (w.heap.size+1+1) Z oJobS fp' [.slice (some ⟨gj,0,none⟩) p.jobs.length cj] (mapN waitJ (jobs1 p) (n+1))):=tH (by rw[hLay,← HST.out,HWJ.out];exact HOWN.out)
      clear hZ hLay i6 i7 i8 hfz hog HOWN o1 oo hsb hne1 hne2
      go_wp2
      exact⟨⟨n+1,fp',by omega,by go_num,HCZ,tH (fun q hq=>HSB2.out q (HSUB.out q hq)),HOZ⟩,by simp[intOf];omega⟩
     ·have hsb:((jobs1 p)[n].state == 2)=false:=by simp[hs]
      have HST:=tH (mapN_same waitJ hlj (by unfold waitJ;rw[if_neg hs]))
      clear hs HOWN i7 i8
      go_wp2
      exact⟨⟨n+1,fj2,by omega,by go_num,tH (HC6.out.trans (Ext.chg (show Ext wr _ from xE) _)),HSB2,tH (by rw[HST.out];exact HO6.out.ext oJobS_local oJobS_held xE)⟩,by simp[intOf];omega⟩
    ·obtain rfl:n=p.jobs.length:=by omega
     have hO7:=HO6.out
     rw[← jobs1_len p,mapN_all,jobs1_len p] at hO7
     have HO7:Hid (Own (w.heap.size+1+1) wr oJobS fj2 [.slice aj p.jobs.length cj] (jobs2 p)):=tH (by unfold jobs2;exact hO7)
     have HPK:Hid (∀ s∈plan1 p,(s.l,s.id)∈p.jobs.map keyJ):=tH (by
      unfold plan1
      intro s hs
      rw[← jobs1_key p]
      exact planL_key ⟨by omega,by have:=HNN.out;omega⟩ (ne_key (jobs1_key p).symm (jobsR_ne (poolR_jobs HQ.out).1)) (jobs1_ok HQ.out HNN.out) s hs)
     have HPO:Hid (∀ s∈plan1 p,s.ok∧s.nodes.length≤p.clear.length):=tH (by
      unfold plan1
      exact planL_ok ⟨by omega,by have:=HNN.out;omega⟩ (by have:=(poolR_clear HQ.out).2;omega) (ne_key (jobs1_key p).symm (jobsR_ne (poolR_jobs HQ.out).1)) (jobs1_ok HQ.out HNN.out) (jobs1_fit HI.out.2))
     have HPL:Hid ((plan1 p).length≤1048576):=tH (by
      have h1:=foldP_len1 p.clear (p.now+1) (l:=sortedJ (jobs1 p)) _ (Nat.le_refl _)
      rw[List.take_length,sortedJ_lenV,jobs1_len] at h1
      unfold plan1 planL
      omega)
     have hplm:=HPL.out
     have HC6b:=HC6
     have HO5b:=HOB5
     obtain⟨sa,sc,rfl⟩:∃ sa sc,sv=.slice sa (plan1 p).length sc:=by
      obtain⟨sa,sc,h9⟩:=HS5.out.row.shape
      exact⟨sa,sc,by rw[h9,← HSM.out,List.length_map]⟩
     have HOT:Hid (∀ ty,ty≠92→Other W5 ty (blkL (.slice aj p.jobs.length cj))):=tH (fun ty hne=>own_other HOJ5.out (fun e=>hne e.symm))
     clear hO7 HO6
     have o1:=HOB6.out.cell 1
     have oo:=HOB6.out.old
     simp only[List.getElem?_cons_zero,List.getElem?_cons_succ] at o1
     obtain⟨wo2,rfl⟩:∃ wo2,wo2=wr:=⟨wr,rfl⟩
     have HW2:Hid (W5.heap.size≤wo2.heap.size):=tH HC6b.out.size
     go_wp2
     clear o1 oo
     go_loopw [8,9] (fun i _ wr=>∃ n:Nat,∃ fj3:List Nat,n≤(plan1 p).length∧i=.int .i64 n∧Hid (Chg (blkL (.slice aj p.jobs.length cj)) W5 wr)∧Hid (wo2.heap.size≤wr.heap.size)∧Hid (∀ q∈fj3,q∈fj∨wo2.heap.size≤q)∧Hid (Own (w.heap.size+1+1) wr oJobS fj3 [.slice aj p.jobs.length cj] (foldA (p.now+1) (jobs2 p) ((plan1 p).take n)))) (fun i _ _=>(plan1 p).length-(intOf i).toNat)
     case atStart=>exact⟨0,fj2,Nat.zero_le _,rfl,HC6b,tH (Nat.le_refl _),tH (fun q hq=>.inl (HSB2.out q hq)),tH (by rw[List.take_zero,foldA_nil];exact HO7.out)⟩
     case round =>
      clear HO7 HOB6 HC6 HC6b
      obtain⟨n,fj3,hn,rfl,HC8,HWS,HSB3,HO8⟩:=hrel
      have HOB8:Hid (Blk wr gb [.slice ac p.clear.length cc,.slice aj p.jobs.length cj,(.int .i64 (p.now+1))] 41):=tH (HO5b.out.chg HC8.out (fun hm=>by have:=HHI.out gb (List.mem_append_right _ (HOP.out.2.1.blkL_in gb hm));omega))
      have HR8:Hid (RowS wo.heap.size wr (.slice sa (plan1 p).length sc) ss):=tH (HS5.out.chgT HC8.out (HOT.out _ (by decide)) (HOT.out _ (by decide)))
      have hsl:SlR wr 5 rSlt (.slice sa (plan1 p).length sc) (plan1 p):=by have h9:=HR8.out.slr;rw[HSM.out] at h9;exact h9
      have o1:=HOB8.out.cell 1
      have o2:=HOB8.out.cell 2
      have oo:=HOB8.out.old
      simp only[List.getElem?_cons_zero,List.getElem?_cons_succ] at o1 o2
      by_cases hlt:n < (plan1 p).length
      ·obtain⟨sb,so,rfl⟩:=slr_some hsl hlt
       have HSL:=tH hsl
       obtain⟨zo,an,cn,-,hni,z0,z1,z2,z3,z4⟩:=slt_atA hsl hlt
       have HNI:=tH hni
       have HFA:=tH (foldA_take (p.now+1) (jobs2 p) hlt)
       clear hni hsl
       by_cases hle:(plan1 p)[n].start≤p.now+1
       ·have hlb:decide ((plan1 p)[n].start≤p.now+1)=true:=decide_eq_true hle
        obtain⟨k,hk,hps,_⟩:=pos_key (J:=foldA (p.now+1) (jobs2 p) ((plan1 p).take n)) (x:=(plan1 p)[n].l) (id:=(plan1 p)[n].id) (by rw[foldA_key _ _ _ _ hn,jobs2_key];exact HPK.out _ (List.getElem_mem hlt))
        have hkl:k < p.jobs.length:=by rw[foldA_len _ _ _ _ hn,jobs2_len] at hk;exact hk
        have HYS:=tH (stepA_yes hle hk hps)
        have HPS:=tH hps
        have hjs:=oJobS_r HO8.out.1 (foldA_fit (t:=p.now+1) (fun s hs=>(HPO.out s hs).1) (jobs2_fit HI.out.2) n hn)
        have HJL:Hid ((foldA (p.now+1) (jobs2 p) ((plan1 p).take n)).length=p.jobs.length):=tH (by rw[foldA_len _ _ _ _ hn,jobs2_len])
        obtain⟨gj,cap',hv⟩:=oSl_slice HO8.out.1 hk
        obtain⟨rfl,rfl⟩:aj=some ⟨gj,0,none⟩∧cj=cap':=by simpa [foldA_len _ _ _ _ hn,jobs2_len] using hv
        have HJS:=tH hjs
        clear hle hps hjs hv
        go_upto_region 27 with fail
        (refine wp_region_x 8 (by kernel_rfl) (by kernel_rfl) (by kernel_rfl) ?_;(iterate 8 (apply XReg.step;(case h=>(intro w' hw';obtain⟨X',rfl⟩:=hw';go_wp2_with (fail);exact⟨rfl,xE⟩));(case hv=>kernel_rfl)));refine XReg.doneN (fun X=>?_))
        go_upto_region 28 with fail
        (refine wp_region_x 14 (by kernel_rfl) (by kernel_rfl) (by kernel_rfl) ?_;(iterate 14 (apply XReg.step;(case h=>(intro w' hw';obtain⟨X',rfl⟩:=hw';go_wp2_with ((go_at_call 62;refine(l04At_any _ (foldA (p.now+1) (jobs2 p) ((plan1 p).take n)) (plan1 p)[n].l (plan1 p)[n].id _ (HJS.out.ext rJob_stable xE)).mono ?_;rintro e _ ⟨rfl,Y9,rfl⟩;rw[HPS.out]));exact⟨rfl,xE⟩));(case hv=>kernel_rfl)));refine XReg.doneN (fun X=>?_))
        clear o1 o2 oo z0 z1 z2 z3 z4 zo
        go_upto_region 29 with fail
        refine gen_world (fun Wq hWq=>?_)
        have HEQ:Hid (Ext wr Wq):=tH (by rw[hWq];exact xE)
        clear hWq
        have HOQ:=tH (HO8.out.ext oJobS_local oJobS_held HEQ.out)
        have HRQ:=tH (HR8.out.ext HEQ.out)
        have HBQ:=tH (HOB8.out.ext HEQ.out)
        obtain⟨gj',cap9,cur,hv,hgh,hgz,hgl,_,_,hgf⟩:∃ g cap cur,Value.slice (some ⟨gj,0,none⟩) p.jobs.length cj=.slice (some ⟨g,0,none⟩) p.jobs.length cap∧Wq.heap[g]?=some (.cells cur 92 (0,0))∧cur.size=cap*9∧p.jobs.length≤cap∧cap≤maxLen∧w.heap.size+1+1≤g∧g∈fj3:=by
         rcases HOQ.out.blk with ⟨_,h0,_⟩ | h
         ·rw[h0] at hk;cases hk
         ·rw[foldA_len _ _ _ _ hn,jobs2_len] at h;exact h
        obtain⟨rfl,rfl⟩:gj=gj'∧cj=cap9:=by simpa using hv
        have HCS:Hid (k*9+8 < cur.size):=tH (by rw[hgz];omega)
        have HGH:=tH hgh
        have HGF:=tH hgf
        have hne1:¬ gb=gj:=fun e9=>by have:=HHI.out gj (List.mem_append_right _ (HOP.out.2.1.blkL_in gj (by simp[blkL])));omega
        have HNE:=tH hne1
        have HOT2:Hid (∀ W cu ty,W.heap[gj]?=some (.cells cu 92 (0,0))→ty≠92→Other W ty [gj]):=tH (fun W cu ty h9 hne b hb=>by
         obtain rfl:=List.mem_singleton.1 hb
         exact⟨cu,_,h9,fun e=>hne e.symm⟩)
        clear hv hgz hgl hgf hne1
        obtain⟨u6,i6⟩:∃ u,Wq.cell? ⟨gj,k*9+6,none⟩=some u:=⟨_,by rw[cell_of_heap hgh];exact Array.getElem?_eq_getElem (by have:=HCS.out;omega)⟩
        have hfz:=frozen_of_heap hgh
        have hog:=World.old_of_cell i6
        have o1:=HBQ.out.cell 1
        have oo:=HBQ.out.old
        simp only[List.getElem?_cons_zero,List.getElem?_cons_succ] at o1
        clear hgh
        go_upto_region 30 with fail
        refine gen_world (fun Wa hWa=>?_)
        have hga:Wa.heap[gj]?=some (.cells (cur.setIfInBounds (k*9+6) (.int .i64 2)) 92 (0,0)):=by rw[hWa];exact setCell_heap HGH.out _ _
        have HCa:Hid (Chg [gj] Wq Wa):=tH (by rw[hWa];exact(Chg.refl _ _).setCell (.inl (by simp)) _)
        clear hWa i6 hfz hog o1 oo u6
        have HGA:=tH hga
        have HRA:=tH (HRQ.out.chgT HCa.out (HOT2.out _ _ _ HGH.out (by decide)) (HOT2.out _ _ _ HGH.out (by decide)))
        have HBA:=tH (HBQ.out.chg HCa.out (by simpa using HNE.out))
        obtain⟨u7,i7⟩:∃ u,Wa.cell? ⟨gj,k*9+7,none⟩=some u:=⟨_,by rw[cell_of_heap hga];exact Array.getElem?_eq_getElem (by have:=HCS.out;rw[Array.size_setIfInBounds];omega)⟩
        have hfz:=frozen_of_heap hga
        have hog:=World.old_of_cell i7
        have o1:=HBA.out.cell 1
        have oo:=HBA.out.old
        simp only[List.getElem?_cons_zero,List.getElem?_cons_succ] at o1
        obtain⟨zo,an2,cn2,-,-,z0,z1,z2,z3,z4⟩:=slt_atA (by have h9:=HRA.out.slr;rw[HSM.out] at h9;exact h9) hlt
        clear hga z0 z1 z2 z4
        (refine wp_region_x 10 (by kernel_rfl) (by kernel_rfl) (by kernel_rfl) ?_;(iterate 10 (apply XReg.step;(case h=>(intro w' hw';obtain⟨X',rfl⟩:=hw';go_wp2_with (fail);exact⟨rfl,xE⟩));(case hv=>kernel_rfl)));refine XReg.done1 (fun X=>?_))
        go_upto_region 31 with fail
        refine gen_world (fun Wb hWb=>?_)
        have hgb2:Wb.heap[gj]?=some (.cells ((cur.setIfInBounds (k*9+6) (.int .i64 2)).setIfInBounds (k*9+7) (.int .i64 (plan1 p)[n].start)) 92 (0,0)):=by rw[hWb];exact heap_ext (setCell_heap HGA.out _ _) xE
        have HCb:Hid (Chg [gj] Wa Wb):=tH (by rw[hWb];exact(show Chg [gj] Wa (Wa.setCell ⟨gj,k*9+7,none⟩ (.int .i64 (plan1 p)[n].start)) from (Chg.refl _ _).setCell (.inl (by simp)) _).trans (Ext.chg xE _))
        clear hWb i7 hfz hog o1 oo u7 z3 zo
        have HGB2:=tH hgb2
        have HRB2:=tH (HRA.out.chgT HCb.out (HOT2.out _ _ _ HGA.out (by decide)) (HOT2.out _ _ _ HGA.out (by decide)))
        have HBB:=tH (HBA.out.chg HCb.out (by simpa using HNE.out))
        obtain⟨u8,i8⟩:∃ u,Wb.cell? ⟨gj,k*9+8,none⟩=some u:=⟨_,by rw[cell_of_heap hgb2];exact Array.getElem?_eq_getElem (by have:=HCS.out;rw[Array.size_setIfInBounds,Array.size_setIfInBounds];omega)⟩
        have hfz:=frozen_of_heap hgb2
        have hog:=World.old_of_cell i8
        have o1:=HBB.out.cell 1
        have oo:=HBB.out.old
        simp only[List.getElem?_cons_zero,List.getElem?_cons_succ] at o1
        obtain⟨zo,an3,cn3,-,hni3,z0,z1,z2,z3,z4⟩:=slt_atA (by have h9:=HRB2.out.slr;rw[HSM.out] at h9;exact h9) hlt
        have HNI3:=tH hni3
        have HNL:Hid ((plan1 p)[n].nodes.length≤6):=tH (Nat.le_trans (HPO.out _ (List.getElem_mem hlt)).2 (poolR_clear HQ.out).2)
        obtain⟨B0,hB0⟩:∃ B0,B0=Wb.heap.size:=⟨_,rfl⟩
        have HB0:=tH hB0
        clear hgb2 z0 z1 z2 z3 hni3 hB0
        (refine wp_region_y 12 [(fun u _=>u=(.pointer (some ⟨gb,1,none⟩))),(fun u _=>u=(.slice (some ⟨gj,0,none⟩) p.jobs.length cj)),(fun u _=>u=(.int .i64 (k:Int))),kEA0 B0,(fun u _=>u=(.slice (some ⟨sb,so,none⟩) (plan1 p).length sc)),(fun u _=>u=(.int .i64 (n:Int))),(fun u _=>u=(.pointer (some ⟨sb,so+n*5,none⟩))),(fun u _=>u=(.pointer (some ⟨sb,so+n*5+4,none⟩))),(fun u _=>u=(.slice an3 (plan1 p)[n].nodes.length cn3)),kNA0 B0 (plan1 p)[n].nodes,(fun u _=>u=(.pointer (some ⟨gj,k*9,none⟩))),(fun u _=>u=(.pointer (some ⟨gj,k*9+8,none⟩)))] (by kernel_rfl) (by kernel_rfl) (by kernel_rfl) rfl ?_ (by (repeat' (first | exact trivial | exact XReg.GoodK.same _ default | refine And.intro ?_ ?_));all_goals (first | exact kEA0_good _ | exact kNA0_good _ _ (by have:=HNL.out;unfold maxLen;omega))))
        refine YReg.va (.pointer (some ⟨gb,1,none⟩)) ?_
        refine YReg.va (.slice (some ⟨gj,0,none⟩) p.jobs.length cj) ?_
        refine YReg.va (.int .i64 (k:Int)) ?_
        refine YReg.kind (fun w' hw' hF'=>?_) (fun v1 w1 hK=>?_)
        ·have HSW:Hid (B0≤w'.heap.size):=tH (by rw[HB0.out];exact hw'.below.size)
         have HK9:=tH (kEA0_in (W:=w') (g:=w'.heap.size) (B:=B0) rfl HSW.out)
         clear hF' hw'
         go_wp2
         exact⟨xE,HK9.out⟩
        obtain⟨ge,rfl,hq1⟩:=hK
        clear hq1 w1
        refine YReg.va (.slice (some ⟨sb,so,none⟩) (plan1 p).length sc) ?_
        refine YReg.va (.int .i64 (n:Int)) ?_
        refine YReg.va (.pointer (some ⟨sb,so+n*5,none⟩)) ?_
        refine YReg.va (.pointer (some ⟨sb,so+n*5+4,none⟩)) ?_
        refine YReg.va (.slice an3 (plan1 p)[n].nodes.length cn3) ?_
        refine YReg.kind (fun w' hw' hF'=>?_) (fun v1 w1 hK=>?_)
        ·have HSW:Hid (B0≤w'.heap.size):=tH (by rw[HB0.out];exact hw'.below.size)
         have HE:=tH (hF'.get 3 (p:=(kEA0 B0,.slice (some ⟨ge,0,none⟩) 0 0)) (by kernel_rfl) (by kernel_rfl))
         have HNW:=tH (slr_with (HNI3.out.ext rInt_stable hw') (r':=fun _ cs x=>cs=intCell x) fun cs x hm hc=>hc.1)
         obtain⟨X9,rfl⟩:=hw'
         clear hF'
         refine Row.appE (f:=intCell) el_Int rfl _ _ rfl ge rfl _ (plan1 p)[n].nodes rfl (fun _=>rfl) HNW.out ?_ ?_ ?_ (by obtain⟨_,_,h9⟩:=HE.out;exact h9.mono (Nat.zero_le _)) ?_ ?_
         ·intro x u hu
          simp[intCell] at hu
          subst hu;rfl
         ·have:=HNL.out;unfold maxLen;omega
         ·have:=HNL.out;omega
         ·intro hnil
          have H9:Hid (kNA0 B0 (plan1 p)[n].nodes (.slice (some ⟨ge,0,none⟩) 0 0) _):=tH (by
           obtain⟨_,_,h9⟩:=HE.out
           rw[hnil]
           exact⟨_,_,rfl,h9⟩)
          clear hnil
          go_wp2
          exact⟨xE,H9.out⟩
         ·intro v' Y' hR
          obtain⟨a9,c9,rfl⟩:=hR.shape
          have H9:Hid (kNA0 B0 (plan1 p)[n].nodes (.slice a9 (plan1 p)[n].nodes.length c9) _):=tH ⟨_,_,rfl,hR.mono HSW.out⟩
          clear hR
          go_wp2
          exact⟨xE,H9.out⟩
        obtain⟨a9,c9,rfl,hq2⟩:=hK
        clear hq2 w1
        refine YReg.va (.pointer (some ⟨gj,k*9,none⟩)) ?_
        refine YReg.va (.pointer (some ⟨gj,k*9+8,none⟩)) ?_
        refine YReg.done1 (fun X31 hF=>?_)
        have hrow:Row B0 (Wb.plus X31) 2 1 intCell (.slice a9 (plan1 p)[n].nodes.length c9) (plan1 p)[n].nodes:=by
         obtain⟨a8,c8,hv8,h8⟩:=hF 9 (kNA0 B0 (plan1 p)[n].nodes,.slice a9 (plan1 p)[n].nodes.length c9) (by kernel_rfl)
         obtain⟨rfl,rfl⟩:a9=a8∧c9=c8:=by simpa using hv8
         exact h8
        have HROW:=tH hrow
        clear hF hrow
        go_upto_region 26 with fail
        refine gen_world (fun Wc hWc=>?_)
        have hgc:Wc.heap[gj]?=some (.cells (((cur.setIfInBounds (k*9+6) (.int .i64 2)).setIfInBounds (k*9+7) (.int .i64 (plan1 p)[n].start)).setIfInBounds (k*9+8) (.slice a9 (plan1 p)[n].nodes.length c9)) 92 (0,0)):=by rw[hWc];exact heap_ext (setCell_heap HGB2.out _ _) xE
        have HCc:Hid (Chg [gj] (Wb.plus X31) Wc):=tH (by
         have hog9:Wb.old gj:=(Array.getElem?_eq_some_iff.1 HGB2.out).1
         rw[hWc]
         rw[← World.setCell_plus _ _ _ _ _ hog9]
         exact Chg.setCell (Chg.refl _ _) (.inl (by simp)) _)
        clear hWc i8 hfz hog o1 oo u8 z4 zo
        have HCQ:Hid (Chg [gj] Wq Wc):=tH ((HCa.out.trans HCb.out).trans ((Ext.chg ((Ext.refl Wb).plus X31) _).trans HCc.out))
        have HX:=runs_own (w0:=wr) HOQ.out HGH.out hgc HCQ.out HCc.out HROW.out (by rw[HB0.out];exact Nat.le_trans HCa.out.size HCb.out.size) (by rw[HB0.out];simp) hk HGF.out (by have h1:=HGB.out;have h2:=HOB8.out.old;have h3:=HEQ.out.below.size;unfold World.old at h2;omega)
        obtain⟨fp',hsub,hown⟩:=HX
        have HOW:Hid (Own (w.heap.size+1+1) Wc oJobS fp' [.slice (some ⟨gj,0,none⟩) p.jobs.length cj] (foldA (p.now+1) (jobs2 p) ((plan1 p).take (n+1)))):=tH (by rw[HFA.out,HYS.out];exact hown)
        have HCW:Hid (Chg (blkL (.slice (some ⟨gj,0,none⟩) p.jobs.length cj)) W5 Wc):=tH ((HC8.out.trans (HEQ.out.chg _)).trans (HCQ.out.mono (fun q hq=>by obtain rfl:=List.mem_singleton.1 hq;simp[blkL])))
        have HSW:Hid (∀ q∈fp',q∈fj∨wo2.heap.size≤q):=tH (fun q hq=>by
         rcases hsub q hq with h9 | h9
         ·exact HSB3.out q h9
         ·right
          have h1:=HEQ.out.below.size
          have h2:=HCa.out.size
          have h3:=HCb.out.size
          have h4:=HWS.out
          rw[HB0.out] at h9
          omega)
        have HWW:Hid (wo2.heap.size≤Wc.heap.size):=tH (Nat.le_trans HWS.out (Nat.le_trans HEQ.out.below.size HCQ.out.size))
        clear hgc hsub hown
        go_wp2
        exact⟨⟨n+1,fp',by omega,by go_num,HCW,HWW,HSW,HOW⟩,by simp[intOf];omega⟩
       ·have hlb:decide ((plan1 p)[n].start≤p.now+1)=false:=decide_eq_false hle
        have HNO:=tH (stepA_no (J:=foldA (p.now+1) (jobs2 p) ((plan1 p).take n)) hle)
        clear hle
        go_upto_region 27 with fail
        (refine wp_region_x 8 (by kernel_rfl) (by kernel_rfl) (by kernel_rfl) ?_;(iterate 8 (apply XReg.step;(case h=>(intro w' hw';obtain⟨X',rfl⟩:=hw';go_wp2_with (fail);exact⟨rfl,xE⟩));(case hv=>kernel_rfl)));refine XReg.doneN (fun X=>?_))
        go_wp2
        exact⟨⟨n+1,fj3,by omega,by go_num,tH (HC8.out.trans (Ext.chg (show Ext wr _ from xE) _)),tH (Nat.le_trans HWS.out (by simp)),HSB3,tH (by rw[HFA.out,HNO.out];exact HO8.out.ext oJobS_local oJobS_held xE)⟩,by simp[intOf];omega⟩
      ·obtain rfl:n=(plan1 p).length:=by omega
       have hO9:=HO8.out
       rw[List.take_length] at hO9
       have HO9:=tH hO9
       have HC9:Hid (Chg fj W1 wr):=tH (HC5.out.trans (HC8.out.mono (fun q hq=>HOP.out.2.1.blkL_in q hq)))
       have HRB9:Hid (Blk wr (w.heap.size+1) [.slice none 0 0,.slice none 0 0,(.int .i64 0),(.int .i64 0),(.int .i64 0)] 43):=tH (HRB.out.chg HC9.out (fun hm=>by have:=HLO.out _ (List.mem_append_right _ hm);omega))
       have HCL9:=tH (own_chgD oLabelSS_local oLabelSS_held HC9.out (fun q hq=>HOP.out.2.2 q hq) HOP.out.1)
       have HE9:Hid (Ext w wr):=tH (HC9.out.ext HE1.out (fun q hq=>by have:=HLO.out q (List.mem_append_right _ hq);omega))
       have HDJ:Hid (∀ q∈fc,q∉fj3):=tH (fun q hq hm=>by
        rcases HSB3.out q hm with h9 | h9
        ·exact HOP.out.2.2 q hq h9
        ·have h2:=HHI.out q (List.mem_append_left _ hq)
         have h3:=HWG.out
         have h4:=HOB.out.old
         have h5:=HW2.out
         have h6:=HE5.out.below.size
         unfold World.old at h4
         omega)
       have o0:=HOB8.out.cell 0
       have r0:=HRB9.out.cell 0
       have r1:=HRB9.out.cell 1
       have r2:=HRB9.out.cell 2
       have r3:=HRB9.out.cell 3
       have r4:=HRB9.out.cell 4
       have ro:=HRB9.out.old
       have rf:=HRB9.out.fz
       simp only[List.getElem?_cons_zero,List.getElem?_cons_succ] at o0 r0 r1 r2 r3 r4
       have g5:=set5s_chg wr (w.heap.size+1) (.slice ac p.clear.length cc) (.slice aj p.jobs.length cj) (.int .i64 (p.now+1)) (.int .i64 0) (.int .i64 0)
       have HY0:=tH (HRB9.out.set5s (.slice ac p.clear.length cc) (.slice aj p.jobs.length cj) (.int .i64 (p.now+1)) (.int .i64 0) (.int .i64 0))
       have HXF:=tH (g5.ext HE9.out (by simp))
       have HCF:=tH (HCL9.out.chg oLabelSS_local oLabelSS_held g5 (by simp))
       have HJF:=tH (HO9.out.chg oJobS_local oJobS_held g5 (by simp))
       clear g5 hO9 hsl
       go_wp2
       have y0:=HY0.out.cell 0
       have y1:=HY0.out.cell 1
       have y2:=HY0.out.cell 2
       have y3:=HY0.out.cell 3
       have y4:=HY0.out.cell 4
       simp only[List.getElem?_cons_zero,List.getElem?_cons_succ] at y0 y1 y2 y3 y4
       refine bodyPost_ret (v:=.agg #[.slice ac p.clear.length cc,.slice aj p.jobs.length cj,(.int .i64 (p.now+1)),(.int .i64 0),(.int .i64 0)]) (by simp[results,Tryz.results39,go_sem,y0,y1,y2,y3,y4]) rfl ⟨.slice ac p.clear.length cc,.slice aj p.jobs.length cj,fc,fj3,(by unfold poV advP;rfl),HXF.out,?_⟩
       unfold advP
       exact And.intro (HCF.out.mono (by omega)) (And.intro (HJF.out.mono (by omega)) HDJ.out)
theorem specAdvance_any (p:Pl) (v:Value) (w:World) (h:ePool w v p) (hf:p.fits 1048576) :
  Calls Tryz.prog 39 #[v] w fun e w'=>∃ cv jv fc fj,e=.returned (poV (advR p).1 (advR p).2.1 (advR p).2.2 cv jv)∧Ext w w'∧OwnP w.heap.size w' fc fj cv jv (advR p).1:=by
 cases hq:poolR p
 ·rw[advR_form hq];exact specAdvance_form p v w h hq
 ·by_cases hn:p.now=999900
  ·rw[advR_full hq hn];exact specAdvance_full p v w h hq hn
  ·rw[advR_yes hq hn];exact specAdvance_yes p v w h hf (tH hq) hn
end Go.Proofs.YtbmbanelodabgaaGreatDoor
