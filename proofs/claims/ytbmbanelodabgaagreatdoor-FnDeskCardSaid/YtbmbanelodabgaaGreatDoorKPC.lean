/- The reference's l05Stays, l05Rows. -/
import Derived.Test.YtbmbanelodabgaaGreatDoorKPAB
import Derived.Test.YtbmbanelodabgaaGreatDoorKQA1
import Derived.Test.YtbmbanelodabgaaGreatDoorKPA1
set_option maxRecDepth 100000
set_option linter.unusedVariables false
namespace Go.Proofs.YtbmbanelodabgaaGreatDoor
open Go.RowKit Go.Fin1
theorem staysP_no {now:Int} {rows:List (List Spn)} {j:Jb} {k:Nat} (hk:k < j.nodes.length) (h:freeAt rows ⟨now,j.start+j.long⟩ j.nodes[k]=false):staysP now rows j=false:=by
 unfold staysP
 rw[show j.nodes.all (freeAt rows ⟨now,j.start+j.long⟩)=false by rw[List.all_eq_false];exact⟨_,List.getElem_mem hk,by simp[h]⟩,Bool.and_false]
theorem staysP_yes {now:Int} {rows:List (List Spn)} {j:Jb} (h:∀ q (hq:q < j.nodes.length),freeAt rows ⟨now,j.start+j.long⟩ j.nodes[q]=true):staysP now rows j=(j.state == 2):=by
 unfold staysP
 rw[show j.nodes.all (freeAt rows ⟨now,j.start+j.long⟩)=true by rw[List.all_eq_true];intro x hx;obtain⟨i,hi,rfl⟩:=List.mem_iff_getElem.1 hx;exact h i hi,Bool.and_true]
set_option maxHeartbeats 1600000 in
theorem l05Stays_any (cv jv:Value) (now:Int) (rv:Value) (rows:List (List Spn)) (j:Jb) (u:Value) (w:World) (h:SlR w 1 rSpnS rv rows) (hu:SlR w 1 rInt u j.nodes) (hn:0≤now∧now≤999900) (hj:JOk now rows.length j) :
  Calls Tryz.prog 93 #[.agg #[cv,jv,(.int .i64 now)],rv,j.val u] w fun e w'=>e=.returned (.bool (staysP now rows j))∧Ext w w':=by
 obtain⟨ra,rc,rfl⟩:=h.len
 obtain⟨ua,uc,rfl⟩:=hu.len
 obtain⟨_,hlc,hcm⟩:=slr_len hu
 have hlm:j.nodes.length≤9223372036854775807:=by unfold maxLen at hcm;omega
 clear hcm hlc
 have HR:=tH h
 have HU:=tH hu
 have HJ:=tH hj
 clear h hu hj
 go_enter Tryz.func93,Tryz.ntmps93
 unfold Jb.val
 go_wp2
 go_loopw [7] (fun i wr=>∃ k:Nat,k≤j.nodes.length∧i=.int .i64 k∧Ext ((w.alloc (.cells #[cv,jv,(.int .i64 now)] 41)).alloc (.cells #[(.int .i64 j.l.lv),(.int .i64 j.l.st),(.int .i64 j.id),(.int .i64 j.need),(.int .i64 j.long),(.int .i64 j.prio),(.int .i64 j.state),(.int .i64 j.start),.slice ua j.nodes.length uc] 92)) wr∧Hid (∀ q (hq:q < j.nodes.length),q < k→freeAt rows ⟨now,j.start+j.long⟩ j.nodes[q]=true)) (fun i _=>j.nodes.length-(intOf i).toNat)
 case atStart=>exact⟨0,Nat.zero_le _,rfl,xE,tH (fun q _ hq=>absurd hq (Nat.not_lt_zero _))⟩
 case round =>
  obtain⟨k,hk,rfl,⟨X,rfl⟩,HH⟩:=hrel
  by_cases hlt:k < j.nodes.length
  ·have hst:j.state=2:=Classical.byContradiction fun e=>by rw[HJ.out.off e] at hlt;exact absurd hlt (Nat.not_lt_zero _)
   obtain⟨⟨b1,b2,b3⟩,_,hin⟩:=HJ.out.run hst
   have hin:=hin _ (List.getElem_mem hlt)
   obtain⟨b4,b5⟩:=HJ.out.long
   obtain⟨bn,on,rfl⟩:=slr_some HU.out hlt
   obtain⟨hon,hok,hn0⟩:=int_at HU.out hlt
   obtain⟨q,hq⟩:=Int.eq_ofNat_of_zero_le hin.1
   have hql:q < rows.length:=by omega
   obtain⟨br,orr,rfl⟩:=slr_some HR.out hql
   obtain⟨hor,vx,hsx,hcr⟩:=sl_at HR.out hql
   obtain⟨ax,cx,rfl⟩:=hsx.len
   have HX:=tH hsx
   have HFQ:Hid (freeAt rows ⟨now,j.start+j.long⟩ j.nodes[k]=freeL rows[q] ⟨now,j.start+j.long⟩):=tH (by rw[hq];unfold freeAt;simp[hql])
   rw[hq] at hn0
   clear hsx hok hin hst hq
   go_upto_region 4 with fail
   cases hf:freeL rows[q] ⟨now,j.start+j.long⟩
   ·(refine wp_region_x 18 (by kernel_rfl) (by kernel_rfl) (by kernel_rfl) ?_;(iterate 18 (apply XReg.step;(case h=>(intro w' hw';obtain⟨X',rfl⟩:=hw';go_wp2_with ((go_at_call 123;refine(l03Free_any _ rows[q] _ _ _ (HX.out.ext rSpn_stable xE)).mono ?_;rintro e _ ⟨rfl,Y,rfl⟩;rw[hf]));exact⟨rfl,xE⟩));(case hv=>kernel_rfl)));refine XReg.doneN (fun X=>?_))
    go_wp2
    go_ret
    exact⟨ret_bool (staysP_no hlt (by rw[HFQ.out,hf])).symm,xE⟩
   ·(refine wp_region_x 18 (by kernel_rfl) (by kernel_rfl) (by kernel_rfl) ?_;(iterate 18 (apply XReg.step;(case h=>(intro w' hw';obtain⟨X',rfl⟩:=hw';go_wp2_with ((go_at_call 123;refine(l03Free_any _ rows[q] _ _ _ (HX.out.ext rSpn_stable xE)).mono ?_;rintro e _ ⟨rfl,Y,rfl⟩;rw[hf]));exact⟨rfl,xE⟩));(case hv=>kernel_rfl)));refine XReg.doneN (fun X=>?_))
    have HF:=tH hf
    clear hf
    go_wp2
    exact⟨⟨k+1,by omega,by go_num,xE,tH (fun i hi hik=>by
     by_cases e:i < k
     ·exact HH.out i hi e
     ·obtain rfl:i=k:=by omega
      rw[HFQ.out,HF.out])⟩,by simp[intOf];omega⟩
  ·have HY:=tH (staysP_yes (now:=now) (rows:=rows) (j:=j) (fun q hq=>HH.out q hq (by omega)))
   go_wp2
   go_ret
   exact⟨ret_bool HY.out.symm,xE⟩
theorem ownP_take {clear:List (List Lab)} {rows:List (List Spn)} {l:Lab} {k:Nat} (h:k < rows.length):(ownP clear rows l).take (k+1)=(ownP clear rows l).take k++[ownAt clear rows l k]:=by
 have h2:k < (ownP clear rows l).length:=by rw[ownP_len];exact h
 rw[List.take_succ_eq_append_getElem h2]
 congr 2
 have:=ownP_get (clear:=clear) (l:=l) h
 rw[List.getElem?_eq_getElem h2] at this
 exact Option.some.inj this
set_option maxHeartbeats 3200000 in
theorem l05Rows_any (ca:Option Addr) (cc:Nat) (clear:List (List Lab)) (jv:Value) (now:Int) (rv:Value) (rs:List RW) (x:Lab) (w:World) (h:RowR 0 w rv rs) (hc:SlR w 1 rLabS (.slice ca clear.length cc) clear) (hl:clear.length=rs.length) (h6:rs.length≤6) :
  Calls Tryz.prog 94 #[.agg #[.slice ca clear.length cc,jv,(.int .i64 now)],rv,x.val] w fun e w'=>∃ v' rs',e=.returned v'∧Ext w w'∧RowR w.heap.size w' v' rs'∧rs'.map Prod.fst=ownP clear (rs.map Prod.fst) x∧∀ r∈rs',r∈rs∨∀ b∈blkL (RW.nv r),w.heap.size≤b:=by
 obtain⟨ra,rcp,rfl⟩:∃ ra rcp,rv=.slice ra rs.length rcp:=h.row.shape
 have HR:=tH h
 have HC:=tH hc
 have HLC:=tH hl
 clear h hc hl
 go_enter Tryz.func94,Tryz.ntmps94
 unfold Lab.val
 go_upto_region 1 with fail
 refine gen_world (fun W1 hW1=>?_)
 have HE0:Hid (Ext w W1):=tH (by rw[hW1];exact xE)
 have p0:W1.cell? ⟨w.heap.size,0,none⟩=some (.slice ca clear.length cc):=by rw[hW1];simp[go_sem]
 have n0:W1.cell? ⟨w.heap.size+1,0,none⟩=some (.int .i64 x.lv):=by rw[hW1];simp[go_sem]
 have n1:W1.cell? ⟨w.heap.size+1,1,none⟩=some (.int .i64 x.st):=by rw[hW1];simp[go_sem]
 have P0:=tH p0
 have N0:=tH n0
 have N1:=tH n1
 clear hW1 p0 n0 n1
 go_wp2
 go_loopw [8,7] (fun i o wr=>∃ k:Nat,∃ rs':List RW,∃ og oc:Nat,k≤rs.length∧i=.int .i64 k∧o=.slice (some ⟨og,0,none⟩) k oc∧Hid (Ext W1 wr)∧Hid (RowR W1.heap.size wr o rs')∧Hid (rs'.length=k)∧Hid (rs'.map Prod.fst=(ownP clear (rs.map Prod.fst) x).take k)∧Hid (∀ r∈rs',r∈rs∨∀ b∈blkL (RW.nv r),w.heap.size≤b)) (fun i _ _=>rs.length-(intOf i).toNat)
 case atStart=>exact⟨0,[],_,_,Nat.zero_le _,rfl,rfl,tH xE,tH ⟨Row.made _ _ _ _,fun r hr=>by cases hr⟩,tH rfl,tH rfl,tH (fun r hr=>by cases hr)⟩
 case round =>
  obtain⟨k,rs',og,oc,hk,rfl,rfl,HE,HO,HL,HM,HQ⟩:=hrel
  by_cases hlt:k < rs.length
  ·obtain⟨g,cap,hv⟩:=row_some HR.out.row (Nat.lt_of_le_of_lt (Nat.zero_le _) hlt)
   obtain⟨rfl,rfl⟩:ra=some ⟨g,0,none⟩∧rcp=cap:=by simpa using hv
   clear hv
   have hkc:k < clear.length:=by have:=HLC.out;omega
   obtain⟨bc,ob,rfl⟩:=slr_some HC.out hkc
   obtain⟨hol,vl,hsl,hcl⟩:=sl_at (HC.out.ext rLabS_stable (HE0.out.trans HE.out)) hkc
   obtain⟨al,cl,rfl⟩:=hsl.len
   have HSL:=tH hsl
   have p0:=HE.out.cell P0.out
   have n0:=HE.out.cell N0.out
   have n1:=HE.out.cell N1.out
   have po:=World.old_of_cell p0
   have no:=World.old_of_cell n0
   have hcr:=(HE0.out.trans HE.out).cell (HR.out.cell hlt)
   have hor:=World.old_of_cell hcr
   unfold RW.nv at hcr
   have hfst:(rs.map Prod.fst).getD k []=rs[k].1:=rs_getD rfl hlt
   have HT:=tH (ownP_take (clear:=clear) (rows:=rs.map Prod.fst) (l:=x) (k:=k) (by simpa using hlt))
   have hcg:clear.getD k []=clear[k]:=by simp[hkc]
   have hW1w:W1.heap.size≤wr.heap.size:=HE.out.below.size
   have HWW:=tH hW1w
   clear hsl hW1w
   go_upto_region 5 with fail
   cases hh:hasL clear[k] x
   ·have HA:Hid (ownAt clear (rs.map Prod.fst) x k=wholeL):=tH (by unfold ownAt;rw[hcg,hh];rfl)
    clear hfst hcg
    (refine wp_region_x 7 (by kernel_rfl) (by kernel_rfl) (by kernel_rfl) ?_;(iterate 7 (apply XReg.step;(case h=>(intro w' hw';obtain⟨X',rfl⟩:=hw';go_wp2_with ((go_at_call 60;refine(l05Cleared_any _ clear[k] x _ (HSL.out.ext rLab_stable xE)).mono ?_;rintro e _ ⟨rfl,Y,rfl⟩;rw[hh]));exact⟨rfl,xE⟩));(case hv=>kernel_rfl)));refine XReg.doneN (fun X=>?_))
    clear p0 n0 n1 po no hcr hor hol hcl
    go_upto_region 7 with fail
    refine gen_world (fun W5 hW5=>?_)
    have HE5:Hid (Ext wr W5):=tH (by rw[hW5];exact xE)
    have HO5:=tH (HO.out.ext HE5.out)
    have HB5:Hid (W1.heap.size≤W5.heap.size):=tH (Nat.le_trans HWW.out HE5.out.below.size)
    clear hW5 hh
    go_wp2_with (at_builtin;go_must (refine Row.appN (f:=RW.cells) el_SpnSS rfl _ _ rfl W1.heap.size (by have:=HB5.out;simp;omega) (.slice (some ⟨og,0,none⟩) k oc) rs' rfl (HO5.out.row.ext xE) (wholeL,(some ⟨W5.heap.size,0,none⟩,1)) rfl _ ?_ rfl (fun _=>rfl) ?_ ?_ ?_ ?_);(simp[go_sem]);(intro u hu;exact RW.one (wholeL,(some ⟨W5.heap.size,0,none⟩,1)) u hu);(have:=HL.out;unfold maxLen;omega);(have:=HL.out;omega);intro v8 w8 hR8 hc8;have HR8:=tH hR8;have HC8:=tH hc8;clear hR8 hc8;obtain⟨g8,c8,hv8⟩:=row_some HR8.out (by simp);rw[List.length_append,HL.out] at hv8;simp only[List.length_singleton] at hv8;subst hv8)
    have hbk:∀ q∈blkL (.slice (some ⟨og,0,none⟩) k oc),W1.heap.size≤q:=fun q hq=>(HO5.out.row.blk q hq).1
    refine⟨⟨k+1,rs'++[(wholeL,(some ⟨W5.heap.size,0,none⟩,1))],g8,c8,by omega,by go_num,rfl,tH ?_,tH ?_,tH (by simp[HL.out]),tH ?_,tH ?_⟩,by simp[intOf];omega⟩
    ·exact HC8.out.ext (HE.out.trans (HE5.out.trans xE)) hbk
    ·exact(HO5.out.ext xE).snoc HR8.out HC8.out ⟨fun y hy=>by obtain rfl:=List.mem_singleton.1 hy;exact⟨⟨by decide,by decide⟩,by decide,by decide⟩,row_one (f:=Spn.cells) (K:=2) (⟨0,1000000⟩:Spn) rfl rfl rfl⟩
    ·rw[List.map_append,HM.out,HT.out,HA.out];rfl
    ·intro r hr
     rcases List.mem_append.1 hr with hr | hr
     ·exact HQ.out r hr
     ·obtain rfl:=List.mem_singleton.1 hr
      refine .inr fun b hb=>?_
      obtain rfl:b=W5.heap.size:=by simpa [RW.nv,blkL] using hb
      exact Nat.le_trans HE0.out.below.size HB5.out
   ·have HA:Hid (ownAt clear (rs.map Prod.fst) x k=rs[k].1):=tH (by unfold ownAt;rw[hcg,hh,hfst];rfl)
    clear hfst hcg
    (refine wp_region_x 7 (by kernel_rfl) (by kernel_rfl) (by kernel_rfl) ?_;(iterate 7 (apply XReg.step;(case h=>(intro w' hw';obtain⟨X',rfl⟩:=hw';go_wp2_with ((go_at_call 60;refine(l05Cleared_any _ clear[k] x _ (HSL.out.ext rLab_stable xE)).mono ?_;rintro e _ ⟨rfl,Y,rfl⟩;rw[hh]));exact⟨rfl,xE⟩));(case hv=>kernel_rfl)));refine XReg.doneN (fun X=>?_))
    clear p0 n0 n1 po no hol hcl hcr hor
    go_upto_region 6 with fail
    refine gen_world (fun W5 hW5=>?_)
    have HE5:Hid (Ext wr W5):=tH (by rw[hW5];exact xE)
    have hcr:=((HE0.out.trans HE.out).trans HE5.out).cell (HR.out.cell hlt)
    have hor:=World.old_of_cell hcr
    unfold RW.nv at hcr
    have HO5:=tH (HO.out.ext HE5.out)
    have HB5:Hid (W1.heap.size≤W5.heap.size):=tH (Nat.le_trans HWW.out HE5.out.below.size)
    clear hW5 hh
    go_wp2_with (at_builtin;go_must (refine Row.appN (f:=RW.cells) el_SpnSS rfl _ _ rfl W1.heap.size HB5.out (.slice (some ⟨og,0,none⟩) k oc) rs' rfl HO5.out.row rs[k] rfl _ ?_ rfl (fun _=>rfl) ?_ ?_ ?_ ?_);(simp[go_sem]);(intro u hu;exact RW.one rs[k] u hu);(have:=HL.out;unfold maxLen;omega);(have:=HL.out;omega);intro v8 w8 hR8 hc8;have HR8:=tH hR8;have HC8:=tH hc8;clear hR8 hc8;obtain⟨g8,c8,hv8⟩:=row_some HR8.out (by simp);rw[List.length_append,HL.out] at hv8;simp only[List.length_singleton] at hv8;subst hv8)
    have hbk:∀ q∈blkL (.slice (some ⟨og,0,none⟩) k oc),W1.heap.size≤q:=fun q hq=>(HO5.out.row.blk q hq).1
    refine⟨⟨k+1,rs'++[rs[k]],g8,c8,by omega,by go_num,rfl,tH ?_,tH ?_,tH (by simp[HL.out]),tH ?_,tH ?_⟩,by simp[intOf];omega⟩
    ·exact HC8.out.ext (HE.out.trans HE5.out) hbk
    ·obtain⟨q1,q2⟩:=HR.out.nd _ (List.getElem_mem hlt)
     exact HO5.out.snoc HR8.out HC8.out ⟨q1,q2.ext ((HE0.out.trans HE.out).trans HE5.out)⟩
    ·rw[List.map_append,HM.out,HT.out,HA.out];rfl
    ·intro r hr
     rcases List.mem_append.1 hr with hr | hr
     ·exact HQ.out r hr
     ·obtain rfl:=List.mem_singleton.1 hr
      exact .inl (List.getElem_mem hlt)
  ·obtain rfl:k=rs.length:=by omega
   go_wp2
   go_ret
   refine⟨_,rs',rfl,HE0.out.trans (HE.out.trans xE),(HO.out.ext xE).mono HE0.out.below.size,?_,HQ.out⟩
   rw[HM.out,List.take_of_length_le]
   rw[ownP_len];simp
end Go.Proofs.YtbmbanelodabgaaGreatDoor
