/- The reference's View, walked. -/
import Derived.Test.YtdoeoojjabnboaaGreatKVBC
import Derived.Test.YtdoeoojjabnboaaGreatKBL
import Derived.Test.YtdoeoojjabnboaaGreatKZZ3
set_option maxRecDepth 100000
set_option linter.unusedVariables false
namespace Go.Proofs.YtdoeoojjabnboaaGreat
open Go.RowKit Go.Fin1
theorem RowJ.jobs {B:Nat} {w:World} {v:Value} {rs:List RJ} (h:RowJ B w v rs):SlR w 9 rJob v (rs.map Prod.fst):=row_jobs h.row fun r hr=>by
 obtain⟨h1,h2,h3⟩:=h.nd r hr
 obtain⟨fp,hO⟩:=Row.own (f:=intCell) (K:=1) (fun _=>rfl) h3
 refine⟨h1,slr_with (oFl_reads (f:=intCell) (fun _=>rfl) hO.1) fun cs x hm hc=>⟨hc,h2 x hm⟩⟩
theorem filt_take {l:List Jb} {k:Nat} (h:k < l.length) (f:Jb→Bool):(l.take (k+1)).filter f=if f l[k]=true then (l.take k).filter f++[l[k]] else (l.take k).filter f:=by
 rw[List.take_succ_eq_append_getElem h,List.filter_append]
 by_cases hf:f l[k]=true
 ·rw[if_pos hf,List.filter_cons_of_pos hf];rfl
 ·rw[if_neg hf,List.filter_cons_of_neg hf,List.filter_nil,List.append_nil]
theorem numsS_nine (t:ByteArray) (j:Jb):t++putNum j.l.lv++putNum j.l.st++putNum j.id++putNum j.need++putNum j.long++putNum j.prio++putNum j.state++putNum j.start++putNum (j.nodes.length:Int)=t++numsS (headJ j):=by
 unfold numsS headJ
 simp only[List.foldl_cons,List.foldl_nil,ba_nil,ByteArray.append_assoc]
theorem sortedJ_mem {l:List Jb} (hn:l.Pairwise NeJ) {j:Jb} (h:j∈sortedJ l):j∈l:=by
 unfold sortedJ at h
 have h2:=((sortedJ_all (l:=l) (acc:=[]) List.Pairwise.nil hn (fun _ h=>by cases h)).2 j).1 h
 simpa using h2
theorem viewL_sizeT (now:Int) {L:List Jb} (h:∀ j∈L,j.nodes.length≤6) (hl:L.length≤96) (n:Nat) (f:Jb→Bool):(viewL now ((L.take n).filter f)).size≤14410:=by
 refine Nat.le_trans (viewL_size now _ fun j hj=>h j (List.mem_of_mem_take (List.mem_filter.1 hj).1)) ?_
 have h1:=List.length_filter_le f (L.take n)
 rw[List.length_take] at h1
 omega
set_option maxHeartbeats 3200000 in
theorem specView_any (p:Pl) (x:Lab) (v:Value) (w:World) (h:ePool w v p) :
  Calls Tryz.prog 20 #[v,x.val] w fun e w'=>e=.returned (.string (viewS p x))∧Ext w w':=by
 have HP:=tH h
 obtain⟨a,c,b,d,rfl,hnow,h1,h2⟩:=h
 have HJ:=tH h2
 have HNW:=tH hnow
 clear h1 h2 hnow
 cases hp:poolR p
 ·have HV:Hid (viewS p x=⟨#[]⟩):=tH (by unfold viewS;rw[hp];rfl)
  go_enter Tryz.func20,Tryz.ntmps20
  unfold Pl.val Lab.val
  go_wp2_with fail
  refine(specPoolRight_any p _ _ (HP.out.ext xE)).mono ?_
  rintro e _ ⟨rfl,X,rfl⟩
  rw[hp]
  go_wp2
  go_ret
  exact⟨ret_str HV.out.symm,xE⟩
 cases hl:labR x
 ·have HV:Hid (viewS p x=⟨#[]⟩):=tH (by unfold viewS;rw[hp,hl];rfl)
  go_enter Tryz.func20,Tryz.ntmps20
  unfold Pl.val Lab.val
  go_wp2_with fail
  refine(specPoolRight_any p _ _ (HP.out.ext xE)).mono ?_
  rintro e _ ⟨rfl,X,rfl⟩
  rw[hp]
  go_wp2_with fail
  refine(specLabelRight_any _ _ _).mono ?_
  rintro e _ ⟨rfl,X2,rfl⟩
  rw[hl]
  go_wp2
  go_ret
  exact⟨ret_str HV.out.symm,xE⟩
 have HV:Hid (viewS p x=viewL p.now ((sortedJ p.jobs).filter (fun j=>blw j.l x))):=tH (by unfold viewS;rw[hp,hl];unfold seesL;rfl)
 have HJR:=tH (poolR_jobs hp).1
 have hjl:p.jobs.length≤96:=jobsR_len HJR.out
 go_enter Tryz.func20,Tryz.ntmps20
 unfold Pl.val Lab.val
 go_wp2_with fail
 refine(specPoolRight_any p _ _ (HP.out.ext xE)).mono ?_
 rintro e _ ⟨rfl,X,rfl⟩
 rw[hp]
 go_wp2_with fail
 refine(specLabelRight_any _ _ _).mono ?_
 rintro e _ ⟨rfl,X2,rfl⟩
 rw[hl]
 clear hp hl
 go_wp2_with fail
 refine(specPutNum_any _ HNW.out _).mono ?_
 rintro e _ ⟨rfl,X3,rfl⟩
 go_wp2_with fail
 refine(l04Sorted_any _ p.jobs _ (HJ.out.ext rJob_stable xE) (by omega) (fun j hj=>by have:=jobR_nodes (jobsR_mem HJR.out hj);omega)).mono ?_
 rintro e _ ⟨v',rs,rfl,⟨X4,rfl⟩,hR,hm⟩
 have hS:=hR.jobs
 rw[hm] at hS
 have HN6:Hid (∀ j∈sortedJ p.jobs,j.nodes.length≤6):=tH (fun j hj=>jobR_nodes (jobsR_mem HJR.out (sortedJ_mem (jobsR_ne HJR.out) hj)))
 have hsl:(sortedJ p.jobs).length≤96:=by rw[sortedJ_len];exact hjl
 generalize sortedJ p.jobs=L at HV hS hm HN6 hsl
 obtain⟨sa,sc,rfl⟩:=hS.len
 have HS:=tH hS
 clear hS hR hm hjl
 go_upto_region 5 with fail
 refine gen_world (fun W hW=>?_)
 have HE0:Hid (Ext w W):=tH (by rw[hW];exact xE)
 rw[← hW] at HS
 have n0:W.cell? ⟨w.heap.size+1,0,none⟩=some (.int .i64 x.lv):=by rw[hW];simp[go_sem]
 have n1:W.cell? ⟨w.heap.size+1,1,none⟩=some (.int .i64 x.st):=by rw[hW];simp[go_sem]
 have no:=World.old_of_cell n0
 clear hW X X2 X3 X4 HP HJ HNW HJR
 go_wp2
 go_loopw [7,5] (fun i t wr=>∃ n:Nat,n≤L.length∧i=.int .i64 n∧t=.string (viewL p.now ((L.take n).filter (fun j=>blw j.l x)))∧Ext W wr) (fun i _ _=>L.length-(intOf i).toNat)
 case atStart=>exact⟨0,Nat.zero_le _,rfl,by rw[List.take_zero,List.filter_nil,viewL_nil],xE⟩
 case round =>
  obtain⟨n,hn,rfl,rfl,⟨X0,rfl⟩⟩:=hrel
  by_cases hlt:n < L.length
  ·obtain⟨bj,oj,rfl⟩:=slr_some HS.out hlt
   obtain⟨ho,na,nc,hok,hsn,c0,c1,c2,c3,c4,c5,c6,c7,c8⟩:=job_at HS.out hlt
   have HN:=tH hsn
   have HFT:=tH (filt_take hlt (fun j=>blw j.l x))
   have hz:=viewL_sizeT p.now HN6.out hsl n (fun j=>blw j.l x)
   have hn6:=HN6.out _ (List.getElem_mem hlt)
   clear hsn
   cases hb:blw L[n].l x
   ·have hb':blw ⟨L[n].l.lv,L[n].l.st⟩ ⟨x.lv,x.st⟩=false:=hb
    have HB:=tH hb
    clear hb hok
    go_wp2_with fail
    refine(specbelow_any _ _ _ _ _).mono ?_
    rintro e _ ⟨rfl,⟨Y,rfl⟩⟩
    rw[hb']
    go_wp2
    exact⟨⟨n+1,by omega,by go_num,by rw[HFT.out,if_neg (by rw[HB.out];simp)],xE⟩,by simp[intOf];omega⟩
   have hb':blw ⟨L[n].l.lv,L[n].l.st⟩ ⟨x.lv,x.st⟩=true:=hb
   have HB:=tH hb
   obtain⟨⟨i1,i2⟩,i3,i4,i5,i6,i7,i8⟩:=hok
   have i9:I64 (L[n].nodes.length:Int):=⟨by omega,by omega⟩
   clear hb
   go_wp2_with fail
   refine(specbelow_any _ _ _ _ _).mono ?_
   rintro e _ ⟨rfl,⟨Y,rfl⟩⟩
   rw[hb']
   have z1:=putNum_size L[n].l.lv
   have z2:=putNum_size L[n].l.st
   have z3:=putNum_size L[n].id
   have z4:=putNum_size L[n].need
   have z5:=putNum_size L[n].long
   have z6:=putNum_size L[n].prio
   have z7:=putNum_size L[n].state
   have z8:=putNum_size L[n].start
   have z9:=putNum_size (L[n].nodes.length:Int)
   have HNI:=tH (numsS_nine (viewL p.now ((L.take n).filter (fun j=>blw j.l x))) L[n])
   have HTK:=tH (viewL_snoc p.now ((L.take n).filter (fun j=>blw j.l x)) L[n])
   have hz2:=headJ_size L[n]
   generalize hT:viewL p.now ((L.take n).filter (fun j=>blw j.l x))=T at hz HNI HTK ⊢
   clear hT
   go_upto_region 10 with fail
   (refine wp_region_x 41 (by kernel_rfl) (by kernel_rfl) (by kernel_rfl) ?_;(iterate 41 (apply XReg.step;(case h=>(intro w' hw';obtain⟨X',rfl⟩:=hw';go_wp2_with ((go_at_call 69;refine(specPutNum_any _ (by assumption) _).mono ?_;rintro e _ ⟨rfl,X,rfl⟩));exact⟨rfl,xE⟩));(case hv=>kernel_rfl)));refine XReg.doneN (fun X=>?_))
   rw[HNI.out]
   clear z1 z2 z3 z4 z5 z6 z7 z8 z9 i1 i2 i3 i4 i5 i6 i7 i8 i9 n0 n1 no
   obtain⟨T2,hT2⟩:∃ T2,T2=T++numsS (headJ L[n]):=⟨_,rfl⟩
   have hzT:T2.size≤14500:=by rw[hT2,ByteArray.size_append];omega
   rw[← hT2] at HTK ⊢
   clear hz2 hT2
   go_upto_region 11 with fail
   refine gen_world (fun W2 hW2=>?_)
   have HE2:Hid (Ext W W2):=tH (by rw[hW2];exact xE)
   have HA2:Hid (CellsAt W2 (W.heap.size+X0.n) (L[n].cells (.slice na L[n].nodes.length nc))):=tH (by rw[hW2];exact(CellsAt.of_heap (cs:=L[n].cells (.slice na L[n].nodes.length nc)) (Blk.new (w:=W.plus X0) (cs:=(L[n].cells (.slice na L[n].nodes.length nc)).toArray) (by simp[go_sem]))).ext xE)
   clear hW2
   go_wp2
   go_loopw [9,5] (fun k t wr=>∃ m:Nat,m≤L[n].nodes.length∧k=.int .i64 m∧t=.string (T2++numsS (L[n].nodes.take m))∧Ext W2 wr) (fun k _ _=>L[n].nodes.length-(intOf k).toNat)
   case atStart=>exact⟨0,Nat.zero_le _,rfl,by rw[List.take_zero];exact congrArg Value.string (ba_nil' _).symm,xE⟩
   case round =>
    obtain⟨m,hm,rfl,rfl,⟨X',rfl⟩⟩:=hrel
    have ca8:=HA2.out 8 _ rfl
    have hoA:=CellsAt.old (u:=.int .i64 L[n].l.lv) HA2.out rfl
    by_cases hlt2:m < L[n].nodes.length
    ·obtain⟨bn,offn,rfl⟩:=slr_some HN.out hlt2
     obtain⟨hon,hokn,hn0⟩:=int_at (HN.out.ext rInt_stable HE2.out) hlt2
     have hzm:=numsS_size L[n].nodes m hm
     have hz1:=putNum_size L[n].nodes[m]
     have HNT:=tH (numsS_take hlt2)
     go_wp2_with fail
     refine(specPutNum_any _ hokn _).mono ?_
     rintro e _ ⟨rfl,Y9,rfl⟩
     go_wp2
     exact⟨⟨m+1,by omega,by go_num,by rw[HNT.out,ByteArray.append_assoc],xE⟩,by simp[intOf];omega⟩
    ·obtain rfl:m=L[n].nodes.length:=by omega
     go_wp2
     exact⟨⟨n+1,by omega,by go_num,by rw[HFT.out,if_pos HB.out,HTK.out,List.take_length],HE2.out.trans xE⟩,by simp[intOf];omega⟩
  ·obtain rfl:n=L.length:=by omega
   go_wp2
   go_ret
   exact⟨ret_str (by rw[HV.out,List.take_length]),HE0.out.trans xE⟩
end Go.Proofs.YtdoeoojjabnboaaGreat
