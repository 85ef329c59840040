/- lwPool, lwPools. -/
import Derived.Test.YtdoeoojjabnboaaGreatKZZ3
import Derived.Test.YtdoeoojjabnboaaGreatKZZ9
import Derived.Test.YtdoeoojjabnboaaGreatKPQ
import Derived.Test.YtdoeoojjabnboaaGreatKTT
import Derived.Test.YtdoeoojjabnboaaGreatKJE
import Derived.Lib.SliceRun
set_option maxRecDepth 100000
set_option linter.unusedVariables false
namespace Go.Proofs.YtdoeoojjabnboaaGreat
open Go.RowKit Go.Fin1
set_option maxHeartbeats 1600000 in
theorem lwJob9_self (j:Jb) (nv nv':Value) (w:World) (h:SlR w 1 rInt nv j.nodes) (h':SlR w 1 rInt nv' j.nodes) :
  Calls Tryz.prog 87 #[j.val nv,j.val nv'] w fun e w'=>e=.returned (.bool true)∧Ext w w':=by
 obtain⟨a,c,rfl⟩:=h.len
 obtain⟨b,d,rfl⟩:=h'.len
 have H1:=tH h
 have H2:=tH h'
 clear h h'
 have hs:sameL ⟨j.l.lv,j.l.st⟩ ⟨j.l.lv,j.l.st⟩=true:=sameL_self _
 unfold Jb.val
 go_enter Tryz.func87,Tryz.ntmps87
 go_wp2_with fail
 refine(lwNums_self _ _ j.nodes _ (H1.out.ext rInt_stable xE) (H2.out.ext rInt_stable xE)).mono ?_
 rintro e _ ⟨rfl,X,rfl⟩
 go_wp2
 go_ret
 exact⟨rfl,xE⟩
set_option maxHeartbeats 3200000 in
theorem lwPool_self (p:Pl) (v v':Value) (w:World) (h:ePool w v p) (h':ePool w v' p) :
  Calls Tryz.prog 32 #[v,v'] w fun e w'=>e=.returned (.bool true)∧Ext w w':=by
 obtain⟨a,c,b,d,rfl,h0,h1,h2⟩:=h
 obtain⟨a',c',b',d',rfl,_,h1',h2'⟩:=h'
 obtain⟨-,hlc,hcm⟩:=slr_len h1
 obtain⟨-,hlj,hjm⟩:=slr_len h2
 have hcl:p.clear.length≤9223372036854775807:=by unfold maxLen at hcm;omega
 have hjl:p.jobs.length≤9223372036854775807:=by unfold maxLen at hjm;omega
 clear hcm hlc hjm hlj
 have HC:=tH h1
 have HJ:=tH h2
 have HC':=tH h1'
 have HJ':=tH h2'
 clear h0 h1 h2 h1' h2'
 go_enter Tryz.func32,Tryz.ntmps32
 unfold Pl.val
 go_wp2
 go_loopw [5] (fun i wr=>∃ k:Nat,k≤p.jobs.length∧i=.int .i64 k∧Ext ((w.alloc (.cells #[.slice a p.clear.length c,.slice b p.jobs.length d,(.int .i64 p.now)] 26)).alloc (.cells #[.slice a' p.clear.length c',.slice b' p.jobs.length d',(.int .i64 p.now)] 26)) wr) (fun i _=>p.jobs.length-(intOf i).toNat)
 case atStart=>exact⟨0,Nat.zero_le _,rfl,Ext.refl _⟩
 case round =>
  obtain⟨k,hk,rfl,⟨X,rfl⟩⟩:=hrel
  by_cases hlt:k < p.jobs.length
  ·obtain⟨b1,off,rfl⟩:=slr_some HJ.out hlt
   obtain⟨b2,off',rfl⟩:=slr_some HJ'.out hlt
   obtain⟨ho,aj,cj,hjok,hn,g0,g1,g2,g3,g4,g5,g6,g7,g8⟩:=job_at HJ.out hlt
   obtain⟨ho',aj',cj',hjok',hn',g0',g1',g2',g3',g4',g5',g6',g7',g8'⟩:=job_at HJ'.out hlt
   have HN:=tH hn
   have HN':=tH hn'
   clear hn hn' hjok hjok'
   go_upto_region 6 with fail
   (refine wp_region_x 12 (by kernel_rfl) (by kernel_rfl) (by kernel_rfl) ?_;(iterate 12 (apply XReg.step;(case h=>(intro w' hw';obtain⟨X',rfl⟩:=hw';go_wp2_with ((go_at_call 87;refine(lwJob9_self p.jobs[k] _ _ _ (HN.out.ext rInt_stable xE) (HN'.out.ext rInt_stable xE)).mono ?_;rintro e _ ⟨rfl,Y,rfl⟩));exact⟨rfl,xE⟩));(case hv=>kernel_rfl)));refine XReg.doneN (fun X=>?_))
   go_wp2
   exact⟨⟨k+1,by omega,by go_num,xE⟩,by simp[intOf];omega⟩
  ·obtain rfl:k=p.jobs.length:=by omega
   clear hk hlt
   go_wp2
   go_loopw [6,7] (fun i _ wr=>∃ k:Nat,k≤p.clear.length∧i=.int .i64 k∧Ext ((w.alloc (.cells #[.slice a p.clear.length c,.slice b p.jobs.length d,(.int .i64 p.now)] 26)).alloc (.cells #[.slice a' p.clear.length c',.slice b' p.jobs.length d',(.int .i64 p.now)] 26)) wr) (fun i _ _=>p.clear.length-(intOf i).toNat)
   case atStart=>exact⟨0,Nat.zero_le _,rfl,xE⟩
   case round =>
    obtain⟨k,hk,rfl,⟨Y,rfl⟩⟩:=hrel
    by_cases hlt:k < p.clear.length
    ·obtain⟨b1,off,rfl⟩:=slr_some HC.out hlt
     obtain⟨b2,off',rfl⟩:=slr_some HC'.out hlt
     obtain⟨ho,vx,hsx,g0⟩:=sl_at HC.out hlt
     obtain⟨ho',vx',hsx',g0'⟩:=sl_at HC'.out hlt
     obtain⟨ax,cx,rfl⟩:=hsx.len
     obtain⟨ax',cx',rfl⟩:=hsx'.len
     obtain⟨-,hlx,hxm⟩:=slr_len hsx
     have hxl:p.clear[k].length≤9223372036854775807:=by unfold maxLen at hxm;omega
     clear hlx hxm
     have HN:=tH hsx
     have HN':=tH hsx'
     clear hsx hsx'
     go_upto_region 11 with fail
     (refine wp_region_x 13 (by kernel_rfl) (by kernel_rfl) (by kernel_rfl) ?_;(iterate 13 (apply XReg.step;(case h=>(intro w' hw';obtain⟨X',rfl⟩:=hw';go_wp2_with (fail);exact⟨rfl,xE⟩));(case hv=>kernel_rfl)));refine XReg.doneN (fun X=>?_))
     go_wp2
     go_loopw [7] (fun i wr=>∃ m:Nat,m≤p.clear[k].length∧i=.int .i64 m∧Ext ((w.alloc (.cells #[.slice (some ⟨b1,off,none⟩) p.clear.length c,.slice b p.jobs.length d,(.int .i64 p.now)] 26)).alloc (.cells #[.slice (some ⟨b2,off',none⟩) p.clear.length c',.slice b' p.jobs.length d',(.int .i64 p.now)] 26)) wr) (fun i _=>p.clear[k].length-(intOf i).toNat)
     case atStart=>exact⟨0,Nat.zero_le _,rfl,xE⟩
     case round =>
      obtain⟨m,hm,rfl,⟨Z,rfl⟩⟩:=hrel
      by_cases hlt2:m < p.clear[k].length
      ·obtain⟨b3,off3,rfl⟩:=slr_some HN.out hlt2
       obtain⟨b4,off4,rfl⟩:=slr_some HN'.out hlt2
       obtain⟨ho3,_,l0,l1⟩:=lab_at HN.out hlt2
       obtain⟨ho4,_,l0',l1'⟩:=lab_at HN'.out hlt2
       have hs:sameL ⟨p.clear[k][m].lv,p.clear[k][m].st⟩ ⟨p.clear[k][m].lv,p.clear[k][m].st⟩=true:=sameL_self _
       go_upto_region 16 with fail
       (refine wp_region_x 17 (by kernel_rfl) (by kernel_rfl) (by kernel_rfl) ?_;(iterate 17 (apply XReg.step;(case h=>(intro w' hw';obtain⟨X',rfl⟩:=hw';go_wp2_with (fail);exact⟨rfl,xE⟩));(case hv=>kernel_rfl)));refine XReg.doneN (fun X=>?_))
       go_wp2
       exact⟨⟨m+1,by omega,by go_num,xE⟩,by simp[intOf];omega⟩
      ·obtain rfl:m=p.clear[k].length:=by omega
       clear hm hlt2
       go_wp2
       exact⟨⟨k+1,by omega,by go_num,xE⟩,by simp[intOf];omega⟩
    ·go_wp2
     go_ret
     exact⟨rfl,xE⟩
set_option maxHeartbeats 3200000 in
theorem lwPools_self (p:Pl) (id q:Int) (c j c' j':Value) (w:World) (h:ePool w (p.val c j) p) (h':ePool w (p.val c' j') p) (hr:q=0→poolR p=true) :
  Calls Tryz.prog 11 #[poV p id q c j,poV p id q c' j'] w fun e w'=>e=.returned (.bool true)∧Ext w w':=by
 have HP:=tH h
 have HP':=tH h'
 clear h h'
 by_cases hq:q=0
 ·have HR:=tH (hr hq)
  subst hq
  clear hr
  go_enter Tryz.func11,Tryz.ntmps11
  unfold poV
  go_wp2_with fail
  refine(lwPool_self p _ _ _ (HP.out.ext xE) (HP'.out.ext xE)).mono ?_
  rintro e _ ⟨rfl,X,rfl⟩
  go_wp2_with fail
  refine(specPoolRight_any p _ _ (HP.out.ext xE)).mono ?_
  rintro e _ ⟨rfl,Y,rfl⟩
  rw[HR.out]
  go_wp2
  go_ret
  exact⟨rfl,xE⟩
 ·have hqb:(q != 0)=true:=by simp[hq]
  clear hq hr
  go_enter Tryz.func11,Tryz.ntmps11
  unfold poV
  go_wp2_with fail
  refine(lwPool_self p _ _ _ (HP.out.ext xE) (HP'.out.ext xE)).mono ?_
  rintro e _ ⟨rfl,X,rfl⟩
  go_wp2
  go_ret
  exact⟨rfl,xE⟩
end Go.Proofs.YtdoeoojjabnboaaGreat
set_option maxRecDepth 100000
set_option linter.unusedVariables false
namespace Go
open Go.RowKit
theorem clear_run {P:Program} {t e:TypeId} {size bytes:Nat} {W:World} (E:ElemInfo P t e size bytes) (t0:TypeId) (g o n cap:Nat) (cur:Array Value) (ty:TypeId) (h0:0 < n)
  (hg:W.heap[g]?=some (.cells cur ty (0,0))) (hfit:o+n*size≤cur.size) (hz1:∀ i z,P.info? e=some i→i.zero=some z→∀ v∈(Builtin.zeroCells z.cells n).toList,v.oneCell'=true) :
  ∃ w' cur',(Builtin.clear_ #[t] t0 #[.slice (some ⟨g,o,none⟩) n cap]).run P W=.ok (.tuple #[]) w'∧Chg [g] W w'∧w'.heap[g]?=some (.cells cur' ty (0,0))∧cur'.size=cur.size∧cur'.toList.take o=cur.toList.take o:=by
 obtain⟨i,z,hi,hz,hsize,hby,hzs⟩:=E.info
 subst hsize
 have hlen:(Builtin.zeroCells z.cells n).toList.length=n*i.size:=by rw[Array.length_toList,size_zeroCells,hzs]
 have hst:=run_storeCells_at P g o ty (Builtin.zeroCells z.cells n).toList 0 cur W hg (by rw[hlen];simpa using hfit) (hz1 i z hi hz)
 obtain⟨m,rfl⟩:∃ m,n=m+1:=⟨n-1,by omega⟩
 have hrun:(Builtin.clear_ #[t] t0 #[.slice (some ⟨g,o,none⟩) (m+1) cap]).run P W=.ok (.tuple #[]) (W.setRow g (patch cur.toList o (Builtin.zeroCells z.cells (m+1)).toList).toArray):=by
  simp[Builtin.clear_,run_underlying E.und,zeroValue,typeInfo,hi,hz,hst,patch]
 refine⟨_,_,hrun,setRow_chg W g _,setRow_heap W g cur _ ty _ hg,?_,?_⟩
 ·have:=patch_len (l:=cur.toList) (o:=o) (cs:=(Builtin.zeroCells z.cells (m+1)).toList) (by rw[hlen];simpa using hfit)
  simpa using this
 ·unfold patch
  simp only[List.append_assoc]
  rw[List.take_append_of_le_length (by simp;omega),List.take_take]
  congr 1;omega
theorem Own.tailF {α:Type} {B:Nat} {w w':World} {ty K n cap:Nat} {f:α→List Value} {fp:List Nat} {g:Nat} {xs:List α} {cur cur':Array Value} (h:Own B w (oSl ty K (oFlat f)) fp [.slice (some ⟨g,0,none⟩) n cap] xs) (hg:w.heap[g]?=some (.cells cur ty (0,0))) (hg':w'.heap[g]?=some (.cells cur' ty (0,0))) (hs:cur'.size=cur.size)
  (ht:cur'.toList.take (xs.length*K)=cur.toList.take (xs.length*K)):Own B w' (oSl ty K (oFlat f)) fp [.slice (some ⟨g,0,none⟩) n cap] xs:=by
 obtain⟨⟨v',hv,h⟩,hnd,hge⟩:=h
 rcases h with ⟨rfl,_,_⟩ | ⟨g2,cap',cur2,fps,rfl,hg2,hsz,hl,hm,hf,rfl,h⟩
 ·simp at hv
 ·obtain⟨rfl,rfl,rfl⟩:g=g2∧n=xs.length∧cap=cap':=by simpa using hv
  rw[hg] at hg2
  obtain rfl:cur=cur2:=by simpa using hg2
  refine⟨⟨_,rfl,.inr ⟨g,cap,cur',fps,rfl,hg',by rw[hs];exact hsz,hl,hm,hf,rfl,fun i hi fi hfi=>?_⟩⟩,hnd,hge⟩
  obtain⟨h1,h2⟩:=h i hi fi hfi
  exact⟨h1,by rw[← drop_take_in hi,ht,drop_take_in hi];exact h2⟩
theorem Own.curF {α:Type} {B:Nat} {w:World} {ty K n cap:Nat} {f:α→List Value} {fp:List Nat} {g:Nat} {xs:List α} (h:Own B w (oSl ty K (oFlat f)) fp [.slice (some ⟨g,0,none⟩) n cap] xs):∃ cur,w.heap[g]?=some (.cells cur ty (0,0))∧cur.size=cap*K∧B≤g:=by
 obtain⟨⟨v',hv,h⟩,hnd,hge⟩:=h
 rcases h with ⟨rfl,_,_⟩ | ⟨g2,cap',cur2,fps,rfl,hg2,hsz,hl,hm,hf,rfl,h⟩
 ·simp at hv
 ·obtain⟨rfl,rfl,rfl⟩:g=g2∧n=xs.length∧cap=cap':=by simpa using hv
  exact⟨cur2,hg2,hsz,hge g (by simp)⟩
theorem Own.takeF {α:Type} {B:Nat} {w:World} {ty K n cap k:Nat} {f:α→List Value} {fp:List Nat} {g:Nat} {xs:List α} (h:Own B w (oSl ty K (oFlat f)) fp [.slice (some ⟨g,0,none⟩) n cap] xs) (hk:k≤xs.length):∃ fp',Own B w (oSl ty K (oFlat f)) fp' [.slice (some ⟨g,0,none⟩) k cap] (xs.take k):=by
 obtain⟨⟨v',hv,h⟩,hnd,hge⟩:=h
 rcases h with ⟨rfl,_,_⟩ | ⟨g',cap',cur,fps,rfl,hg,hsz,hl,hm,hf,rfl,h⟩
 ·simp at hv
 ·obtain⟨rfl,rfl,rfl⟩:g=g'∧n=xs.length∧cap=cap':=by simpa using hv
  have hsub:((g :: (fps.take k).flatten)).Sublist (g :: fps.flatten):=by
   refine List.Sublist.cons_cons _ ?_
   conv=>rhs;rw[← List.take_append_drop k fps,List.flatten_append]
   exact List.sublist_append_left _ _
  refine⟨g :: (fps.take k).flatten,⟨_,rfl,.inr ⟨g,cap,cur,fps.take k,by simp;omega,hg,hsz,by simp;omega,hm,by simp;omega,rfl,fun i hi fi hfi=>?_⟩⟩,hnd.sublist hsub,fun b hb=>hge b (hsub.subset hb)⟩
  simp only[List.length_take] at hi
  rw[List.getElem_take]
  refine h i (by omega) fi ?_
  rw[List.getElem?_take,if_pos (by omega)] at hfi
  exact hfi
theorem flat_piecesG {α:Type} {f:α→List Value} {K:Nat}:∀ (xs:List α) (l:List Value),(∀ (i:Nat) (h:i < xs.length),(l.drop (i*K)).take K=f xs[i])→l.take (xs.length*K)=xs.flatMap f
 | [],l,_=>by simp
 | x :: xs,l,h=>by
  have h0:=h 0 (by simp)
  simp only[Nat.zero_mul,List.drop_zero,List.getElem_cons_zero] at h0
  have ih:=flat_piecesG (f:=f) (K:=K) xs (l.drop K) fun i hi=>by
   have:=h (i+1) (by simpa using hi)
   rw[List.getElem_cons_succ] at this
   rw[List.drop_drop,← this,Nat.add_mul,Nat.one_mul,Nat.add_comm K]
  rw[List.flatMap_cons,← h0,← ih,List.length_cons,Nat.add_mul,Nat.one_mul,Nat.add_comm,List.take_add]
theorem Own.rowG {α:Type} {B:Nat} {w:World} {ty K:Nat} {f:α→List Value} {fp:List Nat} {v:Value} {xs:List α} (hK:∀ x,(f x).length=K) (h:Own B w (oSl ty K (oFlat f)) fp [v] xs):Row B w ty K f v xs:=by
 obtain⟨⟨v',hv,h⟩,hnd,hge⟩:=h
 obtain rfl:v=v':=by simpa using hv
 rcases h with ⟨rfl,rfl,_⟩ | ⟨g,cap,cur,fps,rfl,hg,hsz,hl,hm,hf,rfl,h⟩
 ·exact⟨by simp,.inl ⟨rfl,rfl⟩⟩
 ·refine⟨flatMap_len hK xs,.inr ⟨g,cap,cur,rfl,hge g (by simp),hg,hl,hm,hsz,?_⟩⟩
  exact flat_piecesG xs _ fun i hi=>(h i hi _ (List.getElem?_eq_getElem (by omega))).2
end Go
