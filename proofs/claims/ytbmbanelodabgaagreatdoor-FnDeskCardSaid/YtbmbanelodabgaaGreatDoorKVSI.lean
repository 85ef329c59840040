/- slices.SortFunc at jobs: what it leaves of a row of ours. -/
import Derived.Test.YtbmbanelodabgaaGreatDoorKSLJ
import Derived.Test.YtbmbanelodabgaaGreatDoorKTT
set_option maxRecDepth 100000
set_option linter.unusedVariables false
namespace Go.Proofs.YtbmbanelodabgaaGreatDoor
open Go.RowKit Go.Fin1 Go.Shelf Go.Sort
theorem sortJob_any (B g n cap:Nat) (l:List RJ) (w:World) (h:Row B w 92 9 RJ.cells (.slice (some ⟨g,0,none⟩) n cap) l) (hsz:l.length≤1048576) :
  Calls Tryz.prog 137 #[.slice (some ⟨g,0,none⟩) n cap,.func (.func 138) #[] #[]] w fun e w'=>∃ l',e=.returned (.tuple #[])∧l'.Perm l∧(∀ (i j:Nat) (hi:i < l'.length) (hj:j < l'.length),i≤j→¬ cmpR l'[j] l'[i] < 0)∧l'.length=l.length∧Chg [g] w w'∧Row B w' 92 9 RJ.cells (.slice (some ⟨g,0,none⟩) n cap) l':=by
 obtain⟨a0,c0,hv⟩:=h.shape
 obtain rfl:n=l.length:=by simpa using congrArg (fun v=>match v with | .slice _ n _=>n | _=>0) hv
 have eg:∀ args w,(callFunc 138 args).run Tryz.prog w=.ok (.enter 138 args) w:=enters_of Tryz.func138 (by kernel_rfl) rfl
 have hcmp:CmpLays Tryz.prog 138 #[] RJ.cells 9 cmpR g 0 l.toArray.size w:=fun m os dk _ x y=>(compareJobs_d x.1 y.1 (RJ.nv x) (RJ.nv y) _).mono fun e w' ⟨he,hx⟩=>⟨he,hx.toGrow⟩
 have hblk:g < w.heap.size:=by
  obtain⟨_,h⟩:=h
  rcases h with ⟨hv,_⟩ | ⟨g',cap',cur,hv,hb,hg,_⟩
  ·cases hv
  ·cases hv
   exact(Array.getElem?_eq_some_iff.1 hg).1
 have hcon:=AnyQ.slices_SortFunc Tryz.jsort 9 Tryz.isAgg92 Tryz.sizeOf92 RJ.cells (fun _=>rfl) (fun x v hv=>RJ.one x v hv) cmpR swoR 138 #[] g 0 cap l.toArray w eg hcmp (holdsK_row (enc:=RJ.cells) (k:=9) (fun _=>rfl) (by decide) h) hblk (by simp;omega)
 change Calls Tryz.prog 137 _ _ _ at hcon
 simp only[List.size_toArray] at hcon
 refine hcon.mono fun e w' ⟨he,d,m,os,hp,hs,hw⟩=>⟨d.toList,he,?_,fun i j hi hj hij=>?_,?_,?_,?_⟩
 ·obtain⟨h1,_,h3⟩:=hp
  have e1:(d.extract 0 l.length).toList=d.toList:=by
   rw[show l.length=d.size by rw[h1];simp];simp
  have e2:(l.toArray.extract 0 l.length).toList=l:=by simp
  rw[e1,e2] at h3
  exact h3
 ·have h1:d.size=l.length:=by rw[hp.1];simp
  simp only[Array.length_toList] at hi hj
  rcases Nat.eq_or_lt_of_le hij with e | e
  ·subst e;intro hh;exact cmpJ_asym hh hh
  ·have:=hs i j (Nat.zero_le _) e (by omega)
   unfold ltOf at this
   rw[getElem!_pos d j hj,getElem!_pos d i hi] at this
   simpa using of_decide_eq_false this
 ·rw[Array.length_toList,hp.1];simp
 ·rw[hw];exact sortK_chg _ _ _ _ _ _ _ _
 ·rw[hw]
  have h1:d.size=l.length:=by rw[hp.1];simp
  exact sortK_row (enc:=RJ.cells) (k:=9) (fun _=>rfl) (by decide) m h h1
end Go.Proofs.YtbmbanelodabgaaGreatDoor
set_option maxRecDepth 100000
set_option linter.unusedVariables false
namespace Go.Proofs.YtbmbanelodabgaaGreatDoor
open Go.RowKit Go.Fin1
theorem info_JobI:(Tryz.prog.info? 92).map (fun i=>(i.zero,i.size,i.bytes))=some (some (.agg #[(.int .i64 0),(.int .i64 0),(.int .i64 0),(.int .i64 0),(.int .i64 0),(.int .i64 0),(.int .i64 0),(.int .i64 0),.slice none 0 0]),9,88):=by kernel_rfl
theorem el_JobI:ElemInfo Tryz.prog 39 92 9 88:=by
 obtain⟨i,hi,hz,hs,hb⟩:=info_parts info_JobI
 exact⟨Tryz.underlying39,⟨i,_,hi,hz,hs,hb,rfl⟩,by decide⟩
theorem rj_of {w:World} {v:Value} {l:List Jb} (h:SlR w 9 rJob v l):∃ rs:List RJ,SlR w 9 (rc RJ.cells) v rs∧rs.map Prod.fst=l∧∀ r∈rs,r.1.ok∧SlR w 1 rInt (RJ.nv r) r.1.nodes:=by
 obtain⟨a,cap,rfl,h1,h2,h3⟩:=h
 have hex:∀ i:Fin l.length,∃ r:RJ,r.1=l[i]∧(∃ b off,a=some ⟨b,off,none⟩∧∀ j u,(RJ.cells r)[j]?=some u→w.cell? ⟨b,off+i*9+j,none⟩=some u)∧r.1.ok∧SlR w 1 rInt (RJ.nv r) r.1.nodes:=fun i=>by
  obtain⟨b,off,cs,ha,hk,hc,v,hv,hok,hs⟩:=h3 i i.2
  obtain⟨na,nc,rfl⟩:=hs.len
  exact⟨(l[i],(na,nc)),rfl,⟨b,off,ha,by subst hv;exact hc⟩,hok,hs⟩
 refine⟨List.ofFn fun i=>(hex i).choose,?_,?_,?_⟩
 ·refine⟨a,cap,by simp,by simpa using h1,h2,fun i hi=>?_⟩
  have hi':i < l.length:=by simpa using hi
  obtain⟨b,off,ha,hc⟩:=(hex ⟨i,hi'⟩).choose_spec.2.1
  exact⟨b,off,_,ha,rfl,hc,by simp[rc]⟩
 ·refine List.ext_getElem (by simp) fun i h4 h5=>?_
  simp only[List.getElem_map,List.getElem_ofFn]
  exact(hex ⟨i,h5⟩).choose_spec.1
 ·intro r hr
  obtain⟨i,rfl⟩:=(List.mem_ofFn ..).1 hr
  exact(hex i).choose_spec.2.2
set_option maxHeartbeats 800000 in
theorem cloneJob_any (v:Value) (l:List RJ) (w:World) (h:SlR w 9 (rc RJ.cells) v l) (hl:l.length≤1048576) :
  Calls Tryz.prog 136 #[v] w fun e w'=>∃ v',e=.returned v'∧Ext w w'∧Row w.heap.size w' 92 9 RJ.cells v' l∧((∃ x n c,v=.slice (some x) n c)→v'≠.slice none 0 0):=by
 obtain⟨ad,cap,rfl⟩:=h.len
 have q22:∀ (w:World) (a:Option Addr) (n c n' c':Nat),(binOp .eql 39 (.slice a n c) (.slice none n' c')).run Tryz.prog w=.ok (.bool a.isNone) w:=fun w a n c n' c'=>Lib.run_eql_slice_nil w _ _ a n c n' c' (show Tryz.prog.underlying 39=some (.slice 92) by kernel_rfl)
 have HS:=tH h
 cases ad with
 | none =>
  have h0:l=[]:=by
   cases l with
   | nil=>rfl
   | cons x l=>obtain⟨b,off,he⟩:=slr_some h (Nat.zero_lt_succ _);cases he
  subst h0
  clear h
  go_enter Tryz.func136,Tryz.ntmps136
  go_wp2
  go_ret
  exact⟨_,rfl,xE,Row.nil _ _ _ _ _,fun ⟨x,n,c,hx⟩=>by simp at hx⟩
 | some ad =>
  have HC:=tH (slr_flat (f:=RJ.cells) (K:=9) (fun _=>rfl) h)
  clear h
  go_enter Tryz.func136,Tryz.ntmps136
  go_wp2_with (at_builtin;go_must (refine Row.appS (f:=RJ.cells) el_JobI rfl _ _ rfl w xE _ _ rfl (Row.made _ _ _ _) ad l.length cap l rfl rfl (fun _=>rfl) ?_ ?_ ?_ ?_ ?_);(exact fun j u hu=>Ext.cellA xE (HC.out j u hu));(intro u hu;obtain⟨x,_,hx⟩:=List.mem_flatMap.1 hu;exact RJ.one x u hx);(unfold maxLen;simp;omega);(simp;omega);intro v' X' hown' hne;have HO':=tH hown';have HNE:=tH hne;clear hown' hne)
  go_ret
  exact⟨_,rfl,xE,by have:=HO'.out;simpa using this,fun _ he=>absurd (show (Value.slice (some ⟨w.heap.size,0,none⟩) 0 0:Value)=.slice none 0 0 from (HNE.out.1 he).1) (by simp)⟩
set_option maxHeartbeats 800000 in
theorem inOrderE_any (v:Value) (l:List Jb) (w0 w:World) (h:SlR w0 9 rJob v l) (hx0:Ext w0 w) (hl:l.length≤1048576) (hn:l.Pairwise NeJ) (hv:∃ x n c,v=.slice (some x) n c) :
  Calls Tryz.prog 106 #[v] w fun e w'=>∃ g cp rs,e=.returned (.slice (some ⟨g,0,none⟩) (List.length rs) cp)∧Ext w w'∧Row w.heap.size w' 92 9 RJ.cells (.slice (some ⟨g,0,none⟩) (List.length rs) cp) rs∧rs.map Prod.fst=sortedJ l∧∀ r∈rs,r.1.ok∧SlR w0 1 rInt (RJ.nv r) r.1.nodes:=by
 obtain⟨rs,hr,hm,hk⟩:=rj_of h
 have hrl:rs.length=l.length:=by rw[← hm];simp
 obtain⟨ad,cap,rfl⟩:=h.len
 have HR:=tH (hr.ext (rc_stable _) hx0)
 have HM:=tH hm
 have HK:=tH hk
 have HN:=tH hn
 have hrs:rs.length≤1048576:=by omega
 clear h hr hm hk hn hrl hl hx0
 go_enter Tryz.func106,Tryz.ntmps106
 go_wp2_with fail
 refine(cloneJob_any _ rs _ (HR.out.ext (rc_stable _) xE) hrs).mono ?_
 rintro e _ ⟨v',rfl,⟨X,rfl⟩,hO,hne⟩
 obtain⟨g,cp,rfl⟩:∃ g cp,v'=.slice (some ⟨g,0,none⟩) rs.length cp:=by
  rcases hO.2 with ⟨h1,_⟩ | ⟨g,cap,cur,h1,_⟩
  ·exact absurd h1 (hne hv)
  ·exact⟨g,cap,h1⟩
 have HO:=tH hO
 have HGB:Hid (w.heap.size≤g):=tH (hO.blk g (by simp[blkL])).1
 clear hO hne hv
 go_wp2_with fail
 refine(sortJob_any w.heap.size g rs.length cp rs _ (HO.out.ext xE) hrs).mono ?_
 rintro e w2 ⟨rs2,rfl,hprm,hsrt,hlen,hc,hO2⟩
 rw[← hlen] at hO2 ⊢
 have HC:=tH (hc.ext (show Ext w _ from xE) (by have:=HGB.out;simp;omega))
 have HO2:=tH hO2
 have HME:=tH hprm
 have HSR:=tH hsrt
 clear hc hO2 hprm hsrt hlen HO
 go_wp2
 go_ret
 refine⟨_,_,rs2,rfl,HC.out,HO2.out,?_,fun r hr=>?_⟩
 ·refine sortedJ_uniq HN.out (fun i j hi hj hij=>?_) (fun x=>?_)
  ·simp only[List.getElem_map]
   simp only[List.length_map] at hi hj
   have h1:=HSR.out i j hi hj (by omega)
   unfold cmpR at h1
   have hp:(rs2.map Prod.fst).Perm l:=by rw[← HM.out];exact HME.out.map _
   have hq:(rs2.map Prod.fst).Pairwise NeJ:=hp.symm.pairwise HN.out (fun {a b} h h2=>h ⟨h2.1.symm,h2.2.1.symm,h2.2.2.symm⟩)
   have h2:=(List.pairwise_iff_getElem.1 hq) i j (by simpa using hi) (by simpa using hj) hij
   simp only[List.getElem_map] at h2
   rcases cmpJ_tot h2 with q | q
   ·exact q
   ·exact absurd q (by omega)
  ·rw[← HM.out]
   constructor
   ·intro hx
    obtain⟨r,hr,rfl⟩:=List.mem_map.1 hx
    exact List.mem_map.2 ⟨r,HME.out.mem_iff.1 hr,rfl⟩
   ·intro hx
    obtain⟨r,hr,rfl⟩:=List.mem_map.1 hx
    exact List.mem_map.2 ⟨r,HME.out.mem_iff.2 hr,rfl⟩
 ·obtain⟨h1,h2⟩:=HK.out r (HME.out.mem_iff.1 hr)
  exact⟨h1,h2⟩
theorem inOrder_any (v:Value) (l:List Jb) (w:World) (h:SlR w 9 rJob v l) (hl:l.length≤1048576) (hn:l.Pairwise NeJ) (hv:∃ x n c,v=.slice (some x) n c) :
  Calls Tryz.prog 106 #[v] w fun e w'=>∃ g cp rs,e=.returned (.slice (some ⟨g,0,none⟩) (List.length rs) cp)∧Ext w w'∧Row w.heap.size w' 92 9 RJ.cells (.slice (some ⟨g,0,none⟩) (List.length rs) cp) rs∧rs.map Prod.fst=sortedJ l∧∀ r∈rs,r.1.ok∧SlR w 1 rInt (RJ.nv r) r.1.nodes:=inOrderE_any v l w w h (Ext.refl w) hl hn hv
end Go.Proofs.YtbmbanelodabgaaGreatDoor
set_option maxRecDepth 100000
set_option linter.unusedVariables false
namespace Go.Proofs.YtbmbanelodabgaaGreatDoor
open Go.RowKit Go.Fin1
set_option maxHeartbeats 800000 in
theorem cloneJob0_any (d:Nat) (w:World):Calls Tryz.prog 136 #[.slice none 0 d] w fun e w'=>e=.returned (.slice none 0 0)∧Ext w w':=by
 have q22:∀ (w:World) (a:Option Addr) (n c n' c':Nat),(binOp .eql 39 (.slice a n c) (.slice none n' c')).run Tryz.prog w=.ok (.bool a.isNone) w:=fun w a n c n' c'=>Lib.run_eql_slice_nil w _ _ a n c n' c' (show Tryz.prog.underlying 39=some (.slice 92) by kernel_rfl)
 go_enter Tryz.func136,Tryz.ntmps136
 go_wp2
 go_ret
 exact⟨rfl,xE⟩
set_option maxHeartbeats 800000 in
theorem len64_any0 (w:World):Calls Tryz.prog 189 #[.int .u64 0] w fun e w'=>e=.returned (.int .i64 0)∧w=w':=by
 have h8:wrap64 (wrap64 (Lib.len8 0))=0:=by decide +kernel
 go_enter Tryz.func189,Tryz.ntmps189
 go_wp2
 go_ret
 exact⟨ret_int h8,rfl⟩
set_option maxHeartbeats 800000 in
theorem lenB_any0 (w:World):Calls Tryz.prog 170 #[.int .u64 0] w fun e w'=>e=.returned (.int .i64 0)∧w=w':=by
 go_enter Tryz.func170,Tryz.ntmps170
 go_wp2_with ((go_at_call 189;refine(len64_any0 _).mono ?_;rintro e _ ⟨rfl,rfl⟩))
 go_ret
 exact⟨rfl,rfl⟩
set_option maxHeartbeats 800000 in
theorem insJob0_any (c:Value) (w:World):Calls Tryz.prog 194 #[.slice none 0 0,(.int .i64 0),(.int .i64 0),c] w fun e w'=>e=.returned (.tuple #[])∧Ext w w':=by
 go_enter Tryz.func194,Tryz.ntmps194
 go_wp2
 go_loopw [8] (fun i wr=>i=(.int .i64 1)∧Ext w wr) (fun _ _=>0)
 case atStart=>exact⟨rfl,xE⟩
 case round =>
  obtain⟨rfl,⟨X,rfl⟩⟩:=hrel
  go_wp2
  exact bodyPost_end (v:=.tuple #[]) (by simp[results,Tryz.results194,go_sem]) rfl ⟨rfl,xE⟩
set_option maxHeartbeats 800000 in
theorem pdqJob0_any (c:Value) (w:World):Calls Tryz.prog 169 #[.slice none 0 0,(.int .i64 0),(.int .i64 0),(.int .i64 0),c] w fun e w'=>e=.returned (.tuple #[])∧Ext w w':=by
 go_enter Tryz.func169,Tryz.ntmps169
 go_wp2
 go_loopw [1,2,3,10,11,12] (fun a b l p q _ wr=>a=(.int .i64 0)∧b=(.int .i64 0)∧l=(.int .i64 0)∧Ext w wr) (fun _ _ _ _ _ _ _=>0)
 case atStart=>exact⟨rfl,rfl,rfl,xE⟩
 case round =>
  obtain⟨rfl,rfl,rfl,⟨X,rfl⟩⟩:=hrel
  go_wp2_with ((go_at_call 194;refine(insJob0_any _ _).mono ?_;rintro e _ ⟨rfl,X,rfl⟩))
  exact bodyPost_ret (v:=.tuple #[]) (by simp[results,Tryz.results169,go_sem]) rfl ⟨rfl,xE⟩
set_option maxHeartbeats 800000 in
theorem sortJob0_any (c:Value) (w:World):Calls Tryz.prog 137 #[.slice none 0 0,c] w fun e w'=>e=.returned (.tuple #[])∧Ext w w':=by
 go_enter Tryz.func137,Tryz.ntmps137
 go_wp2_with (first | (go_at_call 170;refine(lenB_any0 _).mono ?_;rintro e _ ⟨rfl,rfl⟩) | (go_at_call 169;refine(pdqJob0_any _ _).mono ?_;rintro e _ ⟨rfl,X,rfl⟩))
 exact bodyPost_end (v:=.tuple #[]) (by simp[results,Tryz.results137,go_sem]) rfl ⟨rfl,xE⟩
set_option maxHeartbeats 800000 in
theorem inOrder0_any (d:Nat) (w:World):Calls Tryz.prog 106 #[.slice none 0 d] w fun e w'=>e=.returned (.slice none 0 0)∧Ext w w':=by
 go_enter Tryz.func106,Tryz.ntmps106
 go_wp2_with (first | (go_at_call 136;refine(cloneJob0_any _ _).mono ?_;rintro e _ ⟨rfl,X,rfl⟩) | (go_at_call 137;refine(sortJob0_any _ _).mono ?_;rintro e _ ⟨rfl,X,rfl⟩))
 go_ret
 exact⟨rfl,xE⟩
theorem inOrderA_any (v:Value) (l:List Jb) (w0 w:World) (h:SlR w0 9 rJob v l) (hx0:Ext w0 w) (hl:l.length≤1048576) (hn:l.Pairwise NeJ) :
  Calls Tryz.prog 106 #[v] w fun e w'=>∃ a cp rs,e=.returned (.slice a (List.length rs) cp)∧Ext w w'∧Row w.heap.size w' 92 9 RJ.cells (.slice a (List.length rs) cp) rs∧rs.map Prod.fst=sortedJ l∧∀ r∈rs,r.1.ok∧SlR w0 1 rInt (RJ.nv r) r.1.nodes:=by
 obtain⟨ja,jc,rfl⟩:=h.len
 cases ja with
 | none =>
  have h0:l=[]:=by
   cases l with
   | nil=>rfl
   | cons y l=>obtain⟨b,off,he⟩:=slr_some h (Nat.zero_lt_succ _);cases he
  subst h0
  refine(inOrder0_any _ w).mono ?_
  rintro e w' ⟨rfl,hx⟩
  exact⟨none,0,[],rfl,hx,Row.nil _ _ _ _ _,rfl,fun r hr=>by cases hr⟩
 | some ja =>
  refine(inOrderE_any _ l w0 w h hx0 hl hn ⟨_,_,_,rfl⟩).mono ?_
  rintro e w' ⟨g,cp,rs,rfl,hx,hR,hm,hk⟩
  exact⟨_,cp,rs,rfl,hx,hR,hm,hk⟩
end Go.Proofs.YtbmbanelodabgaaGreatDoor
