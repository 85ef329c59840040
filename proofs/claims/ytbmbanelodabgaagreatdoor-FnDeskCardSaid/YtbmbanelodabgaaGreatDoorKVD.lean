/- The built-in clear over a block of ours; parts of an owned slice. -/
import Derived.Test.YtbmbanelodabgaaGreatDoorKTT
import Derived.Test.YtbmbanelodabgaaGreatDoorKJE
import Derived.Lib.SliceRun
import Derived.Test.YtbmbanelodabgaaGreatDoorKVSI
import Derived.Test.YtbmbanelodabgaaGreatDoorKVBC
set_option maxRecDepth 100000
set_option linter.unusedVariables false
namespace Go
open Go.RowKit
theorem clear_run {P:Program} {t e:TypeId} {size bytes:Nat} {W:World} (E:ElemInfo P t e size bytes) (t0:TypeId) (g o n cap:Nat) (cur:Array Value) (ty:TypeId) (h0:0 < n)
  (hg:W.heap[g]?=some (.cells cur ty (0,0))) (hfit:o+n*size≤cur.size) (hz1:∀ i z,P.info? e=some i→i.zero=some z→∀ v∈(Builtin.zeroCells z.cells n).toList,v.oneCell'=true) :
  ∃ w' cur',(Builtin.clear_ #[t] t0 #[.slice (some ⟨g,o,none⟩) n cap]).run P W=.ok (.tuple #[]) w'∧Chg [g] W w'∧w'.heap[g]?=some (.cells cur' ty (0,0))∧cur'.size=cur.size∧cur'.toList.take o=cur.toList.take o:=by
 obtain⟨i,z,hi,hz,hsize,hby,hzs⟩:=E.info
 subst hsize
 have hlen:(Builtin.zeroCells z.cells n).toList.length=n*i.size:=by rw[Array.length_toList,size_zeroCells,hzs]
 have hst:=run_storeCells_at P g o ty (Builtin.zeroCells z.cells n).toList 0 cur W hg (by rw[hlen];simpa using hfit) (hz1 i z hi hz)
 obtain⟨m,rfl⟩:∃ m,n=m+1:=⟨n-1,by omega⟩
 have hrun:(Builtin.clear_ #[t] t0 #[.slice (some ⟨g,o,none⟩) (m+1) cap]).run P W=.ok (.tuple #[]) (W.setRow g (patch cur.toList o (Builtin.zeroCells z.cells (m+1)).toList).toArray):=by
  simp[Builtin.clear_,run_underlying E.und,zeroValue,typeInfo,hi,hz,hst,patch]
 refine⟨_,_,hrun,setRow_chg W g _,setRow_heap W g cur _ ty _ hg,?_,?_⟩
 ·have:=patch_len (l:=cur.toList) (o:=o) (cs:=(Builtin.zeroCells z.cells (m+1)).toList) (by rw[hlen];simpa using hfit)
  simpa using this
 ·unfold patch
  simp only[List.append_assoc]
  rw[List.take_append_of_le_length (by simp;omega),List.take_take]
  congr 1;omega
theorem Own.tailF {α:Type} {B:Nat} {w w':World} {ty K n cap:Nat} {f:α→List Value} {fp:List Nat} {g:Nat} {xs:List α} {cur cur':Array Value} (h:Own B w (oSl ty K (oFlat f)) fp [.slice (some ⟨g,0,none⟩) n cap] xs) (hg:w.heap[g]?=some (.cells cur ty (0,0))) (hg':w'.heap[g]?=some (.cells cur' ty (0,0))) (hs:cur'.size=cur.size)
  (ht:cur'.toList.take (xs.length*K)=cur.toList.take (xs.length*K)):Own B w' (oSl ty K (oFlat f)) fp [.slice (some ⟨g,0,none⟩) n cap] xs:=by
 obtain⟨⟨v',hv,h⟩,hnd,hge⟩:=h
 rcases h with ⟨rfl,_,_⟩ | ⟨g2,cap',cur2,fps,rfl,hg2,hsz,hl,hm,hf,rfl,h⟩
 ·simp at hv
 ·obtain⟨rfl,rfl,rfl⟩:g=g2∧n=xs.length∧cap=cap':=by simpa using hv
  rw[hg] at hg2
  obtain rfl:cur=cur2:=by simpa using hg2
  refine⟨⟨_,rfl,.inr ⟨g,cap,cur',fps,rfl,hg',by rw[hs];exact hsz,hl,hm,hf,rfl,fun i hi fi hfi=>?_⟩⟩,hnd,hge⟩
  obtain⟨h1,h2⟩:=h i hi fi hfi
  exact⟨h1,by rw[← drop_take_in hi,ht,drop_take_in hi];exact h2⟩
theorem Own.curF {α:Type} {B:Nat} {w:World} {ty K n cap:Nat} {f:α→List Value} {fp:List Nat} {g:Nat} {xs:List α} (h:Own B w (oSl ty K (oFlat f)) fp [.slice (some ⟨g,0,none⟩) n cap] xs):∃ cur,w.heap[g]?=some (.cells cur ty (0,0))∧cur.size=cap*K∧B≤g:=by
 obtain⟨⟨v',hv,h⟩,hnd,hge⟩:=h
 rcases h with ⟨rfl,_,_⟩ | ⟨g2,cap',cur2,fps,rfl,hg2,hsz,hl,hm,hf,rfl,h⟩
 ·simp at hv
 ·obtain⟨rfl,rfl,rfl⟩:g=g2∧n=xs.length∧cap=cap':=by simpa using hv
  exact⟨cur2,hg2,hsz,hge g (by simp)⟩
theorem Own.takeF {α:Type} {B:Nat} {w:World} {ty K n cap k:Nat} {f:α→List Value} {fp:List Nat} {g:Nat} {xs:List α} (h:Own B w (oSl ty K (oFlat f)) fp [.slice (some ⟨g,0,none⟩) n cap] xs) (hk:k≤xs.length):∃ fp',Own B w (oSl ty K (oFlat f)) fp' [.slice (some ⟨g,0,none⟩) k cap] (xs.take k):=by
 obtain⟨⟨v',hv,h⟩,hnd,hge⟩:=h
 rcases h with ⟨rfl,_,_⟩ | ⟨g',cap',cur,fps,rfl,hg,hsz,hl,hm,hf,rfl,h⟩
 ·simp at hv
 ·obtain⟨rfl,rfl,rfl⟩:g=g'∧n=xs.length∧cap=cap':=by simpa using hv
  have hsub:((g :: (fps.take k).flatten)).Sublist (g :: fps.flatten):=by
   refine List.Sublist.cons_cons _ ?_
   conv=>rhs;rw[← List.take_append_drop k fps,List.flatten_append]
   exact List.sublist_append_left _ _
  refine⟨g :: (fps.take k).flatten,⟨_,rfl,.inr ⟨g,cap,cur,fps.take k,by simp;omega,hg,hsz,by simp;omega,hm,by simp;omega,rfl,fun i hi fi hfi=>?_⟩⟩,hnd.sublist hsub,fun b hb=>hge b (hsub.subset hb)⟩
  simp only[List.length_take] at hi
  rw[List.getElem_take]
  refine h i (by omega) fi ?_
  rw[List.getElem?_take,if_pos (by omega)] at hfi
  exact hfi
theorem flat_piecesG {α:Type} {f:α→List Value} {K:Nat}:∀ (xs:List α) (l:List Value),(∀ (i:Nat) (h:i < xs.length),(l.drop (i*K)).take K=f xs[i])→l.take (xs.length*K)=xs.flatMap f
 | [],l,_=>by simp
 | x :: xs,l,h=>by
  have h0:=h 0 (by simp)
  simp only[Nat.zero_mul,List.drop_zero,List.getElem_cons_zero] at h0
  have ih:=flat_piecesG (f:=f) (K:=K) xs (l.drop K) fun i hi=>by
   have:=h (i+1) (by simpa using hi)
   rw[List.getElem_cons_succ] at this
   rw[List.drop_drop,← this,Nat.add_mul,Nat.one_mul,Nat.add_comm K]
  rw[List.flatMap_cons,← h0,← ih,List.length_cons,Nat.add_mul,Nat.one_mul,Nat.add_comm,List.take_add]
theorem Own.rowG {α:Type} {B:Nat} {w:World} {ty K:Nat} {f:α→List Value} {fp:List Nat} {v:Value} {xs:List α} (hK:∀ x,(f x).length=K) (h:Own B w (oSl ty K (oFlat f)) fp [v] xs):Row B w ty K f v xs:=by
 obtain⟨⟨v',hv,h⟩,hnd,hge⟩:=h
 obtain rfl:v=v':=by simpa using hv
 rcases h with ⟨rfl,rfl,_⟩ | ⟨g,cap,cur,fps,rfl,hg,hsz,hl,hm,hf,rfl,h⟩
 ·exact⟨by simp,.inl ⟨rfl,rfl⟩⟩
 ·refine⟨flatMap_len hK xs,.inr ⟨g,cap,cur,rfl,hge g (by simp),hg,hl,hm,hsz,?_⟩⟩
  exact flat_piecesG xs _ fun i hi=>(h i hi _ (List.getElem?_eq_getElem (by omega))).2
end Go
set_option maxRecDepth 100000
set_option linter.unusedVariables false
namespace Go.Proofs.YtbmbanelodabgaaGreatDoor
open Go.RowKit Go.Fin1
structure DelS (p:Jb→Bool) (l:List RJ) (n k:Nat) (L:List RJ):Prop where
 len:L.length=l.length
 take:L.take k=(l.take n).filter (fun r=>!p r.1)
 lt:k < n
 le:n≤l.length
 tail:∀ j,n≤j→L[j]?=l[j]?
theorem DelS.start {p:Jb→Bool} {l:List RJ} {k:Nat} (hk:k < l.length) (hp:p l[k].1=true) (h:∀ (j:Nat) (hj:j < l.length),j < k→p l[j].1=false):DelS p l (k+1) k l:=by
 refine⟨rfl,?_,Nat.lt_succ_self _,hk,fun _ _=>rfl⟩
 rw[List.take_succ_eq_append_getElem hk,List.filter_append,List.filter_cons_of_neg (by simp[hp]),List.filter_nil,List.append_nil]
 rw[List.filter_eq_self.2]
 intro r hr
 obtain⟨j,hj,rfl⟩:=List.mem_iff_getElem.1 hr
 simp only[List.length_take] at hj
 rw[List.getElem_take,h j (by omega) (by omega)];rfl
theorem DelS.at {p:Jb→Bool} {l L:List RJ} {n k:Nat} (h:DelS p l n k L) (hn:n < l.length):L[n]'(by rw[h.len];exact hn)=l[n]:=by
 have:=h.tail n (Nat.le_refl _)
 rw[List.getElem?_eq_getElem (by rw[h.len];exact hn),List.getElem?_eq_getElem hn] at this
 exact Option.some.inj this
theorem DelS.skip {p:Jb→Bool} {l L:List RJ} {n k:Nat} (h:DelS p l n k L) (hn:n < l.length) (hp:p l[n].1=true):DelS p l (n+1) k L:=by
 refine⟨h.len,?_,by have:=h.lt;omega,hn,fun j hj=>h.tail j (by omega)⟩
 rw[List.take_succ_eq_append_getElem hn,List.filter_append,List.filter_cons_of_neg (by simp[hp]),List.filter_nil,List.append_nil,h.take]
theorem DelS.keep {p:Jb→Bool} {l L:List RJ} {n k:Nat} (h:DelS p l n k L) (hn:n < l.length) (hp:p l[n].1=false):DelS p l (n+1) (k+1) (L.set k l[n]):=by
 have hk:k < L.length:=by have:=h.lt;have:=h.len;omega
 refine⟨by rw[List.length_set];exact h.len,?_,by have:=h.lt;omega,hn,fun j hj=>?_⟩
 ·rw[List.take_succ_eq_append_getElem hn,List.filter_append,List.filter_cons_of_pos (by simp[hp]),List.filter_nil,← h.take,List.take_succ_eq_append_getElem (by simpa using hk),List.getElem_set_self,List.take_set_of_le (Nat.le_refl _)]
 ·rw[List.getElem?_set_ne (by have:=h.lt;omega)]
  exact h.tail j (by omega)
theorem rj_back {w:World} {v:Value} {rs:List RJ} (h:SlR w 9 (rc RJ.cells) v rs) (hk:∀ r∈rs,r.1.ok∧SlR w 1 rInt (RJ.nv r) r.1.nodes):SlR w 9 rJob v (rs.map Prod.fst):=by
 obtain⟨a,cap,rfl,h1,h2,h3⟩:=h
 refine⟨a,cap,by simp,by simpa using h1,h2,fun i hi=>?_⟩
 have hi':i < rs.length:=by simpa using hi
 obtain⟨b,off,cs,ha,hk',hc,hr⟩:=h3 i hi'
 obtain⟨q1,q2⟩:=hk _ (List.getElem_mem hi')
 exact⟨b,off,cs,ha,hk',hc,RJ.nv rs[i],by have h9:cs=RJ.cells rs[i]:=hr;simpa [RJ.cells] using h9,by simpa using q1,by simpa using q2⟩
abbrev oRJ:Ow (List RJ):=oSl 92 9 (oFlat RJ.cells)
theorem findI_both {α:Type} (p:α→Bool) (l:List α):(findI p l=-1∧∀ x∈l,p x=false)∨∃ k,∃ h:k < l.length,findI p l=(k:Int)∧p l[k]=true∧∀ (j:Nat) (hj:j < l.length),j < k→p l[j]=false:=by
 by_cases ha:l.any p=true
 ·right
  have hk:l.findIdx p < l.length:=List.findIdx_lt_length_of_exists (by simpa using ha)
  refine⟨l.findIdx p,hk,by unfold findI;rw[if_pos ha],List.findIdx_getElem,fun j hj hjk=>?_⟩
  have:=List.not_of_lt_findIdx hjk
  simpa using this
 ·left
  refine⟨by unfold findI;rw[if_neg ha],fun x hx=>?_⟩
  cases e:p x
  ·rfl
  ·exact absurd (List.any_eq_true.2 ⟨x,hx,e⟩) ha
theorem zero_job (i:TypeInfo) (z:Value) (hi:Tryz.prog.info? 92=some i) (hz:i.zero=some z) (n:Nat):∀ v∈(Builtin.zeroCells z.cells n).toList,v.oneCell'=true:=by
 have h:=info_JobI
 rw[hi] at h
 simp at h
 rw[hz] at h
 have hz2:z=.agg #[(.int .i64 0),(.int .i64 0),(.int .i64 0),(.int .i64 0),(.int .i64 0),(.int .i64 0),(.int .i64 0),(.int .i64 0),.slice none 0 0]:=by simpa using h.1
 subst hz2
 intro v hv
 simp only[Builtin.zeroCells,Value.cells,Array.toList_map,List.mem_map] at hv
 obtain⟨j,_,rfl⟩:=hv
 have hj:j % 9=0∨j % 9=1∨j % 9=2∨j % 9=3∨j % 9=4∨j % 9=5∨j % 9=6∨j % 9=7∨j % 9=8:=by omega
 rcases hj with e | e | e | e | e | e | e | e | e<;>(simp[e];rfl)
set_option maxHeartbeats 3200000 in
theorem delJob_any (B g cap:Nat) (l:List RJ) (w0 w:World) (fn:Nat) (caps:Array Value) (p:Jb→Bool) (h:Row B w 92 9 RJ.cells (.slice (some ⟨g,0,none⟩) l.length cap) l) (h0:Ext w0 w) (hg:w0.heap.size≤g) (hm:l.length≤1048576) (hk:∀ r∈l,r.1.ok∧SlR w0 1 rInt (RJ.nv r) r.1.nodes)
  (hcf:∀ args w,(callFunc fn args).run Tryz.prog w=.ok (.enter fn args) w) (Hf:∀ W u j,Ext w0 W→eJob W u j→Calls Tryz.prog fn (#[u]++caps) W fun e w'=>e=.returned (.bool (p j))∧Ext W w') :
  Calls Tryz.prog 105 #[.slice (some ⟨g,0,none⟩) l.length cap,.func (.func fn) #[] caps] w fun e w'=>∃ k,e=.returned (.slice (some ⟨g,0,none⟩) k cap)∧Chg [g] w w'∧Row B w' 92 9 RJ.cells (.slice (some ⟨g,0,none⟩) k cap) (l.filter (fun r=>!p r.1)):=by
 obtain⟨fp,hO⟩:=Row.own (f:=RJ.cells) (K:=9) (fun _=>rfl) h
 have HO:=tH hO
 have HK:=tH hk
 have HF:=tH Hf
 have H0:=tH h0
 have HG:=tH hg
 have HRC:Hid (SlR w 9 rJob (.slice (some ⟨g,0,none⟩) l.length cap) (l.map Prod.fst)):=tH (rj_back (oFl_reads (f:=RJ.cells) (fun _=>rfl) hO.1) (fun r hr=>⟨(hk r hr).1,(hk r hr).2.ext rInt_stable h0⟩))
 clear h hO hk Hf h0 hg
 go_enter Tryz.func105,Tryz.ntmps105
 go_wp2_with fail
 refine(indexFuncJb_any fn caps p _ (l.map Prod.fst) _ (HRC.out.ext rJob_stable xE) hcf (fun W u x hx hu=>HF.out W u x (H0.out.trans hx) hu)).mono ?_
 rintro e _ ⟨rfl,⟨X,rfl⟩⟩
 rcases findI_both p (l.map Prod.fst) with ⟨e1,hall⟩ | ⟨k,hkl,e1,hpk,hpre⟩
 ·rw[e1]
  have HA:Hid (l.filter (fun r=>!p r.1)=l):=tH (List.filter_eq_self.2 fun r hr=>by rw[hall r.1 (List.mem_map.2 ⟨r,hr,rfl⟩)];rfl)
  clear e1 hall HRC
  go_wp2
  go_ret
  refine⟨l.length,rfl,Ext.chg xE _,?_⟩
  rw[HA.out]
  exact Row.ext xE (Own.rowG (fun _=>rfl) HO.out)
 ·rw[e1]
  have hkl':k < l.length:=by simpa using hkl
  have HD:=tH (DelS.start (p:=p) (l:=l) hkl' (by simpa using hpk) (fun j hj hjk=>by have:=hpre j (by simpa using hj) hjk;simpa using this))
  have hne:((k:Int) == -1)=false:=beq_eq_false_iff_ne.2 (by omega)
  clear e1 hpk hpre hkl HRC
  go_wp2
  go_loopw [5,6] (fun i j wr=>∃ (k n:Nat) (L:List RJ),i=.int .i64 k∧j=.int .i64 n∧Hid (Chg [g] w wr)∧Hid (Own B wr oRJ fp [.slice (some ⟨g,0,none⟩) l.length cap] L)∧Hid (DelS p l n k L)) (fun _ j _=>l.length-(intOf j).toNat)
  case atStart=>exact⟨k,k+1,l,rfl,by go_num,tH (Ext.chg xE _),tH (HO.out.ext (oSl_local (oFlat_local _)) (oSl_held (oFlat_held _)) xE),HD⟩
  case round =>
   clear HD
   obtain⟨k,n,L,rfl,rfl,HC,HOW,HD⟩:=hrel
   have HLL:=tH HD.out.len
   have HKN:=tH (And.intro HD.out.lt HD.out.le)
   by_cases hlt:n < l.length
   ·obtain⟨ho,hfz,hcs,-,-⟩:=oFl_at (f:=RJ.cells) (fun _=>rfl) HOW.out.1 HOW.out.2.1 (show n < L.length by rw[HLL.out];exact hlt)
    rw[HD.out.at hlt] at hcs
    obtain⟨hok,hnd⟩:=HK.out l[n] (List.getElem_mem hlt)
    have c0:=hcs 0 _ rfl
    have c1:=hcs 1 _ rfl
    have c2:=hcs 2 _ rfl
    have c3:=hcs 3 _ rfl
    have c4:=hcs 4 _ rfl
    have c5:=hcs 5 _ rfl
    have c6:=hcs 6 _ rfl
    have c7:=hcs 7 _ rfl
    have c8:=hcs 8 _ rfl
    have HND:=tH (And.intro hok hnd)
    unfold RJ.nv at c8
    simp only[Nat.add_zero] at c0
    have hltz:(n:Int) < (l.length:Int):=by omega
    clear hcs hok hnd
    have HE0:=tH (HC.out.ext H0.out (by have:=HG.out;simp;omega))
    have HLT:=tH hlt
    clear hltz hne hkl'
    have hltz:(n:Int) < (l.length:Int):=by omega
    go_upto_region 8 with fail
    have hxa:Ext wr (wr.alloc (.cells #[(.int .i64 l[n].1.l.lv),(.int .i64 l[n].1.l.st),(.int .i64 l[n].1.id),(.int .i64 l[n].1.need),(.int .i64 l[n].1.long),(.int .i64 l[n].1.prio),(.int .i64 l[n].1.state),(.int .i64 l[n].1.start),.slice l[n].2.1 l[n].1.nodes.length l[n].2.2] 92)):=(Ext.refl _).alloc _
    have HBX:=tH (Blk.new (w:=wr) (cs:=#[(.int .i64 l[n].1.l.lv),(.int .i64 l[n].1.l.st),(.int .i64 l[n].1.id),(.int .i64 l[n].1.need),(.int .i64 l[n].1.long),(.int .i64 l[n].1.prio),(.int .i64 l[n].1.state),(.int .i64 l[n].1.start),.slice l[n].2.1 l[n].1.nodes.length l[n].2.2]) (ty:=92) rfl)
    have HCy:=tH (HC.out.trans (hxa.chg _))
    have HOy:=tH (HOW.out.ext (oSl_local (oFlat_local _)) (oSl_held (oFlat_held _)) hxa)
    have HEy:=tH (HE0.out.trans hxa)
    clear hxa c0 c1 c2 c3 c4 c5 c6 c7 c8 ho hfz hltz HC HOW HE0
    generalize wr.heap.size=bx at HBX ⊢
    generalize wr.alloc (.cells #[(.int .i64 l[n].1.l.lv),(.int .i64 l[n].1.l.st),(.int .i64 l[n].1.id),(.int .i64 l[n].1.need),(.int .i64 l[n].1.long),(.int .i64 l[n].1.prio),(.int .i64 l[n].1.state),(.int .i64 l[n].1.start),.slice l[n].2.1 l[n].1.nodes.length l[n].2.2] 92)=wy at HBX HCy HOy HEy ⊢
    have d0:wy.cell? ⟨bx,0,none⟩=some (.int .i64 l[n].1.l.lv):=HBX.out.cell 0
    have d1:wy.cell? ⟨bx,1,none⟩=some (.int .i64 l[n].1.l.st):=HBX.out.cell 1
    have d2:wy.cell? ⟨bx,2,none⟩=some (.int .i64 l[n].1.id):=HBX.out.cell 2
    have d3:wy.cell? ⟨bx,3,none⟩=some (.int .i64 l[n].1.need):=HBX.out.cell 3
    have d4:wy.cell? ⟨bx,4,none⟩=some (.int .i64 l[n].1.long):=HBX.out.cell 4
    have d5:wy.cell? ⟨bx,5,none⟩=some (.int .i64 l[n].1.prio):=HBX.out.cell 5
    have d6:wy.cell? ⟨bx,6,none⟩=some (.int .i64 l[n].1.state):=HBX.out.cell 6
    have d7:wy.cell? ⟨bx,7,none⟩=some (.int .i64 l[n].1.start):=HBX.out.cell 7
    have d8:wy.cell? ⟨bx,8,none⟩=some (.slice l[n].2.1 l[n].1.nodes.length l[n].2.2):=HBX.out.cell 8
    have bo:=HBX.out.old
    go_wp2_with fail
    refine(HF.out _ _ l[n].1 HEy.out ⟨l[n].2.1,l[n].2.2,rfl,HND.out.1,HND.out.2.ext rInt_stable HEy.out⟩).mono ?_
    rintro e _ ⟨rfl,Y,rfl⟩
    cases hp:p l[n].1
    ·have HD9:=tH (HD.out.keep HLT.out hp)
     have hkL:k < L.length:=by have:=HLL.out;have:=HKN.out;omega
     have hxy:Ext wy (wy.plus Y):=(Ext.refl _).plus Y
     have HCz:=tH (HCy.out.trans (hxy.chg _))
     have HOz:=tH (HOy.out.ext (oSl_local (oFlat_local _)) (oSl_held (oFlat_held _)) hxy)
     have HBz:=tH (HBX.out.ext hxy)
     clear hxy d0 d1 d2 d3 d4 d5 d6 d7 d8 bo HEy HCy HOy HBX
     generalize wy.plus Y=wz at HCz HOz HBz ⊢
     clear Y wy
     obtain⟨ho,hfz,hcs,-,hset⟩:=oFl_at (f:=RJ.cells) (fun _=>rfl) HOz.out.1 HOz.out.2.1 hkL
     have HST:=tH (hset l[n])
     have c0:=hcs 0 _ rfl
     have c1:=hcs 1 _ rfl
     have c2:=hcs 2 _ rfl
     have c3:=hcs 3 _ rfl
     have c4:=hcs 4 _ rfl
     have c5:=hcs 5 _ rfl
     have c6:=hcs 6 _ rfl
     have c7:=hcs 7 _ rfl
     have c8:=hcs 8 _ rfl
     simp only[Nat.add_zero] at c0
     have d0:wz.cell? ⟨bx,0,none⟩=some (.int .i64 l[n].1.l.lv):=HBz.out.cell 0
     have d1:wz.cell? ⟨bx,1,none⟩=some (.int .i64 l[n].1.l.st):=HBz.out.cell 1
     have d2:wz.cell? ⟨bx,2,none⟩=some (.int .i64 l[n].1.id):=HBz.out.cell 2
     have d3:wz.cell? ⟨bx,3,none⟩=some (.int .i64 l[n].1.need):=HBz.out.cell 3
     have d4:wz.cell? ⟨bx,4,none⟩=some (.int .i64 l[n].1.long):=HBz.out.cell 4
     have d5:wz.cell? ⟨bx,5,none⟩=some (.int .i64 l[n].1.prio):=HBz.out.cell 5
     have d6:wz.cell? ⟨bx,6,none⟩=some (.int .i64 l[n].1.state):=HBz.out.cell 6
     have d7:wz.cell? ⟨bx,7,none⟩=some (.int .i64 l[n].1.start):=HBz.out.cell 7
     have d8:wz.cell? ⟨bx,8,none⟩=some (.slice l[n].2.1 l[n].1.nodes.length l[n].2.2):=HBz.out.cell 8
     have bo:=HBz.out.old
     have hkl2:k < l.length:=by have:=HKN.out;omega
     clear hcs hset
     go_upto_region 10 with fail
     refine gen_world (fun W hW=>?_)
     have hLay:W=wz.layCells g (k*9) (RJ.cells l[n]):=hW
     have HCw:Hid (Chg [g] w W):=tH (HCz.out.trans (by rw[hLay];exact layCells_chg _ _ _ _))
     have HOw:Hid (Own B W oRJ fp [.slice (some ⟨g,0,none⟩) l.length cap] (L.set k l[n])):=tH (by rw[hLay];exact⟨HST.out,HOz.out.2⟩)
     clear hW hLay c0 c1 c2 c3 c4 c5 c6 c7 c8 d0 d1 d2 d3 d4 d5 d6 d7 d8 bo ho hfz HST
     have hwk:wrap64 ((k:Int)+1)=(k:Int)+1:=by unfold wrap64;omega
     clear hkl2 hkL
     go_wp2
     exact⟨⟨k+1,n+1,L.set k l[n],by go_num,by go_num,HCw,HOw,HD9⟩,by simp[intOf];have:=HLT.out;omega⟩
    ·have HD9:=tH (HD.out.skip HLT.out hp)
     clear d0 d1 d2 d3 d4 d5 d6 d7 d8 bo
     go_wp2
     exact⟨⟨k,n+1,L,rfl,by go_num,tH (HCy.out.plus _),tH (HOy.out.ext (oSl_local (oFlat_local _)) (oSl_held (oFlat_held _)) ((Ext.refl _).plus _)),HD9⟩,by simp[intOf];have:=HLT.out;omega⟩
   ·obtain rfl:n=l.length:=by have:=HKN.out;omega
    obtain⟨cur,hg,hsz,hBg⟩:=HOW.out.curF
    have HGC:=tH hg
    have HSZ:=tH hsz
    obtain⟨a',cap',hv,hcm,hlc⟩:=oSl_shape HO.out.1
    obtain⟨rfl,rfl⟩:a'=some ⟨g,0,none⟩∧cap=cap':=by simpa [eq_comm] using hv
    have hkl:k < l.length:=HKN.out.1
    have hkc2:k≤cap:=by omega
    have hck2:¬ cap=k:=by omega
    obtain⟨w2,cur',hrun,hc,hg',hs',ht'⟩:=clear_run el_JobI 0 g (k*9) (l.length-k) (cap-k) cur 92 (by omega) HGC.out (by have:=HSZ.out;omega) (fun i z hi hz=>zero_job i z hi hz _)
    have HC1:=tH hc
    have HG1:=tH hg'
    have HS1:=tH hs'
    have HT1:=tH ht'
    clear hc hg' hs' ht' hg hsz hBg hv hcm
    go_wp2
    go_ret
    obtain⟨fp',hO'⟩:=Own.takeF HOW.out (show k≤L.length by have:=HLL.out;omega)
    have hlen:(L.take k).length=k:=by rw[List.length_take];have:=HLL.out;omega
    have hO2:=hO'.tailF HGC.out HG1.out HS1.out (by rw[hlen];exact HT1.out)
    refine⟨k,rfl,HC.out.trans HC1.out,?_⟩
    have h9:=HD.out.take
    rw[List.take_length] at h9
    rw[← h9]
    exact Own.rowG (fun _=>rfl) hO2
end Go.Proofs.YtbmbanelodabgaaGreatDoor
