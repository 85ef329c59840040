/- copy and append of zeros over rows of cells; mathematics of an insertion. -/
import Derived.Test.YtdoeoojjabnboaaGreatKBG
import Derived.Lib.AppendZerosOnto
import Derived.Lib.Overlaps
import Derived.Laws.CopyRow
import Derived.Test.YtdoeoojjabnboaaGreatKPA1
import Derived.Test.YtdoeoojjabnboaaGreatKJA1
import Derived.Test.YtdoeoojjabnboaaGreatKQJ
import Derived.Test.YtdoeoojjabnboaaGreatKJE
import Derived.Lib.SliceRun
set_option maxRecDepth 100000
set_option linter.unusedVariables false
namespace Go
open Go.RowKit
def patch (l:List Value) (o:Nat) (cs:List Value):List Value:=l.take o++cs++l.drop (o+cs.length)
theorem patch_len {l:List Value} {o:Nat} {cs:List Value} (h:o+cs.length≤l.length):(patch l o cs).length=l.length:=by
 unfold patch;simp;omega
theorem patch_room {C X D:List Value} {a k N:Nat} (ha:a≤N) (hN:N+k≤C.length) (hX:X.length=k) (hD:D=(C.take N).drop a) :
  (patch (patch C (a+k) D) a X).take (N+k)=C.take a++X++D:=by
 have hl:D.length=N-a:=by rw[hD];simp;omega
 have h1:(patch C (a+k) D).take a=C.take a:=by
  unfold patch
  rw[List.append_assoc,List.take_append_of_le_length (by simp;omega),List.take_take]
  congr 1;omega
 have h2:(patch C (a+k) D).drop (a+X.length)=D++C.drop (a+k+D.length):=by
  unfold patch
  rw[hX,List.append_assoc,List.drop_append_of_le_length (by simp;omega),List.drop_eq_nil_of_le (by simp;omega),List.nil_append]
 show ((patch C (a+k) D).take a++X++(patch C (a+k) D).drop (a+X.length)).take (N+k)=_
 rw[h1,h2,← List.append_assoc]
 exact List.take_left' (by simp;omega)
theorem patch_new {C X D T:List Value} {a k N:Nat} (ha:a≤N) (hN:N+k≤C.length) (hX:X.length=k) (hT:C.take a=T) (hl:D.length=N-a) :
  (patch (patch C a X) (a+k) D).take (N+k)=T++X++D:=by
 have h1:(patch C a X).take (a+k)=C.take a++X:=by
  unfold patch
  exact List.take_left' (by simp;omega)
 show ((patch C a X).take (a+k)++D++(patch C a X).drop (a+k+D.length)).take (N+k)=_
 rw[h1,hT]
 have:T.length=a:=by rw[← hT];simp;omega
 exact List.take_left' (by simp;omega)
theorem flatMap_drop {α:Type} {f:α→List Value} {K:Nat} (hf:∀ x,(f x).length=K) (xs:List α) (k:Nat):(xs.drop k).flatMap f=(xs.flatMap f).drop (k*K):=by
 by_cases hk:k≤xs.length
 ·conv=>rhs;rw[← List.take_append_drop k xs,List.flatMap_append]
  rw[List.drop_left' (by rw[flatMap_len hf,List.length_take];congr 1;omega)]
 ·rw[List.drop_eq_nil_of_le (by omega),List.drop_eq_nil_of_le (by rw[flatMap_len hf];exact Nat.mul_le_mul_right _ (by omega))];rfl
theorem setRow_chg (w:World) (g:Nat) (cur:Array Value):Chg [g] w (w.setRow g cur) :=
 ⟨rfl,rfl,rfl,by simp,fun k _ hk=>setRow_other w g k _ (fun e=>hk (by simp[e]))⟩
section
variable {P:Program} {ops:Array Oper} {rest:List Oper} {op:Oper} {a:Act} {Q:Exit→Act→World→Prop}
theorem copyK {t e:TypeId} {size bytes:Nat} {W:World} (E:ElemInfo P t e size bytes) (hgd:op.guard=none) (d s:Operand)
  (ho:op.op=.call { callee:=.builtin .copy,args:=#[d,s],argTypes:=#[t,t] })
  (g o dLen dCap:Nat) (ad:Addr) (sLen sCap n:Nat) (cur:Array Value) (ty:TypeId) (cs:List Value)
  (hd:a.eval d=.slice (some ⟨g,o,none⟩) dLen dCap) (hs:a.eval s=.slice (some ad) sLen sCap)
  (hg:W.heap[g]?=some (.cells cur ty (0,0))) (hn:n=Nat.min sLen dLen) (hcl:cs.length=n*size)
  (hsrc:∀ j v,cs[j]?=some v→W.cell? (ad.add j)=some v) (hfit:o+cs.length≤cur.size) (h1:∀ v∈cs,v.oneCell'=true)
  (h:∀ w',Chg [g] W w'→w'.heap[g]?=some (.cells (patch cur.toList o cs).toArray ty (0,0))→wpList P ops Q rest (a.put op.dst (.int .i64 n)) w'):wpList P ops Q (op :: rest) a W:=by
 obtain⟨i,z,hi,hz,hsize,hby,hzs⟩:=E.info
 subst hsize
 refine wpList_plain hgd fun K hK=>?_
 have hl:=run_firstCells_some (P:=P) W i.size n ad sLen sCap cs hcl hsrc
 have hst:=run_storeCells_at P g o ty cs 0 cur W hg (by simpa using hfit) h1
 have hrun:(Builtin.copy_ #[t,t] op.type #[.slice (some ⟨g,o,none⟩) dLen dCap,.slice (some ad) sLen sCap]).run P W=.ok (goInt n) (W.setRow g (patch cur.toList o cs).toArray):=by
  simp[Builtin.copy_,run_underlying E.und,Builtin.lenOf,sizeOf,typeInfo,hi,← hn,hl,hst,patch]
 unfold Oper.wp
 simp[execOp,ho,resolve,invoke,builtin,hd,hs,hrun,Result.andThen]
 exact hK _ _ (h _ (setRow_chg W g _) (setRow_heap W g cur _ ty _ hg))
theorem growK {t tn e:TypeId} {size bytes:Nat} {W:World} (E:ElemInfo P t e size bytes) (htn:P.underlying tn=some (.int .i64)) (hgd:op.guard=none) (s x:Operand)
  (ho:op.op=.call { callee:=.builtin .append,args:=#[s,x],argTypes:=#[t,tn] })
  (ad:Addr) (i sCap k:Nat) (xs:List Value)
  (hs:a.eval s=.slice (some ad) i sCap) (hx:a.eval x=.int .i64 (k:Int)) (hxl:xs.length=i*size)
  (hsrc:∀ j v,xs[j]?=some v→W.cell? (ad.add j)=some v) (h0:0 < k) (hroom:sCap < i+k) (h63:i+k≤maxLen) (hbytes:(i+k)*bytes≤140737488355328)
  (h:∀ w' cap cur,Ext W w'→w'.heap[W.heap.size]?=some (.cells cur e (0,0))→i+k≤cap→cap≤maxLen→cur.size=cap*size→cur.toList.take (i*size)=xs→wpList P ops Q rest (a.put op.dst (.slice (some ⟨W.heap.size,0,none⟩) (i+k) cap)) w'):wpList P ops Q (op :: rest) a W:=by
 obtain⟨q,z,hi,hz,hsize,hby,hzs⟩:=E.info
 have hp:=E.pos
 subst hsize
 subst hby
 refine wpList_plain hgd fun K hK=>?_
 have hold:=run_firstCells_some (P:=P) W.drew q.size i ad i sCap xs hxl hsrc
 have hfit:=growslice_fits hroom hbytes
 have hrun:=Lib.run_append_grow_zeros W t tn op.type e q z .i64 .i64 E.und htn hi hz (some ad) i sCap xs hold k h0 hp hroom (by unfold maxLen at h63;omega) (by
  have:k*q.bytes≤(i+k)*q.bytes:=Nat.mul_le_mul_right _ (by omega)
  omega) hfit
 unfold Oper.wp
 simp[execOp,ho,resolve,invoke,builtin,hs,hx,hrun,Result.andThen]
 refine hK _ _ (h _ _ _ ((Ext.refl _).drew.alloc _) (heap_alloc_new W.drew _) (grownCap_ge W _ _ _) (grownCap_le_maxLen W _ _ _ h63) ?_ ?_)
 ·have:=grownCap_ge W (i+k) sCap e
  simp only[Array.size_append,List.size_toArray,size_zeroCells,hzs,hxl,← Nat.add_mul]
  congr 1;omega
 ·simp only[Array.toList_append]
  exact List.take_left' hxl
end
end Go
set_option maxRecDepth 100000
set_option linter.unusedVariables false
namespace Go.Proofs.YtdoeoojjabnboaaGreat
open Go.RowKit Go.Fin1
theorem info_Span:(Tryz.prog.info? 130).map (fun i=>(i.zero,i.size,i.bytes))=some (some (.agg #[(.int .i64 0),(.int .i64 0)]),2,16):=by kernel_rfl
theorem el_Span:ElemInfo Tryz.prog 133 130 2 16:=by
 obtain⟨i,hi,hz,hs,hb⟩:=info_parts info_Span
 exact⟨Tryz.underlying133,⟨i,_,hi,hz,hs,hb,rfl⟩,by decide⟩
theorem Chg.slc {a:Option Addr} {n c n' c':Nat} {w w':World} (h:Chg (blkL (.slice a n c)) w w'):Chg (blkL (.slice a n' c')) w w':=by cases a<;>exact h
def insL (l:List Spn) (i:Nat) (x:Spn):List Spn:=l.take i++x :: l.drop i
theorem insL_cells (l:List Spn) (i:Nat) (x:Spn):(insL l i x).flatMap Spn.cells=(l.flatMap Spn.cells).take (i*2)++x.cells++(l.flatMap Spn.cells).drop (i*2):=by
 unfold insL
 rw[List.flatMap_append,List.flatMap_cons,flatMap_take (K:=2) (fun _=>rfl),flatMap_drop (K:=2) (fun _=>rfl),List.append_assoc]
theorem insL_len {l:List Spn} {i:Nat} (x:Spn) (h:i≤l.length):(insL l i x).length=l.length+1:=by
 unfold insL;simp;omega
theorem spn_one {l:List Spn} {u:Value} (h:u∈l.flatMap Spn.cells):u.oneCell'=true:=by
 obtain⟨x,_,hx⟩:=List.mem_flatMap.1 h
 simp[Spn.cells] at hx
 rcases hx with rfl | rfl<;>rfl
theorem spn_one1 {x:Spn} {u:Value} (h:u∈x.cells):u.oneCell'=true:=by
 simp[Spn.cells] at h
 rcases h with rfl | rfl<;>rfl
theorem row_in {B:Nat} {w:World} {g n cap:Nat} {l:List Spn} {x:Spn} {i:Nat} {C:List Value} (hb:B≤g) (hg:w.heap[g]?=some (.cells C.toArray 130 (0,0))) (hn:n=l.length+1) (hc:n≤cap) (hm:cap≤maxLen) (hs:C.length=cap*2)
  (hi:i≤l.length) (ht:C.take (n*2)=(l.flatMap Spn.cells).take (i*2)++x.cells++(l.flatMap Spn.cells).drop (i*2)) :
  Row B w 130 2 Spn.cells (.slice (some ⟨g,0,none⟩) n cap) (insL l i x):=by
 subst hn
 refine⟨?_,.inr ⟨g,cap,C.toArray,by rw[insL_len x hi],hb,hg,by rw[insL_len x hi];omega,hm,by simpa using hs,?_⟩⟩
 ·rw[flatMap_len (K:=2) (fun _=>rfl)]
 ·rw[insL_len x hi,insL_cells]
  simpa using ht
set_option maxHeartbeats 3200000 in
theorem insertSpn_any (B:Nat) (v:Value) (l:List Spn) (i:Nat) (x:Spn) (vb:Nat) (w:World) (h:Row B w 130 2 Spn.cells v l) (hB:B≤w.heap.size) (hi:i≤l.length) (hl:l.length≤1048576)
  (hv:w.heap[vb]?=some (.cells #[(.int .i64 x.f),(.int .i64 x.t)] 130 (0,0))) (hne:∀ b∈blkL v,b≠vb) :
  Calls Tryz.prog 141 #[v,(.int .i64 (i:Int)),.slice (some ⟨vb,0,none⟩) 1 1] w fun e w'=>∃ v',e=.returned v'∧Chg (blkL v) w w'∧Row B w' 130 2 Spn.cells v' (insL l i x):=by
 have hvc:∀ j u,x.cells[j]?=some u→w.cell? ((⟨vb,0,none⟩:Addr).add j)=some u:=fun j u hj=>by
  rw[Addr.add_lit,cell_of_heap hv,Nat.zero_add]
  simpa [Spn.cells] using hj
 have HVC:=tH hvc
 have HR:=tH h
 clear hvc
 by_cases hin:i=l.length
 ·
  subst hin
  obtain⟨a,cap,rfl⟩:=h.shape
  have HE:=tH (show insL l l.length x=l++[x] by unfold insL;simp)
  clear h hi hv hne
  go_enter Tryz.func141,Tryz.ntmps141
  go_wp2_with (at_builtin;go_must (refine Row.appC (f:=Spn.cells) el_Span rfl _ _ rfl B hB (.slice a l.length _) l rfl HR.out ⟨vb,0,none⟩ 1 1 [x] rfl rfl (fun _=>rfl) ?_ ?_ ?_ ?_ ?_);(intro j u hj;exact HVC.out j u (by simpa using hj));(intro u hu;exact spn_one hu);(unfold maxLen;simp;omega);(simp;omega);intro v' w2 hR hC;have HR2:=tH hR;have HC2:=tH hC;clear hR hC)
  all_goals go_ret
  all_goals exact⟨_,rfl,Chg.slc HC2.out,by rw[HE.out];exact HR2.out⟩
 ·have hlt:i < l.length:=by omega
  rcases h.2 with ⟨rfl,h0⟩ | ⟨g,cap,cur,rfl,hbg,hg,hnc,hcm,hcs,htake⟩
  ·omega
  have hbs:cur.toList.length=cap*2:=by simpa using hcs
  have hq:((i:Int) == (l.length:Int))=false:=by simp;omega
  have hgv:vb≠g:=fun e=>hne g (by simp[blkL]) e.symm
  have hgl:g < w.heap.size:=(Array.getElem?_eq_some_iff.1 hg).1
  have hcl:(l.flatMap Spn.cells).length=l.length*2:=flatMap_len (K:=2) (fun _=>rfl) l
  have hD:((l.flatMap Spn.cells).drop (i*2)).length=(l.length-i)*2:=by rw[List.length_drop,hcl];omega
  have hfz:w.frozen? ⟨vb,0,none⟩=false:=frozen_of_heap hv 0
  have hfe:w.frozen? ⟨vb,2,none⟩=false:=frozen_of_heap hv 2
  by_cases hroom:l.length+1≤cap
  ·
   have hov:∀ lb cb,(callFunc 161 #[.slice (some ⟨vb,0,none⟩) 1 1,.slice (some ⟨g,(i+1)*2,none⟩) lb cb]).run Tryz.prog w=.ok (.value (.bool false)) w:=fun lb cb=>by
    rw[run_callFunc_extern Tryz.func161 (by kernel_rfl) (by kernel_rfl) (by kernel_rfl) (e:=Extern.SlicesOverlaps.overlaps #[133,133] #[4]) (by kernel_rfl),
     Lib.run_overlaps_apart w 133 4 130 el_Span.und 2 (fun _=>by kernel_rfl) ⟨vb,0,none⟩ ⟨g,(i+1)*2,none⟩ 1 1 lb cb hgv 130 130 2 (cap*2) (by simp[World.shape?,hv]) (by simp[World.shape?,hg,hcs]) (by omega) hfz hfe]
    rfl
   have hr:decide (((l.length:Int)+1) > (cap:Int))=false:=decide_eq_false (by omega)
   have HG:=tH hg
   have HT:=tH htake
   have HCC:=tH hcs
   have HTL:=tH hbs
   have hsrc:∀ j u,((l.flatMap Spn.cells).drop (i*2))[j]?=some u→w.cell? ((⟨g,i*2,none⟩:Addr).add j)=some u:=fun j u hj=>by
    rw[Addr.add_lit,cell_of_heap hg]
    rw[List.getElem?_drop,← htake,List.getElem?_take] at hj
    split at hj
    ·simpa using hj
    ·cases hj
   have HSR:=tH hsrc
   have HV:=tH hv
   clear hv hg hfz hfe htake hsrc h HR hcs hbs hne
   go_enter Tryz.func141,Tryz.ntmps141
   go_wp2_with (simp only[hov])
   (refine wp_region_x 8 (by kernel_rfl) (by kernel_rfl) (by kernel_rfl) ?_;(iterate 8 (apply XReg.step;(case h=>(intro w' hw';obtain⟨X',rfl⟩:=hw';go_wp2_with (fail);exact⟨rfl,xE⟩));(case hv=>kernel_rfl)));refine XReg.done1 (fun X=>?_))
   refine copyK el_Span rfl _ _ rfl g _ _ _ ⟨g,i*2,none⟩ _ _ (l.length-i) cur 130 ((l.flatMap Spn.cells).drop (i*2)) rfl rfl ?_ ?_ hD ?_ ?_ ?_ ?_
   ·rw[World.heap_plus w X g hgl];exact HG.out
   ·simp only[Nat.min_def];split<;>omega
   ·intro j u hj;exact((Ext.refl w).plus X).cellA (HSR.out j u hj)
   ·rw[hD,HCC.out];omega
   ·intro u hu;exact spn_one (List.mem_of_mem_drop hu)
   intro w1 hC hg1
   have HC1:=tH hC
   have HG1:=tH hg1
   clear hC hg1
   have hv1:∀ j u,x.cells[j]?=some u→w1.cell? ((⟨vb,0,none⟩:Addr).add j)=some u:=fun j u hj=>by
    rw[← ((Ext.refl w).plus X).cellA (HVC.out j u hj),Addr.add_lit]
    exact World.cell?_of_block (HC1.out.block vb (by
     have:=(Array.getElem?_eq_some_iff.1 HV.out).1
     simp;omega) (by simpa using hgv))
   have HV1:=tH hv1
   clear hv1
   have hm1:=tH (show 1=Nat.min 1 (l.length+1-i) by simp only[Nat.min_def];split<;>omega)
   have hpl:=tH (patch_len (l:=cur.toList) (o:=(i+1)*2) (cs:=(l.flatMap Spn.cells).drop (i*2)) (by rw[hD,HTL.out];omega))
   have hft:=tH (show i*2+x.cells.length≤(patch cur.toList ((i+1)*2) ((l.flatMap Spn.cells).drop (i*2))).toArray.size by rw[List.size_toArray,hpl.out,HTL.out];simp[Spn.cells];omega)
   go_wp2_with (refine copyK el_Span rfl _ _ rfl g (i*2) _ _ ⟨vb,0,none⟩ 1 1 1 _ 130 x.cells rfl rfl HG1.out hm1.out rfl HV1.out hft.out (fun u hu=>spn_one1 hu) ?_;intro w2 hC hg2;have HC2:=tH hC;have HG2:=tH hg2;clear hC hg2)
   go_ret
   refine⟨_,rfl,(((Ext.refl w).plus X).chg _).trans (HC1.out.trans HC2.out),row_in hbg HG2.out rfl hroom hcm ?_ hi ?_⟩
   ·rw[patch_len (by rw[hpl.out,HTL.out];simp[Spn.cells];omega),hpl.out,HTL.out]
   ·rw[show (l.length+1)*2=l.length*2+2 by omega,show (i+1)*2=i*2+2 by omega,patch_room (a:=i*2) (k:=2) (N:=l.length*2) (by omega) (by rw[HTL.out];omega) rfl (by rw[HT.out])]
    rw[← HT.out,List.take_take,show min (i*2) (l.length*2)=i*2 by omega]
  ·
   have hr:decide (((l.length:Int)+1) > (cap:Int))=true:=decide_eq_true (by omega)
   have HT:=tH htake
   have hsrc:∀ j u,(l.flatMap Spn.cells)[j]?=some u→w.cell? ((⟨g,0,none⟩:Addr).add j)=some u:=fun j u hj=>by
    rw[Addr.add_lit,cell_of_heap hg]
    rw[← htake,List.getElem?_take] at hj
    split at hj
    ·simpa using hj
    ·cases hj
   have hsrc1:∀ j u,((l.flatMap Spn.cells).take (i*2))[j]?=some u→w.cell? ((⟨g,0,none⟩:Addr).add j)=some u:=fun j u hj=>by
    rw[List.getElem?_take] at hj
    split at hj
    ·exact hsrc j u hj
    ·cases hj
   have hsrc2:∀ j u,((l.flatMap Spn.cells).drop (i*2))[j]?=some u→w.cell? ((⟨g,i*2,none⟩:Addr).add j)=some u:=fun j u hj=>by
    rw[List.getElem?_drop] at hj
    have:=hsrc _ u hj
    rw[Addr.add_lit] at this ⊢
    rw[Nat.zero_add] at this
    exact this
   have HSR1:=tH hsrc1
   have HSR2:=tH hsrc2
   have HV:=tH hv
   have HTI:=tH (show ((l.flatMap Spn.cells).take (i*2)).length=i*2 by rw[List.length_take,hcl];omega)
   have hkk:(l.length:Int)+1-(i:Int)=((l.length+1-i:Nat):Int):=by omega
   have hik:i+(l.length+1-i)=l.length+1:=by omega
   have HIK:=tH hik
   have hvl:vb < w.heap.size:=(Array.getElem?_eq_some_iff.1 hv).1
   clear hv hg hfz hfe htake hsrc hsrc1 hsrc2 h HR hcs hbs hne hik
   go_enter Tryz.func141,Tryz.ntmps141
   go_upto_region 10 with (at_builtin;go_must (refine growK (tn:=3) el_Span rfl rfl _ _ rfl ⟨g,0,none⟩ i cap (l.length+1-i) _ rfl (by rw[← hkk];rfl) HTI.out HSR1.out ?_ ?_ ?_ ?_ ?_);omega;(rw[HIK.out];omega);(rw[HIK.out];unfold maxLen;omega);(rw[HIK.out];omega);intro w1 cap1 cur1 hx hg1 hc1 hm1 hs1 ht1;rw[HIK.out] at hc1;rw[HIK.out];have HX1:=tH hx;have HG1:=tH hg1;have HS1:=tH hs1;have HT1:=tH ht1;clear hx hg1 hs1 ht1)
   have hl1:w.heap.size < w1.heap.size:=(Array.getElem?_eq_some_iff.1 HG1.out).1
   have hvn:vb≠w.heap.size:=by omega
   have hgn:g≠w.heap.size:=by omega
   have hv1:∀ j u,x.cells[j]?=some u→w1.cell? ((⟨vb,0,none⟩:Addr).add j)=some u:=fun j u hj=>HX1.out.cellA (HVC.out j u hj)
   have HV1:=tH hv1
   clear hv1
   have hmn:=tH (show 1=Nat.min 1 (l.length+1-i) by simp only[Nat.min_def];split<;>omega)
   have HTL:=tH (show cur1.toList.length=cap1*2 by simpa using HS1.out)
   have hft:=tH (show i*2+x.cells.length≤cur1.size by rw[HS1.out];simp[Spn.cells];omega)
   have hpl:=tH (patch_len (l:=cur1.toList) (o:=i*2) (cs:=x.cells) (by rw[HTL.out];simp[Spn.cells];omega))
   go_wp2_with (refine copyK el_Span rfl _ _ rfl w.heap.size (i*2) _ _ ⟨vb,0,none⟩ 1 1 1 _ 130 x.cells rfl rfl HG1.out hmn.out rfl HV1.out hft.out (fun u hu=>spn_one1 hu) ?_;intro w2 hC hg2;have HC2:=tH hC;have HG2:=tH hg2;clear hC hg2)
   (refine wp_region_x 8 (by kernel_rfl) (by kernel_rfl) (by kernel_rfl) ?_;(iterate 8 (apply XReg.step;(case h=>(intro w' hw';obtain⟨X',rfl⟩:=hw';go_wp2_with (fail);exact⟨rfl,xE⟩));(case hv=>kernel_rfl)));refine XReg.done1 (fun X=>?_))
   refine copyK el_Span rfl _ _ rfl w.heap.size ((i+1)*2) _ _ ⟨g,i*2,none⟩ _ _ (l.length-i) (patch cur1.toList (i*2) x.cells).toArray 130 ((l.flatMap Spn.cells).drop (i*2)) rfl rfl ?_ ?_ hD ?_ ?_ ?_ ?_
   ·rw[World.heap_plus w2 X _ (Array.getElem?_eq_some_iff.1 HG2.out).1];exact HG2.out
   ·simp only[Nat.min_def];split<;>omega
   ·intro j u hj
    refine((Ext.refl w2).plus X).cellA ?_
    rw[← HX1.out.cellA (HSR2.out j u hj),Addr.add_lit]
    exact World.cell?_of_block (HC2.out.block g (by omega) (by simpa using hgn))
   ·rw[hD,List.size_toArray,hpl.out,HTL.out];omega
   ·intro u hu;exact spn_one (List.mem_of_mem_drop hu)
   intro w3 hC hg3
   have HC3:=tH hC
   have HG3:=tH hg3
   clear hC hg3
   go_wp2
   go_ret
   have hcg:Chg (blkL (.slice (some ⟨g,0,none⟩) l.length cap)) w w3:=by
    have h13:Chg [w.heap.size] w1 w3:=HC2.out.trans ((((Ext.refl w2).plus X).chg _).trans HC3.out)
    have h03:Ext w w3:=by
     refine Chg.ext0 ?_
     have h:=(HX1.out.chg [w.heap.size]).trans h13
     exact⟨h.os,h.tape,h.output,h.size,fun k hk _=>h.block k hk (by simp;omega)⟩
    exact h03.chg _
   refine⟨_,rfl,hcg,row_in hB HG3.out rfl hc1 hm1 ?_ hi ?_⟩
   ·rw[patch_len (by rw[hpl.out,HTL.out,hD];omega),hpl.out,HTL.out]
   ·rw[show (l.length+1)*2=l.length*2+2 by omega,show (i+1)*2=i*2+2 by omega]
    exact patch_new (a:=i*2) (k:=2) (N:=l.length*2) (by omega) (by rw[HTL.out];omega) rfl HT1.out (by rw[hD];omega)
end Go.Proofs.YtdoeoojjabnboaaGreat
set_option maxRecDepth 100000
set_option linter.unusedVariables false
namespace Go.Proofs.YtdoeoojjabnboaaGreat
open Go.RowKit Go.Fin1
@[irreducible] def posS (l:List Spn) (f:Int):Nat:=(l.takeWhile (fun y=>decide (y.f < f))).length
theorem posS_le (l:List Spn) (f:Int):posS l f≤l.length:=by unfold posS;exact(List.takeWhile_prefix _).length_le
theorem takeWhile_at {α:Type} {p:α→Bool}:∀ {l:List α} {k:Nat},k≤l.length→(∀ (j:Nat) (hj:j < l.length),j < k→p l[j]=true)→(∀ (hk:k < l.length),p l[k]=false)→(l.takeWhile p).length=k
 | [],k,hk,_,_=>by simp at hk;simp[hk]
 | x :: l,0,_,_,h=>by have:=h (by simp);simp at this;simp[this]
 | x :: l,k+1,hk,h,h2=>by
  have h0:=h 0 (by simp) (by omega)
  simp at h0
  rw[List.takeWhile_cons,if_pos h0,List.length_cons,takeWhile_at (l:=l) (k:=k) (by simpa using hk) (fun j hj hjk=>h (j+1) (Nat.succ_lt_succ hj) (by omega)) (fun hk'=>h2 (Nat.succ_lt_succ hk'))]
theorem posS_at {l:List Spn} {f:Int} {k:Nat} (hk:k < l.length) (h:∀ (j:Nat) (hj:j < l.length),j < k→decide (l[j].f < f)=true) (h2:decide (l[k].f < f)=false):posS l f=k:=by
 unfold posS;exact takeWhile_at (by omega) h (fun _=>h2)
theorem posS_end {l:List Spn} {f:Int} (h:∀ (j:Nat) (hj:j < l.length),decide (l[j].f < f)=true):posS l f=l.length:=by
 unfold posS;exact takeWhile_at (Nat.le_refl _) (fun j hj _=>h j hj) (fun h'=>absurd h' (Nat.lt_irrefl _))
@[irreducible] def putL (l:List Spn) (x:Spn):List Spn :=
 if 400 < l.length then [] else if (spnsOk l&&spnOk x&&freeL l x)&&decide (l.length < 20) then insL l (posS l x.f) x else l
theorem putL_long {l:List Spn} {x:Spn} (h:400 < l.length):putL l x=[]:=by unfold putL;rw[if_pos h]
theorem putL_same {l:List Spn} {x:Spn} (h:¬ 400 < l.length) (h2:((spnsOk l&&spnOk x&&freeL l x)&&decide (l.length < 20))=false):putL l x=l:=by unfold putL;rw[if_neg h,h2];rfl
theorem putL_ins {l:List Spn} {x:Spn} {k:Nat} (h:¬ 400 < l.length) (h2:(spnsOk l&&spnOk x&&freeL l x)=true) (h3:l.length < 20) (hp:posS l x.f=k):putL l x=insL l k x:=by
 unfold putL;rw[if_neg h,h2,hp];simp[h3]
theorem spnsOk_len {l:List Spn} (h:spnsOk l=true):l.length≤20:=by
 refine Nat.le_of_not_lt fun hl=>?_
 rw[spnsOk_long hl] at h;cases h
theorem putL_len (l:List Spn) (x:Spn):(putL l x).length≤1048576:=by
 by_cases h:400 < l.length
 ·rw[putL_long h];simp
 ·cases h2:(spnsOk l&&spnOk x&&freeL l x)&&decide (l.length < 20)
  ·rw[putL_same h h2];omega
  ·simp only[Bool.and_eq_true,decide_eq_true_eq] at h2
   rw[putL_ins h (by simp[h2.1]) h2.2 rfl,insL_len x (posS_le _ _)];omega
theorem putL_ok {l:List Spn} {x:Spn} (hl:∀ y∈l,y.ok) (hx:x.ok):∀ y∈putL l x,y.ok:=by
 by_cases h:400 < l.length
 ·rw[putL_long h];intro y hy;cases hy
 ·cases h2:(spnsOk l&&spnOk x&&freeL l x)&&decide (l.length < 20)
  ·rw[putL_same h h2];exact hl
  ·simp only[Bool.and_eq_true,decide_eq_true_eq] at h2
   rw[putL_ins h (by simp[h2.1]) h2.2 rfl]
   intro y hy
   unfold insL at hy
   rcases List.mem_append.1 hy with hy | hy
   ·exact hl y (List.mem_of_mem_take hy)
   ·rcases List.mem_cons.1 hy with rfl | hy
    ·exact hx
    ·exact hl y (List.mem_of_mem_drop hy)
theorem heap_new_at {W:World} {o:Obj} {b:Nat} (h:b=W.heap.size):(W.alloc o).heap[b]?=some o:=by subst h;exact heap_alloc_new W o
theorem rSpn_rc {w:World} {v:Value} {l:List Spn} (h:SlR w 2 rSpn v l):SlR w 2 (rc Spn.cells) v l:=slr_with h fun _ _ _ hr=>hr.1
theorem spn_ok {w:World} {v:Value} {l:List Spn} (h:SlR w 2 rSpn v l):∀ x∈l,x.ok:=fun x hx=>by
 obtain⟨_,hr⟩:=slr_all h x hx
 exact hr.2
theorem row_spn {B:Nat} {w:World} {v:Value} {l:List Spn} (h:Row B w 130 2 Spn.cells v l) (hl:∀ x∈l,x.ok):SlR w 2 rSpn v l:=by
 obtain⟨fp,hO⟩:=Row.own (f:=Spn.cells) (K:=2) (fun _=>rfl) h
 exact slr_with (oFl_reads (f:=Spn.cells) (fun _=>rfl) hO.1) fun cs x hm hc=>⟨hc,hl x hm⟩
set_option maxHeartbeats 800000 in
theorem cloneSpn_any (v:Value) (l:List Spn) (w:World) (h:SlR w 2 (rc Spn.cells) v l) (hl:l.length≤1048576) :
  Calls Tryz.prog 139 #[v] w fun e w'=>∃ v',e=.returned v'∧Ext w w'∧Row w.heap.size w' 130 2 Spn.cells v' l:=by
 obtain⟨ad,cap,rfl⟩:=h.len
 have q22:∀ (w:World) (a:Option Addr) (n c n' c':Nat),(binOp .eql 133 (.slice a n c) (.slice none n' c')).run Tryz.prog w=.ok (.bool a.isNone) w:=fun w a n c n' c'=>Lib.run_eql_slice_nil w _ _ a n c n' c' (show Tryz.prog.underlying 133=some (.slice 130) by kernel_rfl)
 have HS:=tH h
 cases ad with
 | none =>
  have h0:l=[]:=by
   cases l with
   | nil=>rfl
   | cons x l=>obtain⟨b,off,he⟩:=slr_some h (Nat.zero_lt_succ _);cases he
  subst h0
  clear h
  go_enter Tryz.func139,Tryz.ntmps139
  go_wp2
  go_ret
  exact⟨_,rfl,xE,Row.nil _ _ _ _ _⟩
 | some ad =>
  have HC:=tH (slr_flat (f:=Spn.cells) (K:=2) (fun _=>rfl) h)
  clear h
  go_enter Tryz.func139,Tryz.ntmps139
  go_wp2_with (at_builtin;go_must (refine Row.appS (f:=Spn.cells) el_Span rfl _ _ rfl w xE _ _ rfl (Row.made _ _ _ _) ad l.length cap l rfl rfl (fun _=>rfl) ?_ ?_ ?_ ?_ ?_);(exact fun j u hu=>Ext.cellA xE (HC.out j u hu));(intro u hu;obtain⟨x,_,hx⟩:=List.mem_flatMap.1 hu;simp[Spn.cells] at hx;first | (rcases hx with rfl | rfl<;>rfl) | (subst hx;rfl) | (rcases hx with rfl | rfl | rfl<;>rfl) | (rcases hx with rfl | rfl | rfl | rfl | rfl | rfl<;>rfl));(unfold maxLen;simp;omega);(simp;omega);intro v' X' hown' hne;have HO':=tH hown';clear hown' hne)
  go_ret
  exact⟨_,rfl,xE,by have:=HO'.out;simpa using this⟩
set_option maxHeartbeats 3200000 in
theorem implSpanPut_any (v:Value) (l:List Spn) (x:Spn) (w:World) (h:SlR w 2 rSpn v l) :
  Calls Tryz.prog 106 #[v,.agg #[(.int .i64 x.f),(.int .i64 x.t)]] w fun e w'=>∃ v',e=.returned v'∧Ext w w'∧Row w.heap.size w' 130 2 Spn.cells v' (putL l x):=by
 obtain⟨a,cap,rfl⟩:=h.len
 obtain⟨_,hlc,hcm⟩:=slr_len h
 have hlm:l.length≤9223372036854775807:=by unfold maxLen at hcm;omega
 clear hcm hlc
 have HS:=tH h
 have HK:=tH (spn_ok h)
 clear h
 by_cases h4:400 < l.length
 ·have hb:decide ((l.length:Int) > 400)=true:=decide_eq_true (by omega)
  have HE:=tH (putL_long (x:=x) h4)
  go_enter Tryz.func106,Tryz.ntmps106
  go_wp2
  go_ret
  exact⟨_,rfl,xE,by rw[HE.out];exact Row.nil _ _ _ _ _⟩
 ·have hb:decide ((l.length:Int) > 400)=false:=decide_eq_false (by omega)
  have hl:l.length≤1048576:=by omega
  obtain⟨q,hq⟩:∃ q,(spnsOk l&&spnOk ⟨x.f,x.t⟩&&freeL l ⟨x.f,x.t⟩)=q:=⟨_,rfl⟩
  have HQ:=tH hq
  clear hq
  by_cases hs:q=true∧l.length < 20
  ·obtain⟨rfl,h20⟩:=hs
   have hb2:((l.length:Int) == 20)=false:=by simp;omega
   go_enter Tryz.func106,Tryz.ntmps106
   go_wp2_with fail
   refine(cloneSpn_any _ l _ (rSpn_rc (HS.out.ext rSpn_stable xE)) hl).mono ?_
   rintro e _ ⟨v',rfl,⟨Y,rfl⟩,hR⟩
   have HR:=tH hR
   obtain⟨a',c',rfl⟩:=hR.shape
   clear hR
   go_wp2_with fail
   refine(implIsFree_any _ l _ _ _ (HS.out.ext rSpn_stable xE)).mono ?_
   rintro e _ ⟨rfl,Y1,rfl⟩
   rw[HQ.out]
   have HR1:=tH (row_spn (HR.out.ext ((Ext.refl _).plus Y1)) HK.out)
   go_wp2
   go_loopw [6] (fun i wr=>∃ k:Nat,k≤l.length∧i=.int .i64 k∧Ext (((w.alloc (.cells #[(.int .i64 x.f),(.int .i64 x.t)] 130)).plus Y).plus Y1) wr∧Hid (∀ (j:Nat) (hj:j < l.length),j < k→decide (l[j].f < x.f)=true)) (fun i _=>l.length-(intOf i).toNat)
   case atStart =>
    exact⟨0,Nat.zero_le _,rfl,Ext.refl _,tH (fun j _ h=>absurd h (Nat.not_lt_zero _))⟩
   case round =>
    obtain⟨k,hk,rfl,⟨X,rfl⟩,HH⟩:=hrel
    by_cases hlt:k < l.length
    ·obtain⟨bb,off,rfl⟩:=slr_some HR1.out hlt
     obtain⟨ho,hok,h0,h1⟩:=spn_at HR1.out hlt
     have hkl:decide ((k:Int) < (l.length:Int))=true:=decide_eq_true (by omega)
     cases q1:decide (l[k].f < x.f)
     ·have hp:=tH (posS_at hlt HH.out q1)
      go_wp2
      (refine wp_region_x 14 (by kernel_rfl) (by kernel_rfl) (by kernel_rfl) ?_;(iterate 14 (apply XReg.step;(case h=>(intro w' hw';obtain⟨X',rfl⟩:=hw';go_wp2_with (fail);exact⟨rfl,xE⟩));(case hv=>kernel_rfl)));refine XReg.doneN (fun X=>?_))
      go_wp2_with fail
      refine(insertSpn_any _ _ l k x _ _ (HR.out.ext xE) (by simp;omega) (by omega) hl (heap_new_at (by simp)) (fun b hb e=>by
       have:=(HR.out.blk b hb).2
       simp at this;omega)).mono ?_
      rintro e w3 ⟨v3,rfl,hC,hR3⟩
      have hE3:Ext w w3:=hC.ext xE (fun b hb=>by
       have:=(HR.out.blk b hb).1
       simp at this;omega)
      have HE3:=tH hE3
      have HR3:=tH hR3
      have HP:=tH (putL_ins h4 HQ.out h20 hp.out)
      clear hC hR3 hE3
      go_wp2
      go_ret
      exact⟨_,rfl,HE3.out,by rw[HP.out];exact HR3.out.mono (by simp)⟩
     ·go_wp2
      (refine wp_region_x 14 (by kernel_rfl) (by kernel_rfl) (by kernel_rfl) ?_;(iterate 14 (apply XReg.step;(case h=>(intro w' hw';obtain⟨X',rfl⟩:=hw';go_wp2_with (fail);exact⟨rfl,xE⟩));(case hv=>kernel_rfl)));refine XReg.doneN (fun X=>?_))
      go_wp2
      exact⟨⟨k+1,by omega,by go_num,xE,tH (fun j hj hjk=>by
       by_cases e:j < k
       ·exact HH.out j hj e
       ·obtain rfl:j=k:=by omega
        exact q1)⟩,by simp[intOf];omega⟩
    ·have hkl:decide ((k:Int) < (l.length:Int))=false:=decide_eq_false (by omega)
     have hp:=tH (posS_end (l:=l) (f:=x.f) fun j hj=>HH.out j hj (by omega))
     obtain rfl:k=l.length:=by omega
     go_wp2
     (refine wp_region_x 14 (by kernel_rfl) (by kernel_rfl) (by kernel_rfl) ?_;(iterate 14 (apply XReg.step;(case h=>(intro w' hw';obtain⟨X',rfl⟩:=hw';go_wp2_with (fail);exact⟨rfl,xE⟩));(case hv=>kernel_rfl)));refine XReg.doneN (fun X=>?_))
     go_wp2_with fail
     refine(insertSpn_any _ _ l l.length x _ _ (HR.out.ext xE) (by simp;omega) (by omega) hl (heap_new_at (by simp)) (fun b hb e=>by
      have:=(HR.out.blk b hb).2
      simp at this;omega)).mono ?_
     rintro e w3 ⟨v3,rfl,hC,hR3⟩
     have hE3:Ext w w3:=hC.ext xE (fun b hb=>by
      have:=(HR.out.blk b hb).1
      simp at this;omega)
     have HE3:=tH hE3
     have HR3:=tH hR3
     have HP:=tH (putL_ins h4 HQ.out h20 hp.out)
     clear hC hR3 hE3
     go_wp2
     go_ret
     exact⟨_,rfl,HE3.out,by rw[HP.out];exact HR3.out.mono (by simp)⟩
  ·have HE:=tH (putL_same (x:=x) h4 (by rw[HQ.out];cases q<;>simp at hs ⊢;omega))
   have hq:q=false∨(q=true∧((l.length:Int) == 20)=true):=by
    cases q
    ·exact .inl rfl
    ·refine .inr ⟨rfl,?_⟩
     have:=HQ.out
     simp at this hs
     have:=spnsOk_len this.1.1
     simp;omega
   clear hs
   go_enter Tryz.func106,Tryz.ntmps106
   go_wp2_with fail
   refine(cloneSpn_any _ l _ (rSpn_rc (HS.out.ext rSpn_stable xE)) hl).mono ?_
   rintro e _ ⟨v',rfl,⟨Y,rfl⟩,hR⟩
   have HR:=tH hR
   obtain⟨a',c',rfl⟩:=hR.shape
   clear hR
   go_wp2_with fail
   refine(implIsFree_any _ l _ _ _ (HS.out.ext rSpn_stable xE)).mono ?_
   rintro e _ ⟨rfl,Y1,rfl⟩
   rw[HQ.out]
   rcases hq with rfl | ⟨rfl,hb2⟩
   all_goals go_wp2
   all_goals go_ret
   all_goals exact⟨_,rfl,xE,by rw[HE.out];exact(HR.out.mono (by simp)).ext xE⟩
end Go.Proofs.YtdoeoojjabnboaaGreat
set_option maxRecDepth 100000
set_option linter.unusedVariables false
namespace Go.Proofs.YtdoeoojjabnboaaGreat
open Go.RowKit Go.Fin1
theorem slr_take {α:Type} {w:World} {K n c k:Nat} {r:World→List Value→α→Prop} {a:Option Addr} {xs:List α} (h:SlR w K r (.slice a n c) xs) (hk:k≤xs.length):SlR w K r (.slice a k c) (xs.take k):=by
 obtain⟨h1,h2,h3⟩:=slr_len h
 obtain⟨a',c',hv,_,_,h4⟩:=h
 obtain⟨rfl,_,rfl⟩:a=a'∧n=xs.length∧c=c':=by simpa using hv
 have hl:(xs.take k).length=k:=by simp;omega
 refine⟨a,c,by rw[hl],by rw[hl];omega,h3,fun i hi=>?_⟩
 rw[hl] at hi
 obtain⟨b,off,cs,e1,e2,e3,e4⟩:=h4 i (by omega)
 exact⟨b,off,cs,e1,e2,e3,by rw[List.getElem_take];exact e4⟩
theorem slr_drop {α:Type} {w:World} {K n c k m q:Nat} {b off:Nat} {r:World→List Value→α→Prop} {xs:List α} (h:SlR w K r (.slice (some ⟨b,off,none⟩) n c) xs) (hk:k≤xs.length) (hm:m=xs.length-k) (hq:q=c-k):SlR w K r (.slice (some ⟨b,off+k*K,none⟩) m q) (xs.drop k):=by
 subst hm
 subst hq
 obtain⟨h1,h2,h3⟩:=slr_len h
 have hl:(xs.drop k).length=xs.length-k:=by simp
 refine⟨_,_,by rw[hl],by rw[hl];omega,by omega,fun i hi=>?_⟩
 rw[hl] at hi
 obtain⟨cs,e2,e3,e4⟩:=slr_cells h (i:=k+i) (by omega)
 refine⟨b,_,cs,rfl,e2,fun j u hj=>?_,by rw[List.getElem_drop];exact e4⟩
 have:=e3 j u hj
 rw[Nat.add_mul] at this
 rw[← this];congr 2;omega
theorem slr_nil {α:Type} {w:World} {K c:Nat} {r:World→List Value→α→Prop} {a:Option Addr} {xs:List α} (h:xs=[]) (hc:c≤maxLen):SlR w K r (.slice a 0 c) xs:=by
 subst h
 exact⟨a,c,rfl,Nat.zero_le _,hc,fun i hi=>absurd hi (Nat.not_lt_zero _)⟩
set_option maxHeartbeats 3200000 in
theorem l03Put_any (v:Value) (l:List Spn) (x:Spn) (w:World) (h:SlR w 2 rSpn v l) (hl:l.length≤1048576) :
  Calls Tryz.prog 111 #[v,.agg #[(.int .i64 x.f),(.int .i64 x.t)]] w fun e w'=>∃ v',e=.returned v'∧Ext w w'∧Row w.heap.size w' 130 2 Spn.cells v' (insL l (posS l x.f) x):=by
 obtain⟨a,cap,rfl⟩:=h.len
 obtain⟨-,hlc,hcm⟩:=slr_len h
 have hcm2:cap≤9223372036854775807:=by unfold maxLen at hcm;omega
 have HCM:=tH hcm
 clear hcm
 have HS:=tH h
 clear h
 go_enter Tryz.func111,Tryz.ntmps111
 go_wp2
 go_loopw [5] (fun i wr=>∃ k:Nat,k≤l.length∧i=.int .i64 k∧Ext (w.alloc (.cells #[(.int .i64 x.f),(.int .i64 x.t)] 130)) wr∧Hid (∀ (j:Nat) (hj:j < l.length),j < k→decide (l[j].f < x.f)=true)) (fun i _=>l.length-(intOf i).toNat)
 case atStart =>
  exact⟨0,Nat.zero_le _,rfl,Ext.refl _,tH (fun j _ h=>absurd h (Nat.not_lt_zero _))⟩
 case round =>
  obtain⟨k,hk,rfl,⟨X,rfl⟩,HH⟩:=hrel
  by_cases hlt:k < l.length
  ·obtain⟨bb,off,rfl⟩:=slr_some HS.out hlt
   obtain⟨ho,hok,h0,h1⟩:=spn_at HS.out hlt
   have hkl:decide ((k:Int) < (l.length:Int))=true:=decide_eq_true (by omega)
   cases q1:decide (l[k].f < x.f)
   ·have hp:=tH (posS_at hlt HH.out q1)
    go_wp2
    (refine wp_region_x 14 (by kernel_rfl) (by kernel_rfl) (by kernel_rfl) ?_;(iterate 14 (apply XReg.step;(case h=>(intro w' hw';obtain⟨X',rfl⟩:=hw';go_wp2_with (fail);exact⟨rfl,xE⟩));(case hv=>kernel_rfl)));refine XReg.doneN (fun X=>?_))
    clear q1 hkl
    have hck:¬ cap=k:=by omega
    go_upto_region 5 with (at_builtin;go_must (refine Row.appV (f:=Spn.cells) el_Span rfl _ _ rfl (w.alloc (.cells #[(.int .i64 x.f),(.int .i64 x.t)] 130)) xE _ [] rfl ?_ _ (l.take k) rfl (fun _=>rfl) ?_ ?_ ?_ ?_ ?_);(exact Row.madeB' (by first | (simp;done) | (simp;omega)) (by first | (simp;done) | (simp;omega)));(exact slr_take (rSpn_rc (HS.out.ext rSpn_stable xE)) (by omega));(intro y u hu;exact spn_one1 hu);(unfold maxLen;simp;omega);(simp;omega);intro v1 Z1 hown1;have HO1:=tH hown1;clear hown1)
    have hR1:=HO1.out
    rw[List.nil_append] at hR1
    obtain⟨a1,c1,rfl⟩:=hR1.shape
    have HR1:=tH hR1
    clear hR1 HO1
    go_upto_region 6 with (at_builtin;go_must (refine Row.app (f:=Spn.cells) el_Span rfl _ _ rfl (w.alloc (.cells #[(.int .i64 x.f),(.int .i64 x.t)] 130)) xE _ (l.take k) rfl (HR1.out.ext xE) x rfl _ ?_ rfl rfl ?_ ?_ ?_ ?_);(simp[go_sem]);(simp[Value.oneCell']);(unfold maxLen;simp;omega);(simp;omega);intro v2 Z2 hown2 hne2;have HO2:=tH hown2;clear hown2 hne2)
    obtain⟨a2,c2,rfl⟩:=HO2.out.shape
    go_wp2_with (at_builtin;go_must (refine Row.appV (f:=Spn.cells) el_Span rfl _ _ rfl (w.alloc (.cells #[(.int .i64 x.f),(.int .i64 x.t)] 130)) xE _ (l.take k++[x]) rfl (HO2.out.ext xE) _ (l.drop k) rfl (fun _=>rfl) (slr_drop (rSpn_rc (HS.out.ext rSpn_stable xE)) (by omega) rfl rfl) ?_ ?_ ?_ ?_);(intro y u hu;exact spn_one1 hu);(unfold maxLen;simp;omega);(simp;omega);intro v3 Z3 hown3;have HO3:=tH hown3;clear hown3)
    all_goals go_ret
    all_goals exact⟨_,rfl,xE,by
     have h:=HO3.out
     rw[hp.out]
     unfold insL
     rw[List.append_assoc] at h
     exact h.mono (by simp)⟩
   ·go_wp2
    (refine wp_region_x 14 (by kernel_rfl) (by kernel_rfl) (by kernel_rfl) ?_;(iterate 14 (apply XReg.step;(case h=>(intro w' hw';obtain⟨X',rfl⟩:=hw';go_wp2_with (fail);exact⟨rfl,xE⟩));(case hv=>kernel_rfl)));refine XReg.doneN (fun X=>?_))
    go_wp2
    exact⟨⟨k+1,by omega,by go_num,xE,tH (fun j hj hjk=>by
     by_cases e:j < k
     ·exact HH.out j hj e
     ·obtain rfl:j=k:=by omega
      exact q1)⟩,by simp[intOf];omega⟩
  ·have hkl:decide ((k:Int) < (l.length:Int))=false:=decide_eq_false (by omega)
   have hp:=tH (posS_end (l:=l) (f:=x.f) fun j hj=>HH.out j hj (by omega))
   obtain rfl:k=l.length:=by omega
   go_wp2
   (refine wp_region_x 14 (by kernel_rfl) (by kernel_rfl) (by kernel_rfl) ?_;(iterate 14 (apply XReg.step;(case h=>(intro w' hw';obtain⟨X',rfl⟩:=hw';go_wp2_with (fail);exact⟨rfl,xE⟩));(case hv=>kernel_rfl)));refine XReg.doneN (fun X=>?_))
   clear hkl
   go_upto_region 5 with (at_builtin;go_must (refine Row.appV (f:=Spn.cells) el_Span rfl _ _ rfl (w.alloc (.cells #[(.int .i64 x.f),(.int .i64 x.t)] 130)) xE _ [] rfl ?_ _ (l.take l.length) rfl (fun _=>rfl) ?_ ?_ ?_ ?_ ?_);(exact Row.madeB' (by first | (simp;done) | (simp;omega)) (by first | (simp;done) | (simp;omega)));(exact slr_take (rSpn_rc (HS.out.ext rSpn_stable xE)) (by omega));(intro y u hu;exact spn_one1 hu);(unfold maxLen;simp;omega);(simp;omega);intro v1 Z1 hown1;have HO1:=tH hown1;clear hown1)
   have hR1:=HO1.out
   rw[List.nil_append] at hR1
   obtain⟨a1,c1,rfl⟩:=hR1.shape
   have HR1:=tH hR1
   clear hR1 HO1
   go_upto_region 6 with (at_builtin;go_must (refine Row.app (f:=Spn.cells) el_Span rfl _ _ rfl (w.alloc (.cells #[(.int .i64 x.f),(.int .i64 x.t)] 130)) xE _ (l.take l.length) rfl (HR1.out.ext xE) x rfl _ ?_ rfl rfl ?_ ?_ ?_ ?_);(simp[go_sem]);(simp[Value.oneCell']);(unfold maxLen;simp;omega);(simp;omega);intro v2 Z2 hown2 hne2;have HO2:=tH hown2;clear hown2 hne2)
   obtain⟨a2,c2,rfl⟩:=HO2.out.shape
   go_wp2_with (at_builtin;go_must (refine Row.appV (f:=Spn.cells) el_Span rfl _ _ rfl (w.alloc (.cells #[(.int .i64 x.f),(.int .i64 x.t)] 130)) xE _ (l.take l.length++[x]) rfl (HO2.out.ext xE) _ (l.drop l.length) rfl (fun _=>rfl) (slr_nil (by simp) (Nat.le_trans (Nat.sub_le _ _) HCM.out)) ?_ ?_ ?_ ?_);(intro y u hu;exact spn_one1 hu);(unfold maxLen;simp;omega);(simp;omega);intro v3 Z3 hown3;have HO3:=tH hown3;clear hown3)
   all_goals go_ret
   all_goals exact⟨_,rfl,xE,by
    have h:=HO3.out
    rw[hp.out]
    unfold insL
    rw[List.append_assoc] at h
    exact h.mono (by simp)⟩
end Go.Proofs.YtdoeoojjabnboaaGreat
