/- Plain maths of FnPool. -/
import Derived.Test.YtdoeoojjabnboaaGreatKBL
import Derived.Test.YtdoeoojjabnboaaGreatKPQ
set_option maxRecDepth 100000
set_option linter.unusedVariables false
namespace Go.Proofs.YtdoeoojjabnboaaGreat
open Go.RowKit Go.Fin1
theorem ba_foldl (b:List Int):∀ (t:ByteArray),(b.foldl (fun t n=>t++putNum n) t).size=t.size+(b.map (fun n=>(putNum n).size)).sum:=by
 induction b with
 | nil=>intro t;simp
 | cons x b ih=>intro t;rw[List.foldl_cons,ih,ByteArray.size_append,List.map_cons,List.sum_cons];omega
theorem numsS_sum (l:List Int):(numsS l).size=(l.map (fun n=>(putNum n).size)).sum:=by
 unfold numsS;rw[ba_foldl];show 0+_=_;omega
def szV (j:Jb):Nat:=((viewJ j).map (fun n=>(putNum n).size)).sum
theorem viewL_sz (now:Int) (l:List Jb):(viewL now l).size=(putNum now).size+(l.map szV).sum:=by
 unfold viewL
 rw[numsS_sum,List.map_cons,List.sum_cons]
 congr 1
 induction l with
 | nil=>rfl
 | cons j l ih=>rw[List.flatMap_cons,List.map_append,List.sum_append,ih,List.map_cons,List.sum_cons];rfl
theorem szV_pos (j:Jb):0 < szV j:=by
 unfold szV viewJ headJ
 have:=putNum_pos j.l.lv
 simp only[List.cons_append,List.map_cons,List.sum_cons]
 omega
theorem perm_sum {l m:List Jb} (h:l.Perm m):(l.map szV).sum=(m.map szV).sum:=by
 induction h with
 | nil=>rfl
 | cons x _ ih=>simp[ih]
 | swap x y l=>simp;omega
 | trans _ _ i1 i2=>rw[i1,i2]
theorem sees_eq {l:List Jb} (hn:l.Pairwise NeJ) (x:Lab):seesL l x=sortedJ (l.filter (fun j=>blw j.l x)):=by
 unfold seesL;exact sorted_filter hn _
theorem subR_cnt {p:Pl} {x:Lab} {n l q:Int} (h:(subR p x n l q).2.2=0):jobR (subJ x 1 n l q)=true∧(cntL p.jobs x:Int)+1≤3:=by
 unfold subR at h
 split at h
 ·cases h
 ·rename_i e
  split at h
  ·cases h
  ·split at h
   ·cases h
   ·rename_i e3
    refine⟨?_,by omega⟩
    cases hj:jobR (subJ x 1 n l q)
    ·exact absurd (.inr hj) e
    ·rfl
theorem subJ_lab {x:Lab} {id n l q:Int} (h:jobR (subJ x id n l q)=true):labR x=true:=by
 unfold jobR at h
 simp only[Bool.and_eq_true] at h
 exact h.1.1.1.1.1.1
structure SubV (p r:Pl) (x:Lab) (id:Int):Prop where
 old:poolR p=true
 new:poolR r=true
 lab:labR x=true
 st:(jobOf r.jobs x id).state=1
 out:∀ y,blw x y=false→viewS r y=viewS p y
 in_:∀ y,labR y=true→blw x y=true→viewS r y≠viewS p y
theorem subR_view {p:Pl} {x:Lab} {n l q:Int} (h:(subR p x n l q).2.2=0):SubV p (subR p x n l q).1 x (subR p x n l q).2.1:=by
 obtain⟨h1,e⟩:=subR_yes' h
 have h2:=(subR_right h).2
 obtain⟨hj,hc⟩:=subR_cnt h
 rw[e] at h2 ⊢
 have hR:=(poolR_of h2).js
 have hl:=subJ_lab hj
 have hnr:=jobsR_ne hR
 have hnp:=jobsR_ne (poolR_of h1).js
 have hjs:(subP p x n l q).jobs=p.jobs++[subJ x (cntL p.jobs x+1) n l q]:=rfl
 have hnw:(subP p x n l q).now=p.now:=rfl
 refine⟨h1,h2,hl,?_,fun y hy=>?_,fun y hy hb=>?_⟩
 ·have:=jobOf_key hR (j:=subJ x (cntL p.jobs x+1) n l q) (by rw[hjs];simp)
  show (jobOf (subP p x n l q).jobs x ((cntL p.jobs x:Int)+1)).state=1
  rw[show jobOf (subP p x n l q).jobs x ((cntL p.jobs x:Int)+1)=subJ x (cntL p.jobs x+1) n l q from this]
  rfl
 ·unfold viewS
  rw[h1,h2,hnw,sees_eq hnr,sees_eq hnp,hjs,List.filter_append]
  rw[show [subJ x (cntL p.jobs x+1) n l q].filter (fun j=>blw j.l y)=[] from by rw[List.filter_cons,show blw (subJ x (cntL p.jobs x+1) n l q).l y=false from hy];rfl,List.append_nil]
 ·intro he
  have hs:=congrArg ByteArray.size he
  unfold viewS at hs
  rw[h1,h2,hy,hnw,sees_eq hnr,sees_eq hnp,hjs,List.filter_append] at hs
  rw[show [subJ x (cntL p.jobs x+1) n l q].filter (fun j=>blw j.l y)=[subJ x (cntL p.jobs x+1) n l q] from by rw[List.filter_cons,show blw (subJ x (cntL p.jobs x+1) n l q).l y=true from hb];rfl] at hs
  simp only[Bool.and_self,if_true,viewL_sz,perm_sum (sortedJ_perm _),List.map_append,List.sum_append,List.map_cons,List.map_nil,List.sum_cons,List.sum_nil] at hs
  have:=szV_pos (subJ x (cntL p.jobs x+1) n l q)
  omega
theorem and_0_7:∀ i:Fin 8,bits .and .i64 (i.val:Int) 7=(i.val:Int)∧(bits .and .i64 (i.val:Int) 0=(i.val:Int)→i.val=0):=by decide +kernel
theorem blw_top {x:Lab} (h:labR x=true):blw x ⟨3,7⟩=true:=by
 unfold labR at h
 rw[Bool.and_eq_true,isIn_iff,isIn_iff] at h
 have key:=(and_0_7 ⟨x.st.toNat,by omega⟩).1
 simp only[Int.toNat_of_nonneg h.2.1] at key
 unfold blw
 rw[Bool.and_eq_true,decide_eq_true_eq,beq_iff_eq]
 exact⟨h.1.2,key⟩
theorem blw_zero {x:Lab} (h:labR x=true):blw x ⟨0,0⟩=sameL x ⟨0,0⟩:=by
 unfold labR at h
 rw[Bool.and_eq_true,isIn_iff,isIn_iff] at h
 have key:=(and_0_7 ⟨x.st.toNat,by omega⟩).2
 simp only[Int.toNat_of_nonneg h.2.1] at key
 unfold blw sameL
 by_cases h1:x.lv=0
 ·by_cases h2:x.st=0
  ·rw[h1,h2];decide
  ·rw[decide_eq_false (show ¬ x.st=(⟨0,0⟩:Lab).st from h2),Bool.and_false,Bool.and_eq_false_iff]
   right
   rw[beq_eq_false_iff_ne]
   intro hk
   have:=key hk
   omega
 ·rw[decide_eq_false (show ¬ x.lv=(⟨0,0⟩:Lab).lv from h1),Bool.false_and,Bool.and_eq_false_iff]
  left
  rw[decide_eq_false_iff_not]
  show ¬ x.lv≤0
  omega
theorem SubV.low {p r:Pl} {x:Lab} {id:Int} (h:SubV p r x id):decide (viewS r ⟨0,0⟩=viewS p ⟨0,0⟩)=!sameL x ⟨0,0⟩:=by
 have e:=blw_zero h.lab
 cases q:sameL x ⟨0,0⟩
 ·rw[decide_eq_true (h.out _ (by rw[e,q]))];rfl
 ·rw[decide_eq_false (h.in_ _ (by decide) (by rw[e,q]))];rfl
theorem SubV.top {p r:Pl} {x:Lab} {id:Int} (h:SubV p r x id):¬ viewS r ⟨3,7⟩=viewS p ⟨3,7⟩:=h.in_ _ (by decide) (blw_top h.lab)
end Go.Proofs.YtdoeoojjabnboaaGreat
