/- What a right pool is, spelt out; the steps of a pool that keep it right. -/
import Derived.Test.YtbmbanelodabgaaGreatDoorKAAB
import Derived.Test.YtbmbanelodabgaaGreatDoorKZZ3
import Derived.Test.YtbmbanelodabgaaGreatDoorKZZC
set_option maxRecDepth 100000
set_option linter.unusedVariables false
namespace Go.Proofs.YtbmbanelodabgaaGreatDoor
open Go.RowKit Go.Fin1
def runOk (cl:List (List Lab)) (now:Int) (j:Jb):Prop:=j.state=2→(j.start≤now∧now < j.start+j.long)∧∀ n∈j.nodes,n < cl.length∧hasL (cl.getD n.toNat []) j.l=true
def busyJ (j:Jb):List Int:=if j.state=2 then j.nodes else []
def busy (J:List Jb):List Int:=J.flatMap busyJ
def markU (u:List Bool) (ns:List Int):List Bool:=ns.foldl (fun u n=>u.set n.toNat true) u
theorem setD {u:List Bool} {a b:Nat}:(u.set a true).getD b true=false↔a≠b∧u.getD b true=false:=by
 rw[List.getD_eq_getElem?_getD,List.getD_eq_getElem?_getD,List.getElem?_set]
 by_cases e:a=b
 ·subst e
  by_cases h:a < u.length
  ·simp[h]
  ·simp[h]
 ·simp[e]
theorem markU_getD {b:Nat}:∀ {ns:List Int} {u:List Bool},(markU u ns).getD b true=false↔(u.getD b true=false∧∀ n∈ns,n.toNat≠b)
 | [],u=>by simp[markU]
 | n :: ns,u=>by
  have e:markU u (n :: ns)=markU (u.set n.toNat true) ns:=rfl
  rw[e,markU_getD,setD]
  simp only[List.mem_cons,forall_eq_or_imp]
  constructor
  ·rintro ⟨⟨a,b⟩,c⟩;exact⟨b,a,c⟩
  ·rintro ⟨b,a,c⟩;exact⟨⟨a,b⟩,c⟩
theorem step1_yes {cl:List (List Lab)} {x:Lab} {u:List Bool} {n:Int} (h1:n < cl.length) (h2:hasL (cl.getD n.toNat []) x=true) (h3:u.getD n.toNat true=false):step1 cl x u n=some (u.set n.toNat true):=by
 unfold step1
 rw[decide_eq_true h1,h2,h3];rfl
theorem step1_of {cl:List (List Lab)} {x:Lab} {u v:List Bool} {n:Int} (h:step1 cl x u n=some v):(n < cl.length∧hasL (cl.getD n.toNat []) x=true∧u.getD n.toNat true=false)∧v=u.set n.toNat true:=by
 unfold step1 at h
 split at h
 ·rename_i hc
  rw[Bool.and_eq_true,Bool.and_eq_true,decide_eq_true_eq] at hc
  obtain⟨⟨a,b⟩,c⟩:=hc
  exact⟨⟨a,b,by simpa using c⟩,(Option.some.inj h).symm⟩
 ·cases h
theorem fold1_of {cl:List (List Lab)} {x:Lab}:∀ {ns:List Int} {u v:List Bool},(∀ n∈ns,0≤n)→foldO (step1 cl x) (some u) ns=some v →
  (∀ n∈ns,(n < cl.length∧hasL (cl.getD n.toNat []) x=true)∧u.getD n.toNat true=false)∧ns.Nodup∧v=markU u ns
 | [],u,v,_,h=>⟨(fun n hn=>by cases hn),List.nodup_nil,(Option.some.inj h).symm⟩
 | n :: ns,u,v,h0,h=>by
  have e:foldO (step1 cl x) (some u) (n :: ns)=foldO (step1 cl x) (step1 cl x u n) ns:=rfl
  rw[e] at h
  cases hs:step1 cl x u n with
  | none=>rw[hs,foldO_none] at h;cases h
  | some u2 =>
   rw[hs] at h
   obtain⟨⟨a,b,c⟩,rfl⟩:=step1_of hs
   obtain⟨q1,q2,q3⟩:=fold1_of (fun m hm=>h0 m (List.mem_cons_of_mem _ hm)) h
   refine⟨fun m hm=>?_,List.nodup_cons.2 ⟨fun hm=>(setD.1 (q1 n hm).2).1 rfl,q2⟩,q3⟩
   rcases List.mem_cons.1 hm with rfl | hm
   ·exact⟨⟨a,b⟩,c⟩
   ·exact⟨(q1 m hm).1,(setD.1 (q1 m hm).2).2⟩
theorem fold1_yes {cl:List (List Lab)} {x:Lab}:∀ {ns:List Int} {u:List Bool},(∀ n∈ns,0≤n)→(∀ n∈ns,(n < cl.length∧hasL (cl.getD n.toNat []) x=true)∧u.getD n.toNat true=false)→ns.Nodup →
  foldO (step1 cl x) (some u) ns=some (markU u ns)
 | [],u,_,_,_=>rfl
 | n :: ns,u,h0,h,hd=>by
  have e:foldO (step1 cl x) (some u) (n :: ns)=foldO (step1 cl x) (step1 cl x u n) ns:=rfl
  obtain⟨⟨a,b⟩,c⟩:=h n (List.mem_cons_self ..)
  rw[List.nodup_cons] at hd
  rw[e,step1_yes a b c]
  refine fold1_yes (fun m hm=>h0 m (List.mem_cons_of_mem _ hm)) (fun m hm=>⟨(h m (List.mem_cons_of_mem _ hm)).1,setD.2 ⟨fun e=>hd.1 ?_,(h m (List.mem_cons_of_mem _ hm)).2⟩⟩) hd.2
  have h1:=h0 n (List.mem_cons_self ..)
  have h2:=h0 m (List.mem_cons_of_mem _ hm)
  obtain rfl:n=m:=by omega
  exact hm
theorem busy_cons (j:Jb) (J:List Jb):busy (j :: J)=busyJ j++busy J:=rfl
theorem busyJ_run {j:Jb} (h:j.state=2):busyJ j=j.nodes:=by unfold busyJ;rw[if_pos h]
theorem busyJ_off {j:Jb} (h:¬ j.state=2):busyJ j=[]:=by unfold busyJ;rw[if_neg h]
theorem stepJ_yes {cl:List (List Lab)} {now:Int} {u:List Bool} {j:Jb} (h0:∀ n∈j.nodes,0≤n) (h:runOk cl now j) (hd:(busyJ j).Nodup) (hu:∀ n∈busyJ j,u.getD n.toNat true=false):stepJ cl now u j=some (markU u (busyJ j)):=by
 unfold stepJ
 by_cases hs:j.state=2
 ·obtain⟨h1,h2⟩:=h hs
  rw[busyJ_run hs] at hd hu ⊢
  rw[if_pos hs,if_neg (by omega)]
  exact fold1_yes h0 (fun n hn=>⟨h2 n hn,hu n hn⟩) hd
 ·rw[if_neg hs,busyJ_off hs];rfl
theorem stepJ_of {cl:List (List Lab)} {now:Int} {u v:List Bool} {j:Jb} (h0:∀ n∈j.nodes,0≤n) (h:stepJ cl now u j=some v):runOk cl now j∧(busyJ j).Nodup∧(∀ n∈busyJ j,u.getD n.toNat true=false)∧v=markU u (busyJ j):=by
 unfold stepJ at h
 by_cases hs:j.state=2
 ·rw[if_pos hs] at h
  split at h
  ·cases h
  ·rename_i hc
   obtain⟨q1,q2,q3⟩:=fold1_of h0 h
   rw[busyJ_run hs]
   exact⟨fun _=>⟨by omega,fun n hn=>(q1 n hn).1⟩,q2,fun n hn=>(q1 n hn).2,q3⟩
 ·rw[if_neg hs] at h
  rw[busyJ_off hs]
  exact⟨fun e=>absurd e hs,List.nodup_nil,(fun n hn=>by cases hn),(Option.some.inj h).symm⟩
theorem busyJ_ge {j:Jb} (h0:∀ n∈j.nodes,0≤n):∀ n∈busyJ j,0≤n:=fun n hn=>by
 unfold busyJ at hn
 split at hn
 ·exact h0 n hn
 ·cases hn
theorem foldJ_of {cl:List (List Lab)} {now:Int}:∀ {J:List Jb} {u:List Bool},(∀ j∈J,∀ n∈j.nodes,0≤n)→(foldO (stepJ cl now) (some u) J).isSome=true →
  (∀ j∈J,runOk cl now j)∧(busy J).Nodup∧∀ n∈busy J,u.getD n.toNat true=false
 | [],u,_,_=>⟨(fun j hj=>by cases hj),List.nodup_nil,(fun n hn=>by cases hn)⟩
 | j :: J,u,h0,h=>by
  have e:foldO (stepJ cl now) (some u) (j :: J)=foldO (stepJ cl now) (stepJ cl now u j) J:=rfl
  rw[e] at h
  cases hs:stepJ cl now u j with
  | none=>rw[hs,foldO_none] at h;cases h
  | some u2 =>
   rw[hs] at h
   have hj0:=h0 j (List.mem_cons_self ..)
   obtain⟨a,b,c,rfl⟩:=stepJ_of hj0 hs
   obtain⟨q1,q2,q3⟩:=foldJ_of (fun i hi=>h0 i (List.mem_cons_of_mem _ hi)) h
   refine⟨fun i hi=>?_,?_,fun n hn=>?_⟩
   ·rcases List.mem_cons.1 hi with rfl | hi
    ·exact a
    ·exact q1 i hi
   ·rw[busy_cons,List.nodup_append]
    refine⟨b,q2,fun x hx y hy=>?_⟩
    rintro rfl
    exact(markU_getD.1 (q3 x hy)).2 x hx rfl
   ·rw[busy_cons,List.mem_append] at hn
    rcases hn with hn | hn
    ·exact c n hn
    ·exact(markU_getD.1 (q3 n hn)).1
theorem foldJ_yes {cl:List (List Lab)} {now:Int}:∀ {J:List Jb} {u:List Bool},(∀ j∈J,∀ n∈j.nodes,0≤n)→(∀ j∈J,runOk cl now j)→(busy J).Nodup→(∀ n∈busy J,u.getD n.toNat true=false) →
  (foldO (stepJ cl now) (some u) J).isSome=true
 | [],u,_,_,_,_=>rfl
 | j :: J,u,h0,h,hd,hu=>by
  have e:foldO (stepJ cl now) (some u) (j :: J)=foldO (stepJ cl now) (stepJ cl now u j) J:=rfl
  have hj0:=h0 j (List.mem_cons_self ..)
  rw[busy_cons] at hd hu
  obtain⟨d1,d2,d3⟩:=List.nodup_append.1 hd
  rw[e,stepJ_yes hj0 (h j (List.mem_cons_self ..)) d1 (fun n hn=>hu n (List.mem_append_left _ hn))]
  refine foldJ_yes (fun i hi=>h0 i (List.mem_cons_of_mem _ hi)) (fun i hi=>h i (List.mem_cons_of_mem _ hi)) d2 (fun n hn=>markU_getD.2 ⟨hu n (List.mem_append_right _ hn),fun m hm e=>?_⟩)
  have h1:=busyJ_ge hj0 m hm
  have h2:0≤n:=by
   unfold busy at hn
   obtain⟨i,hi,hn⟩:=List.mem_flatMap.1 hn
   exact busyJ_ge (h0 i (List.mem_cons_of_mem _ hi)) n hn
  exact d3 m hm n hn (by omega)
theorem jobR_ge {j:Jb} (h:jobR j=true):∀ n∈j.nodes,0≤n:=by
 by_cases hs:j.state=2
 ·exact(nodesUp_pair (jobR_run h hs).2.2.1).2
 ·rw[jobR_not h hs];intro n hn;cases hn
theorem nodes_lt {j:Jb} (h:jobR j=true):∀ n∈j.nodes,n < 6:=by
 by_cases hs:j.state=2
 ·intro n hn
  obtain⟨i,hi,rfl⟩:=List.mem_iff_getElem.1 hn
  have:=isIn_iff.1 (nodesUp_at (jobR_run h hs).2.2.1 hi)
  omega
 ·rw[jobR_not h hs];intro n hn;cases hn
structure RightP (p:Pl):Prop where
 cl:clearR p.clear=true
 js:jobsR p.jobs=true
 nw:0≤p.now∧p.now≤999900
 run:∀ j∈p.jobs,runOk p.clear p.now j
 nd:(busy p.jobs).Nodup
theorem poolR_of {p:Pl} (h:poolR p=true):RightP p:=by
 have hj:=(poolR_jobs h).1
 have hn:=isIn_iff.1 (poolR_jobs h).2
 unfold poolR at h
 simp only[Bool.and_eq_true] at h
 obtain⟨q1,q2,_⟩:=foldJ_of (fun j hm=>jobR_ge (jobsR_mem hj hm)) h.2
 exact⟨h.1.1.1,hj,hn,q1,q2⟩
theorem u0_at {n:Int} (h0:0≤n) (h6:n < 6):u0.getD n.toNat true=false:=by
 have h:n.toNat=0∨n.toNat=1∨n.toNat=2∨n.toNat=3∨n.toNat=4∨n.toNat=5:=by omega
 rcases h with h | h | h | h | h | h<;>rw[h]<;>rfl
theorem RightP.poolR {p:Pl} (h:RightP p):poolR p=true:=by
 have hr:=fun j (hm:j∈p.jobs)=>jobsR_mem h.js hm
 rw[poolR_yes h.cl h.js (isIn_iff.2 h.nw)]
 refine foldJ_yes (fun j hm=>jobR_ge (hr j hm)) h.run h.nd fun n hn=>?_
 unfold busy at hn
 obtain⟨j,hj,hn⟩:=List.mem_flatMap.1 hn
 unfold busyJ at hn
 split at hn
 ·exact u0_at (jobR_ge (hr j hj) n hn) (nodes_lt (hr j hj) n hn)
 ·cases hn
theorem cntL_key (l:List Jb) (x:Lab):cntL l x=((l.map keyJ).filter (fun k=>sameL k.1 x)).length:=by
 unfold cntL
 rw[List.filter_map,List.length_map]
 rfl
theorem jobsR_ids {l:List Jb} (h:jobsR l=true) {i:Nat} (hi:i < l.length):l[i].id=(cntL (l.take i) l[i].l:Int)+1:=by
 have:=jobsR_at h hi
 rw[jobAt_eq hi,Bool.and_eq_true,decide_eq_true_eq] at this
 exact this.2
theorem jobsR_intro {l:List Jb} (h1:l.length≤96) (h2:∀ j∈l,jobR j=true) (h3:∀ (i:Nat) (hi:i < l.length),l[i].id=(cntL (l.take i) l[i].l:Int)+1):jobsR l=true :=
 jobsR_yes h1 fun i hi=>by rw[jobAt_eq hi,h2 _ (List.getElem_mem hi),decide_eq_true (h3 i hi)];rfl
theorem jobsR_key {J K:List Jb} (h:J.map keyJ=K.map keyJ) (hJ:jobsR J=true) (hK:∀ j∈K,jobR j=true):jobsR K=true:=by
 have hl:J.length=K.length:=by simpa using congrArg List.length h
 refine jobsR_intro (by have:=jobsR_len hJ;omega) hK fun i hi=>?_
 have hi':i < J.length:=by omega
 have e:keyJ J[i]=keyJ K[i]:=by
  have h1:(J.map keyJ)[i]?=(K.map keyJ)[i]?:=by rw[h]
  simpa [hi,hi'] using h1
 have e1:J[i].l=K[i].l∧J[i].id=K[i].id:=by unfold keyJ at e;simpa using e
 have e2:((J.take i).map keyJ)=((K.take i).map keyJ):=by rw[List.map_take,List.map_take,h]
 have h3:=jobsR_ids hJ hi'
 rw[cntL_key,e2,← cntL_key,e1.1,e1.2] at h3
 exact h3
theorem jobR_parts {j:Jb} (h:jobR j=true):(labR j.l=true∧(1≤j.id∧j.id≤3)∧(1≤j.need∧j.need≤6)∧(1≤j.long∧j.long≤20)∧(0≤j.prio∧j.prio≤9)∧(1≤j.state∧j.state≤4)) ∧
  (j.state=2→(0≤j.start∧j.start≤1000000)∧(j.nodes.length:Int)=j.need∧nodesUp j.nodes=true)∧(¬ j.state=2→j.start=0∧j.nodes=[]):=by
 unfold jobR at h
 simp only[Bool.and_eq_true] at h
 obtain⟨⟨⟨⟨⟨⟨a,b⟩,c⟩,d⟩,e⟩,f⟩,g⟩:=h
 refine⟨⟨a,isIn_iff.1 b,isIn_iff.1 c,isIn_iff.1 d,isIn_iff.1 e,isIn_iff.1 f⟩,fun hs=>?_,fun hs=>?_⟩
 ·rw[if_pos hs] at g
  simp only[Bool.and_eq_true,decide_eq_true_eq] at g
  exact⟨isIn_iff.1 g.1,g.2.1,g.2.2⟩
 ·rw[if_neg hs] at g
  simp only[Bool.and_eq_true,decide_eq_true_eq] at g
  exact⟨g.1,List.length_eq_zero_iff.1 g.2⟩
theorem jobR_off {j:Jb} (a:labR j.l=true) (b:1≤j.id∧j.id≤3) (c:1≤j.need∧j.need≤6) (d:1≤j.long∧j.long≤20) (e:0≤j.prio∧j.prio≤9) (f:1≤j.state∧j.state≤4) (hs:¬ j.state=2) (h1:j.start=0) (h2:j.nodes=[]):jobR j=true:=by
 unfold jobR
 rw[a,isIn_iff.2 b,isIn_iff.2 c,isIn_iff.2 d,isIn_iff.2 e,isIn_iff.2 f,if_neg hs,decide_eq_true h1,h2];rfl
theorem jobR_on {j:Jb} (a:labR j.l=true) (b:1≤j.id∧j.id≤3) (c:1≤j.need∧j.need≤6) (d:1≤j.long∧j.long≤20) (e:0≤j.prio∧j.prio≤9) (hs:j.state=2) (h1:0≤j.start∧j.start≤1000000) (h2:(j.nodes.length:Int)=j.need) (h3:nodesUp j.nodes=true):jobR j=true:=by
 unfold jobR
 rw[a,isIn_iff.2 b,isIn_iff.2 c,isIn_iff.2 d,isIn_iff.2 e,isIn_iff.2 (show 1≤j.state∧j.state≤4 by omega),if_pos hs,isIn_iff.2 h1,decide_eq_true h2,h3];rfl
theorem haltJ_R {j:Jb} (h:jobR j=true) {s:Int} (hs:s=1∨s=3∨s=4):jobR (haltJ j s)=true:=by
 obtain⟨⟨a,b,c,d,e,f⟩,_,_⟩:=jobR_parts h
 exact jobR_off a b c d e (by show 1≤s∧s≤4;omega) (by show ¬ s=2;omega) rfl rfl
theorem nodesUp_of {l:List Int} (h:l.Pairwise (· < ·)) (h2:∀ n∈l,0≤n∧n≤5):nodesUp l=true:=by
 refine nodesUp_yes fun i hi=>?_
 have hg:∀ (j:Nat) (hj:j < l.length),l.getD j 0=l[j]:=fun j hj=>by simp[List.getD,hj]
 unfold nodeAt
 rw[hg i hi,isIn_iff.2 (h2 _ (List.getElem_mem hi)),Bool.true_and,Bool.or_eq_true]
 by_cases h0:i=0
 ·subst h0;exact .inl rfl
 ·right
  rw[hg (i-1) (by omega)]
  exact decide_eq_true (List.pairwise_iff_getElem.1 h (i-1) i (by omega) hi (by omega))
theorem cnt_last {l:List Jb} (hid:∀ (i:Nat) (hi:i < l.length),l[i].id=(cntL (l.take i) l[i].l:Int)+1) (h3:∀ j∈l,j.id≤3) (x:Lab):cntL l x≤3:=by
 have key:∀ k,k≤l.length→cntL (l.take k) x≤3:=by
  intro k
  induction k with
  | zero=>intro _;unfold cntL;simp
  | succ k ih =>
   intro hk
   have h1:=hid k hk
   have h2:=h3 _ (List.getElem_mem hk)
   have e:cntL (l.take (k+1)) x=cntL (l.take k) x+if sameL l[k].l x then 1 else 0:=by
    unfold cntL
    rw[List.take_succ_eq_append_getElem hk,List.filter_append,List.length_append]
    congr 1
    cases hs:sameL l[k].l x<;>simp[hs]
   have ih:=ih (Nat.le_of_lt hk)
   rw[e]
   cases hs:sameL l[k].l x
   ·simp;omega
   ·have hx:l[k].l=x:=by
     unfold sameL at hs
     simp only[Bool.and_eq_true,decide_eq_true_eq] at hs
     cases hl:l[k].l;cases x;rw[hl] at hs;simp at hs;rw[hs.1,hs.2]
    rw[hx] at h1
    simp;omega
 have:=key _ (Nat.le_refl _)
 rwa [List.take_length] at this
theorem cntL_three {l:List Jb} (h:jobsR l=true) (x:Lab):cntL l x≤3 :=
 cnt_last (fun i hi=>jobsR_ids h hi) (fun j hj=>(jobR_parts (jobsR_mem h hj)).1.2.1.2) x
theorem cnt_chain (J:List Jb) (hc:∀ x,cntL J x≤3):∀ c:List Lab,(J.filter (fun j=>hasL c j.l)).length≤3*c.length
 | []=>by
  have:J.filter (fun j=>hasL [] j.l)=[]:=by
   rw[List.filter_eq_nil_iff];intro j _;unfold hasL;simp
  rw[this];simp
 | y :: c=>by
  have ih:=cnt_chain J hc c
  have h1:=hc y
  have key:∀ J:List Jb,(J.filter (fun j=>hasL (y :: c) j.l)).length≤cntL J y+(J.filter (fun j=>hasL c j.l)).length:=by
   intro J
   induction J with
   | nil=>simp
   | cons j J ih =>
    have e:hasL (y :: c) j.l=(sameL y j.l || hasL c j.l):=by unfold hasL;rw[List.any_cons]
    have e2:sameL y j.l=sameL j.l y:=by unfold sameL;congr 1<;>(congr 1;exact propext eq_comm)
    have e3:cntL (j :: J) y=(if sameL j.l y then 1 else 0)+cntL J y:=by
     unfold cntL;rw[List.filter_cons];cases hs:sameL j.l y<;>simp;omega
    rw[List.filter_cons,List.filter_cons,e,e2,e3]
    cases hs:sameL j.l y<;>cases hh:hasL c j.l<;>simp<;>omega
  have:=key J
  rw[List.length_cons];omega
def lab32 (k:Nat):Lab:=⟨((k / 8:Nat):Int),((k % 8:Nat):Int)⟩
def one32 (y:Lab) (k:Nat):Nat:=if sameL y (lab32 k) then 1 else 0
theorem one32_sum:∀ a,a < 4→∀ b,b < 8→((List.range 32).map (one32 ⟨(a:Nat),(b:Nat)⟩)).sum=1:=by decide
theorem sum_add3 {α:Type} (f g:α→Nat):∀ l:List α,(l.map (fun k=>f k+g k)).sum=(l.map f).sum+(l.map g).sum
 | []=>rfl
 | a :: l=>by rw[List.map_cons,List.map_cons,List.map_cons,List.sum_cons,List.sum_cons,List.sum_cons,sum_add3 f g l];omega
theorem cntL_cons (j:Jb) (J:List Jb) (y:Lab):cntL (j :: J) y=(if sameL j.l y then 1 else 0)+cntL J y:=by
 unfold cntL;rw[List.filter_cons];cases hs:sameL j.l y<;>simp;omega
theorem labR_parts {y:Lab} (h:labR y=true):(0≤y.lv∧y.lv≤3)∧(0≤y.st∧y.st≤7):=by
 unfold labR at h
 rw[Bool.and_eq_true] at h
 exact⟨isIn_iff.1 h.1,isIn_iff.1 h.2⟩
theorem len32:∀ {J:List Jb},(∀ j∈J,labR j.l=true)→J.length=((List.range 32).map (fun k=>cntL J (lab32 k))).sum
 | [],_=>by
  have:(fun k=>cntL ([]:List Jb) (lab32 k))=fun _=>0:=by funext k;unfold cntL;rfl
  rw[this];decide
 | j :: J,h=>by
  have h1:=labR_parts (h j (List.mem_cons_self ..))
  have e:(fun k=>cntL (j :: J) (lab32 k))=fun k=>one32 j.l k+cntL J (lab32 k):=by funext k;rw[cntL_cons];rfl
  have e2:=one32_sum j.l.lv.toNat (by omega) j.l.st.toNat (by omega)
  rw[show (⟨((j.l.lv.toNat:Nat):Int),((j.l.st.toNat:Nat):Int)⟩:Lab)=j.l from by
   cases hl:j.l;rw[hl] at h1;simp only at h1 ⊢;rw[Int.toNat_of_nonneg h1.1.1,Int.toNat_of_nonneg h1.2.1]] at e2
  rw[e,sum_add3,e2,List.length_cons,len32 (fun i hi=>h i (List.mem_cons_of_mem _ hi))];omega
theorem sum_lt3 {f:Nat→Nat} {m:Nat} (hf:∀ k,f k≤3) (hm:f m≤2):∀ l:List Nat,(l.map f).sum≤3*l.length∧(m∈l→(l.map f).sum+1≤3*l.length)
 | []=>⟨Nat.le_refl _,fun h=>by cases h⟩
 | a :: l=>by
  obtain⟨h1,h2⟩:=sum_lt3 hf hm l
  have:=hf a
  rw[List.map_cons,List.sum_cons,List.length_cons]
  refine⟨by omega,fun h=>?_⟩
  rcases List.mem_cons.1 h with rfl | h
  ·omega
  ·have:=h2 h;omega
theorem jobs_lt {J:List Jb} (h:jobsR J=true) {x:Lab} (hx:labR x=true) (hc:cntL J x≤2):J.length < 96:=by
 have h1:=labR_parts hx
 have e:lab32 (x.lv.toNat*8+x.st.toNat)=x:=by
  unfold lab32
  have q1:(x.lv.toNat*8+x.st.toNat) / 8=x.lv.toNat:=by omega
  have q2:(x.lv.toNat*8+x.st.toNat) % 8=x.st.toNat:=by omega
  rw[q1,q2]
  cases x;simp only at h1 ⊢;rw[Int.toNat_of_nonneg h1.1.1,Int.toNat_of_nonneg h1.2.1]
 have h2:=(sum_lt3 (f:=fun k=>cntL J (lab32 k)) (m:=x.lv.toNat*8+x.st.toNat) (fun k=>cntL_three h _) (by show cntL J (lab32 _)≤2;rw[e];exact hc) (List.range 32)).2 (List.mem_range.2 (by omega))
 rw[← len32 (fun j hj=>(jobR_parts (jobsR_mem h hj)).1.1),List.length_range] at h2
 omega
theorem clearR_len6 {c:List (List Lab)} (h:clearR c=true):1≤c.length∧c.length≤6:=by
 unfold clearR at h
 simp only[Bool.and_eq_true,decide_eq_true_eq] at h
 exact⟨h.1.1,h.1.2⟩
theorem clearR_mem {c:List (List Lab)} (h:clearR c=true) {l:List Lab} (hl:l∈c):chainR l=true:=by
 unfold clearR at h
 simp only[Bool.and_eq_true,decide_eq_true_eq,List.all_eq_true] at h
 exact h.2 l hl
theorem chainR_parts {l:List Lab} (h:chainR l=true):(1≤l.length∧l.length≤4)∧∀ x∈l,labR x=true:=by
 unfold chainR at h
 simp only[Bool.and_eq_true,decide_eq_true_eq,List.all_eq_true] at h
 exact⟨⟨h.1.1.1,h.1.1.2⟩,h.1.2⟩
theorem runOk_off {cl:List (List Lab)} {now:Int} {j:Jb} (h:¬ j.state=2):runOk cl now j:=fun e=>absurd e h
theorem snoc_ids {J:List Jb} {j:Jb} (h:jobsR J=true) (hj:j.id=(cntL J j.l:Int)+1):∀ (i:Nat) (hi:i < (J++[j]).length),(J++[j])[i].id=(cntL ((J++[j]).take i) (J++[j])[i].l:Int)+1:=by
 intro i hi
 have hi2:i < J.length+1:=by simpa using hi
 by_cases hlt:i < J.length
 ·rw[List.getElem_append_left hlt,List.take_append_of_le_length (Nat.le_of_lt hlt)]
  exact jobsR_ids h hlt
 ·obtain rfl:i=J.length:=by omega
  rw[List.getElem_append_right (Nat.le_refl _),List.take_append_of_le_length (Nat.le_refl _),List.take_length]
  simpa using hj
theorem subR_right {p:Pl} {x:Lab} {need long prio:Int} (h:(subR p x need long prio).2.2=0):poolR p=true∧poolR (subR p x need long prio).1=true:=by
 by_cases q1:poolR p=false∨jobR (subJ x 1 need long prio)=false
 ·rw[subR_form q1] at h;cases h
 have q2:poolR p=true:=by cases e:poolR p;exact absurd (.inl e) q1;rfl
 have q3:jobR (subJ x 1 need long prio)=true:=by cases e:jobR (subJ x 1 need long prio);exact absurd (.inr e) q1;rfl
 by_cases q4:(clN p.clear x p.clear.length:Int) < need
 ·rw[subR_lab q2 q3 q4] at h;cases h
 by_cases q5:(3:Int) < (cntL p.jobs x:Int)+1
 ·rw[subR_full q2 q3 q4 q5] at h;cases h
 rw[subR_yes q2 q3 q4 q5]
 refine⟨q2,?_⟩
 have hp:=poolR_of q2
 obtain⟨⟨a,b,c,d,e,f⟩,_,_⟩:=jobR_parts q3
 have h96:=jobs_lt hp.js (x:=x) a (by omega)
 have hn:jobR (subJ x (cntL p.jobs x+1) need long prio)=true:=jobR_off a (by show 1≤(cntL p.jobs x:Int)+1∧(cntL p.jobs x:Int)+1≤3;omega) c d e f (by show ¬ (1:Int)=2;decide) rfl rfl
 refine RightP.poolR ⟨hp.cl,jobsR_intro ?_ ?_ ?_,hp.nw,?_,?_⟩
 ·show (p.jobs++[_]).length≤96;rw[List.length_append];simp;omega
 ·intro j hj
  rcases List.mem_append.1 hj with hj | hj
  ·exact jobsR_mem hp.js hj
  ·obtain rfl:=List.mem_singleton.1 hj;exact hn
 ·exact snoc_ids hp.js rfl
 ·intro j hj
  rcases List.mem_append.1 hj with hj | hj
  ·exact hp.run j hj
  ·obtain rfl:=List.mem_singleton.1 hj;exact runOk_off (by show ¬ (1:Int)=2;decide)
 ·show (busy (p.jobs++[_])).Nodup
  unfold busy
  rw[List.flatMap_append]
  have e:[subJ x (cntL p.jobs x+1) need long prio].flatMap busyJ=[]:=by
   rw[List.flatMap_cons,busyJ_off (by show ¬ (1:Int)=2;decide)];rfl
  rw[e,List.append_nil]
  exact hp.nd
theorem busy_set {j:Jb} (hj:¬ j.state=2):∀ (J:List Jb) (k:Nat),(busy (J.set k j)).Sublist (busy J)
 | [],k=>by simp
 | a :: J,0=>by rw[List.set_cons_zero,busy_cons,busy_cons,busyJ_off hj];exact List.sublist_append_right _ _
 | a :: J,k+1=>by rw[List.set_cons_succ,busy_cons,busy_cons];exact(List.Sublist.refl _).append (busy_set hj J k)
theorem set_key {J:List Jb} {k:Nat} (hk:k < J.length) {j:Jb} (h:keyJ j=keyJ J[k]):J.map keyJ=(J.set k j).map keyJ:=by
 rw[List.map_set,h]
 have:keyJ J[k]=(J.map keyJ)[k]'(by simpa using hk):=by simp
 rw[this,List.set_getElem_self]
theorem chR_right {p:Pl} {x:Lab} {id st:Int} (h:(chR p x id st).2.2=0):poolR p=true∧poolR (chR p x id st).1=true:=by
 by_cases q1:poolR p=true
 case neg=>rw[chR_form (.inl (by simpa using q1))] at h;cases h
 by_cases q2:stOk st
 case neg=>rw[chR_form (.inr q2)] at h;cases h
 rcases findI_cases (isJb x id) p.jobs with hpos | ⟨k,hk,hpos,_⟩
 ·rw[chR_none q1 q2 hpos] at h;cases h
 by_cases q3:p.jobs[k].state=3∨p.jobs[k].state=st
 ·rw[chR_state q1 q2 hk hpos q3] at h;cases h
 rw[chR_yes q1 q2 hk hpos q3]
 refine⟨q1,?_⟩
 have hp:=poolR_of q1
 have hs:¬ (setJ p.jobs[k] st).state=2:=by show ¬ st=2;unfold stOk at q2;omega
 have hj:jobR (setJ p.jobs[k] st)=true:=haltJ_R (jobsR_job hp.js hk) q2
 refine RightP.poolR ⟨hp.cl,jobsR_key (set_key hk rfl) hp.js (fun j hm=>?_),hp.nw,fun j hm=>?_,(busy_set hs _ _).nodup hp.nd⟩
 ·rcases List.mem_or_eq_of_mem_set hm with hm | rfl
  ·exact jobsR_mem hp.js hm
  ·exact hj
 ·rcases List.mem_or_eq_of_mem_set hm with hm | rfl
  ·exact hp.run j hm
  ·exact runOk_off hs
end Go.Proofs.YtbmbanelodabgaaGreatDoor
set_option maxRecDepth 100000
set_option linter.unusedVariables false
namespace Go.Proofs.YtbmbanelodabgaaGreatDoor
open Go.RowKit Go.Fin1
structure PF (cl:List (List Lab)) (now:Int) (j:Jb) (s:Slt) (x:Spn):Prop where
 l:s.l=j.l
 id:s.id=j.id
 need:(s.nodes.length:Int)=j.need
 up:s.nodes.Pairwise (· < ·)
 at_:∀ n∈s.nodes,(0≤n∧n < cl.length)∧hasL (cl.getD n.toNat []) j.l=true
 ok:spnOk x=true
 en:x.t=s.start+j.long
 beg:(x.f=s.start∧now≤s.start)∨(x.f=now∧s.start=j.start∧s.start≤now)
 st:j.state=2∨j.state=1
 sr:0≤s.start∧s.start≤1000000
structure JPl (cl:List (List Lab)) (now:Int) (j:Jb):Prop where
 r:jobR j=true
 run:runOk cl now j
theorem JPl.ok {cl:List (List Lab)} {now:Int} {j:Jb} (h:JPl cl now j) (hn:0≤now∧now≤999900):JOk now cl.length j:=by
 obtain⟨⟨_,_,c,d,_,_⟩,q1,q2⟩:=jobR_parts h.r
 refine⟨c,d,?_,fun hs=>?_,fun hs=>(q2 hs).2⟩
 ·by_cases hs:j.state=2
  ·exact(q1 hs).1
  ·rw[(q2 hs).1];omega
 ·obtain⟨r1,r2⟩:=h.run hs
  obtain⟨r3,r4,r5⟩:=q1 hs
  obtain⟨r6,r7⟩:=nodesUp_pair r5
  exact⟨⟨r1.2,r3.1,by omega⟩,r6,fun n hn=>⟨r7 n hn,(r2 n hn).1⟩⟩
theorem firstL_hits {rows:List (List Spn)} {need length now:Int} (hn:0≤now) (h:¬ firstL rows need length now < 0):∃ d:Nat,d≤40∧firstL rows need length now=now+d∧fitsAt rows need length (now+d)=true∧∀ e:Nat,e < d→fitsAt rows need length (now+e)=false:=by
 unfold firstL at h ⊢
 split
 ·rename_i d hd
  rw[List.find?_range_eq_some] at hd
  obtain⟨h1,h2,h3⟩:=hd
  exact⟨d,by have:=List.mem_range.1 h2;omega,rfl,h1,fun e he=>by simpa using h3 e he⟩
 ·rename_i hd
  rw[hd] at h
  exact absurd (by decide:(-1:Int) < 0) h
theorem own_free {clear:List (List Lab)} {rows:List (List Spn)} {l:Lab} {x:Spn} {n:Int} (hx:spnOk x=true) (h0:0≤n) (h1:n < rows.length) (h:freeAt (ownP clear rows l) x n=true):hasL (clear.getD n.toNat []) l=true∧freeAt rows x n=true:=by
 unfold freeAt at h ⊢
 rw[List.getD_eq_getElem?_getD,ownP_get (by omega)] at h
 simp only[Option.getD_some] at h
 unfold ownAt at h
 split at h
 ·rename_i hc;exact⟨hc,h⟩
 ·rw[whole_taken hx] at h;cases h
theorem placed_pf {cl:List (List Lab)} {now:Int} {rows:List (List Spn)} {j:Jb} {r:Slt×Spn} (hn:0≤now∧now≤999900) (hc:cl.length=rows.length) (h:JPl cl now j) (hst:j.state=2∨j.state=1) (hp:placedP cl now rows j=some r) :
  PF cl now j r.1 r.2∧∀ n∈r.1.nodes,freeAt rows r.2 n=true:=by
 have hJ:=h.ok hn
 obtain⟨⟨_,_,c,d,_,_⟩,q1,q2⟩:=jobR_parts h.r
 cases hs:staysP now rows j
 ·by_cases ht:firstL (ownP cl rows j.l) j.need j.long now < 0
  ·rw[placed_none hs ht] at hp;cases hp
  ·rw[placed_fit hs rfl ht] at hp
   obtain rfl:_=r:=Option.some.inj hp
   obtain⟨e,he,h1,h2,_⟩:=firstL_hits hn.1 ht
   rw[h1]
   have hx:spnOk ⟨now+e,now+e+j.long⟩=true:=spnOk_iff.2 ⟨by show 0≤now+(e:Int);omega,by show now+(e:Int) < now+(e:Int)+_;omega,by show now+(e:Int)+j.long≤_;omega⟩
   have hg:=fitNeed_good (rows:=ownP cl rows j.l) (need:=j.need) (x:=⟨now+e,now+e+j.long⟩)
   have hl:((fitNeed (ownP cl rows j.l) j.need ⟨now+e,now+e+j.long⟩).length:Int)=j.need:=by
    unfold fitsAt at h2
    rw[decide_eq_true_eq] at h2
    unfold fitNeed
    rw[if_pos h2,List.length_take]
    omega
   have hin:∀ n∈fitNeed (ownP cl rows j.l) j.need ⟨now+e,now+e+j.long⟩,(0≤n∧n < rows.length)∧hasL (cl.getD n.toNat []) j.l=true∧freeAt rows ⟨now+e,now+e+j.long⟩ n=true:=fun n hn=>by
    obtain⟨g1,g2,g3⟩:=hg.at_ n hn
    rw[ownP_len] at g2
    exact⟨⟨g1,g2⟩,own_free hx g1 g2 g3⟩
   exact⟨⟨rfl,rfl,hl,hg.up,fun n hn=>⟨⟨(hin n hn).1.1,by rw[hc];exact(hin n hn).1.2⟩,(hin n hn).2.1⟩,hx,rfl,.inl ⟨rfl,by show now≤now+(e:Int);omega⟩,hst,by show 0≤now+(e:Int)∧now+(e:Int)≤1000000;omega⟩,fun n hn=>(hin n hn).2.2⟩
 ·rw[placed_stays hs] at hp
  obtain rfl:_=r:=Option.some.inj hp
  unfold staysP at hs
  rw[Bool.and_eq_true,beq_iff_eq,List.all_eq_true] at hs
  obtain⟨s1,s2⟩:=hs
  obtain⟨r1,r2⟩:=h.run s1
  obtain⟨r3,r4,r5⟩:=q1 s1
  obtain⟨⟨t1,t2,t3⟩,t4,t5⟩:=hJ.run s1
  exact⟨⟨rfl,rfl,r4,t4,fun n hn=>⟨t5 n hn,(r2 n hn).2⟩,spnOk_iff.2 ⟨by show 0≤now;omega,by show now < _;omega,by show j.start+j.long≤_;omega⟩,rfl,.inr ⟨rfl,rfl,r1.1⟩,hst,r3⟩,s2⟩
theorem putAll_len (x:Spn):∀ (ns:List Int) (rows:List (List Spn)),(putAll x rows ns).length=rows.length
 | [],rows=>by rw[putAll_nil]
 | n :: ns,rows=>by rw[putAll_cons,putAll_len x ns,put1_len]
theorem put1_getD {x:Spn} {rows:List (List Spn)} {n:Int} {k:Nat} (h0:0≤n) (hn:n < rows.length):(put1 x rows n).getD k []=if (k:Int)=n then putL (rows.getD k []) x else rows.getD k []:=by
 unfold put1
 rw[List.getD_eq_getElem?_getD,List.getElem?_set]
 by_cases e:(k:Int)=n
 ·have e2:n.toNat=k:=by omega
  rw[if_pos e,if_pos e2,e2,if_pos (by omega)];rfl
 ·rw[if_neg e,if_neg (by omega),List.getD_eq_getElem?_getD]
theorem putAll_getD {x:Spn} {k:Nat}:∀ {ns:List Int} {rows:List (List Spn)},ns.Nodup→(∀ n∈ns,0≤n∧n < rows.length)→(putAll x rows ns).getD k []=if (k:Int)∈ns then putL (rows.getD k []) x else rows.getD k []
 | [],rows,_,_=>by rw[putAll_nil,if_neg (by simp)]
 | n :: ns,rows,hd,h=>by
  rw[List.nodup_cons] at hd
  have h1:=h n (List.mem_cons_self ..)
  rw[putAll_cons,putAll_getD hd.2 (fun m hm=>by rw[put1_len];exact h m (List.mem_cons_of_mem _ hm)),put1_getD h1.1 h1.2]
  by_cases e:(k:Int)=n
  ·rw[if_pos e,if_neg (by rw[e];exact hd.1),if_pos (by rw[e];exact List.mem_cons_self ..)]
  ·rw[if_neg e]
   by_cases e2:(k:Int)∈ns
   ·rw[if_pos e2,if_pos (List.mem_cons_of_mem _ e2)]
   ·rw[if_neg e2,if_neg (fun hm=>by rcases List.mem_cons.1 hm with q | q;exact e q;exact e2 q)]
theorem putL_mem {l:List Spn} {x:Spn} (h1:spnsOk l=true) (h2:spnOk x=true) (h3:freeL l x=true) (h4:l.length < 20):(∀ y,y∈putL l x↔y=x∨y∈l)∧(putL l x).length=l.length+1:=by
 have e:=putL_ins (l:=l) (x:=x) (by omega) (by rw[h1,h2,h3];rfl) h4 rfl
 rw[e]
 refine⟨fun y=>?_,insL_len x (posS_le _ _)⟩
 unfold insL
 rw[List.mem_append,List.mem_cons]
 constructor
 ·rintro (h | h | h)
  ·exact .inr (List.mem_of_mem_take h)
  ·exact .inl h
  ·exact .inr (List.mem_of_mem_drop h)
 ·rintro (h | h)
  ·exact .inr (.inl h)
  ·rw[← List.take_append_drop (posS l x.f) l,List.mem_append] at h
   exact h.imp id .inr
structure PInv (cl:List (List Lab)) (now:Int) (done:List Jb) (out:List Slt) (rows:List (List Spn)) (T:List (Jb×Slt×Spn)):Prop where
 out:out=T.map (fun t=>t.2.1)
 js:(T.map (fun t=>t.1)).Sublist done
 pf:∀ t∈T,PF cl now t.1 t.2.1 t.2.2
 inr:∀ t∈T,∀ n∈t.2.1.nodes,t.2.2∈rows.getD n.toNat []
 ap:T.Pairwise (fun a b=>∀ n,n∈a.2.1.nodes→n∈b.2.1.nodes→apart a.2.2 b.2.2=true)
 len:rows.length=cl.length
 ok:Rok rows
 cnt:∀ k,(rows.getD k []).length≤(done.filter (fun j=>hasL (cl.getD k []) j.l)).length
 nil:T=[]→∀ r∈rows,r=[]
 fst:∀ t,T.head?=some t→t.2.1.start≤now
theorem freeL_nil (x:Spn):freeL [] x=true:=freeL_yes fun i hi=>absurd hi (Nat.not_lt_zero _)
theorem fitN_same {rows:List (List Spn)} {x y:Spn} (h:∀ r∈rows,freeL r x=freeL r y):∀ k,fitN rows x k=fitN rows y k
 | 0=>rfl
 | k+1=>by
  have e:freeL (rows.getD k []) x=freeL (rows.getD k []) y:=by
   by_cases hk:k < rows.length
   ·exact h _ (getD_mem hk)
   ·rw[show rows.getD k []=[] by simp[List.getD,Nat.le_of_not_lt hk],freeL_nil,freeL_nil]
  unfold fitN
  rw[e,fitN_same h k]
theorem nil_first {cl:List (List Lab)} {now:Int} {rows:List (List Spn)} {j:Jb} {r:Slt×Spn} (hn:0≤now∧now≤999900) (hl:1≤j.long∧j.long≤20) (hrun:j.state=2→j.start≤now) (hr:∀ r∈rows,r=[]) (hp:placedP cl now rows j=some r):r.1.start≤now:=by
 cases hs:staysP now rows j
 ·by_cases ht:firstL (ownP cl rows j.l) j.need j.long now < 0
  ·rw[placed_none hs ht] at hp;cases hp
  ·rw[placed_fit hs rfl ht] at hp
   obtain rfl:_=r:=Option.some.inj hp
   obtain⟨e,he,h1,h2,h3⟩:=firstL_hits hn.1 ht
   show firstL (ownP cl rows j.l) j.need j.long now≤now
   rw[h1]
   have hx:∀ d:Nat,d≤40→spnOk ⟨now+d,now+d+j.long⟩=true:=fun d hd=>spnOk_iff.2 ⟨by show 0≤now+(d:Int);omega,by show now+(d:Int) < now+(d:Int)+_;omega,by show now+(d:Int)+j.long≤_;omega⟩
   by_cases e0:e=0
   ·omega
   ·have h4:=h3 0 (by omega)
    have hf:fitN (ownP cl rows j.l) ⟨now+(0:Nat),now+(0:Nat)+j.long⟩ (ownP cl rows j.l).length=fitN (ownP cl rows j.l) ⟨now+e,now+e+j.long⟩ (ownP cl rows j.l).length:=fitN_same (fun q hq=>by
     unfold ownP at hq
     obtain⟨i,hi,rfl⟩:=List.mem_map.1 hq
     unfold ownAt
     split
     ·have:rows.getD i []=[]:=hr _ (getD_mem (List.mem_range.1 hi))
      rw[this,freeL_nil,freeL_nil]
     ·rw[whole_taken (hx 0 (by omega)),whole_taken (hx e he)]) _
    unfold fitsAt fitL at h2 h4
    rw[hf] at h4
    rw[h4] at h2
    cases h2
 ·rw[placed_stays hs] at hp
  obtain rfl:_=r:=Option.some.inj hp
  unfold staysP at hs
  rw[Bool.and_eq_true,beq_iff_eq] at hs
  exact hrun hs.1
theorem filter_snoc_le {α:Type} (f:α→Bool) (l:List α) (a:α):(l.filter f).length≤((l++[a]).filter f).length:=by rw[List.filter_append,List.length_append];omega
theorem plan_inv {cl:List (List Lab)} {now:Int} (hn:0≤now∧now≤999900) {l:List Jb} (hl:∀ j∈l,JPl cl now j) (hcnt:∀ k,(l.filter (fun j=>hasL (cl.getD k []) j.l)).length≤12) :
  ∀ k,k≤l.length→∃ T,PInv cl now (l.take k) (foldP cl now (l.take k)).1 (foldP cl now (l.take k)).2 T:=by
 intro k
 induction k with
 | zero =>
  intro _
  rw[List.take_zero,foldP_nil]
  have hr:∀ r∈List.replicate cl.length ([]:List Spn),r=[]:=fun r hr=>(List.mem_replicate.1 hr).2
  have hg:∀ k,(List.replicate cl.length ([]:List Spn)).getD k []=[]:=fun k=>by
   rw[List.getD_eq_getElem?_getD,List.getElem?_replicate];split<;>rfl
  exact⟨[],rfl,List.Sublist.refl _,(fun t ht=>by cases ht),(fun t ht=>by cases ht),List.Pairwise.nil,by simp,(fun r h=>by rw[hr r h];exact spnsOk_of (by decide) fun i hi=>absurd hi (Nat.not_lt_zero _)),(fun k=>by show ((List.replicate cl.length ([]:List Spn)).getD k []).length≤_;rw[hg k];exact Nat.zero_le _),(fun _=>hr),(fun t ht=>by cases ht)⟩
 | succ k ih =>
  intro hk
  obtain⟨T,hI⟩:=ih (Nat.le_of_lt hk)
  have hj:=hl _ (List.getElem_mem hk)
  have hm:(l.take (k+1))=l.take k++[l[k]]:=List.take_succ_eq_append_getElem hk
  have hsame:PInv cl now (l.take (k+1)) (foldP cl now (l.take k)).1 (foldP cl now (l.take k)).2 T:=⟨hI.out,by rw[hm];exact hI.js.trans (List.sublist_append_left _ _),hI.pf,hI.inr,hI.ap,hI.len,hI.ok,fun q=>by rw[hm];exact Nat.le_trans (hI.cnt q) (filter_snoc_le _ _ _),hI.nil,hI.fst⟩
  rw[foldP_take cl now hk]
  cases h0:(l[k].state == 2 || l[k].state == 1)
  ·rw[stepP_off h0];exact⟨T,hsame⟩
  ·cases hp:placedP cl now (foldP cl now (l.take k)).2 l[k] with
   | none=>rw[stepP_none hp];exact⟨T,hsame⟩
   | some r =>
    rw[stepP_some h0 hp]
    have hst:l[k].state=2∨l[k].state=1:=by
     rw[Bool.or_eq_true,beq_iff_eq,beq_iff_eq] at h0;exact h0
    generalize foldP cl now (l.take k)=F at *
    obtain⟨out,rows⟩:=F
    simp only at hI hp ⊢
    obtain⟨hpf,hfr⟩:=placed_pf hn hI.len.symm hj hst hp
    have hnd:r.1.nodes.Nodup:=List.Pairwise.imp (fun h=>by omega) hpf.up
    have hin:∀ n∈r.1.nodes,0≤n∧n < rows.length:=fun n hn=>⟨(hpf.at_ n hn).1.1,by rw[hI.len];exact(hpf.at_ n hn).1.2⟩
    have hgd:=fun q=>putAll_getD (x:=r.2) (k:=q) hnd hin
    have hle:∀ q,(rows.getD q []).length≤12:=fun q=>Nat.le_trans (hI.cnt q) (Nat.le_trans ((List.take_sublist k l).filter _).length_le (hcnt q))
    have hput:∀ q:Nat,(q:Int)∈r.1.nodes→(∀ y,y∈putL (rows.getD q []) r.2↔y=r.2∨y∈rows.getD q [])∧(putL (rows.getD q []) r.2).length=(rows.getD q []).length+1:=fun q hq=>by
     have h1:=hfr q hq
     unfold freeAt at h1
     rw[Int.toNat_natCast] at h1
     exact putL_mem (hI.ok _ (getD_mem (by have:=hin q hq;omega))) hpf.ok h1 (by have:=hle q;omega)
    have hgood:GoodN rows r.2 r.1.nodes:=⟨hpf.up,fun n hn=>⟨(hin n hn).1,(hin n hn).2,hfr n hn⟩⟩
    refine⟨T++[(l[k],r.1,r.2)],?_,?_,?_,?_,?_,?_,?_,?_,?_,?_⟩
    ·rw[List.map_append,← hI.out];rfl
    ·rw[hm,List.map_append];exact hI.js.append (List.Sublist.refl _)
    ·intro t ht
     rcases List.mem_append.1 ht with ht | ht
     ·exact hI.pf t ht
     ·obtain rfl:=List.mem_singleton.1 ht;exact hpf
    ·intro t ht n hn
     rw[hgd n.toNat]
     rcases List.mem_append.1 ht with ht | ht
     ·have h1:=hI.inr t ht n hn
      split
      ·rename_i hm2;exact((hput _ hm2).1 _).2 (.inr h1)
      ·exact h1
     ·obtain rfl:=List.mem_singleton.1 ht
      have h2:((n.toNat:Nat):Int)=n:=by have:=(hin n hn).1;omega
      rw[if_pos (by rw[h2];exact hn)]
      exact((hput _ (by rw[h2];exact hn)).1 _).2 (.inl rfl)
    ·refine List.pairwise_append.2 ⟨hI.ap,List.pairwise_singleton _ _,fun a ha b hb n hna hnb=>?_⟩
     obtain rfl:=List.mem_singleton.1 hb
     have h1:=hI.inr a ha n hna
     have h2:=hfr n hnb
     unfold freeAt freeL at h2
     rw[List.all_eq_true] at h2
     exact h2 _ h1
    ·rw[putAll_len,hI.len]
    ·exact(putAll_ok hI.ok hpf.ok hgood).1
    ·intro q
     rw[hgd q]
     split
     ·rename_i hq
      rw[(hput q hq).2,hm,List.filter_append,List.length_append]
      have h1:=(hpf.at_ q hq).2
      rw[Int.toNat_natCast] at h1
      have e:([l[k]].filter (fun j=>hasL (cl.getD q []) j.l)).length=1:=by rw[List.filter_cons_of_pos (p:=fun j:Jb=>hasL (cl.getD q []) j.l) h1];rfl
      rw[e]
      exact Nat.add_le_add_right (hI.cnt q) 1
     ·rw[hm];exact Nat.le_trans (hI.cnt q) (filter_snoc_le _ _ _)
    ·intro h;simp at h
    ·intro t ht
     cases hT:T with
     | nil =>
      rw[hT] at ht
      obtain rfl:_=t:=Option.some.inj ht
      exact nil_first hn (jobR_parts hj.r).1.2.2.2.1 (fun hs=>(hj.run hs).1.1) (hI.nil hT) hp
     | cons a T' =>
      rw[hT] at ht
      exact hI.fst t (by rw[hT];exact ht)
theorem insJ_perm (l:List Jb) (j:Jb):(insJ l j).Perm (j :: l):=by
 unfold insJ
 rw[List.append_assoc]
 show (l.take (insK l j)++j :: l.drop (insK l j)).Perm (j :: l)
 exact List.perm_middle.trans (by rw[List.take_append_drop])
theorem foldl_perm:∀ (l acc:List Jb),(l.foldl insJ acc).Perm (acc++l)
 | [],acc=>by simp
 | j :: l,acc=>by
  rw[List.foldl_cons]
  refine(foldl_perm l (insJ acc j)).trans ?_
  exact((insJ_perm acc j).append_right l).trans (List.perm_middle (a:=j) (l₁:=acc) (l₂:=l)).symm
theorem sortedJ_perm (l:List Jb):(sortedJ l).Perm l:=by
 have:=foldl_perm l []
 simpa [sortedJ] using this
theorem plan_facts {cl:List (List Lab)} {now:Int} (hn:0≤now∧now≤999900) (hc:clearR cl=true) {J:List Jb} (hR:jobsR J=true) (hl:∀ j∈J,JPl cl now j) :
  ∃ T rows,PInv cl now (sortedJ J) (planL cl now J) rows T:=by
 have hp:=sortedJ_perm J
 have hcnt:∀ k,((sortedJ J).filter (fun j=>hasL (cl.getD k []) j.l)).length≤12:=fun k=>by
  rw[(hp.filter _).length_eq]
  have h1:=cnt_chain J (cntL_three hR) (cl.getD k [])
  have h2:(cl.getD k []).length≤4:=by
   by_cases hk:k < cl.length
   ·rw[show cl.getD k []=cl[k] by simp[hk]]
    exact(chainR_parts (clearR_mem hc (List.getElem_mem hk))).1.2
   ·rw[show cl.getD k []=[] by simp[List.getD,Nat.le_of_not_lt hk]];simp
  omega
 obtain⟨T,hT⟩:=plan_inv hn (l:=sortedJ J) (fun j hj=>hl j (hp.mem_iff.1 hj)) hcnt _ (Nat.le_refl _)
 rw[List.take_length] at hT
 refine⟨T,(foldP cl now (sortedJ J)).2,?_⟩
 unfold planL
 exact hT
end Go.Proofs.YtbmbanelodabgaaGreatDoor
set_option maxRecDepth 100000
set_option linter.unusedVariables false
namespace Go.Proofs.YtbmbanelodabgaaGreatDoor
open Go.RowKit Go.Fin1
theorem keyJ_eq_of {J:List Jb} (hne:J.Pairwise NeJ) {a b:Jb} (ha:a∈J) (hb:b∈J) (hk:keyJ a=keyJ b):a=b:=by
 obtain⟨i,hi,rfl⟩:=List.mem_iff_getElem.1 ha
 obtain⟨j,hj,rfl⟩:=List.mem_iff_getElem.1 hb
 have hk':J[i].l=J[j].l∧J[i].id=J[j].id:=by unfold keyJ at hk;simpa using hk
 rcases Nat.lt_trichotomy i j with h | h | h
 ·exact absurd ⟨congrArg Lab.lv hk'.1,congrArg Lab.st hk'.1,hk'.2⟩ (List.pairwise_iff_getElem.1 hne i j hi hj h)
 ·subst h;rfl
 ·exact absurd ⟨(congrArg Lab.lv hk'.1).symm,(congrArg Lab.st hk'.1).symm,hk'.2.symm⟩ (List.pairwise_iff_getElem.1 hne j i hj hi h)
theorem posJ_key {J K:List Jb} (h:J.map keyJ=K.map keyJ) (x:Lab) (id:Int):posJ J x id=posJ K x id:=by
 have e:∀ L:List Jb,posJ L x id=findI (fun k:Lab×Int=>sameL k.1 x&&decide (k.2=id)) (L.map keyJ):=fun L=>by
  unfold posJ findI
  rw[List.any_map,List.findIdx_map]
  rfl
 rw[e,e,h]
theorem jobs1_pl {p:Pl} (h:RightP p) (hn:¬ p.now=999900):∀ j∈jobs1 p,JPl p.clear (p.now+1) j:=by
 intro j hj
 unfold jobs1 at hj
 obtain⟨j0,hj0,rfl⟩:=List.mem_map.1 hj
 have hr:=jobsR_mem h.js hj0
 unfold endJ
 split
 ·exact⟨haltJ_R hr (.inr (.inl rfl)),runOk_off (by show ¬ (3:Int)=2;decide)⟩
 ·rename_i hc
  refine⟨hr,fun hs=>?_⟩
  obtain⟨a,b⟩:=h.run j0 hj0 hs
  have:¬ (j0.start+j0.long≤p.now+1):=fun hle=>hc ⟨hs,hle⟩
  exact⟨⟨by omega,by omega⟩,b⟩
theorem jobs1_R {p:Pl} (h:RightP p) (hn:¬ p.now=999900):jobsR (jobs1 p)=true:=jobsR_key (jobs1_key p).symm h.js (fun j hj=>(jobs1_pl h hn j hj).r)
theorem waitJ_fields (j:Jb):(waitJ j).l=j.l∧(waitJ j).id=j.id∧(waitJ j).need=j.need∧(waitJ j).long=j.long∧(waitJ j).prio=j.prio∧¬ (waitJ j).state=2:=by
 unfold waitJ
 split
 ·exact⟨rfl,rfl,rfl,rfl,rfl,(by show ¬ (1:Int)=2;decide)⟩
 ·rename_i h;exact⟨rfl,rfl,rfl,rfl,rfl,h⟩
theorem waitJ_R {j:Jb} (h:jobR j=true):jobR (waitJ j)=true:=by
 unfold waitJ
 split
 ·exact haltJ_R h (.inl rfl)
 ·exact h
theorem jobs2_at {p:Pl} {i:Nat} (hi:i < (jobs2 p).length):(jobs2 p)[i]=waitJ ((jobs1 p)[i]'(by rw[jobs2_len,← jobs1_len p] at hi;exact hi)):=by
 have e:jobs2 p=(jobs1 p).map waitJ:=by unfold jobs2;rfl
 exact(List.getElem_of_eq e hi).trans (List.getElem_map waitJ)
theorem foldA_at {t:Int} {J2:List Jb} {S:List Slt} (hK:∀ s∈S,(s.l,s.id)∈J2.map keyJ):∀ k,k≤S.length→∀ (i:Nat) (hi:i < J2.length),
  (foldA t J2 (S.take k))[i]?=some J2[i]∨∃ (a:Nat) (ha:a < S.length),a < k∧S[a].start≤t∧posJ J2 S[a].l S[a].id=i∧(foldA t J2 (S.take k))[i]?=some (runsJ J2[i] S[a]):=by
 intro k
 induction k with
 | zero=>intro _ i hi;rw[List.take_zero,foldA_nil];exact .inl (List.getElem?_eq_getElem hi)
 | succ k ih =>
  intro hk i hi
  have ih:=ih (Nat.le_of_lt hk)
  have hkey:=foldA_key t J2 S k (Nat.le_of_lt hk)
  rw[foldA_take t J2 hk]
  by_cases hs:S[k].start≤t
  ·obtain⟨q,hq,hp,_⟩:=pos_key (J:=foldA t J2 (S.take k)) (x:=S[k].l) (id:=S[k].id) (by rw[hkey];exact hK _ (List.getElem_mem hk))
   rw[stepA_yes hs hq hp]
   have hp2:posJ J2 S[k].l S[k].id=q:=by rw[← posJ_key hkey];exact hp
   by_cases e:q=i
   ·subst e
    right
    refine⟨k,hk,Nat.lt_succ_self _,hs,hp2,?_⟩
    rw[List.getElem?_set_self hq]
    have hF:=ih q hi
    rw[List.getElem?_eq_getElem hq] at hF
    rcases hF with hF | ⟨a,ha,_,_,_,hF⟩
    ·rw[Option.some.inj hF]
    ·rw[Option.some.inj hF];rfl
   ·rw[List.getElem?_set_ne e]
    rcases ih i hi with h | ⟨a,ha,h1,h2⟩
    ·exact .inl h
    ·exact .inr ⟨a,ha,by omega,h2⟩
  ·rw[stepA_no hs]
   rcases ih i hi with h | ⟨a,ha,h1,h2⟩
   ·exact .inl h
   ·exact .inr ⟨a,ha,by omega,h2⟩
theorem busy_flat (J:List Jb):busy J=(J.map busyJ).flatten:=by unfold busy;rw[List.flatMap_def]
theorem apart_no {a b:Spn} {t:Int} (h1:a.f≤t) (h2:t < a.t) (h3:b.f≤t) (h4:t < b.t):apart a b=false:=by
 unfold apart
 rw[decide_eq_true (by omega),decide_eq_true (by omega)];rfl
theorem PF.holds {cl:List (List Lab)} {now:Int} {j:Jb} {s:Slt} {x:Spn} (h:PF cl now j s x) (hs:s.start≤now):x.f≤now∧now < x.t:=by
 have h1:=spnOk_iff.1 h.ok
 have h2:=h.beg
 constructor<;>omega
theorem advP_right {p:Pl} (h:poolR p=true) (hn:¬ p.now=999900):poolR (advP p)=true:=by
 have hp:=poolR_of h
 have hnow:0≤p.now+1∧p.now+1≤999900:=by have:=hp.nw;omega
 have hR1:=jobs1_R hp hn
 have hpl:=jobs1_pl hp hn
 obtain⟨T,rows,hI⟩:=plan_facts hnow hp.cl hR1 hpl
 have hS:plan1 p=T.map (fun t=>t.2.1):=by unfold plan1;exact hI.out
 have hne1:(jobs1 p).Pairwise NeJ:=jobsR_ne hR1
 have hK:∀ s∈plan1 p,(s.l,s.id)∈(jobs2 p).map keyJ:=by
  rw[jobs2_key,← jobs1_key p]
  unfold plan1
  exact planL_key hnow hne1 (fun j hj=>(hpl j hj).ok hnow)
 have hT1:∀ t∈T,t.1∈jobs1 p:=fun t ht=>(sortedJ_perm _).mem_iff.1 (hI.js.subset (List.mem_map.2 ⟨t,ht,rfl⟩))
 have hlen:(foldA (p.now+1) (jobs2 p) (plan1 p)).length=(jobs2 p).length:=by
  have:=foldA_len (p.now+1) (jobs2 p) (plan1 p) _ (Nat.le_refl _)
  rwa [List.take_length] at this
 have hAt:∀ (i:Nat) (hi:i < (jobs2 p).length),(foldA (p.now+1) (jobs2 p) (plan1 p))[i]?=some (jobs2 p)[i] ∨
   ∃ (a:Nat) (ha:a < T.length),T[a].2.1.start≤p.now+1∧(jobs2 p)[i]=waitJ T[a].1∧(foldA (p.now+1) (jobs2 p) (plan1 p))[i]?=some (runsJ (jobs2 p)[i] T[a].2.1):=by
  intro i hi
  have:=foldA_at (t:=p.now+1) hK _ (Nat.le_refl _) i hi
  rw[List.take_length] at this
  rcases this with h1 | ⟨a,ha,_,h2,h3,h4⟩
  ·exact .inl h1
  ·have ha':a < T.length:=by rw[hS,List.length_map] at ha;exact ha
   have e:(plan1 p)[a]=T[a].2.1:=by simp[hS]
   rw[e] at h2 h3 h4
   refine .inr ⟨a,ha',h2,?_,h4⟩
   have hpf:=hI.pf _ (List.getElem_mem ha')
   obtain⟨q,hq,hq1,hq2,hq3⟩:=pos_key (J:=jobs2 p) (x:=T[a].2.1.l) (id:=T[a].2.1.id) (by rw[← e];exact hK _ (List.getElem_mem ha))
   obtain rfl:q=i:=by rw[h3] at hq1;omega
   have hi1:q < (jobs1 p).length:=by rw[jobs1_len,← jobs2_len p];exact hi
   have hw:=jobs2_at hi
   rw[hw] at hq2 hq3 ⊢
   have hf:=waitJ_fields (jobs1 p)[q]
   congr 1
   refine keyJ_eq_of hne1 (List.getElem_mem _) (hT1 _ (List.getElem_mem ha')) ?_
   unfold keyJ
   rw[← hf.1,hq2,hpf.l,← hf.2.1,hq3,hpf.id]
 have hR2:∀ j∈jobs2 p,jobR j=true∧¬ j.state=2:=fun j hj=>by
  obtain⟨i,hi,rfl⟩:=List.mem_iff_getElem.1 hj
  rw[jobs2_at hi]
  exact⟨waitJ_R (hpl _ (List.getElem_mem _)).r,(waitJ_fields _).2.2.2.2.2⟩
 have hall:∀ j∈foldA (p.now+1) (jobs2 p) (plan1 p),jobR j=true∧runOk p.clear (p.now+1) j:=by
  intro j hj
  obtain⟨i,hi,rfl⟩:=List.mem_iff_getElem.1 hj
  have hi2:i < (jobs2 p).length:=by rw[← hlen];exact hi
  have hat:=hAt i hi2
  rw[List.getElem?_eq_getElem hi] at hat
  obtain⟨g1,g2⟩:=hR2 _ (List.getElem_mem hi2)
  rcases hat with e | ⟨a,ha,h2,h3,e⟩
  ·rw[Option.some.inj e];exact⟨g1,runOk_off g2⟩
  ·rw[Option.some.inj e]
   have hpf:=hI.pf _ (List.getElem_mem ha)
   obtain⟨⟨q1,q2,q3,q4,q5,_⟩,_,_⟩:=jobR_parts g1
   have hw:=waitJ_fields T[a].1
   rw[← h3] at hw
   have h6:=(clearR_len6 hp.cl).2
   refine⟨jobR_on q1 q2 q3 q4 q5 rfl hpf.sr (by show (T[a].2.1.nodes.length:Int)=(jobs2 p)[i].need;rw[hpf.need,hw.2.2.1]) (nodesUp_of hpf.up fun n hn=>?_),fun _=>⟨⟨h2,?_⟩,fun n hn=>⟨(hpf.at_ n hn).1.2,?_⟩⟩⟩
   ·have:=(hpf.at_ n hn).1;omega
   ·show p.now+1 < T[a].2.1.start+(jobs2 p)[i].long
    rw[hw.2.2.2.1,← hpf.en]
    exact(hpf.holds h2).2
   ·show hasL _ (jobs2 p)[i].l=true
    rw[hw.1];exact(hpf.at_ n hn).2
 have hkeys:p.jobs.map keyJ=(foldA (p.now+1) (jobs2 p) (plan1 p)).map keyJ:=by
  have:=foldA_key (p.now+1) (jobs2 p) (plan1 p) _ (Nat.le_refl _)
  rw[List.take_length] at this
  rw[this,jobs2_key]
 unfold advP
 refine RightP.poolR ⟨hp.cl,jobsR_key hkeys hp.js (fun j hj=>(hall j hj).1),hnow,fun j hj=>(hall j hj).2,?_⟩
 show (busy (foldA (p.now+1) (jobs2 p) (plan1 p))).Nodup
 rw[busy_flat]
 refine List.pairwise_flatten.2 ⟨fun l hl=>?_,?_⟩
 ·obtain⟨j,hj,rfl⟩:=List.mem_map.1 hl
  have hjr:=(hall j hj).1
  by_cases hs:j.state=2
  ·rw[busyJ_run hs]
   exact List.Pairwise.imp (fun h=>by omega) (nodesUp_pair (jobR_run hjr hs).2.2.1).1
  ·rw[busyJ_off hs];exact List.Pairwise.nil
 ·rw[List.pairwise_map]
  refine List.pairwise_iff_getElem.2 fun i k hi hk hik x hx y hy hxy=>?_
  subst hxy
  have hi2:i < (jobs2 p).length:=by rw[← hlen];exact hi
  have hk2:k < (jobs2 p).length:=by rw[← hlen];exact hk
  have hat:=hAt i hi2
  have hat2:=hAt k hk2
  rw[List.getElem?_eq_getElem hi] at hat
  rw[List.getElem?_eq_getElem hk] at hat2
  rcases hat with e | ⟨a,ha,a2,a3,e⟩
  ·rw[Option.some.inj e,busyJ_off (hR2 _ (List.getElem_mem hi2)).2] at hx;cases hx
  rcases hat2 with f | ⟨b,hb,b2,b3,f⟩
  ·rw[Option.some.inj f,busyJ_off (hR2 _ (List.getElem_mem hk2)).2] at hy;cases hy
  rw[Option.some.inj e,busyJ_run rfl] at hx
  rw[Option.some.inj f,busyJ_run rfl] at hy
  have hx:x∈T[a].2.1.nodes:=hx
  have hy:x∈T[b].2.1.nodes:=hy
  have g1:=(hI.pf _ (List.getElem_mem ha)).holds a2
  have g2:=(hI.pf _ (List.getElem_mem hb)).holds b2
  have hap:=List.pairwise_iff_getElem.1 hI.ap
  rcases Nat.lt_trichotomy a b with hab | hab | hab
  ·have:=hap a b ha hb hab x hx hy
   rw[apart_no g1.1 g1.2 g2.1 g2.2] at this;cases this
  ·subst hab
   have h1:i < (jobs1 p).length:=by rw[jobs1_len,← jobs2_len p];exact hi2
   have h2:k < (jobs1 p).length:=by rw[jobs1_len,← jobs2_len p];exact hk2
   have e1:keyJ (jobs1 p)[i]=keyJ (jobs1 p)[k]:=by
    rw[← waitJ_key (jobs1 p)[i],← waitJ_key (jobs1 p)[k],← jobs2_at hi2,← jobs2_at hk2,a3,b3]
   have hk':(jobs1 p)[i].l=(jobs1 p)[k].l∧(jobs1 p)[i].id=(jobs1 p)[k].id:=by unfold keyJ at e1;simpa using e1
   exact List.pairwise_iff_getElem.1 hne1 i k h1 h2 hik ⟨congrArg Lab.lv hk'.1,congrArg Lab.st hk'.1,hk'.2⟩
  ·have:=hap b a hb ha hab x hy hx
   rw[apart_no g2.1 g2.2 g1.1 g1.2] at this;cases this
theorem sum_bound {α:Type} {f:α→Nat} {c:Nat}:∀ {l:List α},(∀ x∈l,f x≤c)→(l.map f).sum≤c*l.length
 | [],_=>Nat.zero_le _
 | a :: l,h=>by
  have h1:=h a (List.mem_cons_self ..)
  have h2:=sum_bound (l:=l) fun x hx=>h x (List.mem_cons_of_mem _ hx)
  rw[List.map_cons,List.sum_cons,List.length_cons,Nat.mul_add];omega
theorem labR_ok {x:Lab} (h:labR x=true):x.ok:=by
 have:=labR_parts h
 unfold Lab.ok I64
 omega
theorem jobR_fit {j:Jb} (h:jobR j=true):j.fit:=by
 obtain⟨⟨a,b,c,d,e,f⟩,q1,q2⟩:=jobR_parts h
 have hs:0≤j.start∧j.start≤1000000:=by
  by_cases hs:j.state=2
  ·exact(q1 hs).1
  ·rw[(q2 hs).1];omega
 refine⟨⟨labR_ok a,?_,?_,?_,?_,?_,?_⟩,fun n hn=>?_⟩
 all_goals unfold I64
 iterate 6 omega
 have h1:=jobR_ge h n hn
 have h2:=nodes_lt h n hn
 omega
theorem right_fits {p:Pl} (h:poolR p=true):p.fits 1048576:=by
 have hp:=poolR_of h
 have h1:=(clearR_len6 hp.cl).2
 have h2:=jobsR_len hp.js
 have h3:(p.clear.map List.length).sum≤4*p.clear.length:=sum_bound fun l hl=>(chainR_parts (clearR_mem hp.cl hl)).1.2
 have h4:(p.jobs.map Jb.sz).sum≤6*p.jobs.length:=sum_bound fun j hj=>jobR_nodes (jobsR_mem hp.js hj)
 unfold Pl.fits szL
 omega
theorem right_ok {p:Pl} (h:poolR p=true):PlOk p∧PlFit p∧wPl p≤64*1048576:=by
 have hp:=poolR_of h
 have hf:=right_fits h
 have h1:=(clearR_len6 hp.cl).2
 have h2:=jobsR_len hp.js
 refine⟨⟨?_,fun x hx y hy=>labR_ok ((chainR_parts (clearR_mem hp.cl hx)).2 y hy),fun j hj=>jobR_fit (jobsR_mem hp.js hj)⟩,⟨?_,fun x hx=>?_,?_,fun j hj=>?_⟩,?_⟩
 ·have:=hp.nw;unfold I64;omega
 ·unfold maxLen;omega
 ·have:=(chainR_parts (clearR_mem hp.cl hx)).1.2;unfold maxLen;omega
 ·unfold maxLen;omega
 ·have:=jobR_nodes (jobsR_mem hp.js hj);unfold maxLen;omega
 ·have e1:=wL_spans hf.1
  have e2:=wJb_le (Nat.le_trans hf.2 (Nat.sub_le _ _))
  unfold wPl;omega
theorem zPl_ok:PlOk zPl∧PlFit zPl∧wPl zPl≤64*1048576 :=
 ⟨PlOk.zero 0 (by unfold I64;omega),⟨Nat.zero_le _,(fun x hx=>by cases hx),Nat.zero_le _,(fun x hx=>by cases hx)⟩,by show 0+0≤_;omega⟩
end Go.Proofs.YtbmbanelodabgaaGreatDoor
