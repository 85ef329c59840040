/- An element of an owned list turns and takes memory with it. -/
import Derived.Test.YtbmbanelodabgaaGreatDoorKZZC
import Derived.Test.YtbmbanelodabgaaGreatDoorKPGM
import Derived.Test.YtbmbanelodabgaaGreatDoorKJE
import Derived.Test.YtbmbanelodabgaaGreatDoorKQJ
import Derived.Test.YtbmbanelodabgaaGreatDoorKQA1
import Derived.Test.YtbmbanelodabgaaGreatDoorKII
set_option maxRecDepth 100000
set_option linter.unusedVariables false
namespace Go
open Go.RowKit
theorem Own.setG {α:Type} {B:Nat} {w:World} {ty K:Nat} {o:Ow α} (hlo:Local o) (hhe:Held o) {fp:List Nat} {g n cap:Nat} {xs:List α} (h:Own B w (oSl ty K o) fp [.slice (some ⟨g,0,none⟩) n cap] xs) {i:Nat} (hi:i < xs.length) :
  ∃ fi cs,w.old g∧(∀ j,w.frozen? ⟨g,j,none⟩=false)∧cs.length=K∧(∀ j u,cs[j]?=some u→w.cell? ⟨g,i*K+j,none⟩=some u)∧o w fi cs xs[i]∧g∈fp ∧
   ∀ (q:Nat) (vs:List Value) (y:α) (fy:List Nat),q+vs.length≤K→fy.Nodup→(∀ b∈fy,b∉fp∧B≤b)→o (w.layCells g (i*K+q) vs) fy (cs.take q++vs++cs.drop (q+vs.length)) y →
    ∃ fp',(∀ b∈fp',b∈fp∨b∈fy)∧Own B (w.layCells g (i*K+q) vs) (oSl ty K o) fp' [.slice (some ⟨g,0,none⟩) n cap] (xs.set i y):=by
 obtain⟨⟨v',hv,h⟩,hnd,hge⟩:=h
 rcases h with ⟨rfl,_,_⟩ | ⟨g',cap',cur,fps,rfl,hg,hsz,hl,hm,hf,rfl,h⟩
 ·simp at hv
 ·obtain⟨rfl,rfl,rfl⟩:g=g'∧n=xs.length∧cap=cap':=by simpa using hv
  obtain⟨hgn,hnd2⟩:=List.nodup_cons.1 hnd
  have hif:i < fps.length:=by omega
  have hki:(i+1)*K≤cur.size:=by rw[hsz];exact Nat.mul_le_mul_right _ (by omega)
  rw[Nat.add_mul,Nat.one_mul] at hki
  have hcl:((cur.toList.drop (i*K)).take K).length=K:=by simp;omega
  refine⟨fps[i],(cur.toList.drop (i*K)).take K,(Array.getElem?_eq_some_iff.1 hg).1,frozen_of_heap hg,hcl,fun j u hu=>by rw[cell_of_heap hg];exact drop_take_get hu,h i hi _ (List.getElem?_eq_getElem hif),by simp,fun q vs y fy hq hfn hfy ho=>?_⟩
  have hsub:∀ b∈(fps.set i fy).flatten,b∈fps.flatten∨b∈fy:=fun b hb=>by
   obtain⟨f,hfm,hbf⟩:=List.mem_flatten.1 hb
   rcases List.mem_or_eq_of_mem_set hfm with hfm | rfl
   ·exact .inl (List.mem_flatten.2 ⟨f,hfm,hbf⟩)
   ·exact .inr hbf
  have hout:∀ b∈fy,b∉fps.flatten∧b≠g:=fun b hb=>⟨fun hm=>(hfy b hb).1 (List.mem_cons_of_mem _ hm),fun e=>(hfy b hb).1 (by rw[e];simp)⟩
  have hx:=layCells_chg vs w g (i*K+q)
  refine⟨g :: (fps.set i fy).flatten,fun b hb=>?_,⟨_,rfl,.inr ⟨g,cap,spl cur (i*K+q) vs,fps.set i fy,by simp,layCells_heap vs _ hg,by rw[spl_size];exact hsz,by simpa using hl,hm,by simpa using hf,rfl,fun j hj fj hfj=>?_⟩⟩,?_,fun b hb=>?_⟩
  ·rcases List.mem_cons.1 hb with rfl | hb
   ·exact .inl (by simp)
   ·rcases hsub b hb with h1 | h1
    ·exact .inl (List.mem_cons_of_mem _ h1)
    ·exact .inr h1
  ·have hj':j < xs.length:=by simpa using hj
   have hjk:(j+1)*K≤cur.size:=by rw[hsz];exact Nat.mul_le_mul_right _ (by omega)
   rw[Nat.add_mul,Nat.one_mul] at hjk
   by_cases e:j=i
   ·subst e
    have hfe:fj=fy:=by simpa [hif] using hfj.symm
    subst hfe
    have hcs:((spl cur (j*K+q) vs).toList.drop (j*K)).take K=((cur.toList.drop (j*K)).take K).take q++vs++((cur.toList.drop (j*K)).take K).drop (q+vs.length):=by
     refine List.ext_getElem? fun r=>?_
     rw[List.getElem?_take,List.getElem?_drop,Array.getElem?_toList,spl_get vs cur _ _ (by omega)]
     have hlq:(((cur.toList.drop (j*K)).take K).take q).length=q:=by rw[List.length_take,hcl];omega
     by_cases hr:r < K
     ·rw[if_pos hr]
      by_cases h1:r < q
      ·rw[if_neg (by omega),List.append_assoc,List.getElem?_append_left (by omega),List.getElem?_take,if_pos h1,List.getElem?_take,if_pos hr,List.getElem?_drop,Array.getElem?_toList]
      ·by_cases h2:r < q+vs.length
       ·rw[if_pos (by omega),List.append_assoc,List.getElem?_append_right (by omega),List.getElem?_append_left (by omega),hlq]
        congr 1;omega
       ·rw[if_neg (by omega),List.append_assoc,List.getElem?_append_right (by omega),List.getElem?_append_right (by omega),List.getElem?_drop,hlq,List.getElem?_take,if_pos (by omega),List.getElem?_drop,Array.getElem?_toList]
        congr 1;omega
     ·rw[if_neg hr,List.getElem?_eq_none]
      rw[List.length_append,List.length_append,hlq,List.length_drop,hcl];omega
    rw[hcs]
    simpa using ho
   ·have hfj':fps[j]?=some fj:=by rwa [List.getElem?_set_ne (Ne.symm e)] at hfj
    rw[List.getElem_set_ne (Ne.symm e)]
    have hsame:((spl cur (i*K+q) vs).toList.drop (j*K)).take K=(cur.toList.drop (j*K)).take K:=by
     refine List.ext_getElem? fun r=>?_
     rw[List.getElem?_take,List.getElem?_take]
     by_cases hr:r < K
     ·rw[if_pos hr,if_pos hr,List.getElem?_drop,List.getElem?_drop,Array.getElem?_toList,Array.getElem?_toList,spl_get vs cur _ _ (by omega),if_neg]
      rintro ⟨h1,h2⟩
      rcases Nat.lt_or_gt_of_ne e with h | h
      ·have:(j+1)*K≤i*K:=Nat.mul_le_mul_right _ h
       rw[Nat.add_mul,Nat.one_mul] at this
       omega
      ·have:(i+1)*K≤j*K:=Nat.mul_le_mul_right _ h
       rw[Nat.add_mul,Nat.one_mul] at this
       omega
     ·rw[if_neg hr,if_neg hr]
    rw[hsame]
    refine hlo.chg hhe hx (fun b hb hbg=>?_) (h j hj' _ hfj')
    simp at hbg
    subst hbg
    exact hgn (List.mem_flatten.2 ⟨_,List.mem_of_getElem? hfj',hb⟩)
  ·refine List.nodup_cons.2 ⟨fun hb=>(hsub g hb).elim hgn (fun h1=>(hout g h1).2 rfl),?_⟩
   have hp:=List.pairwise_flatten.1 hnd2
   refine List.pairwise_flatten.2 ⟨fun f hfm=>?_,?_⟩
   ·rcases List.mem_or_eq_of_mem_set hfm with hfm | rfl
    ·exact hp.1 f hfm
    ·exact hfn
   ·have hp2:=List.pairwise_iff_getElem.1 hp.2
    refine List.pairwise_iff_getElem.2 fun a b ha hb hab=>?_
    have hin:∀ (k:Nat) (hk:k < fps.length),∀ x∈fps[k],x∈fps.flatten:=fun k hk x hx2=>List.mem_flatten.2 ⟨_,List.getElem_mem hk,hx2⟩
    rw[List.getElem_set,List.getElem_set]
    split
    ·split
     ·omega
     ·intro x hx2 y hy e
      subst e
      exact(hout x hx2).1 (hin b (by simpa using hb) x hy)
    ·split
     ·intro x hx2 y hy e
      subst e
      exact(hout x hy).1 (hin a (by simpa using ha) x hx2)
     ·exact hp2 a b (by simpa using ha) (by simpa using hb) hab
  ·rcases List.mem_cons.1 hb with rfl | hb
   ·exact hge b (by simp)
   ·rcases hsub b hb with h1 | h1
    ·exact hge b (List.mem_cons_of_mem _ h1)
    ·exact(hfy b h1).2
theorem RowO.cells {α:Type} {B:Nat} {w:World} {ty K:Nat} {o:Ow α} {raw:List Value} {fps:List (List Nat)} {g n cap:Nat} {xs:List α} (h:RowO B w ty K o raw fps (.slice (some ⟨g,0,none⟩) n cap) xs) {i:Nat} (hi:i < xs.length) {fi:List Nat} (hf:fps[i]?=some fi) :
  ∃ cs,o w fi cs xs[i]∧∀ j u,cs[j]?=some u→w.cell? ⟨g,i*K+j,none⟩=some u:=by
 obtain⟨⟨h0,h1⟩,h2,h3,h4,h5⟩:=h
 refine⟨_,h3 i hi fi hf,fun j u hu=>?_⟩
 rcases h1 with ⟨hv,_⟩ | ⟨g',cap',cur,hv,hb,hg,hn,hm,hsz,ht⟩
 ·cases hv
 ·cases hv
  rw[cell_of_heap hg]
  rw[List.getElem?_take] at hu
  split at hu
  ·rw[List.getElem?_drop,← ht,List.getElem?_take] at hu
   split at hu
   ·simpa using hu
   ·cases hu
  ·cases hu
end Go
set_option maxRecDepth 100000
set_option linter.unusedVariables false
namespace Go.Proofs.YtbmbanelodabgaaGreatDoor
open Go.RowKit Go.Fin1
def haltJ (j:Jb) (s:Int):Jb:=⟨j.l,j.id,j.need,j.long,j.prio,s,0,[]⟩
def endJ (t:Int) (j:Jb):Jb:=if j.state=2∧j.start+j.long≤t then haltJ j 3 else j
def waitJ (j:Jb):Jb:=if j.state=2 then haltJ j 1 else j
def runsJ (j:Jb) (s:Slt):Jb:=⟨j.l,j.id,j.need,j.long,j.prio,2,s.start,s.nodes⟩
def jb0:Jb:=⟨⟨0,0⟩,0,0,0,0,0,0,[]⟩
def stepA (t:Int) (J:List Jb) (s:Slt):List Jb:=if s.start≤t then J.set (posJ J s.l s.id).toNat (runsJ (J.getD (posJ J s.l s.id).toNat jb0) s) else J
@[irreducible] def foldA (t:Int) (J:List Jb) (S:List Slt):List Jb:=S.foldl (stepA t) J
theorem foldA_nil (t:Int) (J:List Jb):foldA t J []=J:=by unfold foldA;rfl
theorem foldA_take (t:Int) (J:List Jb) {S:List Slt} {k:Nat} (h:k < S.length):foldA t J (S.take (k+1))=stepA t (foldA t J (S.take k)) S[k]:=by
 unfold foldA
 rw[List.take_succ_eq_append_getElem h,List.foldl_append];rfl
@[irreducible] def jobs1 (p:Pl):List Jb:=p.jobs.map (endJ (p.now+1))
@[irreducible] def plan1 (p:Pl):List Slt:=planL p.clear (p.now+1) (jobs1 p)
@[irreducible] def jobs2 (p:Pl):List Jb:=(jobs1 p).map waitJ
@[irreducible] def advP (p:Pl):Pl:=⟨p.clear,foldA (p.now+1) (jobs2 p) (plan1 p),p.now+1⟩
@[irreducible] def advR (p:Pl):Pl×Int×Int:=if poolR p=false then (zPl,0,1) else if p.now=999900 then (zPl,0,9) else (advP p,0,0)
theorem advR_form {p:Pl} (h:poolR p=false):advR p=(zPl,0,1):=by unfold advR;rw[if_pos h]
theorem advR_full {p:Pl} (h:poolR p=true) (h2:p.now=999900):advR p=(zPl,0,9):=by unfold advR;rw[if_neg (by rw[h];simp),if_pos h2]
theorem advR_yes {p:Pl} (h:poolR p=true) (h2:¬ p.now=999900):advR p=(advP p,0,0):=by unfold advR;rw[if_neg (by rw[h];simp),if_neg h2]
def mapN (f:Jb→Jb) (J:List Jb) (n:Nat):List Jb:=(J.take n).map f++J.drop n
theorem mapN_len (f:Jb→Jb) (J:List Jb) (n:Nat):(mapN f J n).length=J.length:=by unfold mapN;simp;omega
theorem mapN_all (f:Jb→Jb) (J:List Jb):mapN f J J.length=J.map f:=by unfold mapN;simp
theorem mapN_at (f:Jb→Jb) {J:List Jb} {n:Nat} (h:n < J.length):(mapN f J n)[n]'(by rw[mapN_len];exact h)=J[n]:=by
 have hl:((J.take n).map f).length=n:=by rw[List.length_map,List.length_take];omega
 have h1:(mapN f J n)[n]?=some J[n]:=by
  unfold mapN
  rw[List.getElem?_append_right (by omega),hl,Nat.sub_self,List.drop_eq_getElem_cons h,List.getElem?_cons_zero]
 rw[List.getElem?_eq_getElem (by rw[mapN_len];exact h)] at h1
 exact Option.some.inj h1
theorem mapN_set (f:Jb→Jb) {J:List Jb} {n:Nat} (h:n < J.length):(mapN f J n).set n (f J[n])=mapN f J (n+1):=by
 unfold mapN
 have hl:((J.take n).map f).length=n:=by rw[List.length_map,List.length_take];omega
 rw[List.set_append_right _ _ (by omega),hl,Nat.sub_self,List.drop_eq_getElem_cons h,List.set_cons_zero,List.take_succ_eq_append_getElem h,List.map_append,List.append_assoc]
 rfl
theorem mapN_same (f:Jb→Jb) {J:List Jb} {n:Nat} (h:n < J.length) (he:f J[n]=J[n]):mapN f J (n+1)=mapN f J n:=by
 rw[← mapN_set f h,he]
 have:=mapN_at f h
 have hn:n < (mapN f J n).length:=by rw[mapN_len];exact h
 rw[← this,List.set_getElem_self]
def keyJ (j:Jb):Lab×Int:=(j.l,j.id)
theorem endJ_key (t:Int) (j:Jb):keyJ (endJ t j)=keyJ j:=by unfold endJ;split<;>rfl
theorem waitJ_key (j:Jb):keyJ (waitJ j)=keyJ j:=by unfold waitJ;split<;>rfl
theorem ne_key {J K:List Jb} (h:J.map keyJ=K.map keyJ) (hn:J.Pairwise NeJ):K.Pairwise NeJ:=by
 have e:∀ L:List Jb,L.Pairwise NeJ↔(L.map keyJ).Pairwise (fun a b=>¬ (a.1.lv=b.1.lv∧a.1.st=b.1.st∧a.2=b.2)):=fun L=>by rw[List.pairwise_map];rfl
 rw[e] at hn ⊢
 rwa [← h]
theorem jobs1_key (p:Pl):(jobs1 p).map keyJ=p.jobs.map keyJ:=by
 unfold jobs1
 rw[List.map_map]
 exact List.map_congr_left fun j _=>endJ_key _ j
theorem jobs2_key (p:Pl):(jobs2 p).map keyJ=p.jobs.map keyJ:=by
 unfold jobs2
 rw[List.map_map,← jobs1_key p]
 exact List.map_congr_left fun j _=>waitJ_key j
theorem jobs1_len (p:Pl):(jobs1 p).length=p.jobs.length:=by unfold jobs1;simp
theorem jobs2_len (p:Pl):(jobs2 p).length=p.jobs.length:=by unfold jobs2;rw[List.length_map,jobs1_len]
theorem pos_key {J:List Jb} {x:Lab} {id:Int} (h:(x,id)∈J.map keyJ):∃ (k:Nat) (hk:k < J.length),posJ J x id=k∧J[k].l=x∧J[k].id=id:=by
 obtain⟨j,hj,he⟩:=List.mem_map.1 h
 have hp:isJb x id j=true:=by
  unfold keyJ at he
  obtain⟨rfl,rfl⟩:j.l=x∧j.id=id:=by simpa using he
  unfold isJb;simp[sameL]
 rcases findI_cases (isJb x id) J with h1 | ⟨k,hk,h1,h2⟩
 ·have h3:=findI_nonneg (isJb x id) J
  rw[h1,List.any_eq_true.2 ⟨j,hj,hp⟩] at h3
  simp at h3
 ·refine⟨k,hk,h1,?_⟩
  unfold isJb sameL at h2
  simp only[Bool.and_eq_true,decide_eq_true_eq] at h2
  obtain⟨⟨q1,q2⟩,q3⟩:=h2
  refine⟨?_,q3⟩
  cases hl:J[k].l
  cases x
  rw[hl] at q1 q2
  simp only at q1 q2
  rw[q1,q2]
theorem stepA_key (t:Int) (J:List Jb) (s:Slt):(stepA t J s).map keyJ=J.map keyJ:=by
 unfold stepA
 split
 ·rw[List.map_set]
  by_cases hk:(posJ J s.l s.id).toNat < J.length
  ·have e:keyJ (runsJ (J.getD (posJ J s.l s.id).toNat jb0) s)=(J.map keyJ)[(posJ J s.l s.id).toNat]'(by simpa using hk):=by
    simp[runsJ,keyJ,hk]
   rw[e,List.set_getElem_self]
  ·rw[List.set_eq_of_length_le (by simpa using hk)]
 ·rfl
theorem foldA_key (t:Int) (J:List Jb):∀ (S:List Slt) (k:Nat),k≤S.length→(foldA t J (S.take k)).map keyJ=J.map keyJ
 | S,0,_=>by rw[List.take_zero,foldA_nil]
 | S,k+1,h=>by rw[foldA_take t J h,stepA_key,foldA_key t J S k (Nat.le_of_lt h)]
theorem planL_key {clear:List (List Lab)} {now:Int} (hn:0≤now∧now≤999900) {l:List Jb} (hne:l.Pairwise NeJ) (hj:∀ j∈l,JOk now clear.length j):∀ s∈planL clear now l,(s.l,s.id)∈l.map keyJ:=by
 have hm:∀ j∈sortedJ l,j∈l:=fun j h=>by
  unfold sortedJ at h
  have h2:=((sortedJ_all (l:=l) (acc:=[]) List.Pairwise.nil hne (fun _ h=>by cases h)).2 j).1 h
  simpa using h2
 have key:∀ k,k≤(sortedJ l).length→∀ s∈(foldP clear now ((sortedJ l).take k)).1,(s.l,s.id)∈l.map keyJ:=by
  intro k
  induction k with
  | zero=>intro _ s hs;rw[List.take_zero,foldP_nil] at hs;cases hs
  | succ k ih =>
   intro hk s hs
   have ih:=ih (Nat.le_of_lt hk)
   obtain⟨q1,q2⟩:=foldP_ok hn (l:=sortedJ l) k (Nat.le_of_lt hk) (fun j h=>hj j (hm j h))
   rw[foldP_take clear now hk] at hs
   cases h0:((sortedJ l)[k].state == 2 || (sortedJ l)[k].state == 1)
   ·rw[stepP_off h0] at hs;exact ih s hs
   ·cases hp:placedP clear now (foldP clear now ((sortedJ l).take k)).2 (sortedJ l)[k] with
    | none=>rw[stepP_none hp] at hs;exact ih s hs
    | some r =>
     rw[stepP_some h0 hp] at hs
     rcases List.mem_append.1 hs with hs | hs
     ·exact ih s hs
     ·obtain rfl:=List.mem_singleton.1 hs
      have hin:=hm _ (List.getElem_mem hk)
      obtain⟨_,_,g3,g4,_⟩:=placed_good hn q2.symm (hj _ hin) hp
      exact List.mem_map.2 ⟨_,hin,by unfold keyJ;rw[g3,g4]⟩
 unfold planL
 have h1:=key _ (Nat.le_refl _)
 rwa [List.take_length] at h1
theorem planL_ok {clear:List (List Lab)} {now:Int} (hn:0≤now∧now≤999900) (hc:clear.length≤1048576) {l:List Jb} (hne:l.Pairwise NeJ) (hj:∀ j∈l,JOk now clear.length j) (hf:∀ j∈l,j.fit):∀ s∈planL clear now l,s.ok∧s.nodes.length≤clear.length:=by
 have hm:∀ j∈sortedJ l,j∈l:=fun j h=>by
  unfold sortedJ at h
  have h2:=((sortedJ_all (l:=l) (acc:=[]) List.Pairwise.nil hne (fun _ h=>by cases h)).2 j).1 h
  simpa using h2
 have key:∀ k,k≤(sortedJ l).length→∀ s∈(foldP clear now ((sortedJ l).take k)).1,s.ok∧s.nodes.length≤clear.length:=by
  intro k
  induction k with
  | zero=>intro _ s hs;rw[List.take_zero,foldP_nil] at hs;cases hs
  | succ k ih =>
   intro hk s hs
   have ih:=ih (Nat.le_of_lt hk)
   obtain⟨q1,q2⟩:=foldP_ok hn (l:=sortedJ l) k (Nat.le_of_lt hk) (fun j h=>hj j (hm j h))
   rw[foldP_take clear now hk] at hs
   cases h0:((sortedJ l)[k].state == 2 || (sortedJ l)[k].state == 1)
   ·rw[stepP_off h0] at hs;exact ih s hs
   ·cases hp:placedP clear now (foldP clear now ((sortedJ l).take k)).2 (sortedJ l)[k] with
    | none=>rw[stepP_none hp] at hs;exact ih s hs
    | some r =>
     rw[stepP_some h0 hp] at hs
     rcases List.mem_append.1 hs with hs | hs
     ·exact ih s hs
     ·obtain rfl:=List.mem_singleton.1 hs
      have hin:=hm _ (List.getElem_mem hk)
      obtain⟨_,g2,g3,g4,g5⟩:=placed_good hn q2.symm (hj _ hin) hp
      have hft:=hf _ hin
      refine⟨⟨by rw[g3];exact hft.1.1,by rw[g4];exact hft.1.2.1,⟨by omega,by omega⟩,g2.i64 (by rw[q2];exact hc)⟩,?_⟩
      have:=g2.len
      omega
 unfold planL
 have h1:=key _ (Nat.le_refl _)
 rwa [List.take_length] at h1
theorem stepA_fit {t:Int} {J:List Jb} {s:Slt} (hs:s.ok) (h:∀ j∈J,j.fit):∀ j∈stepA t J s,j.fit:=by
 intro j hj
 unfold stepA at hj
 split at hj
 ·by_cases hk:(posJ J s.l s.id).toNat < J.length
  ·rcases List.mem_or_eq_of_mem_set hj with hj | rfl
   ·exact h j hj
   ·have hg:=h _ (List.getElem_mem hk)
    have e:J.getD (posJ J s.l s.id).toNat jb0=J[(posJ J s.l s.id).toNat]:=by simp[hk]
    rw[e]
    exact⟨⟨hg.1.1,hg.1.2.1,hg.1.2.2.1,hg.1.2.2.2.1,hg.1.2.2.2.2.1,(⟨by decide,by decide⟩:I64 2),hs.2.2.1⟩,hs.2.2.2⟩
  ·rw[List.set_eq_of_length_le (by omega)] at hj
   exact h j hj
 ·exact h j hj
theorem foldA_fit {t:Int} {J:List Jb} {S:List Slt} (hS:∀ s∈S,s.ok) (h:∀ j∈J,j.fit):∀ k,k≤S.length→∀ j∈foldA t J (S.take k),j.fit
 | 0,_=>by rw[List.take_zero,foldA_nil];exact h
 | k+1,hk=>by
  rw[foldA_take t J hk]
  exact stepA_fit (hS _ (List.getElem_mem hk)) (foldA_fit hS h k (Nat.le_of_lt hk))
theorem foldA_len (t:Int) (J:List Jb) (S:List Slt) (k:Nat) (h:k≤S.length):(foldA t J (S.take k)).length=J.length:=by
 have:=congrArg List.length (foldA_key t J S k h)
 simpa using this
theorem stepA_yes {t:Int} {J:List Jb} {s:Slt} {k:Nat} (h:s.start≤t) (hk:k < J.length) (hp:posJ J s.l s.id=k):stepA t J s=J.set k (runsJ J[k] s):=by
 unfold stepA
 rw[if_pos h,hp]
 simp[hk]
theorem stepA_no {t:Int} {J:List Jb} {s:Slt} (h:¬ s.start≤t):stepA t J s=J:=by unfold stepA;rw[if_neg h]
theorem jobs1_ok {p:Pl} (h:poolR p=true) (h2:¬ p.now=999900):∀ j∈jobs1 p,JOk (p.now+1) p.clear.length j:=by
 intro j hj
 unfold jobs1 at hj
 obtain⟨j0,hj0,rfl⟩:=List.mem_map.1 hj
 obtain⟨hk,hs⟩:=poolR_job h hj0
 unfold endJ
 split
 ·exact⟨hk.need,hk.long,⟨Int.le_refl _,by show (0:Int)≤1000000;omega⟩,fun e=>absurd (show (3:Int)=2 from e) (by omega),fun _=>rfl⟩
 ·rename_i hn
  refine⟨hk.need,hk.long,hk.st,fun e=>?_,hk.off⟩
  obtain⟨⟨r1,r2,r3⟩,r4,r5⟩:=hk.run e
  have:¬ (j0.start+j0.long≤p.now+1):=fun hle=>hn ⟨e,hle⟩
  exact⟨⟨by omega,r2,r3⟩,r4,r5⟩
end Go.Proofs.YtbmbanelodabgaaGreatDoor
set_option maxRecDepth 100000
set_option linter.unusedVariables false
namespace Go.Proofs.YtbmbanelodabgaaGreatDoor
open Go.RowKit Go.Fin1
set_option maxHeartbeats 1600000 in
theorem implAdvance_form (p:Pl) (v:Value) (w:World) (h:ePool w v p) (hq:poolR p=false) :
  Calls Tryz.prog 82 #[v] w fun e w'=>∃ cv jv fc fj,e=.returned (poV zPl 0 1 cv jv)∧Ext w w'∧OwnP w.heap.size w' fc fj cv jv zPl:=by
 have HP:=tH h
 obtain⟨a,c,b,d,rfl,h0,h1,h2⟩:=h
 clear h0 h1 h2
 unfold Pl.val at HP ⊢
 go_enter Tryz.func82,Tryz.ntmps82
 go_wp2_with fail
 refine(implPoolRight_any p _ _ (HP.out.ext xE)).mono ?_
 rintro e _ ⟨rfl,X,rfl⟩
 rw[hq]
 go_wp2
 exact bodyPost_ret (v:=.agg #[.slice none 0 0,.slice none 0 0,(.int .i64 0),(.int .i64 0),(.int .i64 1)]) (by simp[results,Tryz.results82,go_sem]) rfl ⟨_,_,[],[],rfl,xF,OwnP.zero _ _ _⟩
set_option maxHeartbeats 1600000 in
theorem implAdvance_full (p:Pl) (v:Value) (w:World) (h:ePool w v p) (hq:poolR p=true) (hn:p.now=999900) :
  Calls Tryz.prog 82 #[v] w fun e w'=>∃ cv jv fc fj,e=.returned (poV zPl 0 9 cv jv)∧Ext w w'∧OwnP w.heap.size w' fc fj cv jv zPl:=by
 have HP:=tH h
 obtain⟨a,c,b,d,rfl,h0,h1,h2⟩:=h
 have hnb:(p.now == 999900)=true:=by simp[hn]
 clear h0 h1 h2 hn
 unfold Pl.val at HP ⊢
 go_enter Tryz.func82,Tryz.ntmps82
 go_wp2_with fail
 refine(implPoolRight_any p _ _ (HP.out.ext xE)).mono ?_
 rintro e _ ⟨rfl,X,rfl⟩
 rw[hq]
 go_wp2
 exact bodyPost_ret (v:=.agg #[.slice none 0 0,.slice none 0 0,(.int .i64 0),(.int .i64 0),(.int .i64 9)]) (by simp[results,Tryz.results82,go_sem]) rfl ⟨_,_,[],[],rfl,xF,OwnP.zero _ _ _⟩
set_option maxHeartbeats 800000 in
theorem l05IllA_any (c:Int) (w:World) :
  Calls Tryz.prog 28 #[(.int .i64 c)] w fun e w'=>e=.returned (.agg #[.slice none 0 0,.slice none 0 0,(.int .i64 0),(.int .i64 0),(.int .i64 c)])∧Ext w w':=by
 go_enter Tryz.func28,Tryz.ntmps28
 go_wp2
 exact bodyPost_ret (v:=.agg #[.slice none 0 0,.slice none 0 0,(.int .i64 0),(.int .i64 0),(.int .i64 c)]) (by simp[results,Tryz.results28,go_sem]) rfl ⟨rfl,xF⟩
set_option maxHeartbeats 1600000 in
theorem specAdvance_form (p:Pl) (v:Value) (w:World) (h:ePool w v p) (hq:poolR p=false) :
  Calls Tryz.prog 39 #[v] w fun e w'=>∃ cv jv fc fj,e=.returned (poV zPl 0 1 cv jv)∧Ext w w'∧OwnP w.heap.size w' fc fj cv jv zPl:=by
 have HP:=tH h
 obtain⟨a,c,b,d,rfl,h0,h1,h2⟩:=h
 clear h0 h1 h2
 unfold Pl.val at HP ⊢
 go_enter Tryz.func39,Tryz.ntmps39
 go_wp2_with fail
 refine(specPoolRight_any p _ _ (HP.out.ext xE)).mono ?_
 rintro e _ ⟨rfl,X,rfl⟩
 rw[hq]
 go_wp2_with fail
 refine(l05IllA_any 1 _).mono ?_
 rintro e _ ⟨rfl,X2,rfl⟩
 go_wp2
 exact bodyPost_ret (v:=.agg #[.slice none 0 0,.slice none 0 0,(.int .i64 0),(.int .i64 0),(.int .i64 1)]) (by simp[results,Tryz.results39,go_sem]) rfl ⟨_,_,[],[],rfl,xF,OwnP.zero _ _ _⟩
set_option maxHeartbeats 1600000 in
theorem specAdvance_full (p:Pl) (v:Value) (w:World) (h:ePool w v p) (hq:poolR p=true) (hn:p.now=999900) :
  Calls Tryz.prog 39 #[v] w fun e w'=>∃ cv jv fc fj,e=.returned (poV zPl 0 9 cv jv)∧Ext w w'∧OwnP w.heap.size w' fc fj cv jv zPl:=by
 have HP:=tH h
 obtain⟨a,c,b,d,rfl,h0,h1,h2⟩:=h
 have hnb:decide ((999900:Int)≤p.now)=true:=decide_eq_true (by omega)
 clear h0 h1 h2 hn
 unfold Pl.val at HP ⊢
 go_enter Tryz.func39,Tryz.ntmps39
 go_wp2_with fail
 refine(specPoolRight_any p _ _ (HP.out.ext xE)).mono ?_
 rintro e _ ⟨rfl,X,rfl⟩
 rw[hq]
 go_wp2_with fail
 refine(l05IllA_any 9 _).mono ?_
 rintro e _ ⟨rfl,X2,rfl⟩
 go_wp2
 exact bodyPost_ret (v:=.agg #[.slice none 0 0,.slice none 0 0,(.int .i64 0),(.int .i64 0),(.int .i64 9)]) (by simp[results,Tryz.results39,go_sem]) rfl ⟨_,_,[],[],rfl,xF,OwnP.zero _ _ _⟩
end Go.Proofs.YtbmbanelodabgaaGreatDoor
set_option maxRecDepth 100000
set_option linter.unusedVariables false
namespace Go.Proofs.YtbmbanelodabgaaGreatDoor
open Go.RowKit Go.Fin1
def curA (cur:Array Value) (o:Nat) (st:Int) (nv:Value) (L:Nat→Bool):Array Value :=
 if L 15=true then ((cur.setIfInBounds (o+6) (.int .i64 2)).setIfInBounds (o+7) (.int .i64 st)).setIfInBounds (o+8) nv
 else if L 12=true then (cur.setIfInBounds (o+6) (.int .i64 2)).setIfInBounds (o+7) (.int .i64 st)
 else if L 9=true then cur.setIfInBounds (o+6) (.int .i64 2)
 else cur
structure AcI (W0:World) (gj o:Nat) (cur:Array Value) (st:Int) (nv:Value) (S:List (Option Value)) (L:Nat→Bool) (vs:Nat→Value) (w:World):Prop where
 c:Chg [gj] W0 w
 s:∀ k v,S[k]?=some (some v)→L k=true→vs k=v
 h:w.heap[gj]?=some (.cells (curA cur o st nv L) 92 (0,0))
 z1:L 12=true→L 9=true
 z2:L 15=true→L 12=true
theorem AcI.start {W0 W:World} {gj o:Nat} {cur:Array Value} {st:Int} {nv:Value} {S:List (Option Value)} {vs:Nat→Value} (h:Ext W0 W) (hg:W0.heap[gj]?=some (.cells cur 92 (0,0))):AcI W0 gj o cur st nv S (fun _=>false) vs W :=
 ⟨h.chg _,fun _ _ _ hq=>(by cases hq),heap_ext hg h,fun hq=>(by cases hq),fun hq=>(by cases hq)⟩
theorem AcI.put {W0 w:World} {gj o:Nat} {cur:Array Value} {st:Int} {nv:Value} {S:List (Option Value)} {L:Nat→Bool} {vs:Nat→Value} (h:AcI W0 gj o cur st nv S L vs w) (k:Nat) (v:Value) (hs:∀ u,S[k]?=some (some u)→u=v):∀ j u,S[j]?=some (some u)→updB L k j=true→updV vs k v j=u:=fun j u hq hL=>by
 unfold updB at hL
 unfold updV
 by_cases e:j=k
 ·rw[if_pos e];subst e;exact(hs u hq).symm
 ·rw[if_neg e] at hL ⊢;exact h.s j u hq hL
theorem AcI.set {W0 w w':World} {gj o:Nat} {cur:Array Value} {st:Int} {nv:Value} {S:List (Option Value)} {L:Nat→Bool} {vs:Nat→Value} (h:AcI W0 gj o cur st nv S L vs w) (k:Nat) (v:Value) (hx:Ext w w') (hk:k≠9∧k≠12∧k≠15) (hs:∀ u,S[k]?=some (some u)→u=v):AcI W0 gj o cur st nv S (updB L k) (updV vs k v) w':=by
 have n9:¬ 9=k:=fun e=>hk.1 e.symm
 have n12:¬ 12=k:=fun e=>hk.2.1 e.symm
 have n15:¬ 15=k:=fun e=>hk.2.2 e.symm
 have e:curA cur o st nv (updB L k)=curA cur o st nv L:=by unfold curA updB;rw[if_neg n9,if_neg n12,if_neg n15]
 refine⟨h.c.trans (hx.chg _),h.put k v hs,by rw[e];exact heap_ext h.h hx,fun hq=>?_,fun hq=>?_⟩
 ·simp only[updB,if_neg n9,if_neg n12] at hq ⊢;exact h.z1 hq
 ·simp only[updB,if_neg n12,if_neg n15] at hq ⊢;exact h.z2 hq
theorem AcI.st9 {W0 w:World} {gj o:Nat} {cur:Array Value} {st:Int} {nv:Value} {S:List (Option Value)} {L:Nat→Bool} {vs:Nat→Value} (h:AcI W0 gj o cur st nv S L vs w) (hL:L 9=false) (hs:S[9]?=some none) (v:Value):AcI W0 gj o cur st nv S (updB L 9) (updV vs 9 v) (w.setCell ⟨gj,o+6,none⟩ (.int .i64 2)):=by
 have h12:L 12=false:=by cases e:L 12;rfl;rw[h.z1 e] at hL;cases hL
 have h15:L 15=false:=by cases e:L 15;rfl;rw[h.z2 e] at h12;cases h12
 have e0:curA cur o st nv L=cur:=by unfold curA;rw[hL,h12,h15];rfl
 have e1:curA cur o st nv (updB L 9)=cur.setIfInBounds (o+6) (.int .i64 2):=by unfold curA updB;simp[h12,h15]
 have hh:=h.h
 rw[e0] at hh
 refine⟨h.c.setCell (.inl (by simp)) _,h.put 9 v (fun u hu=>by rw[hs] at hu;cases hu),by rw[e1];exact setCell_heap hh _ _,fun _=>by simp[updB],fun hq=>?_⟩
 simp only[updB] at hq ⊢
 simp[h15] at hq
theorem AcI.st12 {W0 w:World} {gj o:Nat} {cur:Array Value} {st:Int} {nv:Value} {S:List (Option Value)} {L:Nat→Bool} {vs:Nat→Value} (h:AcI W0 gj o cur st nv S L vs w) (hL:L 12=false) (h9:L 9=true) (hs:S[12]?=some none) (v:Value):AcI W0 gj o cur st nv S (updB L 12) (updV vs 12 v) (w.setCell ⟨gj,o+7,none⟩ (.int .i64 st)):=by
 have h15:L 15=false:=by cases e:L 15;rfl;rw[h.z2 e] at hL;cases hL
 have e0:curA cur o st nv L=cur.setIfInBounds (o+6) (.int .i64 2):=by unfold curA;rw[hL,h9,h15];rfl
 have e1:curA cur o st nv (updB L 12)=(cur.setIfInBounds (o+6) (.int .i64 2)).setIfInBounds (o+7) (.int .i64 st):=by unfold curA updB;simp[h15]
 have hh:=h.h
 rw[e0] at hh
 refine⟨h.c.setCell (.inl (by simp)) _,h.put 12 v (fun u hu=>by rw[hs] at hu;cases hu),by rw[e1];exact setCell_heap hh _ _,fun _=>by simp[updB,h9],fun hq=>by simp[updB]⟩
theorem AcI.st15 {W0 w:World} {gj o:Nat} {cur:Array Value} {st:Int} {nv:Value} {S:List (Option Value)} {L:Nat→Bool} {vs:Nat→Value} (h:AcI W0 gj o cur st nv S L vs w) (hL:L 15=false) (h12:L 12=true) (hs:S[15]?=some none) (v:Value):AcI W0 gj o cur st nv S (updB L 15) (updV vs 15 v) (w.setCell ⟨gj,o+8,none⟩ nv):=by
 have e0:curA cur o st nv L=(cur.setIfInBounds (o+6) (.int .i64 2)).setIfInBounds (o+7) (.int .i64 st):=by unfold curA;rw[hL,h12];rfl
 have e1:curA cur o st nv (updB L 15)=((cur.setIfInBounds (o+6) (.int .i64 2)).setIfInBounds (o+7) (.int .i64 st)).setIfInBounds (o+8) nv:=by unfold curA updB;simp
 have hh:=h.h
 rw[e0] at hh
 refine⟨h.c.setCell (.inl (by simp)) _,h.put 15 v (fun u hu=>by rw[hs] at hu;cases hu),by rw[e1];exact setCell_heap hh _ _,fun hq=>?_,fun _=>by simp[updB,h12]⟩
 simp only[updB] at hq ⊢
 simp at hq ⊢
 exact h.z1 hq
end Go.Proofs.YtbmbanelodabgaaGreatDoor
