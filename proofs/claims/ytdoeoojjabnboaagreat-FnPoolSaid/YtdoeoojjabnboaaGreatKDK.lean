/- Pools as rows of rows of ours. -/
import Derived.Test.YtdoeoojjabnboaaGreatKDJ
import Derived.Test.YtdoeoojjabnboaaGreatKLU4
import Derived.Test.YtdoeoojjabnboaaGreatKRRC
import Derived.Test.YtdoeoojjabnboaaGreatKZZ9
import Derived.Test.YtdoeoojjabnboaaGreatKZZC
import Derived.Test.YtdoeoojjabnboaaGreatKPAB
set_option maxRecDepth 100000
set_option linter.unusedVariables false
namespace Go.Proofs.YtdoeoojjabnboaaGreat
open Go.RowKit Go.Fin1
structure JbsR (B:Nat) (w:World) (v:Value) (rs:List RJ):Prop where
 row:Row B w 48 9 RJ.cells v rs
 nd:∀ r∈rs,r.1.fit∧Row B w 2 1 intCell (RJ.nv r) r.1.nodes
abbrev LW:=List Lab×(Option Addr×Nat)
def LW.nv (r:LW):Value:=.slice r.2.1 r.1.length r.2.2
def LW.cells (r:LW):List Value:=[LW.nv r]
structure ClsR (B:Nat) (w:World) (v:Value) (ls:List LW):Prop where
 row:Row B w 78 1 LW.cells v ls
 nd:∀ r∈ls,(∀ x∈r.1,x.ok)∧Row B w 28 2 Lab.cells (LW.nv r) r.1
def OffP (B:Nat) (w:World) (S:List Nat):Prop:=∀ b∈S,b < B∨w.heap.size≤b∨∃ cur ty,w.heap[b]?=some (.cells cur ty (0,0))∧ty∉[48,2,78,28]
theorem offP_g {B:Nat} {w:World} {g:Nat} (h:g < B):OffP B w [g]:=fun b hb=>by simp at hb;subst hb;exact .inl h
theorem offP_box {B:Nat} {w:World} {g:Nat} {cs:List Value} {ty:TypeId} (h:Blk w g cs ty) (ht:ty∉[48,2,78,28]):OffP B w [g]:=fun b hb=>by simp at hb;subst hb;exact .inr (.inr ⟨_,_,h,ht⟩)
theorem row_off {α:Type} {B:Nat} {w w':World} {S:List Nat} {ty K:Nat} {f:α→List Value} {v:Value} {xs:List α} (h:Row B w ty K f v xs) (hx:Chg S w w') (hS:OffP B w S) (ht:ty∈[48,2,78,28]):Row B w' ty K f v xs:=h.chg hx fun b hb hm=>by
 have h1:=h.blk b hb
 rcases hS b hm with h2 | h2 | ⟨cur,t,h2,h3⟩
 ·omega
 ·omega
 ·obtain⟨c2,h4⟩:=h.type b hb
  rw[h2] at h4
  simp at h4
  rw[h4.2] at h3
  exact h3 ht
theorem JbsR.off {B:Nat} {w w':World} {S:List Nat} {v:Value} {rs:List RJ} (h:JbsR B w v rs) (hx:Chg S w w') (hS:OffP B w S):JbsR B w' v rs :=
 ⟨row_off h.row hx hS (by simp),fun r hr=>⟨(h.nd r hr).1,row_off (h.nd r hr).2 hx hS (by simp)⟩⟩
theorem ClsR.off {B:Nat} {w w':World} {S:List Nat} {v:Value} {ls:List LW} (h:ClsR B w v ls) (hx:Chg S w w') (hS:OffP B w S):ClsR B w' v ls :=
 ⟨row_off h.row hx hS (by simp),fun r hr=>⟨(h.nd r hr).1,row_off (h.nd r hr).2 hx hS (by simp)⟩⟩
theorem JbsR.ext {B:Nat} {w w':World} {v:Value} {rs:List RJ} (h:JbsR B w v rs) (hx:Ext w w'):JbsR B w' v rs:=h.off (hx.chg []) (fun _ h=>by cases h)
theorem ClsR.ext {B:Nat} {w w':World} {v:Value} {ls:List LW} (h:ClsR B w v ls) (hx:Ext w w'):ClsR B w' v ls:=h.off (hx.chg []) (fun _ h=>by cases h)
theorem row_int9 {B:Nat} {w:World} {v:Value} {xs:List Int} (h:Row B w 2 1 intCell v xs) (hx:∀ x∈xs,I64 x):SlR w 1 rInt v xs:=by
 obtain⟨fp,hO⟩:=Row.own (f:=intCell) (K:=1) (fun _=>rfl) h
 exact oIntS_r hO.1 hx
theorem row_lab {B:Nat} {w:World} {v:Value} {xs:List Lab} (h:Row B w 28 2 Lab.cells v xs) (hx:∀ x∈xs,x.ok):SlR w 2 rLab v xs:=by
 have h2:=slr_mapR (r':=rLab) id (row_rc (f:=Lab.cells) (fun _=>rfl) h) fun cs x hm hc=>⟨hc,hx x hm⟩
 simpa using h2
theorem JbsR.jobs {B:Nat} {w:World} {v:Value} {rs:List RJ} (h:JbsR B w v rs):SlR w 9 rJob v (rs.map Prod.fst):=slr_mapR _ (row_rc (fun _=>rfl) h.row) fun cs r hm hc=>⟨RJ.nv r,hc,(h.nd r hm).1.1,row_int9 (h.nd r hm).2 (h.nd r hm).1.2⟩
theorem ClsR.labs {B:Nat} {w:World} {v:Value} {ls:List LW} (h:ClsR B w v ls):SlR w 1 rLabS v (ls.map Prod.fst):=slr_mapR _ (row_rc (fun _=>rfl) h.row) fun cs r hm hc=>⟨LW.nv r,hc,row_lab (h.nd r hm).2 (h.nd r hm).1⟩
def PlR (B:Nat) (w:World) (c j:Value) (p:Pl):Prop:=∃ (ls:List LW) (rs:List RJ),ClsR B w c ls∧JbsR B w j rs∧ls.map Prod.fst=p.clear∧rs.map Prod.fst=p.jobs∧I64 p.now
theorem PlR.off {B:Nat} {w w':World} {S:List Nat} {c j:Value} {p:Pl} (h:PlR B w c j p) (hx:Chg S w w') (hS:OffP B w S):PlR B w' c j p:=by
 obtain⟨ls,rs,h1,h2,h3⟩:=h
 exact⟨ls,rs,h1.off hx hS,h2.off hx hS,h3⟩
theorem PlR.ext {B:Nat} {w w':World} {c j:Value} {p:Pl} (h:PlR B w c j p) (hx:Ext w w'):PlR B w' c j p:=h.off (hx.chg []) (fun _ h=>by cases h)
theorem PlR.low {B:Nat} {w w':World} {g:Nat} {c j:Value} {p:Pl} (h:PlR B w c j p) (hx:Chg [g] w w') (hg:g < B):PlR B w' c j p:=h.off hx (offP_g hg)
theorem PlR.e {B:Nat} {w:World} {c j:Value} {p:Pl} (h:PlR B w c j p):ePool w (p.val c j) p:=by
 obtain⟨ls,rs,h1,h2,h3,h4,h5⟩:=h
 have e1:=h1.labs
 have e2:=h2.jobs
 rw[h3] at e1
 rw[h4] at e2
 obtain⟨a,ca,rfl⟩:=e1.len
 obtain⟨b,cb,rfl⟩:=e2.len
 exact⟨a,ca,b,cb,rfl,h5,e1,e2⟩
theorem PlR.shape {B:Nat} {w:World} {c j:Value} {p:Pl} (h:PlR B w c j p):(∃ a n,c=.slice a p.clear.length n)∧∃ a n,j=.slice a p.jobs.length n:=by
 obtain⟨ls,rs,h1,h2,h3,h4,h5⟩:=h
 obtain⟨a,ca,rfl⟩:=h1.row.shape
 obtain⟨b,cb,rfl⟩:=h2.row.shape
 exact⟨⟨a,ca,by rw[← h3,List.length_map]⟩,⟨b,cb,by rw[← h4,List.length_map]⟩⟩
theorem own_elts {α β:Type} {B:Nat} {w:World} {ty K:Nat} {o:Ow α} {fp:List Nat} {v:Value} {xs:List α} (h:Own B w (oSl ty K o) fp [v] xs) (cel:β→List Value) (hK:∀ b,(cel b).length=K) (fst:β→α) (R:β→Prop)
  (hE:∀ (x:α) (fx:List Nat) (cs:List Value),x∈xs→Own B w o fx cs x→∃ b:β,fst b=x∧cel b=cs∧R b):∃ bs:List β,bs.map fst=xs∧Row B w ty K cel v bs∧∀ b∈bs,R b:=by
 obtain⟨⟨v',hv,h⟩,hnd,hge⟩:=h
 obtain rfl:v=v':=by simpa using hv
 rcases h with ⟨rfl,rfl,_⟩ | ⟨g,cap,cur,fps,rfl,hg,hsz,hl,hm,hf,rfl,hel⟩
 ·exact⟨[],rfl,Row.nil _ _ _ _ _,fun b hb=>by cases hb⟩
 ·have hex:∀ i:Fin xs.length,∃ b:β,fst b=xs[i]∧cel b=(cur.toList.drop (i*K)).take K∧R b:=fun i=>by
   have hi:i.1 < fps.length:=by omega
   refine hE xs[i] fps[i.1] _ (List.getElem_mem _) ⟨hel i i.2 _ (List.getElem?_eq_getElem hi),?_,fun b hb=>hge b ?_⟩
   ·have hn:=(List.nodup_cons.1 hnd).2
    exact List.Sublist.nodup (List.sublist_flatten_of_mem (List.getElem_mem hi)) hn
   ·exact List.mem_cons_of_mem _ (List.mem_flatten.2 ⟨_,List.getElem_mem hi,hb⟩)
  refine⟨List.ofFn fun i=>(hex i).choose,?_,⟨?_,.inr ⟨g,cap,cur,by simp,hge g (by simp),hg,?_,hm,hsz,?_⟩⟩,?_⟩
  ·refine List.ext_getElem (by simp) fun i h4 h5=>?_
   simp only[List.getElem_map,List.getElem_ofFn]
   exact(hex ⟨i,h5⟩).choose_spec.1
  ·exact flatMap_len hK _
  ·simpa using hl
  ·refine flat_pieces _ _ fun i hi=>?_
   have hi':i < xs.length:=by simpa using hi
   have:=(hex ⟨i,hi'⟩).choose_spec.2.1
   simpa using this.symm
  ·intro b hb
   obtain⟨i,rfl⟩:=(List.mem_ofFn ..).1 hb
   exact(hex i).choose_spec.2.2
theorem OwnP.rows {B:Nat} {w:World} {fc fj:List Nat} {c j:Value} {p:Pl} (h:OwnP B w fc fj c j p) (ok:PlOk p):PlR B w c j p:=by
 obtain⟨rs,e1,r1,n1⟩:=own_elts h.2.1 RJ.cells (fun _=>rfl) Prod.fst (fun r=>r.1.fit∧Row B w 2 1 intCell (RJ.nv r) r.1.nodes) fun x fx cs hx hO=>by
  obtain⟨⟨v,rfl,hn⟩,h2,h3⟩:=hO
  have hr:=Own.rowF (f:=intCell) (K:=1) (fun _=>rfl) (show Own B w (oSl 2 1 (oFlat intCell)) fx [v] x.nodes from ⟨hn,h2,h3⟩)
  obtain⟨a,cp,rfl⟩:=hr.shape
  exact⟨(x,(a,cp)),rfl,rfl,ok.jb x hx,hr⟩
 obtain⟨ls,e2,r2,n2⟩:=own_elts h.1 LW.cells (fun _=>rfl) Prod.fst (fun r=>(∀ x∈r.1,x.ok)∧Row B w 28 2 Lab.cells (LW.nv r) r.1) fun x fx cs hx hO=>by
  obtain⟨⟨v,rfl,hn⟩,h2,h3⟩:=hO
  have hr:=Own.rowF (f:=Lab.cells) (K:=2) (fun _=>rfl) (show Own B w (oSl 28 2 (oFlat Lab.cells)) fx [v] x from ⟨⟨v,rfl,hn⟩,h2,h3⟩)
  obtain⟨a,cp,rfl⟩:=hr.shape
  exact⟨(x,(a,cp)),rfl,rfl,ok.cl x hx,hr⟩
 exact⟨ls,rs,⟨r2,n2⟩,⟨r1,n1⟩,e2,e1,ok.now⟩
structure PlB (p:Pl):Prop where
 c1:p.clear.length≤8
 c2:∀ x∈p.clear,1≤x.length∧x.length≤8
 j1:p.jobs.length≤100
 j2:∀ j∈p.jobs,j.nodes.length≤8
theorem PlB.fits {p:Pl} (h:PlB p):p.fits 1048576:=by
 have h1:=h.c1
 have h2:=h.j1
 have h3:(p.clear.map List.length).sum≤8*p.clear.length:=sum_bound fun l hl=>(h.c2 l hl).2
 have h4:(p.jobs.map Jb.sz).sum≤8*p.jobs.length:=sum_bound fun j hj=>h.j2 j hj
 unfold Pl.fits szL
 omega
theorem right_B {p:Pl} (h:poolR p=true):PlB p:=by
 have hp:=poolR_of h
 have h1:=(clearR_len6 hp.cl).2
 have h2:=jobsR_len hp.js
 exact⟨by omega,fun l hl=>by have:=(chainR_parts (clearR_mem hp.cl hl)).1;omega,by omega,fun j hj=>by have:=jobR_nodes (jobsR_mem hp.js hj);omega⟩
theorem zPl_B:PlB zPl:=⟨Nat.zero_le _,fun x hx=>(by cases hx),Nat.zero_le _,fun x hx=>by cases hx⟩
def PlZ (p:Pl):Prop:=poolR p=true∨p=zPl
theorem PlZ.b {p:Pl} (h:PlZ p):PlB p:=by
 rcases h with h | rfl
 ·exact right_B h
 ·exact zPl_B
theorem PlZ.ok {p:Pl} (h:PlZ p):PlOk p:=by
 rcases h with h | rfl
 ·exact(right_ok h).1
 ·exact zPl_ok.1
theorem PlZ.right {p:Pl} (h:PlZ p) (hc:0 < p.clear.length):poolR p=true:=by
 rcases h with h | rfl
 ·exact h
 ·exact absurd hc (by decide)
theorem own_clear {B:Nat} {w:World} {fc:List Nat} {a:Option Addr} {n:Nat} {L:List (List Lab)} (h:Own B w oLabelSS fc [.slice a L.length n] L) {k:Nat} (hk:k < L.length) :
  ∃ b,a=some ⟨b,0,none⟩∧b∈fc∧∃ x c,w.cell? ⟨b,k,none⟩=some (.slice x L[k].length c)∧Row B w 28 2 Lab.cells (.slice x L[k].length c) L[k]:=by
 obtain⟨⟨v',hv,h⟩,hnd,hge⟩:=h
 obtain rfl:=List.singleton_inj.1 hv
 rcases h with ⟨_,rfl,_⟩ | ⟨g,cap,cur,fps,hv2,hg,hsz,hl,hm,hf,rfl,hel⟩
 ·exact absurd hk (Nat.not_lt_zero _)
 ·obtain⟨rfl,rfl⟩:a=some ⟨g,0,none⟩∧n=cap:=by simpa using hv2
  have hi:k < fps.length:=by omega
  obtain⟨v,hcs,hn⟩:=hel k hk _ (List.getElem?_eq_getElem hi)
  have hr:=Own.rowF (f:=Lab.cells) (K:=2) (fun _=>rfl) (show Own B w (oSl 28 2 (oFlat Lab.cells)) fps[k] [v] L[k] from ⟨⟨v,rfl,hn⟩,List.Sublist.nodup (List.sublist_flatten_of_mem (List.getElem_mem hi)) (List.nodup_cons.1 hnd).2,fun b hb=>hge b (List.mem_cons_of_mem _ (List.mem_flatten.2 ⟨_,List.getElem_mem hi,hb⟩))⟩)
  obtain⟨x,c,rfl⟩:=hr.shape
  refine⟨g,rfl,by simp,x,c,?_,hr⟩
  rw[cell_of_heap hg]
  have h2:(cur.toList.drop (k*1)).take 1=[.slice x L[k].length c]:=hcs
  rw[Nat.mul_one] at h2
  have h3:=congrArg (fun l=>l[0]?) h2
  simpa using h3
end Go.Proofs.YtdoeoojjabnboaaGreat
