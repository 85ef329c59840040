/- Owned flat lists as rows; the type of a row's block. -/
import Derived.Test.YtdoeoojjabnboaaGreatKBG
import Derived.Test.YtdoeoojjabnboaaGreatKJE
import Derived.Test.YtdoeoojjabnboaaGreatKCC
import Derived.Test.YtdoeoojjabnboaaGreatKQJ
set_option maxRecDepth 100000
set_option linter.unusedVariables false
namespace Go
open Go.RowKit
theorem flat_pieces {α:Type} {f:α→List Value} {K:Nat}:∀ (xs:List α) (l:List Value),(∀ (i:Nat) (h:i < xs.length),(l.drop (i*K)).take K=f xs[i])→l.take (xs.length*K)=xs.flatMap f
 | [],l,_=>by simp
 | x :: xs,l,h=>by
  have h0:=h 0 (by simp)
  simp only[Nat.zero_mul,List.drop_zero,List.getElem_cons_zero] at h0
  have ih:=flat_pieces (f:=f) (K:=K) xs (l.drop K) fun i hi=>by
   have:=h (i+1) (by simpa using hi)
   rw[List.getElem_cons_succ] at this
   rw[List.drop_drop,← this,Nat.add_mul,Nat.one_mul,Nat.add_comm K]
  rw[List.flatMap_cons,← h0,← ih,List.length_cons,Nat.add_mul,Nat.one_mul,Nat.add_comm,List.take_add]
theorem Own.rowF {α:Type} {B:Nat} {w:World} {ty K:Nat} {f:α→List Value} {fp:List Nat} {v:Value} {xs:List α} (hK:∀ x,(f x).length=K) (h:Own B w (oSl ty K (oFlat f)) fp [v] xs):Row B w ty K f v xs:=by
 obtain⟨⟨v',hv,h⟩,hnd,hge⟩:=h
 obtain rfl:v=v':=by simpa using hv
 rcases h with ⟨rfl,rfl,_⟩ | ⟨g,cap,cur,fps,rfl,hg,hsz,hl,hm,hf,rfl,h⟩
 ·exact⟨by simp,.inl ⟨rfl,rfl⟩⟩
 ·refine⟨flatMap_len hK xs,.inr ⟨g,cap,cur,rfl,hge g (by simp),hg,hl,hm,hsz,?_⟩⟩
  exact flat_pieces xs _ fun i hi=>(h i hi _ (List.getElem?_eq_getElem (by omega))).2
theorem Row.type {α:Type} {B:Nat} {w:World} {ty K:Nat} {f:α→List Value} {v:Value} {xs:List α} (h:Row B w ty K f v xs):∀ b∈blkL v,∃ cur,w.heap[b]?=some (.cells cur ty (0,0)):=by
 rcases h.2 with ⟨rfl,_⟩ | ⟨g,cap,cur,rfl,hb,hg,_⟩
 ·intro b hb;cases hb
 ·intro b hbm
  obtain rfl:b=g:=by simpa [blkL] using hbm
  exact⟨cur,hg⟩
theorem Chg.past {S T:List Nat} {a b c:World} (h:Chg S a b) (k:Chg T b c) (hT:∀ x∈T,a.heap.size≤x):Chg S a c :=
 ⟨k.os.trans h.os,k.tape.trans h.tape,k.output.trans h.output,Nat.le_trans h.size k.size,fun i hi hs=>(k.block i (Nat.lt_of_lt_of_le hi h.size) (fun hx=>by have:=hT i hx;omega)).trans (h.block i hi hs)⟩
section
variable {α:Type} {P:Program} {ops:Array Oper} {rest:List Oper} {op:Oper} {a:Act} {Q:Exit→Act→World→Prop}
theorem Row.appN {t e:TypeId} {size bytes:Nat} {W:World} {cs:Array Value} {f:α→List Value} (E:ElemInfo P t e size bytes) (hgd:op.guard=none) (s x:Operand)
  (ho:op.op=.call { callee:=.builtin .append,args:=#[s,x],argTypes:=#[t,t] })
  (B:Nat) (hB:B≤W.heap.size) (v:Value) (xs:List α) (hs:a.eval s=v) (hown:Row B W e size f v xs) (y:α) (hy:cs.toList=f y)
  (b0:Nat) (hb0:b0=W.heap.size) (hx:a.eval x=.slice (some ⟨b0,0,none⟩) 1 1) (hf:∀ x,(f x).length=size) (h1:∀ u∈cs.toList,u.oneCell'=true)
  (h63:xs.length+1≤maxLen) (hbytes:(xs.length+1)*bytes≤140737488355328)
  (h:∀ v' w',Row B w' e size f v' (xs++[y])→Chg (blkL v) W w'→wpList P ops Q rest (a.put op.dst v') w'):wpList P ops Q (op :: rest) a (W.alloc (.cells cs e)):=by
 subst hb0
 have hx1:Ext W (W.alloc (.cells cs e)):=(Ext.refl _).alloc _
 refine Row.appC E hgd s x ho B (by rw[World.size_alloc];omega) v xs hs (hown.ext hx1) ⟨W.heap.size,0,none⟩ 1 1 [y] hx rfl hf (fun j u hu=>?_) (by simpa [← hy] using h1) (by simpa using h63) (by simpa using hbytes) ?_
 ·rw[Addr.add_lit,Nat.zero_add,World.cell?_alloc_new]
  simpa [← hy] using hu
 ·intro v' w' hR hc
  exact h v' w' hR ((hx1.chg _).trans hc)
end
def Blk (w:World) (b:Nat) (cs:List Value) (ty:TypeId):Prop:=w.heap[b]?=some (.cells cs.toArray ty (0,0))
theorem Blk.chg {S:List Nat} {w w':World} {b:Nat} {cs:List Value} {ty:TypeId} (h:Blk w b cs ty) (hx:Chg S w w') (hb:b∉S):Blk w' b cs ty:=by
 unfold Blk at *;rw[hx.block b (Array.getElem?_eq_some_iff.1 h).1 hb];exact h
theorem Blk.ext {w w':World} {b:Nat} {cs:List Value} {ty:TypeId} (h:Blk w b cs ty) (hx:Ext w w'):Blk w' b cs ty:=h.chg (hx.chg []) (by simp)
theorem Blk.old {w:World} {b:Nat} {cs:List Value} {ty:TypeId} (h:Blk w b cs ty):w.old b:=(Array.getElem?_eq_some_iff.1 h).1
theorem Blk.cell {w:World} {b:Nat} {cs:List Value} {ty:TypeId} (h:Blk w b cs ty) (i:Nat):w.cell? ⟨b,i,none⟩=cs[i]?:=by rw[cell_of_heap h];simp
theorem Blk.fz {w:World} {b:Nat} {cs:List Value} {ty:TypeId} (h:Blk w b cs ty) (i:Nat):w.frozen? ⟨b,i,none⟩=false:=frozen_of_heap h i
theorem Blk.new {w:World} {b:Nat} {cs:Array Value} {ty:TypeId} (hb:b=w.heap.size):Blk (w.alloc (.cells cs ty)) b cs.toList ty:=by
 subst hb;unfold Blk;simpa using heap_alloc_new w (.cells cs ty)
theorem Blk.set {w:World} {b:Nat} {cs:List Value} {ty:TypeId} (h:Blk w b cs ty) (i:Nat) (v:Value):Blk (w.setCell ⟨b,i,none⟩ v) b (cs.set i v) ty:=by
 have:=setCell_heap h i v
 unfold Blk;rw[this];simp
theorem made_zero (z:Value) (n:Nat):(madeCells #[z] (n*1)).toList=List.replicate n z:=by
 refine List.ext_getElem? fun j=>?_
 by_cases hj:j < n
 ·simp[madeCells,hj,Nat.mod_one]
 ·have hz:(madeCells #[z] n).size=n:=size_madeCells _ _
  rw[Nat.mul_one,List.getElem?_eq_none (by rw[Array.length_toList,hz];omega),List.getElem?_eq_none (by rw[List.length_replicate];omega)]
end Go
set_option maxRecDepth 100000
set_option linter.unusedVariables false
namespace Go.Proofs.YtdoeoojjabnboaaGreat
open Go.RowKit Go.Fin1
theorem cmpJ_lt {a b:Jb}:cmpJ a b < 0↔a.l.lv < b.l.lv∨(a.l.lv=b.l.lv∧(a.l.st < b.l.st∨(a.l.st=b.l.st∧(b.prio < a.prio∨(b.prio=a.prio∧a.id < b.id))))):=by
 rw[← aheadJ_iff];unfold aheadJ;simp
theorem cmpJ_tot {a b:Jb} (h:¬ (a.l.lv=b.l.lv∧a.l.st=b.l.st∧a.id=b.id)):cmpJ a b < 0∨cmpJ b a < 0:=by
 rw[cmpJ_lt,cmpJ_lt];omega
theorem sorted_uniq {α:Type} {R:α→α→Prop} (ha:∀ a b,R a b→¬ R b a):∀ {l m:List α},l.Pairwise R→m.Pairwise R→(∀ x,x∈l↔x∈m)→l=m
 | [],[],_,_,_=>rfl
 | [],b :: m,_,_,h=>absurd ((h b).2 (by simp)) (by simp)
 | a :: l,[],_,_,h=>absurd ((h a).1 (by simp)) (by simp)
 | a :: l,b :: m,hl,hm,h=>by
  rw[List.pairwise_cons] at hl hm
  have hab:a=b:=by
   rcases List.mem_cons.1 ((h a).1 (by simp)) with e | e
   ·exact e
   ·rcases List.mem_cons.1 ((h b).2 (by simp)) with e2 | e2
    ·exact e2.symm
    ·exact absurd (hm.1 a e) (ha _ _ (hl.1 b e2))
  subst hab
  have hal:a∉l:=fun h'=>ha _ _ (hl.1 a h') (hl.1 a h')
  have ham:a∉m:=fun h'=>ha _ _ (hm.1 a h') (hm.1 a h')
  rw[sorted_uniq ha hl.2 hm.2 fun x=>?_]
  constructor
  ·intro hx
   rcases List.mem_cons.1 ((h x).1 (by simp[hx])) with e | e
   ·subst e;exact absurd hx hal
   ·exact e
  ·intro hx
   rcases List.mem_cons.1 ((h x).2 (by simp[hx])) with e | e
   ·subst e;exact absurd hx ham
   ·exact e
def insK (l:List Jb) (j:Jb):Nat:=(l.takeWhile (fun x=>aheadJ x j)).length
def insJ (l:List Jb) (j:Jb):List Jb:=l.take (insK l j)++[j]++l.drop (insK l j)
def sortedJ (l:List Jb):List Jb:=l.foldl insJ []
theorem insK_le (l:List Jb) (j:Jb):insK l j≤l.length:=by unfold insK;exact(List.takeWhile_sublist _).length_le
theorem insJ_mem {l:List Jb} {j x:Jb}:x∈insJ l j↔x∈l∨x=j:=by
 unfold insJ
 simp only[List.mem_append,List.mem_singleton]
 constructor
 ·rintro ((h | h) | h)
  ·exact .inl (List.mem_of_mem_take h)
  ·exact .inr h
  ·exact .inl (List.mem_of_mem_drop h)
 ·rintro (h | h)
  ·rw[← List.take_append_drop (insK l j) l,List.mem_append] at h
   rcases h with h | h
   ·exact .inl (.inl h)
   ·exact .inr h
  ·exact .inl (.inr h)
theorem insJ_len (l:List Jb) (j:Jb):(insJ l j).length=l.length+1:=by
 have:=insK_le l j
 unfold insJ;simp;omega
def NeJ (a b:Jb):Prop:=¬ (a.l.lv=b.l.lv∧a.l.st=b.l.st∧a.id=b.id)
theorem cmpJ_asym {a b:Jb} (h:cmpJ a b < 0):¬ cmpJ b a < 0:=by rw[cmpJ_lt] at h ⊢;omega
theorem cmpJ_trans {a b c:Jb} (h:cmpJ a b < 0) (h2:cmpJ b c < 0):cmpJ a c < 0:=by rw[cmpJ_lt] at *;omega
theorem insJ_sorted:∀ {l:List Jb} {j:Jb},l.Pairwise (fun a b=>cmpJ a b < 0)→(∀ x∈l,NeJ x j)→(insJ l j).Pairwise (fun a b=>cmpJ a b < 0)
 | [],j,_,_=>by simp[insJ,insK]
 | a :: l,j,h,hn=>by
  rw[List.pairwise_cons] at h
  cases e:aheadJ a j
  ·have hk:insK (a :: l) j=0:=by unfold insK;rw[List.takeWhile_cons_of_neg (by simp[e])];rfl
   unfold insJ;rw[hk]
   simp only[List.take_zero,List.nil_append,List.drop_zero,List.singleton_append]
   have hja:cmpJ j a < 0:=by
    rcases cmpJ_tot (hn a (by simp)) with q | q
    ·unfold aheadJ at e;simp at e;omega
    ·exact q
   rw[List.pairwise_cons,List.pairwise_cons]
   exact⟨fun x hx=>by
    rcases List.mem_cons.1 hx with rfl | hx
    ·exact hja
    ·exact cmpJ_trans hja (h.1 x hx),h⟩
  ·have hk:insK (a :: l) j=insK l j+1:=by unfold insK;rw[List.takeWhile_cons_of_pos (by simpa using e)];rfl
   have hi:insJ (a :: l) j=a :: insJ l j:=by unfold insJ;rw[hk];simp
   rw[hi,List.pairwise_cons]
   have ih:=insJ_sorted h.2 (fun x hx=>hn x (by simp[hx]))
   refine⟨fun x hx=>?_,ih⟩
   rcases insJ_mem.1 hx with hx | rfl
   ·exact h.1 x hx
   ·unfold aheadJ at e;simpa using e
theorem sortedJ_step {l:List Jb} {k:Nat} (hk:k < l.length):sortedJ (l.take (k+1))=insJ (sortedJ (l.take k)) l[k]:=by
 unfold sortedJ;rw[List.take_succ_eq_append_getElem hk,List.foldl_append];rfl
theorem sortedJ_all:∀ {l:List Jb} {acc:List Jb},acc.Pairwise (fun a b=>cmpJ a b < 0)→l.Pairwise NeJ→(∀ x∈acc,∀ y∈l,NeJ x y)→(l.foldl insJ acc).Pairwise (fun a b=>cmpJ a b < 0)∧∀ x,x∈l.foldl insJ acc↔x∈acc∨x∈l
 | [],acc,h,_,_=>⟨h,fun x=>by simp⟩
 | j :: l,acc,h,hn,ha=>by
  rw[List.pairwise_cons] at hn
  obtain⟨h1,h2⟩:=sortedJ_all (l:=l) (acc:=insJ acc j) (insJ_sorted h fun x hx=>ha x hx j (by simp)) hn.2 (fun x hx y hy=>by
   rcases insJ_mem.1 hx with hx | rfl
   ·exact ha x hx y (by simp[hy])
   ·exact hn.1 y hy)
  refine⟨h1,fun x=>?_⟩
  rw[List.foldl_cons,h2 x,insJ_mem,List.mem_cons]
  constructor
  ·rintro ((q | q) | q)
   ·exact .inl q
   ·exact .inr (.inl q)
   ·exact .inr (.inr q)
  ·rintro (q | q | q)
   ·exact .inl (.inl q)
   ·exact .inl (.inr q)
   ·exact .inr q
theorem sortedJ_uniq {l m:List Jb} (hn:l.Pairwise NeJ) (hm:∀ (i j:Nat) (hi:i < m.length) (hj:j < m.length),i < j→cmpJ m[i] m[j] < 0) (hx:∀ x,x∈m↔x∈l):m=sortedJ l:=by
 obtain⟨h1,h2⟩:=sortedJ_all (l:=l) (acc:=[]) List.Pairwise.nil hn (fun x hx=>by cases hx)
 refine sorted_uniq (R:=fun a b=>cmpJ a b < 0) (fun a b h=>cmpJ_asym h) (List.pairwise_iff_getElem.2 fun i j hi hj hij=>hm i j hi hj hij) h1 fun x=>?_
 unfold sortedJ;rw[hx,h2 x];simp
theorem cntL_mono (l:List Jb) (x:Lab) {i j:Nat} (h:i≤j):cntL (l.take i) x≤cntL (l.take j) x:=by
 unfold cntL
 exact((List.take_sublist_take_left h).filter _).length_le
theorem jobsR_ne {l:List Jb} (h:jobsR l=true):l.Pairwise NeJ:=by
 rw[List.pairwise_iff_getElem]
 intro i j hi hj hij ⟨e1,e2,e3⟩
 have h1:=jobsR_at h hi
 have h2:=jobsR_at h hj
 rw[jobAt_eq hi,Bool.and_eq_true,decide_eq_true_eq] at h1
 rw[jobAt_eq hj,Bool.and_eq_true,decide_eq_true_eq] at h2
 have el:l[i].l=l[j].l:=by
  cases ha:l[i].l with
  | mk a b=>cases hb:l[j].l with
   | mk c d=>rw[ha,hb] at e1 e2;simp at e1 e2;rw[e1,e2]
 have hs:=cntL_step (l:=l) (x:=l[j].l) hi
 have hm:=cntL_mono l l[j].l (show i+1≤j by omega)
 have hsl:sameL l[i].l l[j].l=true:=by rw[el];exact sameL_self _
 rw[el] at h1
 have h12:=h1.2
 have h22:=h2.2
 simp[hsl] at hs
 omega
abbrev RJ:=Jb×(Option Addr×Nat)
def RJ.nv (r:RJ):Value:=.slice r.2.1 r.1.nodes.length r.2.2
def RJ.cells (r:RJ):List Value:=r.1.cells (RJ.nv r)
theorem RJ.one (r:RJ):∀ u∈RJ.cells r,u.oneCell'=true:=fun u hu=>by
 unfold RJ.cells Jb.cells RJ.nv at hu
 simp at hu
 rcases hu with rfl | rfl | rfl | rfl | rfl | rfl | rfl | rfl | rfl<;>rfl
instance : Inhabited Jb := ⟨⟨⟨0,0⟩,0,0,0,0,0,0,[]⟩⟩
def cmpR (x y:RJ):Int:=cmpJ x.1 y.1
theorem insK_at {l:List Jb} {j:Jb}:∀ {m:Nat},m < insK l j→∃ h:m < l.length,aheadJ l[m] j=true:=by
 induction l with
 | nil=>intro m h;simp[insK] at h
 | cons a l ih =>
  intro m h
  cases e:aheadJ a j
  ·have hk:insK (a :: l) j=0:=by unfold insK;rw[List.takeWhile_cons_of_neg (by simp[e])];rfl
   omega
  ·have hk:insK (a :: l) j=insK l j+1:=by unfold insK;rw[List.takeWhile_cons_of_pos (by simpa using e)];rfl
   cases m with
   | zero=>exact⟨by simp,by simpa using e⟩
   | succ m =>
    obtain⟨h1,h2⟩:=ih (m:=m) (by omega)
    exact⟨by simp;omega,by simpa using h2⟩
theorem insK_stop {l:List Jb} {j:Jb}:∀ (h:insK l j < l.length),aheadJ (l[insK l j]'h) j=false:=by
 induction l with
 | nil=>intro h;simp at h
 | cons a l ih =>
  intro h
  cases e:aheadJ a j
  ·have hk:insK (a :: l) j=0:=by unfold insK;rw[List.takeWhile_cons_of_neg (by simp[e])];rfl
   simp only[hk];simpa using e
  ·have hk:insK (a :: l) j=insK l j+1:=by unfold insK;rw[List.takeWhile_cons_of_pos (by simpa using e)];rfl
   simp only[hk] at h ⊢
   simpa using ih (by simpa using h)
end Go.Proofs.YtdoeoojjabnboaaGreat
set_option maxRecDepth 100000
set_option linter.unusedVariables false
namespace Go.Proofs.YtdoeoojjabnboaaGreat
open Go.RowKit Go.Fin1
theorem info_JobV:(Tryz.prog.info? 48).map (fun i=>(i.zero,i.size,i.bytes))=some (some (.agg #[(.int .i64 0),(.int .i64 0),(.int .i64 0),(.int .i64 0),(.int .i64 0),(.int .i64 0),(.int .i64 0),(.int .i64 0),.slice none 0 0]),9,88):=by kernel_rfl
theorem el_JobV:ElemInfo Tryz.prog 24 48 9 88:=by
 obtain⟨i,hi,hz,hs,hb⟩:=info_parts info_JobV
 exact⟨Tryz.underlying24,⟨i,_,hi,hz,hs,hb,rfl⟩,by decide⟩
structure RowJ (B:Nat) (w:World) (v:Value) (rs:List RJ):Prop where
 row:Row B w 48 9 RJ.cells v rs
 nd:∀ r∈rs,r.1.ok∧(∀ x∈r.1.nodes,I64 x)∧Row 0 w 2 1 intCell (RJ.nv r) r.1.nodes
theorem nd_chg {w w':World} {v:Value} {xs:List Int} {S:List Nat} (h:Row 0 w 2 1 intCell v xs) (hx:Chg S w w') (hS:∀ b∈S,∃ cur,w.heap[b]?=some (.cells cur 48 (0,0))):Row 0 w' 2 1 intCell v xs:=h.chg hx fun b hb hm=>by
 obtain⟨c1,h1⟩:=h.type b hb
 obtain⟨c2,h2⟩:=hS b hm
 rw[h1] at h2
 simp at h2
theorem RowJ.ext {B:Nat} {w w':World} {v:Value} {rs:List RJ} (h:RowJ B w v rs) (hx:Ext w w'):RowJ B w' v rs:=⟨h.row.ext hx,fun r hr=>by
 obtain⟨h1,h2,h3⟩:=h.nd r hr
 exact⟨h1,h2,h3.ext hx⟩⟩
theorem RowJ.chg {B:Nat} {w w':World} {v:Value} {rs:List RJ} {S:List Nat} (h:RowJ B w v rs) (hx:Chg S w w') (hv:∀ b∈blkL v,b∉S) (hS:∀ b∈S,∃ cur,w.heap[b]?=some (.cells cur 48 (0,0))):RowJ B w' v rs:=⟨h.row.chg hx hv,fun r hr=>by
 obtain⟨h1,h2,h3⟩:=h.nd r hr
 exact⟨h1,h2,nd_chg h3 hx hS⟩⟩
theorem RowJ.rc {B:Nat} {w:World} {v:Value} {rs:List RJ} (h:RowJ B w v rs):SlR w 9 (fun _ cs r=>cs=RJ.cells r) v rs:=by
 obtain⟨fp,hO⟩:=Row.own (f:=RJ.cells) (K:=9) (fun _=>rfl) h.row
 exact oFl_reads (f:=RJ.cells) (fun _=>rfl) hO.1
theorem slr_preG {α:Type} {K:Nat} {r:World→List Value→α→Prop} {w:World} {a:Option Addr} {c k:Nat} {xs:List α} (h:SlR w K r (.slice a xs.length c) xs) (hk:k≤xs.length):SlR w K r (.slice a k c) (xs.take k):=by
 obtain⟨a',cap,hv,h1,h2,h3⟩:=h
 obtain⟨rfl,rfl⟩:a=a'∧c=cap:=by simpa using hv
 refine⟨a,c,by rw[List.length_take,Nat.min_eq_left hk],by rw[List.length_take];omega,h2,fun i hi=>?_⟩
 rw[List.length_take] at hi
 obtain⟨b,off,cs,q1,q2,q3,q4⟩:=h3 i (by omega)
 exact⟨b,off,cs,q1,q2,q3,by rw[List.getElem_take];exact q4⟩
theorem row_cell {α:Type} {B:Nat} {w:World} {ty K:Nat} {f:α→List Value} {g n cap:Nat} {xs:List α} (h:Row B w ty K f (.slice (some ⟨g,0,none⟩) n cap) xs) {j:Nat} {u:Value} (hu:(xs.flatMap f)[j]?=some u):w.cell? ⟨g,j,none⟩=some u:=by
 rcases h.2 with ⟨hv,_⟩ | ⟨g',cap',cur,hv,hb,hg,h1,h2,h3,h4⟩
 ·cases hv
 cases hv
 rw[cell_of_heap hg]
 rw[← h4,List.getElem?_take] at hu
 split at hu
 ·simpa using hu
 ·cases hu
theorem row_some {α:Type} {B:Nat} {w:World} {ty K:Nat} {f:α→List Value} {v:Value} {xs:List α} (h:Row B w ty K f v xs) (h0:0 < xs.length):∃ g cap,v=.slice (some ⟨g,0,none⟩) xs.length cap:=by
 rcases h.2 with ⟨_,h1⟩ | ⟨g,cap,cur,rfl,_⟩
 ·omega
 ·exact⟨g,cap,rfl⟩
theorem flatMap_drop {α:Type} {f:α→List Value} {K:Nat} (hf:∀ x,(f x).length=K):∀ (xs:List α) (m j:Nat),((xs.drop m).flatMap f)[j]?=(xs.flatMap f)[m*K+j]?
 | xs,0,j=>by simp
 | [],m+1,j=>by simp
 | x :: xs,m+1,j=>by
  rw[List.drop_succ_cons,flatMap_drop hf xs m j,List.flatMap_cons,List.getElem?_append_right (by rw[hf,Nat.add_mul,Nat.one_mul];omega),hf]
  congr 1
  rw[Nat.add_mul,Nat.one_mul];omega
theorem rj_at {w:World} {b off n cap:Nat} {xs:List RJ} (h:SlR w 9 (fun _ cs r=>cs=RJ.cells r) (.slice (some ⟨b,off,none⟩) n cap) xs) {i:Nat} (hi:i < xs.length) :
  w.old b∧w.cell? ⟨b,off+i*9,none⟩=some (.int .i64 xs[i].1.l.lv)∧w.cell? ⟨b,off+i*9+1,none⟩=some (.int .i64 xs[i].1.l.st)∧w.cell? ⟨b,off+i*9+2,none⟩=some (.int .i64 xs[i].1.id) ∧
   w.cell? ⟨b,off+i*9+3,none⟩=some (.int .i64 xs[i].1.need)∧w.cell? ⟨b,off+i*9+4,none⟩=some (.int .i64 xs[i].1.long)∧w.cell? ⟨b,off+i*9+5,none⟩=some (.int .i64 xs[i].1.prio)∧w.cell? ⟨b,off+i*9+6,none⟩=some (.int .i64 xs[i].1.state)∧w.cell? ⟨b,off+i*9+7,none⟩=some (.int .i64 xs[i].1.start) ∧
   w.cell? ⟨b,off+i*9+8,none⟩=some (RJ.nv xs[i]):=by
 obtain⟨cs,_,hc,rfl⟩:=slr_cells h hi
 have h0:=hc 0 _ rfl
 exact⟨World.old_of_cell h0,h0,hc 1 _ rfl,hc 2 _ rfl,hc 3 _ rfl,hc 4 _ rfl,hc 5 _ rfl,hc 6 _ rfl,hc 7 _ rfl,hc 8 _ rfl⟩
theorem foldJ_lenV:∀ (l acc:List Jb),(l.foldl insJ acc).length=acc.length+l.length
 | [],acc=>by simp
 | j :: l,acc=>by rw[List.foldl_cons,foldJ_lenV l,insJ_len,List.length_cons];omega
theorem sortedJ_lenV (l:List Jb):(sortedJ l).length=l.length:=by unfold sortedJ;rw[foldJ_lenV];simp
theorem meas_up {N m:Nat} (h:m < N):N+1-(intOf (.int .i64 ((m:Int)+1))).toNat < N+1-(intOf (.int .i64 (m:Int))).toNat:=by simp[intOf];omega
set_option maxHeartbeats 3200000 in
theorem l04Sorted_any (v:Value) (l:List Jb) (w:World) (h:SlR w 9 rJob v l) (hl:l.length≤1000) (hnl:∀ j∈l,j.nodes.length≤1048576) :
  Calls Tryz.prog 70 #[v] w fun e w'=>∃ v' rs,e=.returned v'∧Ext w w'∧RowJ w.heap.size w' v' rs∧rs.map Prod.fst=sortedJ l:=by
 obtain⟨a0,c0,rfl⟩:=h.len
 have HS:=tH h
 have HNL:=tH hnl
 clear h hnl
 go_enter Tryz.func70,Tryz.ntmps70
 go_wp2
 go_loopw [4,3] (fun i o wr=>∃ n:Nat,∃ rs:List RJ,∃ ob oc:Nat,o=.slice (some ⟨ob,0,none⟩) rs.length oc∧n≤l.length∧i=.int .i64 n∧Ext w wr∧Hid (RowJ w.heap.size wr o rs)∧Hid (rs.map Prod.fst=sortedJ (l.take n))) (fun i _ _=>l.length-(intOf i).toNat)
 case atStart=>exact⟨0,[],_,_,rfl,Nat.zero_le _,rfl,xE,tH ⟨Row.made _ _ _ _,fun r hr=>by cases hr⟩,tH rfl⟩
 case round =>
  obtain⟨n,rs,ob,oc,rfl,hn,rfl,hE,HR,HM⟩:=hrel
  have HE:=tH hE
  clear hE
  by_cases hlt:n < l.length
  ·obtain⟨b,off,rfl⟩:=slr_some HS.out hlt
   have hrl:rs.length=(sortedJ (l.take n)).length:=by rw[← HM.out];simp
   have HRL:=tH hrl
   clear hrl
   go_wp2
   go_loopw [5] (fun k wr2=>∃ m:Nat,m≤insK (sortedJ (l.take n)) l[n]∧k=.int .i64 m∧Ext wr wr2) (fun k _=>rs.length+1-(intOf k).toNat)
   case atStart=>exact⟨0,Nat.zero_le _,rfl,xE⟩
   case round =>
    obtain⟨m,hm,rfl,⟨Y,rfl⟩⟩:=hrel
    by_cases hmk:m < insK (sortedJ (l.take n)) l[n]
    ·obtain⟨hml,hah⟩:=insK_at hmk
     have hmr:m < rs.length:=by have:=HRL.out;omega
     have hrm:rs[m].1=(sortedJ (l.take n))[m]:=by
      have:(rs.map Prod.fst)[m]'(by simpa using hmr)=(sortedJ (l.take n))[m]:=List.getElem_of_eq HM.out _
      simpa using this
     rw[← hrm] at hah
     have HMK:=tH hmk
     have HHM:=tH hm
     clear hrm hml hmk hm
     obtain⟨hoo,c0',c1',c2',c3',c4',c5',c6',c7',c8'⟩:=rj_at HR.out.rc hmr
     obtain⟨hol,na,nc,hok,hnn,d0',d1',d2',d3',d4',d5',d6',d7',d8'⟩:=job_at (HS.out.ext rJob_stable HE.out) hlt
     have HAH:=tH (fun w=>(by have:=l04Ahead_any rs[m].1 l[n] (RJ.nv rs[m]) (.slice na l[n].nodes.length nc) w;rw[hah] at this;unfold Jb.val RJ.nv at this;exact this:Calls Tryz.prog 121 #[.agg #[(.int .i64 rs[m].1.l.lv),(.int .i64 rs[m].1.l.st),(.int .i64 rs[m].1.id),(.int .i64 rs[m].1.need),(.int .i64 rs[m].1.long),(.int .i64 rs[m].1.prio),(.int .i64 rs[m].1.state),(.int .i64 rs[m].1.start),.slice rs[m].2.1 rs[m].1.nodes.length rs[m].2.2],.agg #[(.int .i64 l[n].l.lv),(.int .i64 l[n].l.st),(.int .i64 l[n].id),(.int .i64 l[n].need),(.int .i64 l[n].long),(.int .i64 l[n].prio),(.int .i64 l[n].state),(.int .i64 l[n].start),.slice na l[n].nodes.length nc]] w fun e w'=>e=.returned (.bool true)∧Ext w w'))
     unfold RJ.nv at c8'
     simp only[Nat.zero_add] at c0' c1' c2' c3' c4' c5' c6' c7' c8'
     have hd:decide ((m:Int) < (rs.length:Int))=true:=decide_eq_true (by omega)
     have hd2:decide (m < rs.length)=true:=decide_eq_true hmr
     clear hah hnn hok
     generalize rs[m]=rq at c0' c1' c2' c3' c4' c5' c6' c7' c8' HAH
     generalize hjq:l[n]=jq at d0' d1' d2' d3' d4' d5' d6' d7' d8' HAH
     have HJQ:=tH hjq
     clear hjq
     go_upto_region 6 with fail
     (refine wp_region_x 15 (by kernel_rfl) (by kernel_rfl) (by kernel_rfl) ?_;(iterate 15 (apply XReg.step;(case h=>(intro w' hw';obtain⟨X',rfl⟩:=hw';go_wp2_with ((go_at_call 121;refine(HAH.out _).mono ?_;rintro e _ ⟨rfl,X,rfl⟩));exact⟨rfl,xE⟩));(case hv=>kernel_rfl)));refine XReg.doneN (fun X=>?_))
     clear HAH c0' c1' c2' c3' c4' c5' c6' c7' c8' d0' d1' d2' d3' d4' d5' d6' d7' d8' hoo hol hd hd2
     have hm5:m < 1000:=by
      have h1:=HRL.out
      have h2:(sortedJ (l.take n)).length=(l.take n).length:=sortedJ_lenV _
      rw[List.length_take] at h2
      omega
     have hwm:wrap64 ((m:Int)+1)=(m:Int)+1:=by unfold wrap64;omega
     have HMR:=tH hmr
     clear hm5
     clear hmr
     go_wp2
     exact⟨⟨m+1,by rw[← HJQ.out];exact HMK.out,by go_num,xE⟩,by rw[hwm];exact meas_up HMR.out⟩
    ·obtain rfl:m=insK (sortedJ (l.take n)) l[n]:=by omega
     generalize hK:insK (sortedJ (l.take n)) l[n]=m at hm hmk ⊢
     have HK:=tH hK
     by_cases hml:m < rs.length
     ·have hmr:=hml
      have hah:aheadJ rs[m].1 l[n]=false:=by
       have h1:=insK_stop (l:=sortedJ (l.take n)) (j:=l[n]) (by rw[hK];have:=HRL.out;omega)
       have:(rs.map Prod.fst)[m]'(by simpa using hml)=(sortedJ (l.take n))[m]'(by have:=HRL.out;omega):=List.getElem_of_eq HM.out _
       simp only[hK] at h1
       rw[← this] at h1
       simpa using h1
      clear hK hmk hm hml
      obtain⟨hoo,c0',c1',c2',c3',c4',c5',c6',c7',c8'⟩:=rj_at HR.out.rc hmr
      obtain⟨hol,na,nc,hok,hnn,d0',d1',d2',d3',d4',d5',d6',d7',d8'⟩:=job_at (HS.out.ext rJob_stable HE.out) hlt
      have HAH:=tH (fun w=>(by have:=l04Ahead_any rs[m].1 l[n] (RJ.nv rs[m]) (.slice na l[n].nodes.length nc) w;rw[hah] at this;unfold Jb.val RJ.nv at this;exact this:Calls Tryz.prog 121 #[.agg #[(.int .i64 rs[m].1.l.lv),(.int .i64 rs[m].1.l.st),(.int .i64 rs[m].1.id),(.int .i64 rs[m].1.need),(.int .i64 rs[m].1.long),(.int .i64 rs[m].1.prio),(.int .i64 rs[m].1.state),(.int .i64 rs[m].1.start),.slice rs[m].2.1 rs[m].1.nodes.length rs[m].2.2],.agg #[(.int .i64 l[n].l.lv),(.int .i64 l[n].l.st),(.int .i64 l[n].id),(.int .i64 l[n].need),(.int .i64 l[n].long),(.int .i64 l[n].prio),(.int .i64 l[n].state),(.int .i64 l[n].start),.slice na l[n].nodes.length nc]] w fun e w'=>e=.returned (.bool false)∧Ext w w'))
      unfold RJ.nv at c8'
      simp only[Nat.zero_add] at c0' c1' c2' c3' c4' c5' c6' c7' c8'
      have hd:decide ((m:Int) < (rs.length:Int))=true:=decide_eq_true (by omega)
      have hd2:decide (m < rs.length)=true:=decide_eq_true hmr
      clear hah hnn hok
      go_upto_region 6 with fail
      (refine wp_region_x 15 (by kernel_rfl) (by kernel_rfl) (by kernel_rfl) ?_;(iterate 15 (apply XReg.step;(case h=>(intro w' hw';obtain⟨X',rfl⟩:=hw';go_wp2_with ((go_at_call 121;refine(HAH.out _).mono ?_;rintro e _ ⟨rfl,X,rfl⟩));exact⟨rfl,xE⟩));(case hv=>kernel_rfl)));refine XReg.doneN (fun X=>?_))
      clear HAH c0' c1' c2' c3' c4' c5' c6' c7' c8' d0' d1' d2' d3' d4' d5' d6' d7' d8' hoo hol hd hd2
      have hmr2:m≤rs.length:=Nat.le_of_lt hmr
      go_upto_region 8 with fail
      refine gen_world (fun W hW=>?_)
      have hEW:Ext wr W:=by rw[hW];exact xE
      have HEW:=tH hEW
      have HRW:=tH (HR.out.ext hEW)
      have hcap:m≤oc:=by
       obtain⟨-,h2,-⟩:=slr_len HR.out.rc
       omega
      have HPR:=tH (slr_preG HRW.out.rc (k:=m) hmr2)
      have hm1:(rs.take m).length=m:=by rw[List.length_take];omega
      have hm2:m≤1000:=by
       have h1:=HRL.out
       have h2:(sortedJ (l.take n)).length=(l.take n).length:=sortedJ_lenV _
       rw[List.length_take] at h2
       omega
      have HM1:=tH hm1
      have HMR:=tH hmr2
      clear hW hEW hm1 hmr2
      go_upto_region 9 with (at_builtin;go_must (refine Row.appV (f:=RJ.cells) el_JobV rfl _ _ rfl W xE _ [] rfl (Row.made _ _ _ _) (.slice (some ⟨ob,0,none⟩) m oc) (rs.take m) rfl (fun _=>rfl) (HPR.out.ext (rc_stable _) xE) RJ.one ?_ ?_ ?_);(rw[HM1.out];unfold maxLen;simp;omega);(rw[HM1.out];simp;omega);intro v6 X6 h6;rw[List.nil_append] at h6;have H6:=tH h6;clear h6)
      refine gen_world (fun W6 hW=>?_)
      have HE6:Hid (Ext W W6):=tH (by rw[hW];exact xE)
      rw[← hW] at H6
      clear hW
      obtain⟨x6,y6,rfl⟩:=H6.out.shape
      rw[HM1.out] at H6 ⊢
      obtain⟨hol,na,nc,hok,hnn,d0',d1',d2',d3',d4',d5',d6',d7',d8'⟩:=job_at (HS.out.ext rJob_stable ((HE.out.trans HEW.out).trans HE6.out)) hlt
      have HOK:=tH hok
      have HNN:=tH hnn
      clear hok hnn hcap X6
      go_wp2_with fail
      refine(l04Copy_any l[n] _ _ (HNN.out.ext rInt_stable xE) (HNL.out _ (List.getElem_mem hlt))).mono ?_
      rintro e _ ⟨v7,fp7,rfl,⟨X7,rfl⟩,hO7⟩
      obtain⟨u7,k7,rfl⟩:=hO7.shape
      have H7:=tH (H6.out.ext ((Ext.refl W6).plus X7))
      have HO7:=tH (Own.rowF (f:=intCell) (K:=1) (ty:=2) (fun _=>rfl) hO7)
      have HE7:=tH (HE6.out.trans ((Ext.refl W6).plus X7))
      clear hO7 H6 HE6 d0' d1' d2' d3' d4' d5' d6' d7' d8' hol
      unfold Jb.val
      generalize W6.plus X7=W7 at H7 HO7 HE7 ⊢
      clear X7
      go_upto_region 10 with (at_builtin;go_must (refine Row.appN (f:=RJ.cells) el_JobV rfl _ _ rfl W.heap.size HE7.out.below.size (.slice x6 m y6) (rs.take m) rfl H7.out (l[n],(u7,k7)) rfl _ ?_ rfl (fun _=>rfl) ?_ ?_ ?_ ?_);(simp);(intro u hu;exact RJ.one (l[n],(u7,k7)) u hu);(rw[HM1.out];unfold maxLen;omega);(rw[HM1.out];omega);intro v8 w8 hR8 hc8;have HR8:=tH hR8;have HC8:=tH hc8;clear hR8 hc8)
      obtain⟨x8,y8,rfl⟩:=HR8.out.shape
      have hl8:(rs.take m++[(l[n],u7,k7)]).length=m+1:=by rw[List.length_append,HM1.out];rfl
      rw[hl8] at HR8 ⊢
      have hob:ob < W.heap.size:=(HRW.out.row.blk ob (by simp[blkL])).2
      have HRO:=tH (((HRW.out.ext HE7.out)).chg HC8.out (fun q hq hm=>by
       have h1:=(H7.out.blk q hm).1
       simp[blkL] at hq
       omega) H7.out.type)
      have HE8:=tH (HC8.out.ext HE7.out (fun q hq=>(H7.out.blk q hq).1))
      have HN8:=tH (nd_chg (HO7.out.mono (Nat.zero_le _)) HC8.out H7.out.type)
      have hdl:rs.length-m=(rs.drop m).length:=by rw[List.length_drop]
      have HDL:=tH hdl
      have hrs:rs.length≤1000:=by
       have h1:=HRL.out
       have h2:(sortedJ (l.take n)).length=(l.take n).length:=sortedJ_lenV _
       rw[List.length_take] at h2
       omega
      have hoc:rs.length≤oc:=by
       obtain⟨-,h2,-⟩:=slr_len HR.out.rc
       omega
      have hmr3:=HMR.out
      have HSZ8:Hid (W.heap.size≤w8.heap.size):=tH HE8.out.below.size
      have HNEW:=tH (fun (j:Nat) (u:Value) (hu:((rs.drop m).flatMap RJ.cells)[j]?=some u)=>row_cell HRO.out.row (by rw[← flatMap_drop (f:=RJ.cells) (K:=9) (fun _=>rfl)];exact hu))
      clear hl8 hob hdl H7 HC8 HO7
      have hb1:(rs.take m++[(l[n],u7,k7)]).length+(rs.drop m).length≤1001:=by
       rw[List.length_append,HM1.out,← HDL.out];simp;omega
      have HL9:Hid ((rs.take m++[(l[n],u7,k7)]++rs.drop m).length=rs.length+1):=tH (by rw[List.length_append,List.length_append,HM1.out,← HDL.out];simp;omega)
      have HB1:=tH hb1
      have hcap2:m≤oc:=by omega
      have HOC:=tH hoc
      clear hb1 hoc
      by_cases hce:oc=m
      ·go_wp2_with (at_builtin;go_must (refine Row.appC (f:=RJ.cells) el_JobV rfl _ _ rfl W.heap.size HSZ8.out (.slice x8 (m+1) y8) (rs.take m++[(l[n],u7,k7)]) rfl HR8.out ⟨ob,0,none⟩ (rs.length-m) 0 (rs.drop m) rfl HDL.out (fun _=>rfl) ?_ ?_ ?_ ?_ ?_);(intro j u hu;rw[List.drop_of_length_le (by have:=HOC.out;omega)] at hu;simp at hu);(intro u hu;obtain⟨x,_,hx⟩:=List.mem_flatMap.1 hu;exact RJ.one x u hx);(have:=HB1.out;unfold maxLen;omega);(have:=HB1.out;omega);intro v9 w9 hR9 hc9;obtain⟨g9,k9,hv9⟩:=row_some hR9 (by rw[HL9.out];exact Nat.succ_pos _);rw[HL9.out] at hv9;subst hv9;have HR9:=tH hR9;have HC9:=tH hc9;clear hR9 hc9)
       refine⟨⟨n+1,rs.take m++[(l[n],u7,k7)]++rs.drop m,g9,k9,by rw[HL9.out],by omega,by go_num,?_,tH ⟨?_,?_⟩,tH ?_⟩,by simp[intOf];omega⟩
       ·exact HC9.out.ext ((HE.out.trans HEW.out).trans HE8.out) (fun q hq=>by have h1:=(HR8.out.blk q hq).1;have h2:=HE.out.below.size;have h3:=HEW.out.below.size;omega)
       ·try rw[HL9.out]
        exact HR9.out.mono (Nat.le_trans HE.out.below.size HEW.out.below.size)
       ·intro r hr
        rw[List.mem_append,List.mem_append,List.mem_singleton] at hr
        rcases hr with (hr | rfl) | hr
        ·obtain⟨q1,q2,q3⟩:=HRO.out.nd r (List.mem_of_mem_take hr)
         exact⟨q1,q2,nd_chg q3 HC9.out HR8.out.type⟩
        ·refine⟨HOK.out,fun x hx=>?_,nd_chg HN8.out HC9.out HR8.out.type⟩
         obtain⟨cs,hcs⟩:=slr_all HNN.out x hx
         exact hcs.2
        ·obtain⟨q1,q2,q3⟩:=HRO.out.nd r (List.mem_of_mem_drop hr)
         exact⟨q1,q2,nd_chg q3 HC9.out HR8.out.type⟩
       ·rw[sortedJ_step hlt,List.map_append,List.map_append,List.map_take,List.map_drop,HM.out]
        unfold insJ
        rw[HK.out];rfl
      have hce2:¬ m=oc:=fun e=>hce e.symm
      go_wp2_with (at_builtin;go_must (refine Row.appC (f:=RJ.cells) el_JobV rfl _ _ rfl W.heap.size HSZ8.out (.slice x8 (m+1) y8) (rs.take m++[(l[n],u7,k7)]) rfl HR8.out ⟨ob,m*9,none⟩ (rs.length-m) (oc-m) (rs.drop m) rfl HDL.out (fun _=>rfl) ?_ ?_ ?_ ?_ ?_);(intro j u hu;rw[Addr.add_lit];exact HNEW.out j u hu);(intro u hu;obtain⟨x,_,hx⟩:=List.mem_flatMap.1 hu;exact RJ.one x u hx);(have:=HB1.out;unfold maxLen;omega);(have:=HB1.out;omega);intro v9 w9 hR9 hc9;obtain⟨g9,k9,hv9⟩:=row_some hR9 (by rw[HL9.out];exact Nat.succ_pos _);rw[HL9.out] at hv9;subst hv9;have HR9:=tH hR9;have HC9:=tH hc9;clear hR9 hc9)
      refine⟨⟨n+1,rs.take m++[(l[n],u7,k7)]++rs.drop m,g9,k9,by rw[HL9.out],by omega,by go_num,?_,tH ⟨?_,?_⟩,tH ?_⟩,by simp[intOf];omega⟩
      ·exact HC9.out.ext ((HE.out.trans HEW.out).trans HE8.out) (fun q hq=>by have h1:=(HR8.out.blk q hq).1;have h2:=HE.out.below.size;have h3:=HEW.out.below.size;omega)
      ·try rw[HL9.out]
       exact HR9.out.mono (Nat.le_trans HE.out.below.size HEW.out.below.size)
      ·intro r hr
       rw[List.mem_append,List.mem_append,List.mem_singleton] at hr
       rcases hr with (hr | rfl) | hr
       ·obtain⟨q1,q2,q3⟩:=HRO.out.nd r (List.mem_of_mem_take hr)
        exact⟨q1,q2,nd_chg q3 HC9.out HR8.out.type⟩
       ·refine⟨HOK.out,fun x hx=>?_,nd_chg HN8.out HC9.out HR8.out.type⟩
        obtain⟨cs,hcs⟩:=slr_all HNN.out x hx
        exact hcs.2
       ·obtain⟨q1,q2,q3⟩:=HRO.out.nd r (List.mem_of_mem_drop hr)
        exact⟨q1,q2,nd_chg q3 HC9.out HR8.out.type⟩
      ·rw[sortedJ_step hlt,List.map_append,List.map_append,List.map_take,List.map_drop,HM.out]
       unfold insJ
       rw[HK.out];rfl
     ·have hd:decide ((m:Int) < (rs.length:Int))=false:=decide_eq_false (by omega)
      have hd2:decide (m < rs.length)=false:=decide_eq_false hml
      clear hK hmk hm hml
      go_upto_region 6 with fail
      (refine wp_region_x 15 (by kernel_rfl) (by kernel_rfl) (by kernel_rfl) ?_;(iterate 15 (apply XReg.step;(case h=>(intro w' hw';obtain⟨X',rfl⟩:=hw';go_wp2_with (fail);exact⟨rfl,xE⟩));(case hv=>kernel_rfl)));refine XReg.doneN (fun X=>?_))
      clear hd hd2
      have hmr2:m≤rs.length:=by
       have:=insK_le (sortedJ (l.take n)) l[n]
       have:=HK.out
       have:=HRL.out
       omega
      go_upto_region 8 with fail
      refine gen_world (fun W hW=>?_)
      have hEW:Ext wr W:=by rw[hW];exact xE
      have HEW:=tH hEW
      have HRW:=tH (HR.out.ext hEW)
      have hcap:m≤oc:=by
       obtain⟨-,h2,-⟩:=slr_len HR.out.rc
       omega
      have HPR:=tH (slr_preG HRW.out.rc (k:=m) hmr2)
      have hm1:(rs.take m).length=m:=by rw[List.length_take];omega
      have hm2:m≤1000:=by
       have h1:=HRL.out
       have h2:(sortedJ (l.take n)).length=(l.take n).length:=sortedJ_lenV _
       rw[List.length_take] at h2
       omega
      have HM1:=tH hm1
      have HMR:=tH hmr2
      clear hW hEW hm1 hmr2
      go_upto_region 9 with (at_builtin;go_must (refine Row.appV (f:=RJ.cells) el_JobV rfl _ _ rfl W xE _ [] rfl (Row.made _ _ _ _) (.slice (some ⟨ob,0,none⟩) m oc) (rs.take m) rfl (fun _=>rfl) (HPR.out.ext (rc_stable _) xE) RJ.one ?_ ?_ ?_);(rw[HM1.out];unfold maxLen;simp;omega);(rw[HM1.out];simp;omega);intro v6 X6 h6;rw[List.nil_append] at h6;have H6:=tH h6;clear h6)
      refine gen_world (fun W6 hW=>?_)
      have HE6:Hid (Ext W W6):=tH (by rw[hW];exact xE)
      rw[← hW] at H6
      clear hW
      obtain⟨x6,y6,rfl⟩:=H6.out.shape
      rw[HM1.out] at H6 ⊢
      obtain⟨hol,na,nc,hok,hnn,d0',d1',d2',d3',d4',d5',d6',d7',d8'⟩:=job_at (HS.out.ext rJob_stable ((HE.out.trans HEW.out).trans HE6.out)) hlt
      have HOK:=tH hok
      have HNN:=tH hnn
      clear hok hnn hcap X6
      go_wp2_with fail
      refine(l04Copy_any l[n] _ _ (HNN.out.ext rInt_stable xE) (HNL.out _ (List.getElem_mem hlt))).mono ?_
      rintro e _ ⟨v7,fp7,rfl,⟨X7,rfl⟩,hO7⟩
      obtain⟨u7,k7,rfl⟩:=hO7.shape
      have H7:=tH (H6.out.ext ((Ext.refl W6).plus X7))
      have HO7:=tH (Own.rowF (f:=intCell) (K:=1) (ty:=2) (fun _=>rfl) hO7)
      have HE7:=tH (HE6.out.trans ((Ext.refl W6).plus X7))
      clear hO7 H6 HE6 d0' d1' d2' d3' d4' d5' d6' d7' d8' hol
      unfold Jb.val
      generalize W6.plus X7=W7 at H7 HO7 HE7 ⊢
      clear X7
      go_upto_region 10 with (at_builtin;go_must (refine Row.appN (f:=RJ.cells) el_JobV rfl _ _ rfl W.heap.size HE7.out.below.size (.slice x6 m y6) (rs.take m) rfl H7.out (l[n],(u7,k7)) rfl _ ?_ rfl (fun _=>rfl) ?_ ?_ ?_ ?_);(simp);(intro u hu;exact RJ.one (l[n],(u7,k7)) u hu);(rw[HM1.out];unfold maxLen;omega);(rw[HM1.out];omega);intro v8 w8 hR8 hc8;have HR8:=tH hR8;have HC8:=tH hc8;clear hR8 hc8)
      obtain⟨x8,y8,rfl⟩:=HR8.out.shape
      have hl8:(rs.take m++[(l[n],u7,k7)]).length=m+1:=by rw[List.length_append,HM1.out];rfl
      rw[hl8] at HR8 ⊢
      have hob:ob < W.heap.size:=(HRW.out.row.blk ob (by simp[blkL])).2
      have HRO:=tH (((HRW.out.ext HE7.out)).chg HC8.out (fun q hq hm=>by
       have h1:=(H7.out.blk q hm).1
       simp[blkL] at hq
       omega) H7.out.type)
      have HE8:=tH (HC8.out.ext HE7.out (fun q hq=>(H7.out.blk q hq).1))
      have HN8:=tH (nd_chg (HO7.out.mono (Nat.zero_le _)) HC8.out H7.out.type)
      have hdl:rs.length-m=(rs.drop m).length:=by rw[List.length_drop]
      have HDL:=tH hdl
      have hrs:rs.length≤1000:=by
       have h1:=HRL.out
       have h2:(sortedJ (l.take n)).length=(l.take n).length:=sortedJ_lenV _
       rw[List.length_take] at h2
       omega
      have hoc:rs.length≤oc:=by
       obtain⟨-,h2,-⟩:=slr_len HR.out.rc
       omega
      have hmr3:=HMR.out
      have HSZ8:Hid (W.heap.size≤w8.heap.size):=tH HE8.out.below.size
      have HNEW:=tH (fun (j:Nat) (u:Value) (hu:((rs.drop m).flatMap RJ.cells)[j]?=some u)=>row_cell HRO.out.row (by rw[← flatMap_drop (f:=RJ.cells) (K:=9) (fun _=>rfl)];exact hu))
      clear hl8 hob hdl H7 HC8 HO7
      have hb1:(rs.take m++[(l[n],u7,k7)]).length+(rs.drop m).length≤1001:=by
       rw[List.length_append,HM1.out,← HDL.out];simp;omega
      have HL9:Hid ((rs.take m++[(l[n],u7,k7)]++rs.drop m).length=rs.length+1):=tH (by rw[List.length_append,List.length_append,HM1.out,← HDL.out];simp;omega)
      have HB1:=tH hb1
      have hcap2:m≤oc:=by omega
      have HOC:=tH hoc
      clear hb1 hoc
      by_cases hce:oc=m
      ·go_wp2_with (at_builtin;go_must (refine Row.appC (f:=RJ.cells) el_JobV rfl _ _ rfl W.heap.size HSZ8.out (.slice x8 (m+1) y8) (rs.take m++[(l[n],u7,k7)]) rfl HR8.out ⟨ob,0,none⟩ (rs.length-m) 0 (rs.drop m) rfl HDL.out (fun _=>rfl) ?_ ?_ ?_ ?_ ?_);(intro j u hu;rw[List.drop_of_length_le (by have:=HOC.out;omega)] at hu;simp at hu);(intro u hu;obtain⟨x,_,hx⟩:=List.mem_flatMap.1 hu;exact RJ.one x u hx);(have:=HB1.out;unfold maxLen;omega);(have:=HB1.out;omega);intro v9 w9 hR9 hc9;obtain⟨g9,k9,hv9⟩:=row_some hR9 (by rw[HL9.out];exact Nat.succ_pos _);rw[HL9.out] at hv9;subst hv9;have HR9:=tH hR9;have HC9:=tH hc9;clear hR9 hc9)
       refine⟨⟨n+1,rs.take m++[(l[n],u7,k7)]++rs.drop m,g9,k9,by rw[HL9.out],by omega,by go_num,?_,tH ⟨?_,?_⟩,tH ?_⟩,by simp[intOf];omega⟩
       ·exact HC9.out.ext ((HE.out.trans HEW.out).trans HE8.out) (fun q hq=>by have h1:=(HR8.out.blk q hq).1;have h2:=HE.out.below.size;have h3:=HEW.out.below.size;omega)
       ·try rw[HL9.out]
        exact HR9.out.mono (Nat.le_trans HE.out.below.size HEW.out.below.size)
       ·intro r hr
        rw[List.mem_append,List.mem_append,List.mem_singleton] at hr
        rcases hr with (hr | rfl) | hr
        ·obtain⟨q1,q2,q3⟩:=HRO.out.nd r (List.mem_of_mem_take hr)
         exact⟨q1,q2,nd_chg q3 HC9.out HR8.out.type⟩
        ·refine⟨HOK.out,fun x hx=>?_,nd_chg HN8.out HC9.out HR8.out.type⟩
         obtain⟨cs,hcs⟩:=slr_all HNN.out x hx
         exact hcs.2
        ·obtain⟨q1,q2,q3⟩:=HRO.out.nd r (List.mem_of_mem_drop hr)
         exact⟨q1,q2,nd_chg q3 HC9.out HR8.out.type⟩
       ·rw[sortedJ_step hlt,List.map_append,List.map_append,List.map_take,List.map_drop,HM.out]
        unfold insJ
        rw[HK.out];rfl
      have hce2:¬ m=oc:=fun e=>hce e.symm
      go_wp2_with (at_builtin;go_must (refine Row.appC (f:=RJ.cells) el_JobV rfl _ _ rfl W.heap.size HSZ8.out (.slice x8 (m+1) y8) (rs.take m++[(l[n],u7,k7)]) rfl HR8.out ⟨ob,m*9,none⟩ (rs.length-m) (oc-m) (rs.drop m) rfl HDL.out (fun _=>rfl) ?_ ?_ ?_ ?_ ?_);(intro j u hu;rw[Addr.add_lit];exact HNEW.out j u hu);(intro u hu;obtain⟨x,_,hx⟩:=List.mem_flatMap.1 hu;exact RJ.one x u hx);(have:=HB1.out;unfold maxLen;omega);(have:=HB1.out;omega);intro v9 w9 hR9 hc9;obtain⟨g9,k9,hv9⟩:=row_some hR9 (by rw[HL9.out];exact Nat.succ_pos _);rw[HL9.out] at hv9;subst hv9;have HR9:=tH hR9;have HC9:=tH hc9;clear hR9 hc9)
      refine⟨⟨n+1,rs.take m++[(l[n],u7,k7)]++rs.drop m,g9,k9,by rw[HL9.out],by omega,by go_num,?_,tH ⟨?_,?_⟩,tH ?_⟩,by simp[intOf];omega⟩
      ·exact HC9.out.ext ((HE.out.trans HEW.out).trans HE8.out) (fun q hq=>by have h1:=(HR8.out.blk q hq).1;have h2:=HE.out.below.size;have h3:=HEW.out.below.size;omega)
      ·try rw[HL9.out]
       exact HR9.out.mono (Nat.le_trans HE.out.below.size HEW.out.below.size)
      ·intro r hr
       rw[List.mem_append,List.mem_append,List.mem_singleton] at hr
       rcases hr with (hr | rfl) | hr
       ·obtain⟨q1,q2,q3⟩:=HRO.out.nd r (List.mem_of_mem_take hr)
        exact⟨q1,q2,nd_chg q3 HC9.out HR8.out.type⟩
       ·refine⟨HOK.out,fun x hx=>?_,nd_chg HN8.out HC9.out HR8.out.type⟩
        obtain⟨cs,hcs⟩:=slr_all HNN.out x hx
        exact hcs.2
       ·obtain⟨q1,q2,q3⟩:=HRO.out.nd r (List.mem_of_mem_drop hr)
        exact⟨q1,q2,nd_chg q3 HC9.out HR8.out.type⟩
      ·rw[sortedJ_step hlt,List.map_append,List.map_append,List.map_take,List.map_drop,HM.out]
       unfold insJ
       rw[HK.out];rfl
  ·have hnl:n=l.length:=by omega
   go_wp2
   go_ret
   exact⟨_,rs,rfl,HE.out.trans xE,HR.out.ext xE,by rw[HM.out,hnl,List.take_length]⟩
end Go.Proofs.YtdoeoojjabnboaaGreat
