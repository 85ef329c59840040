/- Plain maths of PlanOf. -/
import Derived.Test.YtbmbanelodabgaaGreatDoorKTU
import Derived.Test.YtbmbanelodabgaaGreatDoorKZZ1
import Derived.Test.YtbmbanelodabgaaGreatDoorKVBC
set_option maxRecDepth 100000
set_option linter.unusedVariables false
namespace Go.Proofs.YtbmbanelodabgaaGreatDoor
open Go.RowKit Go.Fin1
structure Slt where
 l:Lab
 id:Int
 start:Int
 nodes:List Int
abbrev wholeL:List Spn:=[⟨0,1000000⟩]
def freeAt (rows:List (List Spn)) (x:Spn) (n:Int):Bool:=freeL (rows.getD n.toNat []) x
@[irreducible] def staysP (now:Int) (rows:List (List Spn)) (j:Jb):Bool:=(j.state == 2)&&j.nodes.all (freeAt rows ⟨now,j.start+j.long⟩)
def ownAt (clear:List (List Lab)) (rows:List (List Spn)) (l:Lab) (i:Nat):List Spn:=if hasL (clear.getD i []) l=true then rows.getD i [] else wholeL
@[irreducible] def ownP (clear:List (List Lab)) (rows:List (List Spn)) (l:Lab):List (List Spn):=(List.range rows.length).map (ownAt clear rows l)
@[irreducible] def placedP (clear:List (List Lab)) (now:Int) (rows:List (List Spn)) (j:Jb):Option (Slt×Spn) :=
 if staysP now rows j=true then some (⟨j.l,j.id,j.start,j.nodes⟩,⟨now,j.start+j.long⟩)
 else if firstL (ownP clear rows j.l) j.need j.long now < 0 then none
 else some (⟨j.l,j.id,firstL (ownP clear rows j.l) j.need j.long now,fitNeed (ownP clear rows j.l) j.need ⟨firstL (ownP clear rows j.l) j.need j.long now,firstL (ownP clear rows j.l) j.need j.long now+j.long⟩⟩,⟨firstL (ownP clear rows j.l) j.need j.long now,firstL (ownP clear rows j.l) j.need j.long now+j.long⟩)
def put1 (x:Spn) (rows:List (List Spn)) (n:Int):List (List Spn):=rows.set n.toNat (putL (rows.getD n.toNat []) x)
@[irreducible] def putAll (x:Spn) (rows:List (List Spn)) (nodes:List Int):List (List Spn):=nodes.foldl (put1 x) rows
theorem putAll_nil (x:Spn) (rows:List (List Spn)):putAll x rows []=rows:=by unfold putAll;rfl
theorem putAll_cons (x:Spn) (rows:List (List Spn)) (n:Int) (ns:List Int):putAll x rows (n :: ns)=putAll x (put1 x rows n) ns:=by unfold putAll;rfl
abbrev PSt:=List Slt×List (List Spn)
@[irreducible] def stepP (clear:List (List Lab)) (now:Int) (s:PSt) (j:Jb):PSt :=
 if (j.state == 2 || j.state == 1)=true then (match placedP clear now s.2 j with | none=>s | some r=>(s.1++[r.1],putAll r.2 s.2 r.1.nodes)) else s
@[irreducible] def foldP (clear:List (List Lab)) (now:Int) (l:List Jb):PSt:=l.foldl (stepP clear now) ([],List.replicate clear.length [])
theorem foldP_nil (clear:List (List Lab)) (now:Int):foldP clear now []=([],List.replicate clear.length []):=by unfold foldP;rfl
theorem foldP_take (clear:List (List Lab)) (now:Int) {l:List Jb} {k:Nat} (h:k < l.length):foldP clear now (l.take (k+1))=stepP clear now (foldP clear now (l.take k)) l[k]:=by
 unfold foldP
 rw[List.take_succ_eq_append_getElem h,List.foldl_append];rfl
@[irreducible] def planL (clear:List (List Lab)) (now:Int) (l:List Jb):List Slt:=(foldP clear now (sortedJ l)).1
theorem stepP_off {clear:List (List Lab)} {now:Int} {s:PSt} {j:Jb} (h:(j.state == 2 || j.state == 1)=false):stepP clear now s j=s:=by unfold stepP;rw[h];rfl
theorem stepP_none {clear:List (List Lab)} {now:Int} {s:PSt} {j:Jb} (h:placedP clear now s.2 j=none):stepP clear now s j=s:=by
 unfold stepP;rw[h];split<;>rfl
theorem stepP_some {clear:List (List Lab)} {now:Int} {s:PSt} {j:Jb} {r:Slt×Spn} (h0:(j.state == 2 || j.state == 1)=true) (h:placedP clear now s.2 j=some r):stepP clear now s j=(s.1++[r.1],putAll r.2 s.2 r.1.nodes):=by
 unfold stepP;rw[h,if_pos h0]
def Rok (rows:List (List Spn)):Prop:=∀ r∈rows,spnsOk r=true
structure JOk (now:Int) (c:Nat) (j:Jb):Prop where
 need:1≤j.need∧j.need≤6
 long:1≤j.long∧j.long≤20
 st:0≤j.start∧j.start≤1000000
 run:j.state=2→(now < j.start+j.long∧0≤j.start∧j.start+j.long≤1000000)∧j.nodes.Pairwise (· < ·)∧∀ n∈j.nodes,0≤n∧n < c
 off:j.state≠2→j.nodes=[]
structure GoodN (rows:List (List Spn)) (x:Spn) (ns:List Int):Prop where
 up:ns.Pairwise (· < ·)
 at_:∀ n∈ns,0≤n∧n < rows.length∧freeAt rows x n=true
theorem getD_mem {rows:List (List Spn)} {k:Nat} (h:k < rows.length):rows.getD k []∈rows:=by
 rw[show rows.getD k []=rows[k] by simp[h]];exact List.getElem_mem h
theorem put1_len (x:Spn) (rows:List (List Spn)) (n:Int):(put1 x rows n).length=rows.length:=by unfold put1;simp
theorem putL_right {r:List Spn} {x:Spn} (h1:spnsOk r=true) (h2:spnOk x=true) (h3:freeL r x=true):spnsOk (putL r x)=true:=by
 have hl:=spnsOk_len h1
 by_cases h:r.length < 20
 ·exact(putL_free (by rw[h1,h2,h3];rfl) h).2.1
 ·rw[putL_same (by omega) (by rw[decide_eq_false h,Bool.and_false])];exact h1
theorem put1_ok {x:Spn} {rows:List (List Spn)} {n:Int} (h:Rok rows) (hx:spnOk x=true) (h0:0≤n) (hn:n < rows.length) (hf:freeAt rows x n=true):Rok (put1 x rows n):=by
 intro r hr
 unfold put1 at hr
 rcases List.mem_or_eq_of_mem_set hr with hr | rfl
 ·exact h r hr
 ·exact putL_right (h _ (getD_mem (by omega))) hx hf
theorem GoodN.tail {rows:List (List Spn)} {x:Spn} {n:Int} {ns:List Int} (h:GoodN rows x (n :: ns)):GoodN (put1 x rows n) x ns:=by
 refine⟨(List.pairwise_cons.1 h.up).2,fun m hm=>?_⟩
 obtain⟨h1,h2,h3⟩:=h.at_ m (List.mem_cons_of_mem _ hm)
 obtain⟨g1,g2,g3⟩:=h.at_ n (List.mem_cons_self ..)
 have hlt:=(List.pairwise_cons.1 h.up).1 m hm
 refine⟨h1,by rw[put1_len];exact h2,?_⟩
 unfold freeAt put1
 rw[List.getD_eq_getElem?_getD,List.getElem?_set_ne (by omega),← List.getD_eq_getElem?_getD]
 exact h3
theorem put_step {x:Spn} {rows F:List (List Spn)} {n:Int} {ns:List Int} (h:Rok rows∧GoodN rows x (n :: ns)∧putAll x rows (n :: ns)=F) (hx:spnOk x=true):Rok (put1 x rows n)∧GoodN (put1 x rows n) x ns∧putAll x (put1 x rows n) ns=F:=by
 obtain⟨g1,g2,g3⟩:=h.2.1.at_ n (List.mem_cons_self ..)
 exact⟨put1_ok h.1 hx g1 g2 g3,h.2.1.tail,by rw[← putAll_cons];exact h.2.2⟩
theorem spnOk_ok {x:Spn} (h:spnOk x=true):x.ok:=by
 have:=spnOk_iff.1 h
 exact⟨⟨by omega,by omega⟩,⟨by omega,by omega⟩⟩
theorem GoodN.i64 {rows:List (List Spn)} {x:Spn} {ns:List Int} (h:GoodN rows x ns) (hl:rows.length≤1048576):∀ n∈ns,I64 n:=fun n hn=>by
 obtain⟨h1,h2,_⟩:=h.at_ n hn
 exact⟨by omega,by omega⟩
theorem putAll_ok {x:Spn}:∀ {ns:List Int} {rows:List (List Spn)},Rok rows→spnOk x=true→GoodN rows x ns→Rok (putAll x rows ns)∧(putAll x rows ns).length=rows.length
 | [],rows,h,_,_=>by rw[putAll_nil];exact⟨h,rfl⟩
 | n :: ns,rows,h,hx,hg=>by
  obtain⟨g1,g2,g3⟩:=hg.at_ n (List.mem_cons_self ..)
  obtain⟨q1,q2⟩:=putAll_ok (put1_ok h hx g1 g2 g3) hx hg.tail
  rw[putAll_cons]
  exact⟨q1,by rw[q2,put1_len]⟩
theorem ownP_len (clear:List (List Lab)) (rows:List (List Spn)) (l:Lab):(ownP clear rows l).length=rows.length:=by unfold ownP;simp
theorem ownP_get {clear:List (List Lab)} {rows:List (List Spn)} {l:Lab} {i:Nat} (h:i < rows.length):(ownP clear rows l)[i]?=some (ownAt clear rows l i):=by unfold ownP;simp[h]
theorem whole_ok:spnsOk wholeL=true:=by
 refine spnsOk_of (by decide) fun i hi=>?_
 have:i=0:=by simp at hi;omega
 subst this
 exact⟨(by decide:spnOk ⟨0,1000000⟩=true),fun h=>absurd h (Nat.lt_irrefl _)⟩
theorem whole_taken {x:Spn} (hx:spnOk x=true):freeL wholeL x=false:=by
 have:=spnOk_iff.1 hx
 refine freeL_no (i:=0) (by decide) ?_
 unfold apart
 have h1:decide ((0:Int) < x.t)=true:=decide_eq_true (by omega)
 have h2:decide (x.f < (1000000:Int))=true:=decide_eq_true (by omega)
 show (!(decide ((0:Int) < x.t)&&decide (x.f < (1000000:Int))))=false
 rw[h1,h2];rfl
theorem ownP_ok {clear:List (List Lab)} {rows:List (List Spn)} {l:Lab} (h:Rok rows):Rok (ownP clear rows l):=by
 intro r hr
 unfold ownP at hr
 obtain⟨i,hi,rfl⟩:=List.mem_map.1 hr
 unfold ownAt
 split
 ·exact h _ (getD_mem (List.mem_range.1 hi))
 ·exact whole_ok
theorem rowsOk_of {rows:List (List Spn)} (h6:rows.length≤6) (h:Rok rows):rowsOk rows=true:=rowsOk_yes h6 fun i hi=>h _ (List.getElem_mem hi)
theorem fitN_free {rows:List (List Spn)} {x:Spn}:∀ {k:Nat} {n:Int},n∈fitN rows x k→freeAt rows x n=true
 | 0,n,h=>by cases h
 | k+1,n,h=>by
  unfold fitN at h
  split at h
  ·rename_i hf
   rcases List.mem_append.1 h with h | h
   ·exact fitN_free h
   ·simp at h;subst h;unfold freeAt;simpa using hf
  ·exact fitN_free h
theorem fitN_up {rows:List (List Spn)} {x:Spn}:∀ (k:Nat),(fitN rows x k).Pairwise (· < ·)
 | 0=>List.Pairwise.nil
 | k+1=>by
  unfold fitN
  split
  ·refine List.pairwise_append.2 ⟨fitN_up k,List.pairwise_singleton _ _,fun a ha b hb=>?_⟩
   have:=fitN_mem ha
   simp at hb;omega
  ·exact fitN_up k
theorem fitNeed_good {rows:List (List Spn)} {need:Int} {x:Spn}:GoodN rows x (fitNeed rows need x):=by
 have h:∀ n∈fitNeed rows need x,n∈fitL rows x:=fun n hn=>by
  unfold fitNeed at hn
  split at hn
  ·exact List.mem_of_mem_take hn
  ·cases hn
 refine⟨?_,fun n hn=>?_⟩
 ·unfold fitNeed
  split
  ·exact List.Pairwise.sublist (List.take_sublist _ _) (by unfold fitL;exact fitN_up _)
  ·exact List.Pairwise.nil
 ·have:=h n hn
  unfold fitL at this
  have h1:=fitN_mem this
  exact⟨h1.1,h1.2,fitN_free this⟩
theorem own_good {clear:List (List Lab)} {rows:List (List Spn)} {l:Lab} {x:Spn} {ns:List Int} (hx:spnOk x=true) (h:GoodN (ownP clear rows l) x ns):GoodN rows x ns:=by
 refine⟨h.up,fun n hn=>?_⟩
 obtain⟨h1,h2,h3⟩:=h.at_ n hn
 rw[ownP_len] at h2
 refine⟨h1,h2,?_⟩
 unfold freeAt at h3 ⊢
 rw[List.getD_eq_getElem?_getD,ownP_get (by omega)] at h3
 simp only[Option.getD_some] at h3
 unfold ownAt at h3
 split at h3
 ·exact h3
 ·rw[whole_taken hx] at h3;cases h3
theorem firstL_range {rows:List (List Spn)} {need length now:Int}:firstL rows need length now=-1∨(now≤firstL rows need length now∧firstL rows need length now≤now+40):=by
 unfold firstL
 split
 ·rename_i d hd
  have:=List.mem_of_find?_eq_some hd
  have:=List.mem_range.1 this
  right;omega
 ·exact .inl rfl
theorem placed_good {clear:List (List Lab)} {now:Int} {rows:List (List Spn)} {j:Jb} {r:Slt×Spn} (hn:0≤now∧now≤999900) (hc:clear.length=rows.length) (h:JOk now clear.length j) (hp:placedP clear now rows j=some r) :
  spnOk r.2=true∧GoodN rows r.2 r.1.nodes∧r.1.l=j.l∧r.1.id=j.id∧(0≤r.1.start∧r.1.start≤1000000):=by
 unfold placedP at hp
 split at hp
 ·rename_i hs
  obtain rfl:_=r:=by simpa using hp
  unfold staysP at hs
  simp only[Bool.and_eq_true,beq_iff_eq,List.all_eq_true] at hs
  obtain⟨⟨h1,h2,h3⟩,h4,h5⟩:=h.run hs.1
  have:=h.long
  refine⟨spnOk_iff.2 ⟨by show 0≤now;omega,by show now < _;omega,by show j.start+j.long≤_;omega⟩,⟨h4,fun n hm=>?_⟩,rfl,rfl,by show 0≤j.start;omega,by show j.start≤_;omega⟩
  obtain⟨q1,q2⟩:=h5 n hm
  exact⟨q1,by omega,hs.2 n hm⟩
 ·split at hp
  ·cases hp
  ·rename_i hs ht
   obtain rfl:_=r:=by simpa using hp
   have hr:=firstL_range (rows:=ownP clear rows j.l) (need:=j.need) (length:=j.long) (now:=now)
   have:=h.long
   have hx:spnOk ⟨firstL (ownP clear rows j.l) j.need j.long now,firstL (ownP clear rows j.l) j.need j.long now+j.long⟩=true:=spnOk_iff.2 ⟨by show 0≤firstL _ _ _ _;omega,by show firstL _ _ _ _ < firstL _ _ _ _+_;omega,by show firstL _ _ _ _+_≤_;omega⟩
   exact⟨hx,own_good hx fitNeed_good,rfl,rfl,by show 0≤firstL _ _ _ _;omega,by show firstL _ _ _ _≤_;omega⟩
theorem GoodN.len {rows:List (List Spn)} {x:Spn} {ns:List Int} (h:GoodN rows x ns):ns.length≤rows.length:=by
 have h1:∀ (ns:List Int) (a:Int),ns.Pairwise (· < ·)→(∀ n∈ns,a≤n∧n < rows.length)→(ns.length:Int)≤max 0 (rows.length-a):=by
  intro ns
  induction ns with
  | nil=>intro a _ _;simp;omega
  | cons n ns ih =>
   intro a hp hm
   have h2:=ih (n+1) (List.pairwise_cons.1 hp).2 fun m hmm=>⟨(List.pairwise_cons.1 hp).1 m hmm,(hm m (List.mem_cons_of_mem _ hmm)).2⟩
   have h3:=hm n (List.mem_cons_self ..)
   rw[List.length_cons]
   omega
 have:=h1 ns 0 h.up fun n hn=>⟨(h.at_ n hn).1,(h.at_ n hn).2.1⟩
 omega
theorem JOk.len {now:Int} {c:Nat} {j:Jb} (h:JOk now c j):j.nodes.length≤c:=by
 by_cases hs:j.state=2
 ·have h2:=h.run hs
  have h3:GoodN (List.replicate c ([]:List Spn)) ⟨0,1⟩ j.nodes:=⟨h2.2.1,fun n hn=>⟨(h2.2.2 n hn).1,by simpa using (h2.2.2 n hn).2,by
   unfold freeAt
   rw[List.getD_eq_getElem?_getD,List.getElem?_replicate]
   split
   all_goals exact freeL_yes fun i hi=>absurd hi (Nat.not_lt_zero _)⟩⟩
  have:=h3.len
  simpa using this
 ·rw[h.off hs];simp
theorem foldP_ok {clear:List (List Lab)} {now:Int} (hn:0≤now∧now≤999900):∀ {l:List Jb} (k:Nat),k≤l.length→(∀ j∈l,JOk now clear.length j)→Rok (foldP clear now (l.take k)).2∧(foldP clear now (l.take k)).2.length=clear.length
 | l,0,_,_=>by
  rw[List.take_zero,foldP_nil]
  refine⟨fun r hr=>?_,by simp⟩
  obtain⟨_,rfl⟩:=List.mem_replicate.1 hr
  exact spnsOk_of (by decide) fun i hi=>absurd hi (Nat.not_lt_zero _)
 | l,k+1,hk,h=>by
  obtain⟨q1,q2⟩:=foldP_ok hn k (Nat.le_of_lt hk) h
  rw[foldP_take clear now hk]
  cases h0:(l[k].state == 2 || l[k].state == 1)
  ·rw[stepP_off h0];exact⟨q1,q2⟩
  ·cases hp:placedP clear now (foldP clear now (l.take k)).2 l[k] with
   | none=>rw[stepP_none hp];exact⟨q1,q2⟩
   | some r =>
    obtain⟨g1,g2,_⟩:=placed_good hn q2.symm (h _ (List.getElem_mem hk)) hp
    obtain⟨p1,p2⟩:=putAll_ok q1 g1 g2
    rw[stepP_some h0 hp]
    exact⟨p1,p2.trans q2⟩
end Go.Proofs.YtbmbanelodabgaaGreatDoor
set_option maxRecDepth 100000
set_option linter.unusedVariables false
namespace Go
open Go.RowKit
section
variable {P:Program} {ops:Array Oper} {rest:List Oper} {op:Oper} {a:Act} {Q:Exit→Act→World→Prop}
theorem make_nils {t e:TypeId} {W:World} (hu:P.underlying t=some (.slice e)) (hi:(P.info? e).map (fun i=>(i.zero,i.size,i.bytes))=some (some (.slice none 0 0),1,24)) (hgd:op.guard=none) (l c:Operand) (hop:op.op=Op.makeSlice t l c) (w0:World) (hext:Ext w0 W)
  (n:Nat) (hl:a.eval l=.int .i64 n) (hc:a.eval c=.int .i64 n) (hb:24*n≤281474976710656) (hm:n≤maxLen)
  (h:∀ w' g,Ext w0 w'→w'.ownsRow w0.heap.size e 1 (.slice (some ⟨g,0,none⟩) n n) n (List.replicate n (.slice none 0 0))→wpList P ops Q rest (a.put op.dst (.slice (some ⟨g,0,none⟩) n n)) w'):wpList P ops Q (op :: rest) a W:=by
 obtain⟨i,hi,hz,hs,hby⟩:=info_parts hi
 refine wpList_make_full W hgd l c t hop w0.heap.size e i _ 1 hu hi hz hs .i64 .i64 n n n hl hc rfl rfl (by rw[hby];exact hb) hm hext.below.size ?_
 intro w' hown hg
 obtain⟨X,rfl⟩:=hext.grown hg (fun k hk=>by cases hk)
 refine h _ _ ⟨X,rfl⟩ ?_
 rw[show (Value.slice none 0 0).cells=#[.slice none 0 0] from rfl,made_zero] at hown
 simpa using hown
end
end Go
namespace Go.Proofs.YtbmbanelodabgaaGreatDoor
open Go.RowKit Go.Fin1
abbrev RW:=List Spn×(Option Addr×Nat)
def RW.nv (r:RW):Value:=.slice r.2.1 r.1.length r.2.2
def RW.cells (r:RW):List Value:=[RW.nv r]
theorem RW.one (r:RW):∀ u∈RW.cells r,u.oneCell'=true:=fun u hu=>by
 simp only[RW.cells,List.mem_singleton] at hu
 subst hu;rfl
theorem info_SpnS:(Tryz.prog.info? 129).map (fun i=>(i.zero,i.size,i.bytes))=some (some (.slice none 0 0),1,24):=by kernel_rfl
theorem el_SpnSS:ElemInfo Tryz.prog 122 129 1 24:=by
 obtain⟨i,hi,hz,hs,hb⟩:=info_parts info_SpnS
 exact⟨Tryz.underlying122,⟨i,_,hi,hz,hs,hb,rfl⟩,by decide⟩
def Other (w:World) (ty:TypeId) (S:List Nat):Prop:=∀ b∈S,∃ cur ty',w.heap[b]?=some (.cells cur ty' (0,0))∧ty'≠ty
theorem row_chgT {α:Type} {B:Nat} {w w':World} {ty K:Nat} {f:α→List Value} {v:Value} {xs:List α} {S:List Nat} (h:Row B w ty K f v xs) (hx:Chg S w w') (hS:Other w ty S):Row B w' ty K f v xs:=h.chg hx fun b hb hm=>by
 obtain⟨c1,h1⟩:=h.type b hb
 obtain⟨c2,t2,h2,hne⟩:=hS b hm
 rw[h1] at h2
 simp at h2
 exact hne h2.2.symm
theorem other_row {α:Type} {B:Nat} {w:World} {ty ty' K:Nat} {f:α→List Value} {v:Value} {xs:List α} (h:Row B w ty' K f v xs) (hne:ty'≠ty):Other w ty (blkL v):=fun b hb=>by
 obtain⟨cur,hc⟩:=h.type b hb
 exact⟨cur,ty',hc,hne⟩
structure RowR (B:Nat) (w:World) (v:Value) (rs:List RW):Prop where
 row:Row B w 129 1 RW.cells v rs
 nd:∀ r∈rs,(∀ x∈r.1,x.ok)∧Row 0 w 124 2 Spn.cells (RW.nv r) r.1
theorem RowR.ext {B:Nat} {w w':World} {v:Value} {rs:List RW} (h:RowR B w v rs) (hx:Ext w w'):RowR B w' v rs:=⟨h.row.ext hx,fun r hr=>by
 obtain⟨h1,h2⟩:=h.nd r hr
 exact⟨h1,h2.ext hx⟩⟩
theorem RowR.mono {B B':Nat} {w:World} {v:Value} {rs:List RW} (h:RowR B w v rs) (hb:B'≤B):RowR B' w v rs:=⟨h.row.mono hb,h.nd⟩
theorem RowR.chgT {B:Nat} {w w':World} {v:Value} {rs:List RW} {S:List Nat} (h:RowR B w v rs) (hx:Chg S w w') (h1:Other w 129 S) (hS:Other w 124 S):RowR B w' v rs:=⟨row_chgT h.row hx h1,fun r hr=>⟨(h.nd r hr).1,row_chgT (h.nd r hr).2 hx hS⟩⟩
theorem RowR.chgB {B:Nat} {w w':World} {v:Value} {rs:List RW} {S:List Nat} (h:RowR B w v rs) (hx:Chg S w w') (hv:∀ b∈blkL v,b∉S) (hS:∀ r∈rs,∀ b∈blkL (RW.nv r),b∉S):RowR B w' v rs:=⟨h.row.chg hx hv,fun r hr=>⟨(h.nd r hr).1,(h.nd r hr).2.chg hx (hS r hr)⟩⟩
theorem Blk.other {w:World} {b:Nat} {cs:List Value} {ty ty':TypeId} (h:Blk w b cs ty) (hne:ty≠ty'):Other w ty' [b]:=fun q hq=>by
 obtain rfl:=List.mem_singleton.1 hq
 exact⟨_,ty,h,hne⟩
theorem slr_mapR {α β:Type} {w:World} {k:Nat} {r:World→List Value→α→Prop} {r':World→List Value→β→Prop} {v:Value} {xs:List α} (f:α→β) (h:SlR w k r v xs) (hr:∀ cs x,x∈xs→r w cs x→r' w cs (f x)):SlR w k r' v (xs.map f):=by
 obtain⟨a,cap,rfl,h1,h2,h3⟩:=h
 refine⟨a,cap,by rw[List.length_map],by rwa [List.length_map],h2,fun i hi=>?_⟩
 have hi':i < xs.length:=by simpa using hi
 obtain⟨b,off,cs,q1,q2,q3,q4⟩:=h3 i hi'
 exact⟨b,off,cs,q1,q2,q3,by rw[List.getElem_map];exact hr _ _ (List.getElem_mem hi') q4⟩
theorem row_rc {α:Type} {B:Nat} {w:World} {ty K:Nat} {f:α→List Value} {v:Value} {xs:List α} (hf:∀ x,(f x).length=K) (h:Row B w ty K f v xs):SlR w K (rc f) v xs:=by
 obtain⟨fp,hO⟩:=Row.own (f:=f) (K:=K) hf h
 exact oFl_reads (f:=f) hf hO.1
theorem RowR.spns {B:Nat} {w:World} {v:Value} {rs:List RW} (h:RowR B w v rs):SlR w 1 rSpnS v (rs.map Prod.fst) :=
 slr_mapR _ (row_rc (fun _=>rfl) h.row) fun cs r hm hc=>⟨RW.nv r,hc,row_spn (h.nd r hm).2 (h.nd r hm).1⟩
theorem rw_map (rs:List RW):rs.flatMap RW.cells=rs.map RW.nv:=by
 induction rs with
 | nil=>rfl
 | cons r rs ih=>rw[List.flatMap_cons,ih];rfl
theorem RowR.len {B:Nat} {w:World} {a:Option Addr} {n cap:Nat} {rs:List RW} (h:RowR B w (.slice a n cap) rs):n=rs.length∧rs.length≤cap∧cap≤maxLen:=by
 rcases h.row.2 with ⟨hv,h0⟩ | ⟨g',cap',cur,hv,hb,hg,h1,h2,h3,h4⟩
 ·cases hv
  exact⟨h0.symm,by omega,Nat.zero_le _⟩
 ·cases hv
  exact⟨rfl,h1,h2⟩
theorem RowR.set {B:Nat} {w:World} {g n cap:Nat} {rs:List RW} (h:RowR B w (.slice (some ⟨g,0,none⟩) n cap) rs) {k:Nat} (hk:k < rs.length) (r:RW) (hr:(∀ x∈r.1,x.ok)∧Row 0 w 124 2 Spn.cells (RW.nv r) r.1) :
  RowR B (w.setCell ⟨g,k,none⟩ (RW.nv r)) (.slice (some ⟨g,0,none⟩) n cap) (rs.set k r):=by
 have hoth:=other_row (ty:=124) h.row (by decide)
 have hC:Chg [g] w (w.setCell ⟨g,k,none⟩ (RW.nv r)):=Chg.setCell (Ext.refl w |>.chg [g]) (.inl (by simp)) _
 have hO:Other w 124 [g]:=by simpa [blkL] using hoth
 obtain⟨⟨hl,hv⟩,hnd⟩:=h
 rcases hv with ⟨h1,_⟩ | ⟨g',cap',cur,hv,hb,hg,h1,h2,h3,h4⟩
 ·cases h1
 cases hv
 refine⟨⟨by rw[rw_map];simp,.inr ⟨g,cap,cur.setIfInBounds k (RW.nv r),by rw[List.length_set],hb,setCell_heap hg k _,by rw[List.length_set];exact h1,h2,by rw[Array.size_setIfInBounds];exact h3,?_⟩⟩,fun q hq=>?_⟩
 ·rw[Array.toList_setIfInBounds,List.length_set,List.take_set,h4,rw_map,rw_map,List.map_set]
 ·rcases List.mem_or_eq_of_mem_set hq with hq | rfl
  ·exact⟨(hnd q hq).1,row_chgT (hnd q hq).2 hC hO⟩
  ·exact⟨hr.1,row_chgT hr.2 hC hO⟩
theorem RowR.cell {B:Nat} {w:World} {g n cap:Nat} {rs:List RW} (h:RowR B w (.slice (some ⟨g,0,none⟩) n cap) rs) {k:Nat} (hk:k < rs.length):w.cell? ⟨g,k,none⟩=some (RW.nv rs[k]):=by
 obtain rfl:=(h.len).1
 refine row_cell h.row ?_
 rw[rw_map];simp[hk]
theorem RowR.fz {B:Nat} {w:World} {g n cap:Nat} {rs:List RW} (h:RowR B w (.slice (some ⟨g,0,none⟩) n cap) rs) (j:Nat):w.frozen? ⟨g,j,none⟩=false∧w.old g∧B≤g:=by
 rcases h.row.2 with ⟨hv,h0⟩ | ⟨g',cap',cur,hv,hb,hg,h1,h2,h3,h4⟩
 ·cases hv
 ·cases hv
  exact⟨frozen_of_heap hg j,(Array.getElem?_eq_some_iff.1 hg).1,hb⟩
theorem RowR.nils {B:Nat} {w:World} {v:Value} {n:Nat} (h:w.ownsRow B 129 1 v n (List.replicate n (.slice none 0 0))):RowR B w v (List.replicate n ([],none,0)):=by
 refine⟨?_,fun r hr=>?_⟩
 ·unfold Row
  rw[rw_map,List.length_replicate]
  simpa [RW.nv] using h
 ·obtain⟨_,rfl⟩:=List.mem_replicate.1 hr
  exact⟨fun x hx=>(by cases hx),Row.nil _ _ _ _ _⟩
theorem RowR.at_ {B:Nat} {w:World} {v:Value} {rs:List RW} (h:RowR B w v rs) {k:Nat} (hk:k < rs.length):SlR w 2 rSpn (RW.nv rs[k]) rs[k].1:=row_spn (h.nd _ (List.getElem_mem hk)).2 (h.nd _ (List.getElem_mem hk)).1
theorem RowR.snoc {B:Nat} {W w8:World} {out v8:Value} {rs:List RW} {r:RW} (h:RowR B W out rs) (hR:Row B w8 129 1 RW.cells v8 (rs++[r])) (hc:Chg (blkL out) W w8) (hr:(∀ x∈r.1,x.ok)∧Row 0 W 124 2 Spn.cells (RW.nv r) r.1):RowR B w8 v8 (rs++[r]):=by
 have hO:=other_row (ty:=124) h.row (by decide)
 refine⟨hR,fun q hq=>?_⟩
 rcases List.mem_append.1 hq with hq | hq
 ·exact⟨(h.nd q hq).1,row_chgT (h.nd q hq).2 hc hO⟩
 ·obtain rfl:=List.mem_singleton.1 hq
  exact⟨hr.1,row_chgT hr.2 hc hO⟩
theorem row_one {α:Type} {W:World} {ty K b:Nat} {f:α→List Value} (x:α) (hf:(f x).length=K) (hb:b=W.heap.size) {cs:Array Value} (hc:cs.toList=f x):Row 0 (W.alloc (.cells cs ty)) ty K f (.slice (some ⟨b,0,none⟩) 1 1) [x]:=by
 subst hb
 refine⟨by simp[hf],.inr ⟨_,1,cs,rfl,Nat.zero_le _,by simpa using heap_alloc_new W (.cells cs ty),Nat.le_refl _,by decide,?_,?_⟩⟩
 ·rw[← Array.length_toList,hc,hf];simp
 ·rw[hc];simp[← hf]
theorem rs_getD {rs:List RW} {rows:List (List Spn)} (h:rs.map Prod.fst=rows) {k:Nat} (hk:k < rs.length):rows.getD k []=rs[k].1:=by subst h;simp[hk]
end Go.Proofs.YtbmbanelodabgaaGreatDoor
set_option maxRecDepth 100000
set_option linter.unusedVariables false
namespace Go.Proofs.YtbmbanelodabgaaGreatDoor
open Go.RowKit Go.Fin1
def kRow {α:Type} (ty K:Nat) (f:α→List Value) (xs:List α):XReg.Kind:=fun v w=>∃ a c,v=.slice a xs.length c∧Row 0 w ty K f (.slice a xs.length c) xs
theorem row_newB {α:Type} {W:World} {ty K:Nat} {f:α→List Value} (xs:List α) (hf:∀ x,(f x).length=K) (hm:xs.length≤maxLen):Row W.heap.size (W.alloc (.cells (xs.flatMap f).toArray ty)) ty K f (.slice (some ⟨W.heap.size,0,none⟩) xs.length xs.length) xs:=by
 refine⟨flatMap_len hf xs,.inr ⟨_,_,(xs.flatMap f).toArray,rfl,Nat.le_refl _,by simpa using heap_alloc_new W (.cells (xs.flatMap f).toArray ty),Nat.le_refl _,hm,?_,?_⟩⟩
 ·rw[List.size_toArray,flatMap_len hf xs]
 ·rw[List.take_of_length_le]
  rw[flatMap_len hf xs];exact Nat.le_refl _
theorem row_new {α:Type} {W:World} {ty K:Nat} {f:α→List Value} (xs:List α) (hf:∀ x,(f x).length=K) (hm:xs.length≤maxLen):Row 0 (W.alloc (.cells (xs.flatMap f).toArray ty)) ty K f (.slice (some ⟨W.heap.size,0,none⟩) xs.length xs.length) xs:=(row_newB xs hf hm).mono (Nat.zero_le _)
theorem kRow_good {α:Type} (W:World) {ty K:Nat} {f:α→List Value} {xs:List α} (hf:∀ x,(f x).length=K) (hm:xs.length≤maxLen):XReg.GoodK (kRow ty K f xs) :=
 ⟨fun _ _ _ hx ⟨a,c,h1,h2⟩=>⟨a,c,h1,h2.ext hx⟩,_,_,_,_,rfl,row_new (W:=W) xs hf hm⟩
theorem kRow_in {α:Type} {w:World} {ty K:Nat} {f:α→List Value} {v:Value} {xs:List α} (h:Row 0 w ty K f v xs):kRow ty K f xs v w:=by
 obtain⟨a,c,rfl⟩:=h.shape
 exact⟨a,c,rfl,h⟩
abbrev RS:=Slt×(Option Addr×Nat)
def RS.nv (r:RS):Value:=.slice r.2.1 r.1.nodes.length r.2.2
def Slt.cells (s:Slt) (v:Value):List Value:=[(.int .i64 s.l.lv),(.int .i64 s.l.st),(.int .i64 s.id),(.int .i64 s.start),v]
def Slt.val (s:Slt) (v:Value):Value:=.agg #[(.int .i64 s.l.lv),(.int .i64 s.l.st),(.int .i64 s.id),(.int .i64 s.start),v]
def Slt.ok (s:Slt):Prop:=s.l.ok∧I64 s.id∧I64 s.start∧∀ n∈s.nodes,I64 n
def RS.cells (r:RS):List Value:=r.1.cells (RS.nv r)
theorem RS.one (r:RS):∀ u∈RS.cells r,u.oneCell'=true:=fun u hu=>by
 simp only[RS.cells,Slt.cells,List.mem_cons,List.not_mem_nil,or_false] at hu
 rcases hu with rfl | rfl | rfl | rfl | rfl<;>rfl
theorem info_Slot:(Tryz.prog.info? 104).map (fun i=>(i.zero,i.size,i.bytes))=some (some (.agg #[(.int .i64 0),(.int .i64 0),(.int .i64 0),(.int .i64 0),.slice none 0 0]),5,56):=by kernel_rfl
theorem el_Slot:ElemInfo Tryz.prog 101 104 5 56:=by
 obtain⟨i,hi,hz,hs,hb⟩:=info_parts info_Slot
 exact⟨Tryz.underlying101,⟨i,_,hi,hz,hs,hb,rfl⟩,by decide⟩
structure RowS (B:Nat) (w:World) (v:Value) (rs:List RS):Prop where
 row:Row B w 104 5 RS.cells v rs
 nd:∀ r∈rs,r.1.ok∧Row 0 w 2 1 intCell (RS.nv r) r.1.nodes
theorem RowS.ext {B:Nat} {w w':World} {v:Value} {rs:List RS} (h:RowS B w v rs) (hx:Ext w w'):RowS B w' v rs:=⟨h.row.ext hx,fun r hr=>⟨(h.nd r hr).1,(h.nd r hr).2.ext hx⟩⟩
theorem RowS.mono {B B':Nat} {w:World} {v:Value} {rs:List RS} (h:RowS B w v rs) (hb:B'≤B):RowS B' w v rs:=⟨h.row.mono hb,h.nd⟩
theorem RowS.chgT {B:Nat} {w w':World} {v:Value} {rs:List RS} {S:List Nat} (h:RowS B w v rs) (hx:Chg S w w') (h1:Other w 104 S) (h2:Other w 2 S):RowS B w' v rs:=⟨row_chgT h.row hx h1,fun r hr=>⟨(h.nd r hr).1,row_chgT (h.nd r hr).2 hx h2⟩⟩
theorem RowS.snoc {B:Nat} {W w8:World} {out v8:Value} {rs:List RS} {r:RS} (h:RowS B W out rs) (hR:Row B w8 104 5 RS.cells v8 (rs++[r])) (hc:Chg (blkL out) W w8) (hr:r.1.ok∧Row 0 W 2 1 intCell (RS.nv r) r.1.nodes):RowS B w8 v8 (rs++[r]):=by
 have hO:=other_row (ty:=2) h.row (by decide)
 refine⟨hR,fun q hq=>?_⟩
 rcases List.mem_append.1 hq with hq | hq
 ·exact⟨(h.nd q hq).1,row_chgT (h.nd q hq).2 hc hO⟩
 ·obtain rfl:=List.mem_singleton.1 hq
  exact⟨hr.1,row_chgT hr.2 hc hO⟩
def rSlt:World→List Value→Slt→Prop:=fun w cs s=>∃ v,cs=s.cells v∧s.ok∧SlR w 1 rInt v s.nodes
theorem row_int {B:Nat} {w:World} {v:Value} {xs:List Int} (h:Row B w 2 1 intCell v xs) (hx:∀ x∈xs,I64 x):SlR w 1 rInt v xs:=slr_with (row_rc (f:=intCell) (fun _=>rfl) h) fun cs x hm hc=>⟨hc,hx x hm⟩
theorem RowS.slr {B:Nat} {w:World} {v:Value} {rs:List RS} (h:RowS B w v rs):SlR w 5 rSlt v (rs.map Prod.fst):=slr_mapR _ (row_rc (fun _=>rfl) h.row) fun cs r hm hc=>⟨RS.nv r,hc,(h.nd r hm).1,row_int (h.nd r hm).2 (h.nd r hm).1.2.2.2⟩
theorem RowJ.chgT {B:Nat} {w w':World} {v:Value} {rs:List RJ} {S:List Nat} (h:RowJ B w v rs) (hx:Chg S w w') (h1:Other w 92 S) (h2:Other w 2 S):RowJ B w' v rs:=⟨row_chgT h.row hx h1,fun r hr=>⟨(h.nd r hr).1,(h.nd r hr).2.1,row_chgT (h.nd r hr).2.2 hx h2⟩⟩
theorem RowJ.jobsS {B:Nat} {w:World} {v:Value} {rs:List RJ} (h:RowJ B w v rs):SlR w 9 rJob v (rs.map Prod.fst):=slr_mapR _ (row_rc (fun _=>rfl) h.row) fun cs r hm hc=>by
 obtain⟨h1,h2,h3⟩:=h.nd r hm
 exact⟨RJ.nv r,hc,h1,row_int h3 h2⟩
theorem int_map (xs:List Int):xs.flatMap intCell=xs.map (Value.int .i64):=by
 induction xs with
 | nil=>rfl
 | cons x xs ih=>rw[List.flatMap_cons,ih];rfl
theorem RowJ.node {B:Nat} {w:World} {b off n cap:Nat} {rs:List RJ} (h:RowJ B w (.slice (some ⟨b,off,none⟩) n cap) rs) {L:List Jb} (hm:rs.map Prod.fst=L) {k:Nat} (hk:k < L.length) {na:Option Addr} {nc:Nat} (hc:w.cell? ⟨b,off+k*9+8,none⟩=some (.slice na L[k].nodes.length nc)):Row 0 w 2 1 intCell (.slice na L[k].nodes.length nc) L[k].nodes:=by
 subst hm
 have hk':k < rs.length:=by simpa using hk
 obtain⟨_,_,_,_,_,_,_,_,_,h8⟩:=rj_at h.rc hk'
 simp only[List.getElem_map] at hc ⊢
 rw[hc] at h8
 have:=(h.nd _ (List.getElem_mem hk')).2.2
 rw[← Option.some.inj h8] at this
 exact this
theorem RowJ.mono {B B':Nat} {w:World} {v:Value} {rs:List RJ} (h:RowJ B w v rs) (hb:B'≤B):RowJ B' w v rs:=⟨h.row.mono hb,h.nd⟩
theorem Other.ext {w w':World} {ty:Nat} {S:List Nat} (h:Other w ty S) (hx:Ext w w'):Other w' ty S:=fun b hb=>by
 obtain⟨cur,t,h1,h2⟩:=h b hb
 obtain⟨X,rfl⟩:=hx
 exact⟨cur,t,by rw[World.heap_plus w X b (Array.getElem?_eq_some_iff.1 h1).1];exact h1,h2⟩
theorem foldP_len1 (clear:List (List Lab)) (now:Int) {l:List Jb}:∀ k,k≤l.length→(foldP clear now (l.take k)).1.length≤k
 | 0,_=>by rw[List.take_zero,foldP_nil];exact Nat.le_refl _
 | k+1,h=>by
  have ih:=foldP_len1 clear now (l:=l) k (Nat.le_of_lt h)
  rw[foldP_take clear now h]
  cases h0:(l[k].state == 2 || l[k].state == 1)
  ·rw[stepP_off h0];omega
  ·cases hp:placedP clear now (foldP clear now (l.take k)).2 l[k] with
   | none=>rw[stepP_none hp];omega
   | some r=>rw[stepP_some h0 hp];simp;omega
theorem placed_stays {clear:List (List Lab)} {now:Int} {rows:List (List Spn)} {j:Jb} (h:staysP now rows j=true):placedP clear now rows j=some (⟨j.l,j.id,j.start,j.nodes⟩,⟨now,j.start+j.long⟩):=by unfold placedP;rw[if_pos h]
theorem placed_none {clear:List (List Lab)} {now:Int} {rows:List (List Spn)} {j:Jb} (h:staysP now rows j=false) (h2:firstL (ownP clear rows j.l) j.need j.long now < 0):placedP clear now rows j=none:=by unfold placedP;rw[if_neg (by rw[h];simp),if_pos h2]
theorem placed_fit {clear:List (List Lab)} {now:Int} {rows:List (List Spn)} {j:Jb} (h:staysP now rows j=false) {t:Int} (ht:firstL (ownP clear rows j.l) j.need j.long now=t) (h2:¬ t < 0):placedP clear now rows j=some (⟨j.l,j.id,t,fitNeed (ownP clear rows j.l) j.need ⟨t,t+j.long⟩⟩,⟨t,t+j.long⟩):=by unfold placedP;rw[if_neg (by rw[h];simp),ht,if_neg h2]
theorem put_fact {rows:List (List Spn)} {x:Spn} {n:Int} {ns:List Int} (hk:Rok rows) (hx:spnOk x=true) (hg:GoodN rows x (n :: ns)) {q:Nat} (hq:n=q) (hql:q < rows.length) :
  put1 x rows n=rows.set q (putL rows[q] x)∧(rows[q].length < 20→putL rows[q] x=insL rows[q] (posS rows[q] x.f) x)∧(¬ rows[q].length < 20→putL rows[q] x=rows[q])∧spnsOk rows[q]=true:=by
 obtain⟨h1,h2,h3⟩:=hg.at_ n (List.mem_cons_self ..)
 subst hq
 have hr:spnsOk rows[q]=true:=hk _ (List.getElem_mem hql)
 have hf:freeL rows[q] x=true:=by unfold freeAt at h3;simpa [hql] using h3
 have hl:=spnsOk_len hr
 refine⟨by unfold put1;simp[hql],fun h=>putL_ins (by omega) (by rw[hr,hx,hf];rfl) h rfl,fun h=>putL_same (by omega) (by rw[decide_eq_false h,Bool.and_false]),hr⟩
end Go.Proofs.YtbmbanelodabgaaGreatDoor
