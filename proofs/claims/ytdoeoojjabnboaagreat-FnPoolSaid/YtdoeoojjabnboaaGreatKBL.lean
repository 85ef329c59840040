/- The jobs that a label sees, in their order. -/
import Derived.Test.YtdoeoojjabnboaaGreatKVD
import Derived.Test.YtdoeoojjabnboaaGreatKDR3
import Derived.Test.YtdoeoojjabnboaaGreatKZZ3
import Derived.Test.YtdoeoojjabnboaaGreatKRRC
set_option maxRecDepth 100000
set_option linter.unusedVariables false
namespace Go.Proofs.YtdoeoojjabnboaaGreat
open Go.RowKit Go.Fin1
theorem foldJ_len:∀ (l acc:List Jb),(l.foldl insJ acc).length=acc.length+l.length
 | [],acc=>by simp
 | j :: l,acc=>by rw[List.foldl_cons,foldJ_len l,insJ_len,List.length_cons];omega
theorem sortedJ_len (l:List Jb):(sortedJ l).length=l.length:=by unfold sortedJ;rw[foldJ_len];simp
set_option maxHeartbeats 800000 in
theorem seen1_any (u:Value) (j:Jb) (x:Lab) (b:Nat) (w:World) (hj:eJob w u j) (h0:w.cell? ⟨b,0,none⟩=some (.int .i64 x.lv)) (h1:w.cell? ⟨b,1,none⟩=some (.int .i64 x.st)) :
  Calls Tryz.prog 118 #[u,.pointer (some ⟨b,0,none⟩)] w fun e w'=>e=.returned (.bool (!blw j.l x))∧Ext w w':=by
 obtain⟨a,cp,rfl,hok,hs⟩:=hj
 have ho:=World.old_of_cell h0
 have HK:=tH hok
 clear hs hok
 go_enter Tryz.func118,Tryz.ntmps118
 unfold Jb.val
 go_wp2_with fail
 refine(implbelow_any _ _ _ _ _ HK.out.1.2).mono ?_
 rintro e _ ⟨rfl,X,rfl⟩
 go_wp2
 go_ret
 exact⟨rfl,xE⟩
set_option maxHeartbeats 1600000 in
theorem seen_any (l:List Jb) (ca:Option Addr) (cn cc:Nat) (ja:Addr) (jc:Nat) (now:Int) (x:Lab) (w:World) (h:SlR w 9 rJob (.slice (some ja) l.length jc) l) (hl:l.length≤1000) (hn:l.Pairwise NeJ) :
  Calls Tryz.prog 66 #[.agg #[.slice ca cn cc,.slice (some ja) l.length jc,(.int .i64 now)],.agg #[(.int .i64 x.lv),(.int .i64 x.st)]] w fun e w'=>∃ g k cp rs,e=.returned (.slice (some ⟨g,0,none⟩) k cp)∧Ext w w'∧Row w.heap.size w' 48 9 RJ.cells (.slice (some ⟨g,0,none⟩) k cp) rs∧rs.map Prod.fst=(sortedJ l).filter (fun j=>blw j.l x)∧∀ r∈rs,r.1.ok∧SlR w' 1 rInt (RJ.nv r) r.1.nodes:=by
 have HS:=tH h
 have HN:=tH hn
 clear h hn
 have hh:=hmf
 go_enter Tryz.func66,Tryz.ntmps66
 go_wp2_with fail
 refine(inOrder_any _ l _ (HS.out.ext rJob_stable xE) (by omega) HN.out ⟨_,_,_,rfl⟩).mono ?_
 rintro e _ ⟨g,cp,rs,rfl,⟨X,rfl⟩,hR,hm,hk⟩
 have HR:=tH hR
 have HM:=tH hm
 have HK:=tH hk
 have hrl:rs.length≤1048576:=by
  have h1:rs.length=(sortedJ l).length:=by rw[← hm];simp
  have h2:(sortedJ l).length=l.length:=sortedJ_len l
  omega
 clear hR hm hk
 go_wp2_with fail
 have hgb:=(HR.out.blk g (by simp[blkL])).1
 have hc0:((w.alloc (.cells #[.slice ca cn cc,.slice (some ja) l.length jc,(.int .i64 now)] 26)).alloc (.cells #[(.int .i64 x.lv),(.int .i64 x.st)] 28)).cell? ⟨w.heap.size+1,0,none⟩=some (.int .i64 x.lv):=by simp
 have hc1:((w.alloc (.cells #[.slice ca cn cc,.slice (some ja) l.length jc,(.int .i64 now)] 26)).alloc (.cells #[(.int .i64 x.lv),(.int .i64 x.st)] 28)).cell? ⟨w.heap.size+1,1,none⟩=some (.int .i64 x.st):=by simp
 refine(delJob_any _ g cp rs ((w.alloc (.cells #[.slice ca cn cc,.slice (some ja) l.length jc,(.int .i64 now)] 26)).alloc (.cells #[(.int .i64 x.lv),(.int .i64 x.st)] 28)) _ 118 #[.pointer (some ⟨w.heap.size+1,0,none⟩)] (fun j=>!blw j.l x) HR.out xE hgb hrl HK.out (fun _ _=>rfl) (fun W u j hx hu=>seen1_any u j x _ W hu (hx.cell hc0) (hx.cell hc1))).mono ?_
 rintro e w3 ⟨k,rfl,hc,hR3⟩
 have HX:=tH (hc.ext (show Ext w _ from xE) (by simp at hgb ⊢;omega))
 have HX2:=tH (hc.ext (show Ext ((w.alloc (.cells #[.slice ca cn cc,.slice (some ja) l.length jc,(.int .i64 now)] 26)).alloc (.cells #[(.int .i64 x.lv),(.int .i64 x.st)] 28)) _ from xE) (by simpa using hgb))
 have HR3:=tH (hR3.mono (show w.heap.size≤_ by simp;omega))
 clear hc hR3 hgb hc0 hc1 HR
 go_wp2
 go_ret
 refine⟨g,k,cp,_,rfl,HX.out,HR3.out,?_,fun r hr=>?_⟩
 ·rw[← HM.out,List.filter_map]
  congr 1
  simp[Function.comp_def]
 ·obtain⟨h1,h2⟩:=HK.out r (List.mem_filter.1 hr).1
  exact⟨h1,h2.ext rInt_stable HX2.out⟩
end Go.Proofs.YtdoeoojjabnboaaGreat
set_option maxRecDepth 100000
set_option linter.unusedVariables false
namespace Go.Proofs.YtdoeoojjabnboaaGreat
open Go.RowKit Go.Fin1
theorem ba_nil (b:ByteArray):(ByteArray.mk #[])++b=b:=by ext1;simp[ByteArray.data_append]
theorem ba_nil' (b:ByteArray):b++(ByteArray.mk #[])=b:=by ext1;simp[ByteArray.data_append]
theorem numsS_app (a:List Int):∀ b:List Int,numsS (a++b)=numsS a++numsS b:=fun b=>by
 have h:∀ (b:List Int) (t:ByteArray),b.foldl (fun t n=>t++putNum n) t=t++b.foldl (fun t n=>t++putNum n) ⟨#[]⟩:=by
  intro b
  induction b with
  | nil=>intro t;exact(ba_nil' t).symm
  | cons x b ih=>intro t;rw[List.foldl_cons,List.foldl_cons,ih,ih (_++putNum x),ba_nil,ByteArray.append_assoc]
 unfold numsS
 rw[List.foldl_append,h]
theorem numsS_le (l:List Int):(numsS l).size≤10*l.length:=by
 have:=numsS_size l l.length (Nat.le_refl _)
 rwa [List.take_length] at this
def headJ (j:Jb):List Int:=[j.l.lv,j.l.st,j.id,j.need,j.long,j.prio,j.state,j.start,(j.nodes.length:Int)]
def viewJ (j:Jb):List Int:=headJ j++j.nodes
@[irreducible] def viewL (now:Int) (l:List Jb):ByteArray:=numsS (now :: l.flatMap viewJ)
theorem viewL_nil (now:Int):viewL now []=putNum now:=by
 unfold viewL numsS
 simp[ba_nil]
theorem viewL_snoc (now:Int) (l:List Jb) (j:Jb):viewL now (l++[j])=viewL now l++numsS (headJ j)++numsS j.nodes:=by
 unfold viewL
 rw[List.flatMap_append,← List.cons_append,numsS_app,ByteArray.append_assoc]
 congr 1
 simp[viewJ,numsS_app]
theorem viewL_take (now:Int) {l:List Jb} {k:Nat} (h:k < l.length):viewL now (l.take (k+1))=viewL now (l.take k)++numsS (headJ l[k])++numsS l[k].nodes:=by
 rw[List.take_succ_eq_append_getElem h,viewL_snoc]
theorem viewL_size (now:Int):∀ (l:List Jb),(∀ j∈l,j.nodes.length≤6)→(viewL now l).size≤10+150*l.length:=by
 intro l h
 have h2:(l.flatMap viewJ).length≤15*l.length:=by
  clear now
  induction l with
  | nil=>simp
  | cons j l ih =>
   rw[List.flatMap_cons,List.length_append,List.length_cons]
   have:=ih (fun x hx=>h x (List.mem_cons_of_mem _ hx))
   have:=h j (List.mem_cons_self ..)
   have:(viewJ j).length=9+j.nodes.length:=by simp[viewJ,headJ];omega
   omega
 unfold viewL
 refine Nat.le_trans (numsS_le _) ?_
 rw[List.length_cons]
 omega
@[irreducible] def seesL (l:List Jb) (x:Lab):List Jb:=(sortedJ l).filter (fun j=>blw j.l x)
@[irreducible] def viewS (p:Pl) (x:Lab):ByteArray:=if (poolR p&&labR x)=true then viewL p.now (seesL p.jobs x) else ⟨#[]⟩
theorem sl_nine (w:World) (b:Nat) (hb:b=w.heap.size) (j:Jb) (hj:j.ok) (hl:j.nodes.length≤1048576) :
  SlR (w.alloc (.cells #[(.int .i64 j.l.lv),(.int .i64 j.l.st),(.int .i64 j.id),(.int .i64 j.need),(.int .i64 j.long),(.int .i64 j.prio),(.int .i64 j.state),(.int .i64 j.start),(.int .i64 (j.nodes.length:Int))] 2)) 1 rInt (.slice (some ⟨b,0,none⟩) 9 9) (headJ j):=by
 subst hb
 obtain⟨⟨h1,h2⟩,h3,h4,h5,h6,h7,h8⟩:=hj
 have h9:I64 (j.nodes.length:Int):=⟨by omega,by omega⟩
 refine⟨_,9,rfl,Nat.le_refl 9,by decide,fun i hi=>?_⟩
 have hi':i < 9:=hi
 refine⟨w.heap.size,0,[(.int .i64 (headJ j)[i])],rfl,rfl,fun q u hu=>?_,rfl,?_⟩
 ·cases q with
  | succ q=>simp at hu
  | zero =>
   simp only[List.getElem?_cons_zero,Option.some.injEq] at hu
   subst hu
   have:i=0∨i=1∨i=2∨i=3∨i=4∨i=5∨i=6∨i=7∨i=8:=by omega
   rcases this with rfl | rfl | rfl | rfl | rfl | rfl | rfl | rfl | rfl<;>simp[go_sem,headJ]
 ·have:i=0∨i=1∨i=2∨i=3∨i=4∨i=5∨i=6∨i=7∨i=8:=by omega
  rcases this with rfl | rfl | rfl | rfl | rfl | rfl | rfl | rfl | rfl<;>assumption
theorem seesL_mem {l:List Jb} {x:Lab} (hn:l.Pairwise NeJ) {j:Jb} (h:j∈seesL l x):j∈l:=by
 unfold seesL at h
 have:=(List.mem_filter.1 h).1
 unfold sortedJ at this
 have h2:=((sortedJ_all (l:=l) (acc:=[]) List.Pairwise.nil hn (fun _ h=>by cases h)).2 j).1 this
 simpa using h2
theorem seesL_len (l:List Jb) (x:Lab):(seesL l x).length≤l.length:=by
 unfold seesL
 rw[← sortedJ_len l]
 exact List.length_filter_le _ _
theorem slr_map {α β:Type} {w:World} {k:Nat} {r:World→List Value→α→Prop} {r':World→List Value→β→Prop} {v:Value} {xs:List α} (f:α→β) (h:SlR w k r v xs) (hr:∀ cs x,x∈xs→r w cs x→r' w cs (f x)):SlR w k r' v (xs.map f):=by
 obtain⟨a,cap,rfl,h1,h2,h3⟩:=h
 refine⟨a,cap,by rw[List.length_map],by rwa [List.length_map],h2,fun i hi=>?_⟩
 have hi':i < xs.length:=by simpa using hi
 obtain⟨b,off,cs,q1,q2,q3,q4⟩:=h3 i hi'
 exact⟨b,off,cs,q1,q2,q3,by rw[List.getElem_map];exact hr _ _ (List.getElem_mem hi') q4⟩
theorem row_jobs {B:Nat} {w:World} {v:Value} {rs:List RJ} (h:Row B w 48 9 RJ.cells v rs) (hr:∀ r∈rs,r.1.ok∧SlR w 1 rInt (RJ.nv r) r.1.nodes):SlR w 9 rJob v (rs.map Prod.fst):=by
 obtain⟨fp,hO⟩:=Row.own (f:=RJ.cells) (K:=9) (fun _=>rfl) h
 refine slr_map _ (oFl_reads (f:=RJ.cells) (fun _=>rfl) hO.1) fun cs r hm hc=>?_
 obtain⟨q1,q2⟩:=hr r hm
 exact⟨RJ.nv r,hc,q1,q2⟩
theorem viewL_sizeN (now:Int) {L:List Jb} (h:∀ j∈L,j.nodes.length≤6) (hl:L.length≤96) (n:Nat):(viewL now (L.take n)).size≤14410:=by
 refine Nat.le_trans (viewL_size now _ fun j hj=>h j (List.mem_of_mem_take hj)) ?_
 rw[List.length_take]
 omega
theorem headJ_size (j:Jb):(numsS (headJ j)).size≤90:=numsS_le (headJ j)
end Go.Proofs.YtdoeoojjabnboaaGreat
set_option maxRecDepth 100000
set_option linter.unusedVariables false
namespace Go.Proofs.YtdoeoojjabnboaaGreat
open Go.RowKit Go.Fin1
theorem sortedJ_pw {l:List Jb} (hn:l.Pairwise NeJ):(sortedJ l).Pairwise (fun a b=>cmpJ a b < 0):=(sortedJ_all (l:=l) (acc:=[]) List.Pairwise.nil hn (fun x hx=>by cases hx)).1
theorem sortedJ_in {l:List Jb} {j:Jb}:j∈sortedJ l↔j∈l:=(sortedJ_perm l).mem_iff
theorem uniq_of {l m:List Jb} (hn:l.Pairwise NeJ) (hm:m.Pairwise (fun a b=>cmpJ a b < 0)) (hx:∀ x,x∈m↔x∈l):m=sortedJ l :=
 sortedJ_uniq hn (fun i j hi hj hij=>List.pairwise_iff_getElem.1 hm i j hi hj hij) hx
theorem sorted_filter {l:List Jb} (hn:l.Pairwise NeJ) (f:Jb→Bool):(sortedJ l).filter f=sortedJ (l.filter f) :=
 uniq_of (hn.sublist List.filter_sublist) ((sortedJ_pw hn).sublist List.filter_sublist) (fun x=>by rw[List.mem_filter,List.mem_filter,sortedJ_in])
theorem subR_yes' {p:Pl} {x:Lab} {n l q:Int} (h:(subR p x n l q).2.2=0):poolR p=true∧subR p x n l q=(subP p x n l q,(cntL p.jobs x:Int)+1,0):=by
 have h1:=(subR_right h).1
 refine⟨h1,?_⟩
 unfold subR at h ⊢
 split
 ·rename_i e;rw[if_pos e] at h;cases h
 ·rename_i e
  rw[if_neg e] at h
  split
  ·rename_i e2;rw[if_pos e2] at h;cases h
  ·rename_i e2
   rw[if_neg e2] at h
   split
   ·rename_i e3;rw[if_pos e3] at h;cases h
   ·rfl
theorem putNum_pos (n:Int):0 < (putNum n).size:=by
 unfold putNum putNumL
 rw[strOfNums_size]
 show 0 < (if zig n < 128 then [zig n] else (zig n % 128+128) :: putU 8 (zig n / 128)).length
 split<;>simp
end Go.Proofs.YtdoeoojjabnboaaGreat
