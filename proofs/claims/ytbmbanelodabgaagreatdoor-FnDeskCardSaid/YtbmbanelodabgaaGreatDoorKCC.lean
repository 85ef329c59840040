/- The order of jobs: the walks of cmp.Compare, cmp.Or, compareLabels, compareJobs, Ahead. -/
import Derived.Test.YtbmbanelodabgaaGreatDoorKJA1
import Derived.Test.YtbmbanelodabgaaGreatDoorKBG
set_option maxRecDepth 100000
set_option linter.unusedVariables false
namespace Go.Proofs.YtbmbanelodabgaaGreatDoor
open Go.RowKit Go.Fin1
@[irreducible] def cmpI (a b:Int):Int:=if a < b then -1 else if b < a then 1 else 0
@[irreducible] def orI:List Int→Int
 | []=>0
 | x :: xs=>if x=0 then orI xs else x
theorem orI_nil:orI []=0:=by unfold orI;rfl
theorem orI_cons (x:Int) (xs:List Int):orI (x :: xs)=if x=0 then orI xs else x:=by rw[orI]
theorem cmpI_bd (a b:Int):-1≤cmpI a b∧cmpI a b≤1:=by unfold cmpI;split<;>(try split)<;>omega
theorem cmpI_lt {a b:Int}:cmpI a b < 0↔a < b:=by unfold cmpI;split<;>(try split)<;>omega
theorem cmpI_eq {a b:Int}:cmpI a b=0↔a=b:=by unfold cmpI;split<;>(try split)<;>omega
@[irreducible] def cmpL (a b:Lab):Int:=orI [cmpI a.lv b.lv,cmpI a.st b.st]
@[irreducible] def cmpJ (a b:Jb):Int:=orI [cmpL a.l b.l,cmpI b.prio a.prio,cmpI a.id b.id]
theorem cmpL_bd (a b:Lab):-1≤cmpL a b∧cmpL a b≤1:=by
 unfold cmpL;rw[orI_cons,orI_cons,orI_nil]
 have h1:=cmpI_bd a.lv b.lv
 have h2:=cmpI_bd a.st b.st
 split<;>(try split)<;>omega
theorem cmpL_lt {a b:Lab}:cmpL a b < 0↔a.lv < b.lv∨(a.lv=b.lv∧a.st < b.st):=by
 unfold cmpL;rw[orI_cons,orI_cons,orI_nil]
 have h1:=@cmpI_lt a.lv b.lv
 have h2:=@cmpI_lt a.st b.st
 have e1:=@cmpI_eq a.lv b.lv
 have e2:=@cmpI_eq a.st b.st
 split<;>(try split)<;>omega
theorem cmpL_eq {a b:Lab}:cmpL a b=0↔a.lv=b.lv∧a.st=b.st:=by
 unfold cmpL;rw[orI_cons,orI_cons,orI_nil]
 have h1:=@cmpI_lt a.lv b.lv
 have h2:=@cmpI_lt a.st b.st
 have e1:=@cmpI_eq a.lv b.lv
 have e2:=@cmpI_eq a.st b.st
 split<;>(try split)<;>omega
@[irreducible] def aheadJ (a b:Jb):Bool:=decide (cmpJ a b < 0)
theorem aheadJ_iff {a b:Jb}:aheadJ a b=true↔a.l.lv < b.l.lv∨(a.l.lv=b.l.lv∧(a.l.st < b.l.st∨(a.l.st=b.l.st∧(b.prio < a.prio∨(b.prio=a.prio∧a.id < b.id))))):=by
 unfold aheadJ cmpJ;rw[orI_cons,orI_cons,orI_cons,orI_nil,decide_eq_true_eq]
 have h1:=@cmpL_lt a.l b.l
 have e1:=@cmpL_eq a.l b.l
 have h2:=@cmpI_lt b.prio a.prio
 have e2:=@cmpI_eq b.prio a.prio
 have h3:=@cmpI_lt a.id b.id
 have e3:=@cmpI_eq a.id b.id
 split<;>(try split)<;>(try split)<;>omega
def kSli (xs:List Int):XReg.Kind:=fun v w=>∃ a c,v=.slice a xs.length c∧SlR w 1 rInt v xs
theorem sl_new (w:World) (t:TypeId) (xs:List Int) (h:∀ x∈xs,I64 x) (hm:xs.length≤maxLen) :
  SlR (w.alloc (.cells (xs.map (Value.int .i64)).toArray t)) 1 rInt (.slice (some ⟨w.heap.size,0,none⟩) xs.length xs.length) xs:=by
 refine⟨_,xs.length,rfl,Nat.le_refl _,hm,fun i hi=>?_⟩
 refine⟨w.heap.size,0,[(.int .i64 xs[i])],rfl,rfl,fun j u hu=>?_,rfl,h _ (List.getElem_mem hi)⟩
 cases j with
 | succ j=>simp at hu
 | zero =>
  simp only[List.getElem?_cons_zero,Option.some.injEq] at hu
  subst hu
  rw[World.cell?_alloc_new]
  simp[hi]
theorem sl_new2 (w:World) (o1 o2:Obj) (X:More) (t:TypeId) (xs:List Int) (h:∀ x∈xs,I64 x) (hm:xs.length≤maxLen) :
  SlR ((((w.alloc o1).alloc o2).plus X).alloc (.cells (xs.map (Value.int .i64)).toArray t)) 1 rInt (.slice (some ⟨w.heap.size+1+1+X.n,0,none⟩) xs.length xs.length) xs:=by
 have:=sl_new (((w.alloc o1).alloc o2).plus X) t xs h hm
 simp only[World.size_plus,World.size_alloc] at this
 exact this
theorem kSli_r {xs:List Int} {v:Value} {w:World} (h:kSli xs v w):SlR w 1 rInt v xs:=by obtain⟨_,_,_,h⟩:=h;exact h
set_option maxHeartbeats 400000 in
theorem isNaN_any (a:Int) (w:World) :
  Calls Tryz.prog 203 #[(.int .i64 a)] w fun e w'=>e=.returned (.bool false)∧w=w':=by
 go_enter Tryz.func203,Tryz.ntmps203
 go_wp2
 go_ret
 exact⟨rfl,rfl⟩
set_option maxHeartbeats 400000 in
theorem cmpI_any (a b:Int) (w:World) :
  Calls Tryz.prog 173 #[(.int .i64 a),(.int .i64 b)] w fun e w'=>e=.returned (.int .i64 (cmpI a b))∧w=w':=by
 go_enter Tryz.func173,Tryz.ntmps173
 go_wp2_with ((go_at_call 203;refine(isNaN_any _ _).mono ?_;rintro e _ ⟨rfl,rfl⟩))
 all_goals go_ret
 all_goals exact⟨ret_int (by unfold cmpI;split<;>(try split)<;>omega),rfl⟩
theorem orI_skip {xs:List Int}:∀ {k:Nat},(∀ j (hj:j < xs.length),j < k→xs[j]=0)→orI xs=orI (xs.drop k):=by
 induction xs with
 | nil=>intro k _;simp
 | cons x xs ih =>
  intro k h
  cases k with
  | zero=>rfl
  | succ k =>
   have h0:x=0:=h 0 (by simp) (by omega)
   rw[orI_cons,if_pos h0,List.drop_succ_cons]
   exact ih fun j hj hjk=>h (j+1) (by simpa using hj) (by omega)
end Go.Proofs.YtbmbanelodabgaaGreatDoor
set_option maxRecDepth 100000
set_option linter.unusedVariables false
namespace Go.Proofs.YtbmbanelodabgaaGreatDoor
open Go.RowKit Go.Fin1
end Go.Proofs.YtbmbanelodabgaaGreatDoor
set_option maxRecDepth 100000
set_option linter.unusedVariables false
namespace Go.Proofs.YtbmbanelodabgaaGreatDoor
open Go.RowKit Go.Fin1
set_option maxHeartbeats 800000 in
theorem l04Ahead_any (a b:Jb) (na nb:Value) (w:World) :
  Calls Tryz.prog 92 #[a.val na,b.val nb] w fun e w'=>e=.returned (.bool (aheadJ a b))∧Ext w w':=by
 have HI:=tH (@aheadJ_iff a b)
 obtain⟨⟨lv,st⟩,id,need,long,prio,state,start,nodes⟩:=a
 obtain⟨⟨lv2,st2⟩,id2,need2,long2,prio2,state2,start2,nodes2⟩:=b
 unfold Jb.val
 generalize aheadJ _ _=G at HI
 go_enter Tryz.func92,Tryz.ntmps92
 go_wp2
 all_goals go_ret
 all_goals exact⟨ret_bool (by have h:=HI.out;rw[Bool.eq_iff_iff,h];simp only[decide_eq_true_eq,bne_eq_false_iff_eq,bne_iff_ne,ne_eq] at *;omega),xE⟩
end Go.Proofs.YtbmbanelodabgaaGreatDoor
set_option maxRecDepth 100000
set_option linter.unusedVariables false
namespace Go.Proofs.YtbmbanelodabgaaGreatDoor
open Go.RowKit Go.Fin1
end Go.Proofs.YtbmbanelodabgaaGreatDoor
