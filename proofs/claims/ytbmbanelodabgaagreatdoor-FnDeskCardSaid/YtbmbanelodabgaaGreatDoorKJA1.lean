/- Jobs: how one reads as plain words; the walks of JobRight. -/
import Derived.Test.YtbmbanelodabgaaGreatDoorKPA1
import Derived.Test.YtbmbanelodabgaaGreatDoorKBA
import Derived.Test.YtbmbanelodabgaaGreatDoorKBG
import Derived.Deep.Cut
set_option maxRecDepth 100000
namespace Go.Proofs.YtbmbanelodabgaaGreatDoor
open Go.ChangeShapes Go.WideShapes Go.ChangeAt Go.RowKit Go.Fin1
structure Jb where
 l:Lab
 id:Int
 need:Int
 long:Int
 prio:Int
 state:Int
 start:Int
 nodes:List Int
def Jb.ok (j:Jb):Prop:=j.l.ok∧I64 j.id∧I64 j.need∧I64 j.long∧I64 j.prio∧I64 j.state∧I64 j.start
def Jb.cells (j:Jb) (v:Value):List Value:=[(.int .i64 j.l.lv),(.int .i64 j.l.st),(.int .i64 j.id),(.int .i64 j.need),(.int .i64 j.long),(.int .i64 j.prio),(.int .i64 j.state),(.int .i64 j.start),v]
def Jb.val (j:Jb) (v:Value):Value:=.agg #[(.int .i64 j.l.lv),(.int .i64 j.l.st),(.int .i64 j.id),(.int .i64 j.need),(.int .i64 j.long),(.int .i64 j.prio),(.int .i64 j.state),(.int .i64 j.start),v]
def rJob:World→List Value→Jb→Prop:=fun w cs j=>∃ v,cs=j.cells v∧j.ok∧SlR w 1 rInt v j.nodes
theorem rJob_stable:Stable rJob:=fun _ _ _ _ hx ⟨v,hv,ho,h⟩=>⟨v,hv,ho,h.ext rInt_stable hx⟩
def nodeAt (l:List Int) (i:Nat):Bool:=isIn (l.getD i 0) 0 5&&(i == 0 || decide (l.getD (i-1) 0 < l.getD i 0))
@[irreducible] def nodesUp (l:List Int):Bool:=(List.range l.length).all (nodeAt l)
theorem nodesUp_no {l:List Int} {i:Nat} (hi:i < l.length) (h:nodeAt l i=false):nodesUp l=false:=by
 unfold nodesUp
 rw[List.all_eq_false];exact⟨i,List.mem_range.2 hi,by simp[h]⟩
theorem nodesUp_yes {l:List Int} (h:∀ i,i < l.length→nodeAt l i=true):nodesUp l=true:=by
 unfold nodesUp
 rw[List.all_eq_true];exact fun i hi=>h i (List.mem_range.1 hi)
@[irreducible] def jobR (j:Jb):Bool:=labR j.l&&isIn j.id 1 3&&isIn j.need 1 6&&isIn j.long 1 20&&isIn j.prio 0 9&&isIn j.state 1 4 &&
 (if j.state=2 then isIn j.start 0 1000000&&(decide ((j.nodes.length:Int)=j.need)&&nodesUp j.nodes) else decide (j.start=0)&&decide (j.nodes.length=0))
set_option maxHeartbeats 1600000 in
theorem nodesRight_any (v:Value) (l:List Int) (need:Int) (w:World) (h:SlR w 1 rInt v l) :
  Calls Tryz.prog 116 #[v,(.int .i64 need)] w fun e w'=>e=.returned (.bool (nodesUp l&&decide ((l.length:Int)=need)))∧Ext w w':=by
 obtain⟨a,cap,rfl⟩:=h.len
 obtain⟨_,hlc,hcm⟩:=slr_len h
 have hlm:l.length≤9223372036854775807:=by unfold maxLen at hcm;omega
 clear hcm hlc
 have HS:=tH h
 clear h
 go_enter Tryz.func116,Tryz.ntmps116
 go_wp2
 go_loopw [9,5,6] (fun i _ _ wr=>∃ k:Nat,k≤l.length∧i=.int .i64 k∧Ext w wr∧Hid (∀ j,j < k→nodeAt l j=true)) (fun i _ _ _=>l.length-(intOf i).toNat)
 case atStart =>
  exact⟨0,Nat.zero_le _,rfl,xE,tH (fun j h=>absurd h (Nat.not_lt_zero _))⟩
 case round =>
  obtain⟨k,hk,rfl,⟨X,rfl⟩,HH⟩:=hrel
  by_cases hlt:k < l.length
  ·obtain⟨b,off,rfl⟩:=slr_some HS.out hlt
   obtain⟨ho,hok,h0⟩:=int_at HS.out hlt
   skip
   have hd:l.getD k 0=l[k]:=by simp[hlt]
   have Hd:=tH hd
   clear hd
   cases hs:isIn l[k] 0 5
   ·have H:=tH (nodesUp_no hlt (show nodeAt l k=false by unfold nodeAt;rw[Hd.out,hs];rfl))
    go_wp2_with ((go_at_call 114;refine(within_any _ _ _ _).mono ?_;rintro e _ ⟨rfl,rfl⟩))
    go_ret
    exact⟨ret_bool (by rw[H.out];try rfl),xE⟩
   ·by_cases hk0:0 < k
    ·have hkb:decide ((0:Int) < (k:Int))=true:=decide_eq_true (by omega)
     obtain⟨_,_,h3⟩:=int_at HS.out (show k-1 < l.length by omega)
     have hd':l.getD (k-1) 0=l[k-1]:=by simp[show k-1 < l.length by omega]
     have Hd':=tH hd'
     clear hd'
     cases hc:decide (l[k]≤l[k-1])
     ·have H:Hid (nodeAt l k=true):=tH (by
       unfold nodeAt;rw[Hd.out,Hd'.out,hs]
       simp at hc;simp[hc])
      go_wp2_with ((go_at_call 114;refine(within_any _ _ _ _).mono ?_;rintro e _ ⟨rfl,rfl⟩))
      exact⟨⟨k+1,by omega,by go_num,xE,tH (fun j hj=>by
       by_cases e:j < k
       ·exact HH.out j e
       ·obtain rfl:j=k:=by omega
        exact H.out)⟩,by simp[intOf];omega⟩
     ·have H:Hid (nodeAt l k=false):=tH (by
       unfold nodeAt;rw[Hd.out,Hd'.out,hs]
       simp at hc;simp;omega)
      go_wp2_with ((go_at_call 114;refine(within_any _ _ _ _).mono ?_;rintro e _ ⟨rfl,rfl⟩))
      go_ret
      exact⟨ret_bool (by rw[nodesUp_no hlt H.out];try rfl),xE⟩
    ·obtain rfl:k=0:=by omega
     have H:Hid (nodeAt l 0=true):=tH (by
      unfold nodeAt;rw[Hd.out,hs];rfl)
     clear hk0
     try simp only[Nat.add_zero] at h0
     go_wp2_with ((go_at_call 114;refine(within_any _ _ _ _).mono ?_;rintro e _ ⟨rfl,rfl⟩))
     exact⟨⟨1,by omega,by go_num,xE,tH (fun j hj=>by
      obtain rfl:j=0:=by omega
      exact H.out)⟩,by simp[intOf];omega⟩
  ·go_wp2
   go_ret
   exact⟨ret_bool (by rw[nodesUp_yes (fun i hi=>HH.out i (by omega))];(rw[Bool.eq_iff_iff];simp)),xE⟩
set_option maxHeartbeats 1600000 in
theorem l04Nodes_any (v:Value) (l:List Int) (w:World) (h:SlR w 1 rInt v l) :
  Calls Tryz.prog 91 #[v] w fun e w'=>e=.returned (.bool (nodesUp l))∧Ext w w':=by
 obtain⟨a,cap,rfl⟩:=h.len
 obtain⟨_,hlc,hcm⟩:=slr_len h
 have hlm:l.length≤9223372036854775807:=by unfold maxLen at hcm;omega
 clear hcm hlc
 have HS:=tH h
 clear h
 go_enter Tryz.func91,Tryz.ntmps91
 go_wp2
 go_loopw [3] (fun i wr=>∃ k:Nat,k≤l.length∧i=.int .i64 k∧Ext w wr∧Hid (∀ j,j < k→nodeAt l j=true)) (fun i _=>l.length-(intOf i).toNat)
 case atStart =>
  exact⟨0,Nat.zero_le _,rfl,xE,tH (fun j h=>absurd h (Nat.not_lt_zero _))⟩
 case round =>
  obtain⟨k,hk,rfl,⟨X,rfl⟩,HH⟩:=hrel
  by_cases hlt:k < l.length
  ·obtain⟨b,off,rfl⟩:=slr_some HS.out hlt
   obtain⟨ho,hok,h0⟩:=int_at HS.out hlt
   go_upto_region 4 with fail
   have hd:l.getD k 0=l[k]:=by simp[hlt]
   have Hd:=tH hd
   clear hd
   cases hs:isIn l[k] 0 5
   ·have H:=tH (nodesUp_no hlt (show nodeAt l k=false by unfold nodeAt;rw[Hd.out,hs];rfl))
    ((refine wp_region_x 22 (by kernel_rfl) (by kernel_rfl) (by kernel_rfl) ?_;(iterate 22 (apply XReg.step;(case h=>(intro w' hw';obtain⟨X',rfl⟩:=hw';go_wp2_with ((go_at_call 89;refine(l02Is_any _ _ _ _).mono ?_;rintro e _ ⟨rfl,rfl⟩));exact⟨rfl,xE⟩));(case hv=>kernel_rfl)));refine XReg.doneN (fun X=>?_));go_wp2)
    go_ret
    exact⟨ret_bool (by rw[H.out];try rfl),xE⟩
   ·by_cases hk0:0 < k
    ·have hkb:decide ((0:Int) < (k:Int))=true:=decide_eq_true (by omega)
     obtain⟨_,_,h3⟩:=int_at HS.out (show k-1 < l.length by omega)
     have hd':l.getD (k-1) 0=l[k-1]:=by simp[show k-1 < l.length by omega]
     have Hd':=tH hd'
     clear hd'
     cases hc:decide (l[k]≤l[k-1])
     ·have H:Hid (nodeAt l k=true):=tH (by
       unfold nodeAt;rw[Hd.out,Hd'.out,hs]
       simp at hc;simp[hc])
      ((refine wp_region_x 22 (by kernel_rfl) (by kernel_rfl) (by kernel_rfl) ?_;(iterate 22 (apply XReg.step;(case h=>(intro w' hw';obtain⟨X',rfl⟩:=hw';go_wp2_with ((go_at_call 89;refine(l02Is_any _ _ _ _).mono ?_;rintro e _ ⟨rfl,rfl⟩));exact⟨rfl,xE⟩));(case hv=>kernel_rfl)));refine XReg.doneN (fun X=>?_));go_wp2)
      exact⟨⟨k+1,by omega,by go_num,xE,tH (fun j hj=>by
       by_cases e:j < k
       ·exact HH.out j e
       ·obtain rfl:j=k:=by omega
        exact H.out)⟩,by simp[intOf];omega⟩
     ·have H:Hid (nodeAt l k=false):=tH (by
       unfold nodeAt;rw[Hd.out,Hd'.out,hs]
       simp at hc;simp;omega)
      ((refine wp_region_x 22 (by kernel_rfl) (by kernel_rfl) (by kernel_rfl) ?_;(iterate 22 (apply XReg.step;(case h=>(intro w' hw';obtain⟨X',rfl⟩:=hw';go_wp2_with ((go_at_call 89;refine(l02Is_any _ _ _ _).mono ?_;rintro e _ ⟨rfl,rfl⟩));exact⟨rfl,xE⟩));(case hv=>kernel_rfl)));refine XReg.doneN (fun X=>?_));go_wp2)
      go_ret
      exact⟨ret_bool (by rw[nodesUp_no hlt H.out];try rfl),xE⟩
    ·obtain rfl:k=0:=by omega
     have H:Hid (nodeAt l 0=true):=tH (by
      unfold nodeAt;rw[Hd.out,hs];rfl)
     clear hk0
     try simp only[Nat.add_zero] at h0
     ((refine wp_region_x 22 (by kernel_rfl) (by kernel_rfl) (by kernel_rfl) ?_;(iterate 22 (apply XReg.step;(case h=>(intro w' hw';obtain⟨X',rfl⟩:=hw';go_wp2_with ((go_at_call 89;refine(l02Is_any _ _ _ _).mono ?_;rintro e _ ⟨rfl,rfl⟩));exact⟨rfl,xE⟩));(case hv=>kernel_rfl)));refine XReg.doneN (fun X=>?_));go_wp2)
     exact⟨⟨1,by omega,by go_num,xE,tH (fun j hj=>by
      obtain rfl:j=0:=by omega
      exact H.out)⟩,by simp[intOf];omega⟩
  ·go_wp2
   go_ret
   exact⟨ret_bool (by rw[nodesUp_yes (fun i hi=>HH.out i (by omega))];),xE⟩
set_option maxHeartbeats 1600000 in
theorem implJobRight_any (j:Jb) (nv:Value) (w:World) (_:j.ok) (h:SlR w 1 rInt nv j.nodes) :
  Calls Tryz.prog 77 #[j.val nv] w fun e w'=>e=.returned (.bool (jobR j))∧Ext w w':=by
 obtain⟨⟨lv,st⟩,id,need,long,prio,state,start,nodes⟩:=j
 obtain⟨a,cap,rfl⟩:=h.len
 have HS:=tH h
 clear h
 unfold Jb.val
 go_enter Tryz.func77,Tryz.ntmps77
 go_wp2_with (first | (go_at_call 104;refine(implLabelRight_any _ _ _).mono ?_;rintro e _ ⟨rfl,X,rfl⟩) | (go_at_call 114;refine(within_any _ _ _ _).mono ?_;rintro e _ ⟨rfl,rfl⟩) | (go_at_call 115;refine(isTime_any _ _).mono ?_;rintro e _ ⟨rfl,rfl⟩) | (go_at_call 116;refine(nodesRight_any _ nodes _ _ (HS.out.ext rInt_stable xE)).mono ?_;rintro e _ ⟨rfl,Y,rfl⟩))
 all_goals go_ret
 all_goals exact⟨ret_bool (by unfold jobR;simp_all;try (first | exact Bool.and_comm _ _ | (rw[Bool.eq_iff_iff];simp))),xE⟩
set_option maxHeartbeats 1600000 in
theorem specJobRight_any (j:Jb) (nv:Value) (w:World) (_:j.ok) (h:SlR w 1 rInt nv j.nodes) :
  Calls Tryz.prog 59 #[j.val nv] w fun e w'=>e=.returned (.bool (jobR j))∧Ext w w':=by
 obtain⟨⟨lv,st⟩,id,need,long,prio,state,start,nodes⟩:=j
 obtain⟨a,cap,rfl⟩:=h.len
 have HS:=tH h
 clear h
 unfold Jb.val
 go_enter Tryz.func59,Tryz.ntmps59
 go_wp2_with (first | (go_at_call 86;refine(specLabelRight_any _ _ _).mono ?_;rintro e _ ⟨rfl,X,rfl⟩) | (go_at_call 89;refine(l02Is_any _ _ _ _).mono ?_;rintro e _ ⟨rfl,rfl⟩) | (go_at_call 90;refine(l02Time_any _ _).mono ?_;rintro e _ ⟨rfl,rfl⟩) | (go_at_call 91;refine(l04Nodes_any _ nodes _ (HS.out.ext rInt_stable xE)).mono ?_;rintro e _ ⟨rfl,Y,rfl⟩))
 all_goals go_ret
 all_goals exact⟨ret_bool (by unfold jobR;simp_all;try (first | exact Bool.and_comm _ _ | (rw[Bool.eq_iff_iff];simp))),xE⟩
end Go.Proofs.YtbmbanelodabgaaGreatDoor
set_option maxRecDepth 100000
set_option linter.unusedVariables false
namespace Go.Proofs.YtbmbanelodabgaaGreatDoor
open Go.RowKit Go.Fin1
theorem info_Int:(Tryz.prog.info? 2).map (fun i=>(i.zero,i.size,i.bytes))=some (some (.int .i64 0),1,8):=by kernel_rfl
theorem el_Int:ElemInfo Tryz.prog 48 2 1 8:=by
 obtain⟨i,hi,hz,hs,hb⟩:=info_parts info_Int
 exact⟨Tryz.underlying48,⟨i,_,hi,hz,hs,hb,rfl⟩,by decide⟩
def intCell (n:Int):List Value:=[(.int .i64 n)]
abbrev oIntS:Ow (List Int):=oSl 2 1 (oFlat intCell)
theorem oIntS_local:Local oIntS:=oSl_local (oFlat_local _)
theorem oIntS_held:Held oIntS:=oSl_held (oFlat_held _)
theorem oIntS_r {w:World} {fp:List Nat} {v:Value} {l:List Int} (h:oIntS w fp [v] l) (hl:∀ x∈l,I64 x):SlR w 1 rInt v l:=by
 obtain⟨v',hv,hs⟩:=oSl_reads (r:=fun _ cs x=>cs=[(.int .i64 x)]) (k:=1) (fun _ _ _ _ ⟨_,hc⟩=>⟨by rw[hc];rfl,hc⟩) h
 obtain rfl:v=v':=by simpa using hv
 exact slr_with hs fun cs x hm hc=>⟨hc,hl x hm⟩
def oJob:Ow Jb:=fun w fp cs j=>∃ v,cs=j.cells v∧oIntS w fp [v] j.nodes
theorem oJob_local:Local oJob:=fun w w' fp cs j hb ⟨v,hv,h⟩=>⟨v,hv,oIntS_local w w' fp _ _ hb h⟩
theorem oJob_held:Held oJob:=fun w fp cs j ⟨v,hv,h⟩=>oIntS_held w fp _ _ h
def Jb.fit (j:Jb):Prop:=j.ok∧∀ x∈j.nodes,I64 x
end Go.Proofs.YtbmbanelodabgaaGreatDoor
set_option maxRecDepth 100000
set_option linter.unusedVariables false
namespace Go.Proofs.YtbmbanelodabgaaGreatDoor
open Go.RowKit Go.Fin1
theorem slr_ints {w:World} {v:Value} {l:List Int} (h:SlR w 1 rInt v l):∀ x∈l,I64 x:=fun x hx=>by obtain⟨_,hr⟩:=slr_all h x hx;exact hr.2
theorem Jb.val_inj {j:Jb} {a b:Value} (h:j.val a=j.val b):a=b:=by simpa [Jb.val] using h
end Go.Proofs.YtbmbanelodabgaaGreatDoor
