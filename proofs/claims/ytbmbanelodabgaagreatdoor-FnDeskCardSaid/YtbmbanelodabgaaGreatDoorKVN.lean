/- The implementation's desk: the lines of a text. -/
import Derived.Test.YtbmbanelodabgaaGreatDoorKMI2
import Derived.Test.YtbmbanelodabgaaGreatDoorKMS8
import Derived.Test.YtbmbanelodabgaaGreatDoorKVSI
import Derived.Test.YtbmbanelodabgaaGreatDoorKDW
set_option maxRecDepth 100000
set_option linter.unusedVariables false
set_option linter.unusedSimpArgs false
namespace Go.Proofs.YtbmbanelodabgaaGreatDoor
open Go.RowKit Go.Fin1
theorem ext_drewN (w:World) (n:Nat):Ext w (w.drewN n):=Ext.of_below ⟨rfl,rfl,rfl,Nat.le_refl _,fun _ _=>rfl⟩
theorem size_list (l:Bs):(⟨l.toArray⟩:ByteArray).size=l.length:=by show l.toArray.size=_;simp
theorem dl_list (l:Bs):dl (⟨l.toArray⟩:ByteArray)=l:=by show l.toArray.toList=l;simp
theorem cut_le (s:Bs) (c:Bs):(Lib.cut s c).1.length≤s.length:=by
 unfold Lib.cut
 split
 ·rw[List.length_take];omega
 ·exact Nat.le_refl _
theorem cut_any (s:ByteArray) (w:World) (hs:s.size≤100000) (hL:LibW w) :
  Calls Tryz.prog 41 #[.string s,.string ⟨#[10]⟩] w fun e w'=>(∃ (x r:ByteArray) (b:Bool),e=.returned (.tuple #[.string x,.string r,.bool b])∧x.size≤s.size∧((b=true∧splitL 10 (dl s)=dl x :: splitL 10 (dl r)∧r.size < s.size)∨(b=false∧splitL 10 (dl s)=[dl s])))∧Ext w w':=by
 obtain⟨m,hm⟩:=hL.m
 refine(Any.strings_Cut Tryz.dcut s ⟨#[10]⟩ m w (by omega) hm).mono ?_
 rintro e w' ⟨rfl,n,rfl⟩
 have hd:(dl s).length=s.size:=ba_len s
 refine⟨⟨_,_,_,rfl,?_,?_⟩,ext_drewN w n⟩
 ·rw[size_list,← hd];exact cut_le _ _
 ·show (((Lib.cut (dl s) [10]).2.2=true∧splitL 10 (dl s)=dl ⟨(Lib.cut (dl s) [10]).1.toArray⟩ :: splitL 10 (dl ⟨(Lib.cut (dl s) [10]).2.1.toArray⟩)∧(⟨(Lib.cut (dl s) [10]).2.1.toArray⟩:ByteArray).size < s.size)∨((Lib.cut (dl s) [10]).2.2=false∧splitL 10 (dl s)=[dl s]))
  rw[dl_list,dl_list,size_list]
  cases hb:(Lib.cut (dl s) [10]).2.2
  ·exact .inr ⟨rfl,cut_no hb⟩
  ·have h:=cut_yes hb
   have h2:(Lib.cut (dl s) [10]).2.1.length < (dl s).length:=h.2
   exact .inl ⟨rfl,h.1,by rw[← hd];exact h2⟩
theorem sFlat (xs:List ByteArray):xs.flatMap sCell=xs.map Value.string:=by induction xs<;>simp_all [sCell]
theorem hi9S:(Tryz.prog.info? (Tryz.dspl_ren.t 9)).map (fun i=>(i.zero,i.size,i.bytes))=some (some (.string ByteArray.empty),1,16):=by kernel_rfl
theorem split_any (s:ByteArray) (w:World) (hs:s.size≤100000) (hL:LibW w) :
  Calls Tryz.prog 42 #[.string s,.string ⟨#[32]⟩] w fun e w'=>∃ (g:Nat) (xs:List ByteArray),e=.returned (.slice (some ⟨g,0,none⟩) xs.length xs.length)∧Ext w w'∧Row w.heap.size w' 9 1 sCell (.slice (some ⟨g,0,none⟩) xs.length xs.length) xs∧xs.map dl=splitL 32 (dl s):=by
 obtain⟨m,hm⟩:=hL.m
 refine(Any.strings_Split Tryz.dspl hi9S s ⟨#[32]⟩ m w (by omega) hm (by decide)).mono ?_
 rintro e w' ⟨rfl,rfl⟩
 have hle:=Lib.countB_le ⟨#[32]⟩ (by decide) s.size s (Nat.le_refl _)
 have hlen:=Lib.splitB_all ⟨#[32]⟩ (by decide) 0 _ s rfl
 have hd:=Lib.splitB_data ⟨#[32]⟩ 0 (Lib.countB s ⟨#[32]⟩) s
 have hq:(Lib.splitB ⟨#[32]⟩ 0 (Lib.countB s ⟨#[32]⟩) s).map dl=splitL 32 (dl s):=by
  rw[← split_splitL];exact hd
 generalize Lib.splitB ⟨#[32]⟩ 0 (Lib.countB s ⟨#[32]⟩) s=xs at hlen hq
 rw[← hlen]
 refine⟨w.heap.size,xs,rfl,(Ext.refl w).alloc _,⟨by rw[sFlat,List.length_map,Nat.mul_one],.inr ⟨w.heap.size,xs.length,_,rfl,Nat.le_refl _,heap_alloc_new w _,Nat.le_refl _,?_,?_,?_⟩⟩,hq⟩
 ·unfold maxLen;omega
 ·simp
 ·rw[sFlat,Nat.mul_one,List.take_of_length_le (by simp)]
theorem badL_ok:∀ (l:List Bs) (k:Nat),k≤40→badL k l < 0→(∀ s∈l.dropLast,okW (splitL 32 s)=true)∧l.dropLast.length+k≤40
 | [],k,hk,_=>⟨fun s h=>(by cases h),(by simpa using hk)⟩
 | [t],k,hk,_=>⟨fun s h=>(by cases h),(by simpa using hk)⟩
 | t :: u :: r,k,hk,h=>by
  rw[badL_more (by simp)] at h
  split at h
  ·omega
  ·rename_i hc
   have h1:k≠40:=fun e=>hc (Or.inl e)
   have h2:okW (splitL 32 t)=true:=by
    cases e:okW (splitL 32 t)
    ·exact absurd (Or.inr e) hc
    ·rfl
   have ih:=badL_ok (u :: r) (k+1) (by omega) h
   rw[List.dropLast_cons_cons]
   refine⟨fun s hs=>?_,by rw[List.length_cons];omega⟩
   rcases List.mem_cons.1 hs with rfl | hs
   ·exact h2
   ·exact ih.1 s hs
abbrev WdS:=List ByteArray×(Option Addr×Nat)
def WdS.val (r:WdS):Value:=.slice r.2.1 r.1.length r.2.2
def WdS.cells (r:WdS):List Value:=[r.val]
structure WdR (B:Nat) (w:World) (v:Value) (rs:List WdS):Prop where
 row:Row B w 29 1 WdS.cells v rs
 nd:∀ r∈rs,Row B w 9 1 sCell r.val r.1
theorem WdR.ext {B:Nat} {w w':World} {v:Value} {rs:List WdS} (h:WdR B w v rs) (hx:Ext w w'):WdR B w' v rs:=⟨h.row.ext hx,fun r hr=>(h.nd r hr).ext hx⟩
theorem WdR.app {B:Nat} {W W':World} {v v':Value} {rs:List WdS} {r:WdS} (h:WdR B W v rs) (hc:Chg (blkL v) W W') (hR:Row B W' 29 1 WdS.cells v' (rs++[r])) (hr:Row B W 9 1 sCell r.val r.1):WdR B W' v' (rs++[r]) :=
 ⟨hR,fun x hx=>by
  rcases List.mem_append.1 hx with hx | hx
  ·exact rowM_two (h.nd x hx) h.row (by decide) hc
  ·obtain rfl:=List.mem_singleton.1 hx
   exact rowM_two hr h.row (by decide) hc⟩
def szStr:Value→Nat
 | .string s=>s.size
 | _=>0
theorem el_Wds:ElemInfo Tryz.prog 54 29 1 24:=by
 refine⟨Tryz.underlying54,?_,by decide⟩
 exact⟨_,_,rfl,rfl,rfl,rfl,rfl⟩
set_option maxHeartbeats 1600000 in
theorem linesOf_any (t:ByteArray) (w:World) (hts:t.size≤8000) (hL:LibW w) :
  Calls Tryz.prog 20 #[.string t,(.int .i64 40),.func (.func 21) #[] #[]] w fun e w'=>∃ (a:Option Addr) (c:Nat) (rs:List WdS),e=.returned (.tuple #[.slice a rs.length c,(.int .i64 (badL 0 (splitL 10 (dl t))))])∧Ext w w'∧(badL 0 (splitL 10 (dl t)) < 0→WdR w.heap.size w' (.slice a rs.length c) rs∧(∀ r∈rs,∀ x∈r.1,x.size≤8000)∧rs.map (fun r=>r.1.map dl)=(splitL 10 (dl t)).dropLast.map (splitL 32)):=by
 have HL:=tH hL
 clear hL
 obtain⟨LS,hLS⟩:∃ LS,splitL 10 (dl t)=LS:=⟨_,rfl⟩
 rw[hLS]
 have HLS:=tH hLS
 clear hLS
 go_enter Tryz.func20,Tryz.ntmps20
 go_wp2
 go_loopw [8,0] (fun o u wr=>∃ (s:ByteArray) (a:Option Addr) (c:Nat) (rs:List WdS),u=.string s∧o=.slice a rs.length c∧s.size≤8000∧rs.length≤40∧Hid (badL 0 LS=badL rs.length (splitL 10 (dl s)))∧Hid (rs.map (fun r=>r.1.map dl)++(splitL 10 (dl s)).dropLast.map (splitL 32)=LS.dropLast.map (splitL 32))∧Hid (WdR w.heap.size wr o rs)∧Hid (∀ r∈rs,∀ x∈r.1,x.size≤8000)∧Hid (Ext w wr)) (fun _ u _=>szStr u)
 case atStart=>exact⟨t,_,_,[],rfl,rfl,hts,Nat.zero_le _,tH (by rw[HLS.out];rfl),tH (by rw[HLS.out];rfl),tH ⟨Row.madeB' (by simp) (by simp),fun x hx=>by cases hx⟩,tH (fun x hx=>by cases hx),tH xE⟩
 case round =>
  obtain⟨s,a,c,rs,rfl,rfl,hss,hr40,HB,HM,HW,HZ,HX⟩:=hrel
  by_cases hse:dl s=[]
  ·have hbe:(s.toList == [])=true:=by rw[ByteArray.toList_eq];exact beq_iff_eq.2 hse
   have hbn:(s.toList != [])=false:=by rw[bne,hbe];rfl
   have HB1:=tH (show badL 0 LS=-1 by rw[HB.out,hse];rfl)
   have HM1:=tH (show rs.map (fun r=>r.1.map dl)=LS.dropLast.map (splitL 32) by rw[← HM.out,hse];simp[splitL])
   clear hse
   go_wp2
   refine bodyPost_ret (v:=.tuple #[.slice a rs.length c,(.int .i64 (-1))]) (by simp[results,Tryz.results20,go_sem]) rfl ⟨a,c,rs,by rw[HB1.out],HX.out,fun _=>⟨HW.out,HZ.out,HM1.out⟩⟩
  ·have hbe:(s.toList == [])=false:=by rw[ByteArray.toList_eq];exact beq_eq_false_iff_ne.2 hse
   have hbn:(s.toList != [])=true:=by rw[bne,hbe];rfl
   have HSE:=tH hse
   clear hse
   go_wp2_with fail
   refine(cut_any s _ (by omega) (HL.out.ext HX.out)).mono ?_
   rintro e _ ⟨⟨x,r,b,rfl,hxs,hcut⟩,X1,rfl⟩
   have HCUT:=tH hcut
   clear hcut
   go_wp2_with fail
   refine(split_any x _ (by omega) (HL.out.ext (HX.out.trans xE))).mono ?_
   rintro e _ ⟨g,xs,rfl,⟨X2,rfl⟩,hR,hE⟩
   have hlen:=congrArg List.length hE
   rw[List.length_map,splitL_len] at hlen
   have h0:0 < xs.length:=by omega
   have hxl:xs.length≤8001:=by
    have h1:=List.count_le_length (a:=(32:UInt8)) (l:=dl x)
    have h2:(dl x).length=x.size:=ba_len x
    omega
   have hzx:∀ u∈xs,u.size≤8000:=fun u hu=>by
    have h1:dl u∈splitL 32 (dl x):=by rw[← hE];exact List.mem_map_of_mem hu
    have h2:=splitL_sum 32 (dl x) _ h1
    rw[ba_len,ba_len] at h2
    omega
   have HE:=tH hE
   have HZX:=tH hzx
   have HX2:=tH (show Ext w ((wr.plus X1).plus X2) from HX.out.trans xE)
   have HW2:=tH (show WdR w.heap.size ((wr.plus X1).plus X2) _ rs from HW.out.ext xE)
   have HR2:=tH (hR.mono (show w.heap.size≤(wr.plus X1).heap.size from (HX.out.plus X1).below.size))
   clear hR hE hlen hzx HX HW
   generalize (wr.plus X1).plus X2=W2 at HX2 HW2 HR2 ⊢
   rcases HCUT.out with ⟨rfl,hsp,hrs⟩ | ⟨rfl,hsp⟩
   case inr =>
    have HB1:=tH (show badL 0 LS=(rs.length:Int) by rw[HB.out,hsp,badL_last,if_neg HSE.out])
    clear hsp HCUT
    go_wp2
    exact bodyPost_ret (v:=.tuple #[.slice none 0 0,(.int .i64 (rs.length:Int))]) (by simp[results,Tryz.results20,go_sem]) rfl ⟨none,0,[],by rw[HB1.out];rfl,HX2.out,fun h=>by rw[HB1.out] at h;omega⟩
   have HSP:=tH hsp
   have hne9:splitL 10 (dl r)≠[]:=by obtain⟨h,q,e⟩:=splitL_ne 10 (dl r);rw[e];simp
   have HNE:=tH hne9
   clear hsp HCUT hne9
   by_cases h40:rs.length=40
   ·have hb40:((rs.length:Int) == 40)=true:=by rw[h40];rfl
    have HB1:=tH (show badL 0 LS=(rs.length:Int) by rw[HB.out,HSP.out,badL_more HNE.out,if_pos (Or.inl h40)])
    clear h40
    go_wp2
    exact bodyPost_ret (v:=.tuple #[.slice none 0 0,(.int .i64 (rs.length:Int))]) (by simp[results,Tryz.results20,go_sem]) rfl ⟨none,0,[],by rw[HB1.out];rfl,HX2.out,fun h=>by rw[HB1.out] at h;omega⟩
   have hb40:((rs.length:Int) == 40)=false:=by simp;omega
   go_wp2_with fail
   refine(isDeskLine_any xs _ _ W2 (row_rc (f:=sCell) (fun _=>rfl) HR2.out) h0 (by omega) HZX.out (HL.out.ext HX2.out)).mono ?_
   rintro e _ ⟨rfl,X3,rfl⟩
   rw[show okW (xs.map dl)=okW (splitL 32 (dl x)) by rw[HE.out]]
   have HX3:=tH (HX2.out.plus X3)
   have HW3:=tH (HW2.out.ext ((Ext.refl W2).plus X3))
   have HR3:=tH (HR2.out.ext ((Ext.refl W2).plus X3))
   clear HX2 HW2 HR2
   generalize W2.plus X3=W3 at HX3 HW3 HR3 ⊢
   cases hok:okW (splitL 32 (dl x))
   ·have HB1:=tH (show badL 0 LS=(rs.length:Int) by rw[HB.out,HSP.out,badL_more HNE.out,if_pos (Or.inr hok)])
    clear hok h40
    go_wp2
    exact bodyPost_ret (v:=.tuple #[.slice none 0 0,(.int .i64 (rs.length:Int))]) (by simp[results,Tryz.results20,go_sem]) rfl ⟨none,0,[],by rw[HB1.out];rfl,HX3.out,fun h=>by rw[HB1.out] at h;omega⟩
   ·have HB1:=tH (show badL 0 LS=badL (rs.length+1) (splitL 10 (dl r)) by rw[HB.out,HSP.out,badL_more HNE.out,if_neg (by rintro (h | h);exact h40 h;rw[hok] at h;cases h)])
    have HM1:=tH (show (rs.map (fun r=>r.1.map dl)++[splitL 32 (dl x)])++(splitL 10 (dl r)).dropLast.map (splitL 32)=LS.dropLast.map (splitL 32) by
     rw[← HM.out,HSP.out]
     obtain⟨h,q,e⟩:=splitL_ne 10 (dl r)
     rw[e,List.dropLast_cons_cons,List.map_cons,List.append_assoc];rfl)
    have hsz:=tH HX3.out.below.size
    have HEA:=tH HE.out
    clear hok HE HB HM HSP HNE hb40 hbe hbn HSE
    go_wp2_with (at_builtin;go_must (refine Row.appN (f:=WdS.cells) el_Wds rfl _ _ rfl w.heap.size hsz.out (.slice a rs.length c) rs (by kernel_rfl) HW3.out.row (xs,(some ⟨g,0,none⟩,xs.length)) rfl W3.heap.size rfl (by kernel_rfl) (fun _=>rfl) ?_ ?_ ?_ ?_);(simp[Value.oneCell']);(unfold maxLen;omega);(omega);intro v' w8 hR8 hc8;have HR8:=tH hR8;have HC8:=tH hc8;clear hR8 hc8)
    obtain⟨va,vc,rfl⟩:=HR8.out.shape
    refine⟨⟨r,va,vc,rs++[(xs,some ⟨g,0,none⟩,xs.length)],rfl,rfl,by omega,by rw[List.length_append];show rs.length+1≤40;omega,tH (by rw[HB1.out,List.length_append];rfl),tH (by rw[List.map_append];show _++[xs.map dl]++_=_;rw[HEA.out];exact HM1.out),tH (WdR.app (r:=(xs,(some ⟨g,0,none⟩,xs.length))) HW3.out HC8.out HR8.out HR3.out),tH (fun q hq=>?_),tH (HC8.out.ext HX3.out (fun b hb=>(HW3.out.row.blk b hb).1))⟩,hrs⟩
    rcases List.mem_append.1 hq with hq | hq
    ·exact HZ.out q hq
    ·obtain rfl:=List.mem_singleton.1 hq;exact HZX.out
end Go.Proofs.YtbmbanelodabgaaGreatDoor
set_option maxRecDepth 100000
set_option linter.unusedVariables false
set_option linter.unusedSimpArgs false
namespace Go.Proofs.YtbmbanelodabgaaGreatDoor
open Go.RowKit Go.Fin1
theorem joiX:Builder.Extra Tryz.prog Tryz.djoi_ren where
 sizeBuilder:=by kernel_rfl
 liesBuilder:=by kernel_rfl
 t5:=Tryz.underlying5
 a5:=Tryz.isAgg5
 z5:=Tryz.sizeOf5
 v5:=Tryz.zeroValue5
 infoByte:=by kernel_rfl
 cellsByte:=by kernel_rfl
 sizeByte:=by kernel_rfl
 neB5:=by decide
set_option maxHeartbeats 800000 in
theorem listOrNone_any (xa:Option Addr) (xc:Nat) (xs:List ByteArray) (w:World) (h:SlR w 1 (rc sCell) (.slice xa xs.length xc) xs) (hl:xs.length≤1000) (hz:∀ x∈xs,x.size≤100) :
  Calls Tryz.prog 73 #[.slice xa xs.length xc] w fun e w'=>(∃ z,e=.returned (.string z)∧dl z=joinW (xs.map dl))∧Ext w w':=by
 by_cases h0:xs=[]
 ·subst h0
  go_enter Tryz.func73,Tryz.ntmps73
  go_wp2
  go_ret
  exact⟨⟨_,rfl,rfl⟩,xE⟩
 have hp:0 < xs.length:=List.length_pos_iff.2 h0
 have hb:((xs.length:Int) == 0)=false:=by simp;omega
 obtain⟨bW,oW,rfl⟩:=slr_some h hp
 obtain⟨-,hlc,hcm⟩:=slr_len h
 have hcl:∀ (j:Nat) x,xs[j]?=some x→w.cell? ⟨bW,oW+j,none⟩=some (.string x):=fun j x hx=>by
  obtain⟨hj,rfl⟩:=List.getElem?_eq_some_iff.1 hx
  exact(str_at h hj).2
 have ho:=(str_at h hp).1
 have hjl:(Lib.join (xs.map (·.data.toList)) (⟨#[32]⟩:ByteArray).data.toList).length≤140737488355328:=by
  have h1:=joinW_len (l:=xs.map dl) (fun t ht=>by
   obtain⟨x,hx,rfl⟩:=List.mem_map.1 ht
   have:=hz x hx
   have h2:(dl x).length=x.size:=ba_len x
   omega)
  unfold joinW at h1
  rw[if_neg (by simpa using h0),List.length_map] at h1
  have h3:(Lib.join (xs.map (·.data.toList)) (⟨#[32]⟩:ByteArray).data.toList).length=([32].intercalate (xs.map dl):Bs).length:=rfl
  omega
 have HJ:=tH (show ([32].intercalate (xs.map dl):Bs)=joinW (xs.map dl) by unfold joinW;rw[if_neg (by simpa using h0)])
 have HC:=tH hcl
 have HO:=tH ho
 have HJL:=tH hjl
 clear h hz hcl ho hjl h0 hcm
 go_enter Tryz.func73,Tryz.ntmps73
 go_wp2_with (go_at_call 108;refine(Any.strings_Join Tryz.djoi joiX bW oW xc xs ⟨#[32]⟩ _ HC.out HO.out (by omega) hlc HJL.out).mono ?_;rintro e w' ⟨rfl,hw⟩;have hx:=Ext.of_below hw;clear hw;obtain⟨X,rfl⟩:=hx)
 go_ret
 exact⟨⟨_,rfl,by rw[dl_list];exact HJ.out⟩,xE⟩
end Go.Proofs.YtbmbanelodabgaaGreatDoor
set_option maxRecDepth 100000
set_option linter.unusedVariables false
namespace Go.Proofs.YtbmbanelodabgaaGreatDoor
open Go.RowKit Go.Fin1
set_option maxHeartbeats 800000 in
theorem idxJob0_any (f:Value) (w:World):Calls Tryz.prog 121 #[.slice none 0 0,f] w fun e w'=>e=.returned (.int .i64 (-1))∧Ext w w':=by
 go_enter Tryz.func121,Tryz.ntmps121
 go_wp2
 go_loopw [8,5] (fun i _ wr=>i=(.int .i64 0)∧Ext w wr) (fun _ _ _=>0)
 case atStart=>exact⟨rfl,xE⟩
 case round =>
  obtain⟨rfl,⟨X,rfl⟩⟩:=hrel
  go_wp2
  go_ret
  exact⟨rfl,xE⟩
set_option maxHeartbeats 800000 in
theorem delJob0_any (f:Value) (w:World):Calls Tryz.prog 105 #[.slice none 0 0,f] w fun e w'=>e=.returned (.slice none 0 0)∧Ext w w':=by
 go_enter Tryz.func105,Tryz.ntmps105
 go_wp2_with ((go_at_call 121;refine(idxJob0_any _ _).mono ?_;rintro e _ ⟨rfl,X,rfl⟩))
 go_ret
 exact⟨rfl,xE⟩
set_option maxHeartbeats 800000 in
theorem seen0_any (cv:Value) (d:Nat) (now:Int) (x:Lab) (w:World) :
  Calls Tryz.prog 72 #[.agg #[cv,.slice none 0 d,(.int .i64 now)],.agg #[(.int .i64 x.lv),(.int .i64 x.st)]] w fun e w'=>e=.returned (.slice none 0 0)∧Ext w w':=by
 go_enter Tryz.func72,Tryz.ntmps72
 go_wp2_with (first | (go_at_call 106;refine(inOrder0_any _ _).mono ?_;rintro e _ ⟨rfl,X,rfl⟩) | (go_at_call 105;refine(delJob0_any _ _).mono ?_;rintro e _ ⟨rfl,X,rfl⟩))
 go_ret
 exact⟨rfl,xE⟩
theorem sorted0:sortedJ []=[]:=rfl
end Go.Proofs.YtbmbanelodabgaaGreatDoor
