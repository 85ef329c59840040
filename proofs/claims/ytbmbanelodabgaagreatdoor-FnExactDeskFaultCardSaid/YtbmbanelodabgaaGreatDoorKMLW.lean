/- The laws of DeskRun and DeskFault. -/
import Derived.Test.YtbmbanelodabgaaGreatDoorKMIB
import Derived.LaidLaws
import Derived.Lay
import Derived.Handed
import Derived.HandedShaped
import Derived.Stop.LaidErr
import Derived.Lib.LaidTab
import Derived.Shelf.Vars
set_option maxRecDepth 100000
set_option linter.unusedVariables false
set_option linter.unusedSimpArgs false
namespace Go.Proofs.YtbmbanelodabgaaGreatDoor
open Go.RowKit Go.Fin1
def txR (t:ByteArray):ByteArray:=⟨(deskR t).1.toArray⟩
set_option maxHeartbeats 800000 in
theorem specDeskRunT_any (t:ByteArray) (w:World) :
  Calls Tryz.prog 6 #[.string t] w fun e w'=>e=.returned (.agg #[.string (txR t),(.int .i64 (deskR t).2.1),(.int .i64 (deskR t).2.2)])∧Ext w w':=by
 refine(specDeskRun_any t w).mono ?_
 rintro e w' ⟨⟨z,rfl,hz⟩,hx⟩
 have hz:=ba_of hz
 subst hz
 exact⟨rfl,hx⟩
theorem implDeskRunT_any (t:ByteArray) (w:World) (hL:LibW w) :
  Calls Tryz.prog 7 #[.string t] w fun e w'=>e=.returned (.agg #[.string (txR t),(.int .i64 (deskR t).2.1),(.int .i64 (deskR t).2.2)])∧Ext w w':=by
 refine(implDeskRun_any t w hL).mono ?_
 rintro e w' ⟨⟨z,rfl,hz⟩,hx⟩
 have hz:=ba_of hz
 subst hz
 exact⟨rfl,hx⟩
set_option maxHeartbeats 800000 in
theorem eqDeskOut_self (z:ByteArray) (a b:Int) (w:World) :
  Calls Tryz.prog 8 #[.agg #[.string z,(.int .i64 a),(.int .i64 b)],.agg #[.string z,(.int .i64 a),(.int .i64 b)]] w fun e w'=>e=.returned (.bool true)∧Ext w w':=by
 go_enter Tryz.func8,Tryz.ntmps8
 go_wp2
 go_ret
 exact⟨rfl,xE⟩
set_option maxHeartbeats 800000 in
theorem fnDeskRun_any (t:ByteArray) (w:World) (hL:LibW w) :
  Calls Tryz.prog 3 #[.string t] w fun e w'=>e=.returned (.bool true)∧Ext w w':=by
 have HL:=tH hL
 clear hL
 by_cases hs:t.size≤1048576
 ·have hb:decide ((1048576:Int) < (t.size:Int))=false:=decide_eq_false (by omega)
  clear hs
  go_enter Tryz.func3,Tryz.ntmps3
  go_wp2_with (first | (go_at_call 6;refine(specDeskRunT_any t _).mono ?_;rintro e _ ⟨rfl,X,rfl⟩) | (go_at_call 7;refine(implDeskRunT_any t _ (HL.out.ext xE)).mono ?_;rintro e _ ⟨rfl,Y,rfl⟩) | (go_at_call 8;refine(eqDeskOut_self _ _ _ _).mono ?_;rintro e _ ⟨rfl,Z,rfl⟩))
  go_ret
  exact⟨rfl,xE⟩
 ·have hb:decide ((1048576:Int) < (t.size:Int))=true:=decide_eq_true (by omega)
  go_enter Tryz.func3,Tryz.ntmps3
  go_wp2
  go_ret
  exact⟨rfl,xE⟩
set_option maxHeartbeats 800000 in
theorem specDeskFault_any (t:ByteArray) (w:World) :
  Calls Tryz.prog 9 #[.string t] w fun e w'=>e=.returned (.agg #[.string ⟨#[]⟩,(.int .i64 (deskR t).2.1),(.int .i64 (deskR t).2.2)])∧Ext w w':=by
 go_enter Tryz.func9,Tryz.ntmps9
 go_wp2_with (go_at_call 6;refine(specDeskRunT_any t _).mono ?_;rintro e _ ⟨rfl,X,rfl⟩)
 refine gen_post (fun W9 hW=>?_)
 have HE9:=tH (show Ext w W9 by rw[hW];exact(set3_chgD _ _ _ _ _).ext (show Ext w _ from (((Ext.refl w).alloc _).plus X).alloc _) (fun b hb=>by simp at hb;omega))
 have HB9:=tH (show Blk W9 w.heap.size [.string ⟨#[]⟩,(.int .i64 (deskR t).2.1),(.int .i64 (deskR t).2.2)] 23 by rw[hW];exact((((Blk.new (w:=w) (cs:=#[.string ⟨#[]⟩,(.int .i64 0),(.int .i64 0)]) rfl).ext (((Ext.refl _).plus X).alloc _)).set 0 _).set 1 _).set 2 _)
 have y0:W9.cell? ⟨w.heap.size,0,none⟩=some (.string ⟨#[]⟩):=HB9.out.cell 0
 have y1:W9.cell? ⟨w.heap.size,1,none⟩=some (.int .i64 (deskR t).2.1):=HB9.out.cell 1
 have y2:W9.cell? ⟨w.heap.size,2,none⟩=some (.int .i64 (deskR t).2.2):=HB9.out.cell 2
 exact bodyPost_ret (v:=.agg #[.string ⟨#[]⟩,(.int .i64 (deskR t).2.1),(.int .i64 (deskR t).2.2)]) (by simp[results,Tryz.results9,go_sem,y0,y1,y2]) rfl ⟨rfl,HE9.out⟩
set_option maxHeartbeats 800000 in
theorem implDeskFault_any (t:ByteArray) (w:World) (hL:LibW w) :
  Calls Tryz.prog 10 #[.string t] w fun e w'=>e=.returned (.agg #[.string ⟨#[]⟩,(.int .i64 (deskR t).2.1),(.int .i64 (deskR t).2.2)])∧Ext w w':=by
 have HL:=tH hL
 clear hL
 go_enter Tryz.func10,Tryz.ntmps10
 go_wp2_with (go_at_call 7;refine(implDeskRunT_any t _ (HL.out.ext xE)).mono ?_;rintro e _ ⟨rfl,X,rfl⟩)
 refine gen_post (fun W9 hW=>?_)
 have HE9:=tH (show Ext w W9 by rw[hW];exact(set3_chgD _ _ _ _ _).ext (show Ext w _ from (((Ext.refl w).alloc _).plus X).alloc _) (fun b hb=>by simp at hb;omega))
 have HB9:=tH (show Blk W9 w.heap.size [.string ⟨#[]⟩,(.int .i64 (deskR t).2.1),(.int .i64 (deskR t).2.2)] 23 by rw[hW];exact((((Blk.new (w:=w) (cs:=#[.string ⟨#[]⟩,(.int .i64 0),(.int .i64 0)]) rfl).ext (((Ext.refl _).plus X).alloc _)).set 0 _).set 1 _).set 2 _)
 have y0:W9.cell? ⟨w.heap.size,0,none⟩=some (.string ⟨#[]⟩):=HB9.out.cell 0
 have y1:W9.cell? ⟨w.heap.size,1,none⟩=some (.int .i64 (deskR t).2.1):=HB9.out.cell 1
 have y2:W9.cell? ⟨w.heap.size,2,none⟩=some (.int .i64 (deskR t).2.2):=HB9.out.cell 2
 exact bodyPost_ret (v:=.agg #[.string ⟨#[]⟩,(.int .i64 (deskR t).2.1),(.int .i64 (deskR t).2.2)]) (by simp[results,Tryz.results10,go_sem,y0,y1,y2]) rfl ⟨rfl,HE9.out⟩
set_option maxHeartbeats 800000 in
theorem fnDeskFault_any (t:ByteArray) (w:World) (hL:LibW w) :
  Calls Tryz.prog 4 #[.string t] w fun e w'=>e=.returned (.bool true)∧Ext w w':=by
 have HL:=tH hL
 clear hL
 by_cases hs:t.size≤1048576
 ·have hb:decide ((1048576:Int) < (t.size:Int))=false:=decide_eq_false (by omega)
  clear hs
  go_enter Tryz.func4,Tryz.ntmps4
  go_wp2_with (first | (go_at_call 9;refine(specDeskFault_any t _).mono ?_;rintro e _ ⟨rfl,X,rfl⟩) | (go_at_call 10;refine(implDeskFault_any t _ (HL.out.ext xE)).mono ?_;rintro e _ ⟨rfl,Y,rfl⟩) | (go_at_call 8;refine(eqDeskOut_self _ _ _ _).mono ?_;rintro e _ ⟨rfl,Z,rfl⟩))
  go_ret
  exact⟨rfl,xE⟩
 ·have hb:decide ((1048576:Int) < (t.size:Int))=true:=decide_eq_true (by omega)
  go_enter Tryz.func4,Tryz.ntmps4
  go_wp2
  go_ret
  exact⟨rfl,xE⟩
end Go.Proofs.YtbmbanelodabgaaGreatDoor
set_option maxRecDepth 100000
namespace Go.Proofs.YtbmbanelodabgaaGreatDoor
open Go.RowKit Go.ChangeShapes Go.WideShapes
abbrev laidD:List (String×DataW Unit):=[("math/bits.deBruijn32tab",Rows.laid_math_bits_deBruijn32tab),("math/bits.deBruijn64tab",Rows.laid_math_bits_deBruijn64tab),("internal/strconv.uint64pow10",Rows.laid_internal_strconv_uint64pow10),("unicode/utf8.acceptRanges",Rows.laid_unicode_utf8_acceptRanges),("strconv.ErrRange",Rows.laid_strconv_ErrRange),("strconv.ErrSyntax",Rows.laid_strconv_ErrSyntax),("unicode/utf8.first",Rows.laid_unicode_utf8_first)]
theorem laidD_met (os:Os) (args:Array Value):laidMet Tryz.prog laidD ((World.laidAll Tryz.prog os laidD).forCall (fun _ _=>0) ⟨#[],args,[]⟩).memory :=
 laidMet_laidAll _ (by kernel_rfl) (by kernel_rfl)
theorem star9 : "*" ++ "errors.errorString" = "*errors.errorString":=by decide
theorem rowErr (u:TypeId) (h:Tryz.prog.typeName? 3 u=some "*errors.errorString"):u=208 :=
 typeName_ptr_named (nm := "errors.errorString") (by rw[star9];kernel_rfl) (by kernel_rfl) (by decide) u (by rw[star9];exact h)
theorem libW_of {W:World} (h:laidMet Tryz.prog laidD W) (hsh:W.ShapedOpen Tryz.prog):LibW W:=by
 have h3:=h.tail.tail
 have h5:=h3.tail.tail
 have h6:=h5.tail
 obtain⟨a0,s0,hv0,-,-,-⟩:=laid_sentinel (g:=2) (ti:=107) h5 (by kernel_rfl) (by kernel_rfl) Tryz.underlying107 rowErr Tryz.underlying208 Tryz.underlying210 rfl rfl Tryz.underlying9 (by kernel_rfl) (by kernel_rfl)
 obtain⟨a1,s1,hv1,-,-,-⟩:=laid_sentinel (g:=1) (ti:=107) h6 (by kernel_rfl) (by kernel_rfl) Tryz.underlying107 rowErr Tryz.underlying208 Tryz.underlying210 rfl rfl Tryz.underlying9 (by kernel_rfl) (by kernel_rfl)
 refine⟨?_,?_,⟨_,_,hv1⟩,⟨_,_,hv0⟩⟩
 ·exact cell_of_shapedOpen_int (g:=0) (t:=3) (zero:=#[.int .i64 0]) hsh (of_decide_eq_true (by kernel_rfl)) (by kernel_rfl) rfl (by kernel_rfl) (by kernel_rfl) Tryz.underlying3
 ·exact Lib.tabIs_of_head (g:=3) (t:=201) (e:=86) (n:=20) (by kernel_rfl) (by kernel_rfl) Tryz.underlying201 Tryz.underlying86 (by kernel_rfl) (by kernel_rfl) (show laidMet Tryz.prog (("internal/strconv.uint64pow10",Lib.tabData .u64 Lib.pow10Tab) :: _) W from h3)
variable {H:Type} {enc:TypeId×Value→H}
theorem ofChangeAndShape {a:Assume} {C:Checked} {os:Os} {f:FuncId} {fn:Func} {s:ChangeSpec} {conds:List PathCond} {apart fresh handsOn again:Bool} {X:World→Array Value→Prop}
  (hX:∀ (w w':World) (args:Array Value),w.heap=w'.heap→X w args→X w' args)
  (own:ownKnob C.prog.godebug=none) (started:os.Started) (noInit:C.prog.inits.idxOf? f=none) (hfn:C.prog.funcs[f]?=some fn)
  (witness:∃ (w:World) (tape:Tape) (i:Input),w.os=os∧(w.forCall tape i).Shaped C.prog∧i.vars=[]∧Input.okWide C.prog (w.forCall tape i) .any w.heap.size f i ∧
   ((s.pre enc C.prog fn conds apart (w.forCall tape i).memory i.args∧X (w.forCall tape i).memory i.args)∧sizedMet enc C.prog fn (OpenSpec.ofChange s) apart (w.forCall tape i).memory i.args)∧a.holds C.prog (lone (Frame.enter C.prog f i.args .normal) [] (w.forCall tape i)))
  (contract:∀ (W:World) (base:Nat) (args:Array Value) (ds gs:List (DataW H)) (before:List MemPlace),
   (∀ (j:Nat) t v,fn.params[j]?=some t→args[j]?=some v→Value.okWide C.prog W .any base t v) →
   DataW.Whole enc C.prog fn.params.toList s.vars apart W args.toList ds gs before→X W args→W.ShapedOpen C.prog →
   Calls C.prog f args W fun e W'=>∃ v,e=.returned v∧s.post enc C.prog fn apart fresh handsOn again W args v W') :
  ReturnsInHanded a C os f .any (fun w args=>(s.pre enc C.prog fn conds apart w args∧X w args)∧sizedMet enc C.prog fn (OpenSpec.ofChange s) apart w args) (s.post enc C.prog fn apart fresh handsOn again):=by
 refine returnsInHanded_of_calls own started noInit witness ?_
 intro w tape i _ hsh _ hok hpre _
 obtain⟨_,_,_,fn',hfn',_,_,_,_,hval⟩:=hok
 obtain rfl:fn'=fn:=Option.some.inj (hfn'.symm.trans hfn)
 obtain⟨⟨⟨ds,gs,before,hw,_⟩,hx⟩,_⟩:=hpre
 have hw':=DataW.Whole.of_heap (w':=w.forCall tape i) (by rfl) hw
 refine(contract (w.forCall tape i) w.heap.size i.args ds gs before hval hw' (hX _ _ _ (by rfl) hx) hsh).mono fun e W' ⟨v,he,hp⟩=>?_
 subst he
 exact ChangeSpec.post_blind hp
theorem fnDeskFaultS_any (t:ByteArray) (w:World) (_:t.size≤maxLen) (hL:LibW w) :
  Calls Tryz.prog 4 #[.string t] w fun e w'=>e=.returned (.bool true)∧Ext w w':=fnDeskFault_any t w hL
end Go.Proofs.YtbmbanelodabgaaGreatDoor
