/- The laws of DeskRun and DeskFault. -/
import Derived.Test.YtbmbanelodabgaaGreatDoorKMIB
import Derived.LaidLaws
import Derived.Lay
import Derived.Handed
import Derived.HandedShaped
import Derived.Stop.LaidErr
import Derived.Lib.LaidTab
import Derived.Shelf.Vars
set_option maxRecDepth 100000
set_option linter.unusedVariables false
set_option linter.unusedSimpArgs false
namespace Go.Proofs.YtbmbanelodabgaaGreatDoor
open Go.RowKit Go.Fin1
def txR (t:ByteArray):ByteArray:=⟨(deskR t).1.toArray⟩
set_option maxHeartbeats 800000 in
theorem specDeskRunT_any (t:ByteArray) (w:World) :
  Calls Tryz.prog 6 #[.string t] w fun e w'=>e=.returned (.agg #[.string (txR t),(.int .i64 (deskR t).2.1),(.int .i64 (deskR t).2.2)])∧Ext w w':=by
 refine(specDeskRun_any t w).mono ?_
 rintro e w' ⟨⟨z,rfl,hz⟩,hx⟩
 have hz:=ba_of hz
 subst hz
 exact⟨rfl,hx⟩
theorem implDeskRunT_any (t:ByteArray) (w:World) (hL:LibW w) :
  Calls Tryz.prog 7 #[.string t] w fun e w'=>e=.returned (.agg #[.string (txR t),(.int .i64 (deskR t).2.1),(.int .i64 (deskR t).2.2)])∧Ext w w':=by
 refine(implDeskRun_any t w hL).mono ?_
 rintro e w' ⟨⟨z,rfl,hz⟩,hx⟩
 have hz:=ba_of hz
 subst hz
 exact⟨rfl,hx⟩
set_option maxHeartbeats 800000 in
theorem specDeskFault_any (t:ByteArray) (w:World) :
  Calls Tryz.prog 9 #[.string t] w fun e w'=>e=.returned (.agg #[.string ⟨#[]⟩,(.int .i64 (deskR t).2.1),(.int .i64 (deskR t).2.2)])∧Ext w w':=by
 go_enter Tryz.func9,Tryz.ntmps9
 go_wp2_with (go_at_call 6;refine(specDeskRunT_any t _).mono ?_;rintro e _ ⟨rfl,X,rfl⟩)
 refine gen_post (fun W9 hW=>?_)
 have HE9:=tH (show Ext w W9 by rw[hW];exact(set3_chgD _ _ _ _ _).ext (show Ext w _ from (((Ext.refl w).alloc _).plus X).alloc _) (fun b hb=>by simp at hb;omega))
 have HB9:=tH (show Blk W9 w.heap.size [.string ⟨#[]⟩,(.int .i64 (deskR t).2.1),(.int .i64 (deskR t).2.2)] 23 by rw[hW];exact((((Blk.new (w:=w) (cs:=#[.string ⟨#[]⟩,(.int .i64 0),(.int .i64 0)]) rfl).ext (((Ext.refl _).plus X).alloc _)).set 0 _).set 1 _).set 2 _)
 have y0:W9.cell? ⟨w.heap.size,0,none⟩=some (.string ⟨#[]⟩):=HB9.out.cell 0
 have y1:W9.cell? ⟨w.heap.size,1,none⟩=some (.int .i64 (deskR t).2.1):=HB9.out.cell 1
 have y2:W9.cell? ⟨w.heap.size,2,none⟩=some (.int .i64 (deskR t).2.2):=HB9.out.cell 2
 exact bodyPost_ret (v:=.agg #[.string ⟨#[]⟩,(.int .i64 (deskR t).2.1),(.int .i64 (deskR t).2.2)]) (by simp[results,Tryz.results9,go_sem,y0,y1,y2]) rfl ⟨rfl,HE9.out⟩
set_option maxHeartbeats 800000 in
theorem implDeskFault_any (t:ByteArray) (w:World) (hL:LibW w) :
  Calls Tryz.prog 10 #[.string t] w fun e w'=>e=.returned (.agg #[.string ⟨#[]⟩,(.int .i64 (deskR t).2.1),(.int .i64 (deskR t).2.2)])∧Ext w w':=by
 have HL:=tH hL
 clear hL
 go_enter Tryz.func10,Tryz.ntmps10
 go_wp2_with (go_at_call 7;refine(implDeskRunT_any t _ (HL.out.ext xE)).mono ?_;rintro e _ ⟨rfl,X,rfl⟩)
 refine gen_post (fun W9 hW=>?_)
 have HE9:=tH (show Ext w W9 by rw[hW];exact(set3_chgD _ _ _ _ _).ext (show Ext w _ from (((Ext.refl w).alloc _).plus X).alloc _) (fun b hb=>by simp at hb;omega))
 have HB9:=tH (show Blk W9 w.heap.size [.string ⟨#[]⟩,(.int .i64 (deskR t).2.1),(.int .i64 (deskR t).2.2)] 23 by rw[hW];exact((((Blk.new (w:=w) (cs:=#[.string ⟨#[]⟩,(.int .i64 0),(.int .i64 0)]) rfl).ext (((Ext.refl _).plus X).alloc _)).set 0 _).set 1 _).set 2 _)
 have y0:W9.cell? ⟨w.heap.size,0,none⟩=some (.string ⟨#[]⟩):=HB9.out.cell 0
 have y1:W9.cell? ⟨w.heap.size,1,none⟩=some (.int .i64 (deskR t).2.1):=HB9.out.cell 1
 have y2:W9.cell? ⟨w.heap.size,2,none⟩=some (.int .i64 (deskR t).2.2):=HB9.out.cell 2
 exact bodyPost_ret (v:=.agg #[.string ⟨#[]⟩,(.int .i64 (deskR t).2.1),(.int .i64 (deskR t).2.2)]) (by simp[results,Tryz.results10,go_sem,y0,y1,y2]) rfl ⟨rfl,HE9.out⟩
end Go.Proofs.YtbmbanelodabgaaGreatDoor
set_option maxRecDepth 100000
namespace Go.Proofs.YtbmbanelodabgaaGreatDoor
open Go.RowKit Go.ChangeShapes Go.WideShapes
abbrev laidD:List (String×DataW Unit):=[("math/bits.deBruijn32tab",Rows.laid_math_bits_deBruijn32tab),("math/bits.deBruijn64tab",Rows.laid_math_bits_deBruijn64tab),("internal/strconv.uint64pow10",Rows.laid_internal_strconv_uint64pow10),("unicode/utf8.acceptRanges",Rows.laid_unicode_utf8_acceptRanges),("strconv.ErrRange",Rows.laid_strconv_ErrRange),("strconv.ErrSyntax",Rows.laid_strconv_ErrSyntax),("unicode/utf8.first",Rows.laid_unicode_utf8_first)]
theorem laidD_met (os:Os) (args:Array Value):laidMet Tryz.prog laidD ((World.laidAll Tryz.prog os laidD).forCall (fun _ _=>0) ⟨#[],args,[]⟩).memory :=
 laidMet_laidAll _ (by kernel_rfl) (by kernel_rfl)
theorem star9 : "*" ++ "errors.errorString" = "*errors.errorString":=by decide
theorem rowErr (u:TypeId) (h:Tryz.prog.typeName? 3 u=some "*errors.errorString"):u=208 :=
 typeName_ptr_named (nm := "errors.errorString") (by rw[star9];kernel_rfl) (by kernel_rfl) (by decide) u (by rw[star9];exact h)
theorem libW_of {W:World} (h:laidMet Tryz.prog laidD W) (hsh:W.ShapedOpen Tryz.prog):LibW W:=by
 have h3:=h.tail.tail
 have h5:=h3.tail.tail
 have h6:=h5.tail
 obtain⟨a0,s0,hv0,-,-,-⟩:=laid_sentinel (g:=2) (ti:=107) h5 (by kernel_rfl) (by kernel_rfl) Tryz.underlying107 rowErr Tryz.underlying208 Tryz.underlying210 rfl rfl Tryz.underlying9 (by kernel_rfl) (by kernel_rfl)
 obtain⟨a1,s1,hv1,-,-,-⟩:=laid_sentinel (g:=1) (ti:=107) h6 (by kernel_rfl) (by kernel_rfl) Tryz.underlying107 rowErr Tryz.underlying208 Tryz.underlying210 rfl rfl Tryz.underlying9 (by kernel_rfl) (by kernel_rfl)
 refine⟨?_,?_,⟨_,_,hv1⟩,⟨_,_,hv0⟩⟩
 ·exact cell_of_shapedOpen_int (g:=0) (t:=3) (zero:=#[.int .i64 0]) hsh (of_decide_eq_true (by kernel_rfl)) (by kernel_rfl) rfl (by kernel_rfl) (by kernel_rfl) Tryz.underlying3
 ·exact Lib.tabIs_of_head (g:=3) (t:=201) (e:=86) (n:=20) (by kernel_rfl) (by kernel_rfl) Tryz.underlying201 Tryz.underlying86 (by kernel_rfl) (by kernel_rfl) (show laidMet Tryz.prog (("internal/strconv.uint64pow10",Lib.tabData .u64 Lib.pow10Tab) :: _) W from h3)
variable {H:Type} {enc:TypeId×Value→H}
theorem ofChangeAndShape {a:Assume} {C:Checked} {os:Os} {f:FuncId} {fn:Func} {s:ChangeSpec} {conds:List PathCond} {apart fresh handsOn again:Bool} {X:World→Array Value→Prop}
  (hX:∀ (w w':World) (args:Array Value),w.heap=w'.heap→X w args→X w' args)
  (own:ownKnob C.prog.godebug=none) (started:os.Started) (noInit:C.prog.inits.idxOf? f=none) (hfn:C.prog.funcs[f]?=some fn)
  (witness:∃ (w:World) (tape:Tape) (i:Input),w.os=os∧(w.forCall tape i).Shaped C.prog∧i.vars=[]∧Input.okWide C.prog (w.forCall tape i) .any w.heap.size f i ∧
   ((s.pre enc C.prog fn conds apart (w.forCall tape i).memory i.args∧X (w.forCall tape i).memory i.args)∧sizedMet enc C.prog fn (OpenSpec.ofChange s) apart (w.forCall tape i).memory i.args)∧a.holds C.prog (lone (Frame.enter C.prog f i.args .normal) [] (w.forCall tape i)))
  (contract:∀ (W:World) (base:Nat) (args:Array Value) (ds gs:List (DataW H)) (before:List MemPlace),
   (∀ (j:Nat) t v,fn.params[j]?=some t→args[j]?=some v→Value.okWide C.prog W .any base t v) →
   DataW.Whole enc C.prog fn.params.toList s.vars apart W args.toList ds gs before→X W args→W.ShapedOpen C.prog →
   Calls C.prog f args W fun e W'=>∃ v,e=.returned v∧s.post enc C.prog fn apart fresh handsOn again W args v W') :
  ReturnsInHanded a C os f .any (fun w args=>(s.pre enc C.prog fn conds apart w args∧X w args)∧sizedMet enc C.prog fn (OpenSpec.ofChange s) apart w args) (s.post enc C.prog fn apart fresh handsOn again):=by
 refine returnsInHanded_of_calls own started noInit witness ?_
 intro w tape i _ hsh _ hok hpre _
 obtain⟨_,_,_,fn',hfn',_,_,_,_,hval⟩:=hok
 obtain rfl:fn'=fn:=Option.some.inj (hfn'.symm.trans hfn)
 obtain⟨⟨⟨ds,gs,before,hw,_⟩,hx⟩,_⟩:=hpre
 have hw':=DataW.Whole.of_heap (w':=w.forCall tape i) (by rfl) hw
 refine(contract (w.forCall tape i) w.heap.size i.args ds gs before hval hw' (hX _ _ _ (by rfl) hx) hsh).mono fun e W' ⟨v,he,hp⟩=>?_
 subst he
 exact ChangeSpec.post_blind hp
end Go.Proofs.YtbmbanelodabgaaGreatDoor
set_option maxRecDepth 100000
set_option linter.unusedVariables false
set_option linter.unusedSimpArgs false
namespace Go.Proofs.YtbmbanelodabgaaGreatDoor
open Go.RowKit Go.Fin1
def lnT (l:List Bs):Bs:=(l.map (·++[10])).flatten
theorem lnT_cons (t:Bs) (r:List Bs):lnT (t :: r)=t++10 :: lnT r:=by unfold lnT;rw[List.map_cons,List.flatten_cons];simp
theorem lnT_app (a b:List Bs):lnT (a++b)=lnT a++lnT b:=by unfold lnT;rw[List.map_append,List.flatten_append]
theorem splitL_no (c:UInt8):∀ (s:Bs),∀ t∈splitL c s,∀ b∈t,b≠c
 | [],t,ht=>by
  have:t=[]:=by simpa [splitL] using ht
  subst this;intro b hb;cases hb
 | b :: r,t,ht=>by
  by_cases hb:b=c
  ·subst hb
   rw[splitL_eq] at ht
   rcases List.mem_cons.1 ht with rfl | ht
   ·intro b hb;cases hb
   ·exact splitL_no b r t ht
  ·obtain⟨h,q,e⟩:=splitL_ne c r
   rw[splitL_cons hb e] at ht
   rcases List.mem_cons.1 ht with rfl | ht
   ·intro x hx
    rcases List.mem_cons.1 hx with rfl | hx
    ·exact hb
    ·exact splitL_no c r h (by rw[e];simp) x hx
   ·exact splitL_no c r t (by rw[e];exact List.mem_cons_of_mem _ ht)
theorem split_lnT:∀ (l:List Bs),(∀ t∈l,∀ b∈t,b≠10)→splitL 10 (lnT l)=l++[[]]
 | [],_=>rfl
 | t :: r,h=>by
  rw[lnT_cons,splitL_pre (h t (by simp)),split_lnT r (fun x hx=>h x (List.mem_cons_of_mem _ hx))]
  rfl
theorem lnT_split_len:∀ (s:Bs),(lnT (splitL 10 s).dropLast).length≤s.length
 | []=>Nat.zero_le _
 | b :: r=>by
  have ih:=lnT_split_len r
  obtain⟨h,q,e⟩:=splitL_ne 10 r
  by_cases hb:b=10
  ·subst hb
   rw[splitL_eq,e,List.dropLast_cons_cons,lnT_cons,← e]
   simp only[List.nil_append,List.length_cons]
   omega
  ·rw[splitL_cons hb e]
   rw[e] at ih
   cases q with
   | nil=>exact Nat.zero_le _
   | cons x y =>
    rw[List.dropLast_cons_cons,lnT_cons] at ih ⊢
    simp only[List.length_append,List.length_cons] at ih ⊢
    omega
theorem lnT_take_len (l:List Bs) (k:Nat):(lnT (l.take k)).length≤(lnT l).length:=by
 have h:=congrArg List.length (lnT_app (l.take k) (l.drop k))
 rw[List.take_append_drop,List.length_append] at h
 omega
theorem badL_of:∀ (l:List Bs) (j:Nat),(∀ s∈l,okW (splitL 32 s)=true)→j+l.length≤40→badL j (l++[[]])=-1
 | [],j,_,_=>rfl
 | t :: r,j,h,hj=>by
  rw[List.cons_append,badL_more (by simp),if_neg (by
   rw[List.length_cons] at hj
   rintro (e | e)
   ·omega
   ·rw[h t (by simp)] at e;cases e)]
  exact badL_of r (j+1) (fun s hs=>h s (List.mem_cons_of_mem _ hs)) (by rw[List.length_cons] at hj;omega)
def runP (p:Pl):List (List Bs)→Pl
 | []=>p
 | ws :: r=>runP (runW p ws).1 r
theorem runWs_app:∀ (a b:List (List Bs)) (p:Pl),runWs p (a++b)=runWs p a++runWs (runP p a) b
 | [],b,p=>rfl
 | ws :: r,b,p=>by
  show (runW p ws).2++10 :: runWs (runW p ws).1 (r++b)=((runW p ws).2++10 :: runWs (runW p ws).1 r)++runWs (runP (runW p ws).1 r) b
  rw[runWs_app r b];simp
def No10 (t:Bs):Prop:=∀ b∈t,b≠10
theorem No10.app {a b:Bs} (h:No10 a) (k:No10 b):No10 (a++b):=fun x hx=>(List.mem_append.1 hx).elim (h x) (k x)
theorem No10.cons {b:UInt8} {t:Bs} (h:b≠10) (k:No10 t):No10 (b :: t):=fun x hx=>(List.mem_cons.1 hx).elim (fun e=>by rw[e];exact h) (k x)
theorem No10.nil:No10 []:=fun x hx=>by cases hx
theorem no_ofNat {d:Nat} (h:11≤d∧d < 256):UInt8.ofNat d≠10:=fun e=>by
 have:=congrArg UInt8.toNat e
 rw[UInt8.toNat_ofNat'] at this
 have h2:(10:UInt8).toNat=10:=rfl
 omega
theorem no_dec (u:Nat):No10 (Lib.decDigits u):=by
 induction u using Nat.strongRecOn with
 | _ u ih =>
  by_cases h:u < 10
  ·rw[Lib.decDigits_one h]
   exact No10.nil.cons (no_ofNat (by omega))
  ·rw[Lib.decDigits,dif_neg h]
   exact(ih (u / 10) (by omega)).app (No10.nil.cons (no_ofNat (by omega)))
theorem no_itoa (n:Int):No10 (Lib.itoa n):=by
 unfold Lib.itoa
 split
 ·exact(no_dec _).cons (by decide)
 ·exact no_dec _
theorem no_lbl (x:Lab):No10 (lblT x):=by
 cases h:labR x
 ·rw[lblT_no h];exact No10.nil
 ·rw[lblT_yes h]
  obtain⟨n,m,rfl,hn,hm⟩:=labR_at h
  have hk:∀ k,k≤3→No10 (lblN ⟨n,m⟩ k):=fun k=>by
   induction k with
   | zero =>
    intro _
    unfold lblN
    refine No10.cons (no_ofNat ?_) (No10.nil.cons (by decide))
    simp only[Int.toNat_natCast];omega
   | succ k ih =>
    intro hk
    unfold lblN
    split
    ·exact(ih (by omega)).app (No10.nil.cons (no_ofNat (by omega)))
    ·exact ih (by omega)
  exact hk 3 (Nat.le_refl _)
theorem no_join {l:List Bs} (h:∀ t∈l,No10 t):No10 (joinW l):=by
 unfold joinW
 split
 ·exact No10.nil.cons (by decide)
 ·have:∀ l:List Bs,(∀ t∈l,No10 t)→No10 ([32].intercalate l):=fun l=>by
   induction l with
   | nil=>intro _ x hx;simp[List.intercalate] at hx
   | cons a r ih =>
    intro h
    cases r with
    | nil=>intro x hx;exact h a (by simp) x (by simpa [List.intercalate] using hx)
    | cons b q =>
     have h1:=ih (fun t ht=>h t (List.mem_cons_of_mem _ ht))
     have e:[32].intercalate (a :: b :: q)=a++([32]++[32].intercalate (b :: q)):=by simp[List.intercalate,List.intersperse]
     rw[e]
     exact(h a (by simp)).app ((No10.nil.cons (by decide)).app h1)
  exact this l h
theorem no_err (c:Int):No10 (errT c):=by
 unfold errT
 exact No10.app (fun x hx=>by revert x;decide) (no_itoa c)
theorem no_res {p:Pl} {Y:Pl×Int×Int} {t:Bs} (h:No10 t):No10 (resT p Y t).2:=by
 unfold resT
 split
 ·exact h
 ·exact no_err _
theorem no_see (p:Pl) (x:Lab):No10 (seeT p x):=by
 unfold seeT
 refine no_join fun t ht=>?_
 obtain⟨j,-,rfl⟩:=List.mem_map.1 ht
 unfold wordJ
 refine(no_lbl _).app (No10.cons (by decide) ((no_itoa _).app (No10.cons (by decide) (No10.cons ?_ ?_))))
 ·unfold letS;split<;>(try split)<;>(try split)<;>decide
 ·split
  ·exact no_itoa _
  ·exact No10.nil
theorem no_plan (p:Pl) (x:Lab):No10 (planT p x):=by
 unfold planT
 refine no_join fun t ht=>?_
 obtain⟨s,-,rfl⟩:=List.mem_map.1 ht
 unfold wordS
 exact(no_lbl _).app (No10.cons (by decide) ((no_itoa _).app (No10.cons (by decide) (no_itoa _))))
theorem no_run (p:Pl) (ws:List Bs):No10 (runW p ws).2:=by
 unfold runW
 split
 ·exact no_see _ _
 ·split
  ·exact no_plan _ _
  ·split
   ·exact no_res (no_itoa _)
   ·split
    ·exact No10.app (fun x hx=>by revert x;decide) (no_itoa _)
    ·exact no_res (fun x hx=>by revert x;decide)
theorem no_count {t:Bs} (h:No10 t):t.count 10=0:=List.count_eq_zero.2 fun hm=>h 10 hm rfl
theorem run_count:∀ (l:List (List Bs)) (p:Pl),(runWs p l).count 10=l.length
 | [],p=>rfl
 | ws :: r,p=>by
  show ((runW p ws).2++10 :: runWs (runW p ws).1 r).count 10=_
  rw[List.count_append,no_count (no_run p ws),List.count_cons_self,run_count r]
  simp
theorem lines_len (s:Bs):(splitL 10 s).dropLast.length=s.count 10:=by rw[List.length_dropLast,splitL_len];rfl
theorem desk_law {t z:ByteArray} {k:Nat} (h:(deskR t).2.2=0) (hk:k≤(splitL 10 (dl t)).dropLast.length) (hz:dl z=lnT ((splitL 10 (dl t)).dropLast.take k)) :
  t.size≤8000∧(deskR t).2.1=0∧(deskR z).2.2=0∧(deskR t).1.count 10=(splitL 10 (dl t)).dropLast.length∧(deskR z).1.count 10=k∧∃ r,(deskR t).1=(deskR z).1++r:=by
 have h8:¬ 8000 < t.size:=fun e=>by unfold deskR at h;rw[if_pos e] at h;cases h
 have hdl:(dl t).length=t.size:=ba_len t
 have hD:deskR t=if badL 0 (splitL 10 (dl t)) < 0 then ((runL pool0 (splitL 10 (dl t))).2,0,0) else ([],badL 0 (splitL 10 (dl t)),3):=by unfold deskR;rw[if_neg h8]
 have hb:badL 0 (splitL 10 (dl t)) < 0:=by
  by_cases hb:badL 0 (splitL 10 (dl t)) < 0
  ·exact hb
  ·rw[hD,if_neg hb] at h;cases h
 rw[if_pos hb,runL_ws] at hD
 obtain⟨ho,hl⟩:=badL_ok _ 0 (by omega) hb
 have hno:=splitL_no 10 (dl t)
 have hlen:=lnT_split_len (dl t)
 have hmem:∀ x∈(splitL 10 (dl t)).dropLast,x∈splitL 10 (dl t):=fun x hx=>(List.dropLast_sublist _).subset hx
 generalize hL:(splitL 10 (dl t)).dropLast=L at *
 have hzl:(dl z).length=z.size:=ba_len z
 have htl:=lnT_take_len L k
 have hz8:¬ 8000 < z.size:=by rw[← hzl,hz];omega
 have hZ:deskR z=(runWs pool0 ((L.take k).map (splitL 32)),0,0):=by
  unfold deskR
  rw[if_neg hz8]
  show (if badL 0 (splitL 10 (dl z)) < 0 then ((runL pool0 (splitL 10 (dl z))).2,(0:Int),(0:Int)) else ([],badL 0 (splitL 10 (dl z)),3))=_
  rw[hz,split_lnT _ (fun x hx=>hno x (hmem x (List.mem_of_mem_take hx))),badL_of _ 0 (fun s hs=>ho s (List.mem_of_mem_take hs)) (by rw[List.length_take];omega),if_pos (by decide),runL_ws,List.dropLast_concat]
 rw[hD,hZ]
 refine⟨by omega,rfl,rfl,?_,?_,?_⟩
 ·show (runWs pool0 (L.map (splitL 32))).count 10=_
  rw[run_count,List.length_map]
 ·show (runWs pool0 ((L.take k).map (splitL 32))).count 10=_
  rw[run_count,List.length_map,List.length_take];omega
 ·refine⟨runWs (runP pool0 ((L.take k).map (splitL 32))) ((L.drop k).map (splitL 32)),?_⟩
  show runWs pool0 (L.map (splitL 32))=_
  rw[← runWs_app,← List.map_append,List.take_append_drop]
theorem desk_none {t:ByteArray} (h:¬ (deskR t).2.2=0):(deskR t).1=[]:=by
 unfold deskR at h ⊢
 split
 ·rfl
 ·rename_i h1
  rw[if_neg h1] at h
  split
  ·rename_i h2;rw[if_pos h2] at h;exact absurd rfl h
  ·rfl
theorem runWs_len:∀ (l:List (List Bs)) (p:Pl),poolR p=true→p.now+30*(l.length:Int)≤90000→(∀ ws∈l,okW ws=true∧ws≠[])→(runWs p l).length≤10001*l.length
 | [],p,_,_,_=>Nat.zero_le _
 | ws :: r,p,hp,hn,h=>by
  have h0:=h ws (by simp)
  rw[List.length_cons] at hn
  have hp9:p.now≤90000:=by push_cast at hn;omega
  have h1:=runW_len hp hp9 h0.1 h0.2
  have h2:=runW_right hp hp9 h0.1 h0.2
  have ih:=runWs_len r (runW p ws).1 h2.1 (by push_cast at hn;omega) (fun x hx=>h x (List.mem_cons_of_mem _ hx))
  show ((runW p ws).2++10 :: runWs (runW p ws).1 r).length≤_
  rw[List.length_append,List.length_cons,List.length_cons]
  omega
theorem deskR_len (t:ByteArray):(deskR t).1.length≤500000:=by
 unfold deskR
 split
 ·exact Nat.zero_le _
 ·split
  ·rename_i h
   show ((runL pool0 (splitL 10 (dl t))).2).length≤500000
   rw[runL_ws]
   obtain⟨ho,hl⟩:=badL_ok (splitL 10 (dl t)) 0 (by omega) h
   have hn0:pool0.now=0:=rfl
   have h1:=runWs_len ((splitL 10 (dl t)).dropLast.map (splitL 32)) pool0 pool0_right (by rw[hn0,List.length_map];omega) (fun ws hws=>by
    obtain⟨s,hs,rfl⟩:=List.mem_map.1 hws
    exact⟨ho s hs,splitL_nil 32 s⟩)
   rw[List.length_map] at h1
   omega
  ·exact Nat.zero_le _
end Go.Proofs.YtbmbanelodabgaaGreatDoor
