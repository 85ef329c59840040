/- 'FnExactDeskRun': for every input the call returns true and each argument reads as before. The walk lies in the text that is imported. The card is closed by its given tie. -/
import Derived.Test.YtbmbanelodabgaaGreatDoorKMLW
import Derived.Test.YtbmbanelodabgaaGreatDoorTie
import Derived.Test.YtbmbanelodabgaaGreatDoorCards
import Derived.SevenTiedAt
set_option maxRecDepth 100000
namespace Go.Proofs.YtbmbanelodabgaaGreatDoor
open Go.ChangeShapes Go.WideShapes Go.ChangeAt Go.RowKit
set_option linter.unusedVariables false in
set_option maxRecDepth 100000 in
theorem fnExactDeskRun_lifted (os:Os) (started:os.Started) (H:Type) (enc:TypeId×Value→H) :
  ReturnsInHanded {} Tryz.checked os 3 .any (fun w args=>(Rows.fnExactDeskRunSpec.pre enc Tryz.prog Tryz.f3 Rows.fnExactDeskRunRow.domain false w args∧laidMet Tryz.prog laidD w)∧sizedMet enc Tryz.prog Tryz.f3 (OpenSpec.ofChange Rows.fnExactDeskRunSpec) false w args) (Rows.fnExactDeskRunSpec.post enc Tryz.prog Tryz.f3 false true false false):=by
 refine ofChangeAndShape (C:=Tryz.checked) (X:=fun w _=>laidMet Tryz.prog laidD w) (fun _ _ _ hh h=>h.of_heap hh) own started (by kernel_rfl) Tryz.func3
  (ChangeSpec.witness_shaped (enc:=enc) (C:=Tryz.checked) (os:=os) (X:=fun w _=>laidMet Tryz.prog laidD w) false (World.laidAll Tryz.prog os laidD) #[.string ByteArray.empty] 8 (World.laidAll_os _ _ _) (World.shaped_of_ZipB (by kernel_rfl) (by kernel_rfl)) (by kernel_rfl) (by kernel_rfl) (by kernel_rfl) (laidD_met os _)) ?_
 intro W base args ds gs before hval0 hW hLd hsh
 have hval:∀ (j:Nat) t v,Tryz.f3.params[j]?=some t→args[j]?=some v→Value.okWide Tryz.prog W .any base t v:=hval0
 have hW':=hW
 obtain⟨p,q,hA0,hV,rfl,hfz,hnd⟩:=hW
 have hA:DataW.TrodAll enc Tryz.prog W 0 (fun _=>true) true Tryz.f3.params.toList args.toList ds p:=hA0
 rw[Tryz.params3] at hA hval
 obtain⟨v0,vs0,d0,ds0,p0,q0,hargs,rfl,rfl,h0,r0⟩:=trodAll_cons hA
 obtain⟨rfl,rfl,rfl⟩:=trodAll_nil r0
 obtain rfl:args=#[v0]:=by cases args;simp_all
 obtain⟨rfl,rfl⟩:=trodVars_none hV
 have k0:=h0
 have lt0:∀ x∈p0,x.block < W.heap.size:=by obtain⟨m,hm⟩:=k0;exact DataW.trod_lt m _ _ _ hm
 obtain⟨a0,rfl,w0⟩:=open_str (hval 0 9 v0 rfl rfl) h0
 clear hA0 hval0
 refine(fnDeskRunS_any a0 W w0 (libW_of hLd hsh)).mono fun e W' ⟨he,hx⟩=>?_
 subst he
 have bel:=hx.below
 exact⟨_,rfl,_,_,_,[],_,[],hW',trodAll_mk1 (shut_bool Tryz.underlying4 _),(trodAll_cons_mk (Below.trod laidOut (by kernel_rfl) (of_decide_eq_true (by kernel_rfl)) k0 bel lt0) trodAll_mk0),rfl,bel.frame _,fun h=>by cases h⟩
theorem fnExactDeskRun_over:Rows.fnExactDeskRunRow.holds Tryz.pinned (OpenSpec.ofChange Rows.fnExactDeskRunSpec) :=
 OpenClaim.holds_of_wide 3 Tryz.f3 rfl rfl rfl rfl rfl rfl rfl ⟨rfl,rfl,rfl,rfl,rfl⟩ rfl rfl rfl rfl rfl (by kernel_rfl) Tryz.func3 (by kernel_rfl)
  (of_decide_eq_true (by kernel_rfl)) (by unfold Func.isWrapper;first | (rw[if_pos (by decide +kernel)];kernel_rfl) | (rw[if_neg (by decide +kernel)];exact⟨rfl,rfl⟩))
  (fun os started H enc _=>fnExactDeskRun_lifted os started H enc)
theorem fnExactDeskRun_proved:Rows.FnExactDeskRunCardSaid :=
 Claim7.holds_tied_plain_at .later [] [.data,.data,.data,.data,.sentinel,.sentinel,.pinned] true (true, "c26f0ab103b08aee983fa441c184b20c81432984890954fefdce08cffd99a61b") true
  fnExactDeskRun_over (fun _ h=>by cases h) (by kernel_rfl) (fun _ h=>by cases h) fnExactDeskRun_row_tie rfl ⟨rfl,rfl⟩ (by kernel_rfl) rfl
  (fun f fn hf hfn=>by
   obtain rfl:f=3:=Option.some.inj ((show Tryz.prog.funcNamed "loop.example/g00658/laws.FnExactDeskRun"=some 3 by kernel_rfl).symm.trans hf) |>.symm
   obtain rfl:fn=Tryz.f3:=(Option.some.inj (Tryz.func3.symm.trans hfn)).symm
   exact⟨by kernel_rfl,fun j t ht=>by
    rw[Tryz.params3] at ht
    have hm:t∈[9]:=by
     have:=Array.mem_of_getElem? ht
     simpa using this
    revert hm
    simp only[List.mem_cons,List.not_mem_nil,or_false]
    rintro rfl
    exact(show Tryz.prog.wantsStandIn 9=false by kernel_rfl)⟩)
  (by kernel_rfl)
#print axioms fnExactDeskRun_proved
end Go.Proofs.YtbmbanelodabgaaGreatDoor
