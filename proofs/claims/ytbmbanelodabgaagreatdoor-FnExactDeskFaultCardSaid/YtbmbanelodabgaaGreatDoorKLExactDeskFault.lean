/- 'FnExactDeskFault': for every input the call returns true and each argument reads as before. The walk lies in the text that is imported. The card is closed by its given tie. -/
import Derived.Test.YtbmbanelodabgaaGreatDoorKMLW
import Derived.Test.YtbmbanelodabgaaGreatDoorTie
import Derived.Test.YtbmbanelodabgaaGreatDoorCards
import Derived.SevenTiedAt
set_option maxRecDepth 100000
namespace Go.Proofs.YtbmbanelodabgaaGreatDoor
open Go.ChangeShapes Go.WideShapes Go.ChangeAt Go.RowKit
set_option linter.unusedVariables false in
set_option maxRecDepth 100000 in
theorem fnExactDeskFault_lifted (os:Os) (started:os.Started) (H:Type) (enc:TypeId×Value→H) :
  ReturnsInHanded {} Tryz.checked os 4 .any (fun w args=>(Rows.fnExactDeskFaultSpec.pre enc Tryz.prog Tryz.f4 Rows.fnExactDeskFaultRow.domain false w args∧laidMet Tryz.prog laidD w)∧sizedMet enc Tryz.prog Tryz.f4 (OpenSpec.ofChange Rows.fnExactDeskFaultSpec) false w args) (Rows.fnExactDeskFaultSpec.post enc Tryz.prog Tryz.f4 false true false false):=by
 refine ofChangeAndShape (C:=Tryz.checked) (X:=fun w _=>laidMet Tryz.prog laidD w) (fun _ _ _ hh h=>h.of_heap hh) own started (by kernel_rfl) Tryz.func4
  (ChangeSpec.witness_shaped (enc:=enc) (C:=Tryz.checked) (os:=os) (X:=fun w _=>laidMet Tryz.prog laidD w) false (World.laidAll Tryz.prog os laidD) #[.string ByteArray.empty] 8 (World.laidAll_os _ _ _) (World.shaped_of_ZipB (by kernel_rfl) (by kernel_rfl)) (by kernel_rfl) (by kernel_rfl) (by kernel_rfl) (laidD_met os _)) ?_
 intro W base args ds gs before hval0 hW hLd hsh
 have hval:∀ (j:Nat) t v,Tryz.f4.params[j]?=some t→args[j]?=some v→Value.okWide Tryz.prog W .any base t v:=hval0
 have hW':=hW
 obtain⟨p,q,hA0,hV,rfl,hfz,hnd⟩:=hW
 have hA:DataW.TrodAll enc Tryz.prog W 0 (fun _=>true) true Tryz.f4.params.toList args.toList ds p:=hA0
 rw[Tryz.params4] at hA hval
 obtain⟨v0,vs0,d0,ds0,p0,q0,hargs,rfl,rfl,h0,r0⟩:=trodAll_cons hA
 obtain⟨rfl,rfl,rfl⟩:=trodAll_nil r0
 obtain rfl:args=#[v0]:=by cases args;simp_all
 obtain⟨rfl,rfl⟩:=trodVars_none hV
 have k0:=h0
 have lt0:∀ x∈p0,x.block < W.heap.size:=by obtain⟨m,hm⟩:=k0;exact DataW.trod_lt m _ _ _ hm
 obtain⟨a0,rfl,w0⟩:=open_str (hval 0 9 v0 rfl rfl) h0
 clear hA0 hval0
 refine(fnDeskFaultS_any a0 W w0 (libW_of hLd hsh)).mono fun e W' ⟨he,hx⟩=>?_
 subst he
 have bel:=hx.below
 exact⟨_,rfl,_,_,_,[],_,[],hW',trodAll_mk1 (shut_bool Tryz.underlying4 _),(trodAll_cons_mk (Below.trod laidOut (by kernel_rfl) (of_decide_eq_true (by kernel_rfl)) k0 bel lt0) trodAll_mk0),rfl,bel.frame _,fun h=>by cases h⟩
theorem fnExactDeskFault_over:Rows.fnExactDeskFaultRow.holds Tryz.pinned (OpenSpec.ofChange Rows.fnExactDeskFaultSpec) :=
 OpenClaim.holds_of_wide 4 Tryz.f4 rfl rfl rfl rfl rfl rfl rfl ⟨rfl,rfl,rfl,rfl,rfl⟩ rfl rfl rfl rfl rfl (by kernel_rfl) Tryz.func4 (by kernel_rfl)
  (of_decide_eq_true (by kernel_rfl)) (by unfold Func.isWrapper;first | (rw[if_pos (by decide +kernel)];kernel_rfl) | (rw[if_neg (by decide +kernel)];exact⟨rfl,rfl⟩))
  (fun os started H enc _=>fnExactDeskFault_lifted os started H enc)
theorem fnExactDeskFault_proved:Rows.FnExactDeskFaultCardSaid :=
 Claim7.holds_tied_plain_at .later [] [.data,.data,.data,.data,.sentinel,.sentinel,.pinned] true (true, "c26f0ab103b08aee983fa441c184b20c81432984890954fefdce08cffd99a61b") true
  fnExactDeskFault_over (fun _ h=>by cases h) (by kernel_rfl) (fun _ h=>by cases h) fnExactDeskFault_row_tie rfl ⟨rfl,rfl⟩ (by kernel_rfl) rfl
  (fun f fn hf hfn=>by
   obtain rfl:f=4:=Option.some.inj ((show Tryz.prog.funcNamed "loop.example/g00658/laws.FnExactDeskFault"=some 4 by kernel_rfl).symm.trans hf) |>.symm
   obtain rfl:fn=Tryz.f4:=(Option.some.inj (Tryz.func4.symm.trans hfn)).symm
   exact⟨by kernel_rfl,fun j t ht=>by
    rw[Tryz.params4] at ht
    have hm:t∈[9]:=by
     have:=Array.mem_of_getElem? ht
     simpa using this
    revert hm
    simp only[List.mem_cons,List.not_mem_nil,or_false]
    rintro rfl
    exact(show Tryz.prog.wantsStandIn 9=false by kernel_rfl)⟩)
  (by kernel_rfl)
#print axioms fnExactDeskFault_proved
end Go.Proofs.YtbmbanelodabgaaGreatDoor
