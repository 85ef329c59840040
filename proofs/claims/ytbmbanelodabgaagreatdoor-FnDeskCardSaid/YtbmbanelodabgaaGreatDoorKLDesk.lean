/- 'FnDesk': for every input the call returns true and each argument reads as before. The walk lies in the text that is imported. The card is closed by its given tie. -/
import Derived.Test.YtbmbanelodabgaaGreatDoorKMXD
import Derived.Test.YtbmbanelodabgaaGreatDoorKTAB
import Derived.Test.YtbmbanelodabgaaGreatDoorTie
import Derived.Test.YtbmbanelodabgaaGreatDoorCards
import Derived.SevenTiedAt
set_option maxRecDepth 100000
namespace Go.Proofs.YtbmbanelodabgaaGreatDoor
open Go.ChangeShapes Go.WideShapes Go.ChangeAt Go.RowKit
set_option linter.unusedVariables false in
set_option maxRecDepth 100000 in
theorem fnDesk_lifted (os:Os) (started:os.Started) (H:Type) (enc:TypeId×Value→H) :
  ReturnsInHanded {} Tryz.checked os 5 .any (fun w args=>(Rows.fnDeskSpec.pre enc Tryz.prog Tryz.f5 Rows.fnDeskRow.domain false w args∧laidMet Tryz.prog laidD w)∧sizedMet enc Tryz.prog Tryz.f5 (OpenSpec.ofChange Rows.fnDeskSpec) false w args) (Rows.fnDeskSpec.post enc Tryz.prog Tryz.f5 false true false false):=by
 refine ofChangeAndShape (C:=Tryz.checked) (X:=fun w _=>laidMet Tryz.prog laidD w) (fun _ _ _ hh h=>h.of_heap hh) own started (by kernel_rfl) Tryz.func5
  (ChangeSpec.witness_shaped (enc:=enc) (C:=Tryz.checked) (os:=os) (X:=fun w _=>laidMet Tryz.prog laidD w) false (World.laidAll Tryz.prog os laidD) #[.slice none 0 0,.slice none 0 0] 8 (World.laidAll_os _ _ _) (World.shaped_of_ZipB (by kernel_rfl) (by kernel_rfl)) (by kernel_rfl) (by kernel_rfl) (by kernel_rfl) (laidD_met os _)) ?_
 intro W base args ds gs before hval0 hW hLd hsh
 have hval:∀ (j:Nat) t v,Tryz.f5.params[j]?=some t→args[j]?=some v→Value.okWide Tryz.prog W .any base t v:=hval0
 have hW':=hW
 obtain⟨p,q,hA0,hV,rfl,hfz,hnd⟩:=hW
 have hA:DataW.TrodAll enc Tryz.prog W 0 (fun _=>true) true Tryz.f5.params.toList args.toList ds p:=hA0
 rw[Tryz.params5] at hA hval
 obtain⟨v0,vs0,d0,ds0,p0,q0,hargs,rfl,rfl,h0,r0⟩:=trodAll_cons hA
 obtain⟨v1,vs1,d1,ds1,p1,q1,rfl,rfl,rfl,h1,r1⟩:=trodAll_cons r0
 obtain⟨rfl,rfl,rfl⟩:=trodAll_nil r1
 obtain rfl:args=#[v0,v1]:=by cases args;simp_all
 obtain⟨rfl,rfl⟩:=trodVars_none hV
 have k0:=h0
 have lt0:∀ x∈p0,x.block < W.heap.size:=by obtain⟨m,hm⟩:=k0;exact DataW.trod_lt m _ _ _ hm
 obtain⟨a0,rfl,w0⟩:=open_bytes (hval 0 27 v0 rfl rfl) h0
 have k1:=h1
 have lt1:∀ x∈p1,x.block < W.heap.size:=by obtain⟨m,hm⟩:=k1;exact DataW.trod_lt m _ _ _ hm
 obtain⟨a1,rfl,w1⟩:=open_bytes (hval 1 27 v1 rfl rfl) h1
 clear hA0 hval0
 refine(fnDesk_any a0 a1 W w0 w1 (libW_of hLd hsh)).mono fun e W' ⟨he,hx⟩=>?_
 subst he
 have bel:=hx.below
 exact⟨_,rfl,_,_,_,[],_,[],hW',trodAll_mk1 (shut_bool Tryz.underlying4 _),(trodAll_cons_mk (Below.trod laidOut (by kernel_rfl) (of_decide_eq_true (by kernel_rfl)) k0 bel lt0) (trodAll_cons_mk (Below.trod laidOut (by kernel_rfl) (of_decide_eq_true (by kernel_rfl)) k1 bel lt1) trodAll_mk0)),rfl,bel.frame _,fun h=>by cases h⟩
theorem fnDesk_over:Rows.fnDeskRow.holds Tryz.pinned (OpenSpec.ofChange Rows.fnDeskSpec) :=
 OpenClaim.holds_of_wide 5 Tryz.f5 rfl rfl rfl rfl rfl rfl rfl ⟨rfl,rfl,rfl,rfl,rfl⟩ rfl rfl rfl rfl rfl (by kernel_rfl) Tryz.func5 (by kernel_rfl)
  (of_decide_eq_true (by kernel_rfl)) (by unfold Func.isWrapper;first | (rw[if_pos (by decide +kernel)];kernel_rfl) | (rw[if_neg (by decide +kernel)];exact⟨rfl,rfl⟩))
  (fun os started H enc _=>fnDesk_lifted os started H enc)
theorem fnDesk_proved:Rows.FnDeskCardSaid :=
 Claim7.holds_tied_plain_at .later [] [.data,.data,.data,.data,.sentinel,.sentinel,.pinned] true (true, "c26f0ab103b08aee983fa441c184b20c81432984890954fefdce08cffd99a61b") true
  fnDesk_over (fun _ h=>by cases h) (by kernel_rfl) (fun _ h=>by cases h) fnDesk_row_tie rfl ⟨rfl,rfl⟩ (by kernel_rfl) rfl
  (fun f fn hf hfn=>by
   obtain rfl:f=5:=Option.some.inj ((show Tryz.prog.funcNamed "loop.example/g00658/laws.FnDesk"=some 5 by kernel_rfl).symm.trans hf) |>.symm
   obtain rfl:fn=Tryz.f5:=(Option.some.inj (Tryz.func5.symm.trans hfn)).symm
   exact⟨by kernel_rfl,fun j t ht=>by
    rw[Tryz.params5] at ht
    have hm:t∈[27]:=by
     have:=Array.mem_of_getElem? ht
     simpa using this
    revert hm
    simp only[List.mem_cons,List.not_mem_nil,or_false]
    rintro rfl
    exact(show Tryz.prog.wantsStandIn 27=false by kernel_rfl)⟩)
  (by kernel_rfl)
#print axioms fnDesk_proved
end Go.Proofs.YtbmbanelodabgaaGreatDoor
