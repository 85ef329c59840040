/- The walks of EntryRead. -/
import Derived.Test.YtdoeoojjabnboaaGreatKY1
set_option maxRecDepth 100000
set_option linter.unusedVariables false
namespace Go.Proofs.YtdoeoojjabnboaaGreat
open Go.RowKit Go.Fin1
def zE:Ent:=⟨0,⟨0,0⟩,0,0,0⟩
def mkE:List Int→Ent
 | [a,b,c,d,e,f]=>⟨a,⟨b,c⟩,d,e,f⟩
 | _=>zE
def entOV (e:Ent) (c:Int):Value:=.agg #[(.int .i64 e.k),(.int .i64 e.l.lv),(.int .i64 e.l.st),(.int .i64 e.a),(.int .i64 e.b),(.int .i64 e.c),(.int .i64 c)]
@[irreducible] def entRd (s:ByteArray):Ent×Int :=
 if (unsealS s).c≠0 then (zE,(unsealS s).c) else match numsN (unsealS s).t 6 with
  | none=>(zE,3)
  | some (l,_)=>if (entB (mkE l)).toList == s.toList then (mkE l,0) else (zE,3)
theorem entRd_code {s:ByteArray} (h:(unsealS s).c≠0):entRd s=(zE,(unsealS s).c):=by unfold entRd;rw[if_pos h]
theorem entRd_none {s:ByteArray} (h:¬ (unsealS s).c≠0) (hn:numsN (unsealS s).t 6=none):entRd s=(zE,3):=by unfold entRd;rw[if_neg h,hn]
theorem entRd_some {s:ByteArray} {l:List Int} {a:Int} (h:¬ (unsealS s).c≠0) (hn:numsN (unsealS s).t 6=some (l,a)):entRd s=if (entB (mkE l)).toList == s.toList then (mkE l,0) else (zE,3):=by unfold entRd;rw[if_neg h,hn]
theorem unsealS_sz {s:ByteArray} (hs:s.size≤1048576):(unsealS s).t.size≤1048576:=by
 unfold unsealS
 split
 ·simp[ByteArray.size]
 ·split
  ·simp[ByteArray.size]
  ·split
   ·rw[ByteArray.size_extract];omega
   ·simp[ByteArray.size]
theorem lenI6 {l:List Int} (h:l.length=6):∃ a b c d e f,l=[a,b,c,d,e,f]:=by match l,h with | [a,b,c,d,e,f],_=>exact⟨a,b,c,d,e,f,rfl⟩
def kBoxZ (B:Nat) (cs:List Value) (ty:TypeId) (_:Nat×Nat):XReg.Kind:=fun v w=>∃ g,v=.pointer (some ⟨g,0,none⟩)∧B≤g∧w.heap[g]?=some (.cells cs.toArray ty (0,0))
theorem kBoxZ_good (B:Nat) (cs:List Value) (ty:TypeId):(XReg.ZOp.A (kBoxZ B cs ty) [] [] []).Good :=
 ⟨fun x v w w' hx ⟨g,hv,hB,hg⟩=>⟨g,hv,hB,by rw[hx.block g (Array.getElem?_eq_some_iff.1 hg).1 (by simp)];exact hg⟩,
  (0,0),_,(emptyW B).alloc (.cells cs.toArray ty),(emptyW B).heap.size,rfl,by simp[emptyW],heap_alloc_new _ _⟩
theorem kBoxZ_g {B:Nat} {cs:List Value} {ty:TypeId} {x:Nat×Nat} {g:Nat} {w:World} (h:kBoxZ B cs ty x (.pointer (some ⟨g,0,none⟩)) w):B≤g∧w.heap[g]?=some (.cells cs.toArray ty (0,0)):=by
 obtain⟨g',hv,h1,h2⟩:=h
 obtain rfl:g=g':=by simpa using hv
 exact⟨h1,h2⟩
set_option maxHeartbeats 800000 in
theorem implEntryRead_any (s:ByteArray) (w:World) (hs:s.size≤1048576) :
  Calls Tryz.prog 30 #[.string s] w fun e w'=>e=.returned (entOV (entRd s).1 (entRd s).2)∧Ext w w':=by
 have HU:=tH (fun w=>implUnseal_any s w hs)
 have hsz:=unsealS_sz hs
 have HC:=tH (entRd_code (s:=s))
 have HNo:=tH (entRd_none (s:=s))
 have HSo:=tH (fun l a=>entRd_some (s:=s) (l:=l) (a:=a))
 generalize entRd s=R at *
 generalize unsealS s=U at *
 obtain⟨ut,ua,uc⟩:=U
 simp only at HU hsz HC HNo HSo
 cases hq:(uc != 0)
 ·have hc0:uc=0:=by simpa using hq
  have hcn:¬ uc≠0:=by simp[hc0]
  have HG:=tH (fun w=>getNums_any ut w hsz)
  cases hn:numsN ut 6 with
  | none =>
   obtain rfl:R=(zE,3):=HNo.out hcn hn
   have HN:=tH hn
   clear hcn HC HNo HSo hq hn
   subst hc0
   show Calls Tryz.prog 30 #[.string s] w fun e w'=>e=.returned (.agg #[(.int .i64 0),(.int .i64 0),(.int .i64 0),(.int .i64 0),(.int .i64 0),(.int .i64 0),(.int .i64 3)])∧Ext w w'
   go_enter Tryz.func30,Tryz.ntmps30
   go_wp2_with fail
   refine(HU.out _).mono ?_
   rintro e _ ⟨rfl,X,rfl⟩
   go_wp2_with fail
   refine(HG.out _).mono ?_
   rintro e w2 ⟨⟨Y,rfl⟩,h⟩
   obtain rfl:e=.returned (.tuple #[.slice none 0 0,(.int .i64 0),.bool false]):=by
    rcases h with ⟨_,h⟩ | ⟨l,a,v,h,_⟩
    ·exact h
    ·rw[HN.out] at h;cases h
   clear h
   go_wp2
   exact bodyPost_ret (v:=.agg #[(.int .i64 0),(.int .i64 0),(.int .i64 0),(.int .i64 0),(.int .i64 0),(.int .i64 0),(.int .i64 3)]) (by simp[results,Tryz.results30,go_sem]) rfl ⟨rfl,xF⟩
  | some p =>
   obtain⟨l,a⟩:=p
   have HR:=tH (HSo.out l a hcn hn)
   have HN:=tH hn
   obtain⟨n0,n1,n2,n3,n4,n5,rfl⟩:=lenI6 (numsN_len hn).1
   have hI:=(numsN_len hn).2
   have HI:=tH hI
   have HX:Hid ((⟨n0,⟨n1,n2⟩,n3,n4,n5⟩:Ent).ok):=tH ⟨hI n0 (by simp),⟨hI n1 (by simp),hI n2 (by simp)⟩,hI n3 (by simp),hI n4 (by simp),hI n5 (by simp)⟩
   have HEB:=tH (fun w=>implEntryBytes_any ⟨n0,⟨n1,n2⟩,n3,n4,n5⟩ w HX.out)
   change Hid (R=if ((entB ⟨n0,⟨n1,n2⟩,n3,n4,n5⟩).toList == s.toList)=true then ((⟨n0,⟨n1,n2⟩,n3,n4,n5⟩:Ent),(0:Int)) else (zE,3)) at HR
   clear hcn HC HNo HSo hq hn hI HX
   subst hc0
   generalize entB ⟨n0,⟨n1,n2⟩,n3,n4,n5⟩=EB at *
   unfold Ent.val at HEB
   simp only at HEB
   cases hb:(EB.toList == s.toList)
   ·obtain rfl:R=(zE,3):=by have h:=HR.out;rw[hb] at h;simpa using h
    clear HR
    show Calls Tryz.prog 30 #[.string s] w fun e w'=>e=.returned (.agg #[(.int .i64 0),(.int .i64 0),(.int .i64 0),(.int .i64 0),(.int .i64 0),(.int .i64 0),(.int .i64 3)])∧Ext w w'
    go_enter Tryz.func30,Tryz.ntmps30
    go_wp2_with fail
    refine(HU.out _).mono ?_
    rintro e _ ⟨rfl,X,rfl⟩
    go_wp2_with fail
    refine(HG.out _).mono ?_
    rintro e w2 ⟨⟨Y,rfl⟩,h⟩
    obtain⟨v,rfl,hR⟩:∃ v,e=.returned (.tuple #[v,(.int .i64 a),.bool true])∧Row _ _ 2 1 intCell v [n0,n1,n2,n3,n4,n5]:=by
     rcases h with ⟨h,_⟩ | ⟨l',a',v,h,he,hr⟩
     ·rw[HN.out] at h;cases h
     ·rw[HN.out] at h
      obtain⟨rfl,rfl⟩:[n0,n1,n2,n3,n4,n5]=l'∧a=a':=by simpa only [Option.some.injEq,Prod.mk.injEq] using h
      exact⟨v,he,hr⟩
    obtain⟨fp,hO⟩:=Row.own (f:=intCell) (K:=1) (fun _=>rfl) hR
    have hS6:=oIntS_r hO.1 HI.out
    obtain⟨av,gc,rfl⟩:=hS6.len
    obtain⟨gb,go,rfl⟩:=slr_some hS6 (i:=0) (by simp)
    have HS6:=tH hS6
    clear h hO hS6 hR fp
    go_upto_region 7 with fail
    refine gen_world ?_
    intro W hW
    have hEW:Ext w W:=by rw[hW];exact xE
    have HSW:=HS6.out.ext rInt_stable (show Ext _ W by rw[hW];exact xE)
    obtain⟨ho,_,i0⟩:=int_at HSW (i:=0) (by simp)
    obtain⟨_,_,i1⟩:=int_at HSW (i:=1) (by simp)
    obtain⟨_,_,i2⟩:=int_at HSW (i:=2) (by simp)
    obtain⟨_,_,i3⟩:=int_at HSW (i:=3) (by simp)
    obtain⟨_,_,i4⟩:=int_at HSW (i:=4) (by simp)
    obtain⟨_,_,i5⟩:=int_at HSW (i:=5) (by simp)
    simp only[List.getElem_cons_zero,List.getElem_cons_succ,Nat.add_zero] at i0 i1 i2 i3 i4 i5
    have HWE:=tH hW
    have HEW:=tH hEW
    clear hW hEW HSW
    (refine wp_region_z [] [XReg.ZOp.A (fun _ u _=>u=(.slice (some ⟨gb,go,none⟩) 6 gc)) [] [] [],XReg.ZOp.A (fun _ u _=>u=(.pointer (some ⟨gb,go,none⟩))) [] [] [],XReg.ZOp.A (fun _ u _=>u=(.int .i64 n0)) [] [] [],XReg.ZOp.A (fun _ u _=>u=(.slice (some ⟨gb,go,none⟩) 6 gc)) [] [] [],XReg.ZOp.A (fun _ u _=>u=(.pointer (some ⟨gb,go+1,none⟩))) [] [] [],XReg.ZOp.A (fun _ u _=>u=(.int .i64 n1)) [] [] [],XReg.ZOp.A (fun _ u _=>u=(.slice (some ⟨gb,go,none⟩) 6 gc)) [] [] [],XReg.ZOp.A (fun _ u _=>u=(.pointer (some ⟨gb,go+2,none⟩))) [] [] [],XReg.ZOp.A (fun _ u _=>u=(.int .i64 n2)) [] [] [],XReg.ZOp.A (fun _ u _=>u=(.agg #[(.int .i64 n1),(.int .i64 n2)])) [] [] [],XReg.ZOp.A (fun _ u _=>u=(.slice (some ⟨gb,go,none⟩) 6 gc)) [] [] [],XReg.ZOp.A (fun _ u _=>u=(.pointer (some ⟨gb,go+3,none⟩))) [] [] [],XReg.ZOp.A (fun _ u _=>u=(.int .i64 n3)) [] [] [],XReg.ZOp.A (fun _ u _=>u=(.slice (some ⟨gb,go,none⟩) 6 gc)) [] [] [],XReg.ZOp.A (fun _ u _=>u=(.pointer (some ⟨gb,go+4,none⟩))) [] [] [],XReg.ZOp.A (fun _ u _=>u=(.int .i64 n4)) [] [] [],XReg.ZOp.A (fun _ u _=>u=(.slice (some ⟨gb,go,none⟩) 6 gc)) [] [] [],XReg.ZOp.A (fun _ u _=>u=(.pointer (some ⟨gb,go+5,none⟩))) [] [] [],XReg.ZOp.A (fun _ u _=>u=(.int .i64 n5)) [] [] [],XReg.ZOp.A (fun _ u _=>u=(.agg #[(.int .i64 n0),(.int .i64 n1),(.int .i64 n2),(.int .i64 n3),(.int .i64 n4),(.int .i64 n5)])) [] [] [],.A (kBoxZ W.heap.size [(.int .i64 0),(.int .i64 0),(.int .i64 0),(.int .i64 0),(.int .i64 0),(.int .i64 0)] 57) [] [] [],.T] [_] (by kernel_rfl) (by kernel_rfl) (by kernel_rfl) (by kernel_rfl) rfl ?_ (by repeat' (first | exact trivial | exact XReg.ZOp.good_is _ _ _ _ | exact XReg.ZOp.good_v _ | exact XReg.ZOp.good_t | exact kBoxZ_good _ _ _ | refine And.intro ?_ ?_)) (by repeat' (first | exact trivial | exact XReg.subL_nil _ | exact XReg.subL_refl _ | exact Or.inr (XReg.subL_nil _) | exact Or.inr (XReg.subL_refl _) | exact Or.inl (by kernel_rfl) | refine And.intro ?_ ?_)))
    (apply ZReg.setE (.slice (some ⟨gb,go,none⟩) 6 gc);(case h=>(intro w' hw' hF';obtain⟨X',rfl⟩:=hw';have HF':=tH hF';clear hF';go_wp2_with (fail);exact⟨rfl,xE⟩));(case hv=>kernel_rfl);intro _)
    (apply ZReg.setE (.pointer (some ⟨gb,go,none⟩));(case h=>(intro w' hw' hF';obtain⟨X',rfl⟩:=hw';have HF':=tH hF';clear hF';go_wp2_with (fail);exact⟨rfl,xE⟩));(case hv=>kernel_rfl);intro _)
    (apply ZReg.setE (.int .i64 n0);(case h=>(intro w' hw' hF';obtain⟨X',rfl⟩:=hw';have HF':=tH hF';clear hF';go_wp2_with (fail);exact⟨rfl,xE⟩));(case hv=>kernel_rfl);intro _)
    (apply ZReg.setE (.slice (some ⟨gb,go,none⟩) 6 gc);(case h=>(intro w' hw' hF';obtain⟨X',rfl⟩:=hw';have HF':=tH hF';clear hF';go_wp2_with (fail);exact⟨rfl,xE⟩));(case hv=>kernel_rfl);intro _)
    (apply ZReg.setE (.pointer (some ⟨gb,go+1,none⟩));(case h=>(intro w' hw' hF';obtain⟨X',rfl⟩:=hw';have HF':=tH hF';clear hF';go_wp2_with (fail);exact⟨rfl,xE⟩));(case hv=>kernel_rfl);intro _)
    (apply ZReg.setE (.int .i64 n1);(case h=>(intro w' hw' hF';obtain⟨X',rfl⟩:=hw';have HF':=tH hF';clear hF';go_wp2_with (fail);exact⟨rfl,xE⟩));(case hv=>kernel_rfl);intro _)
    (apply ZReg.setE (.slice (some ⟨gb,go,none⟩) 6 gc);(case h=>(intro w' hw' hF';obtain⟨X',rfl⟩:=hw';have HF':=tH hF';clear hF';go_wp2_with (fail);exact⟨rfl,xE⟩));(case hv=>kernel_rfl);intro _)
    (apply ZReg.setE (.pointer (some ⟨gb,go+2,none⟩));(case h=>(intro w' hw' hF';obtain⟨X',rfl⟩:=hw';have HF':=tH hF';clear hF';go_wp2_with (fail);exact⟨rfl,xE⟩));(case hv=>kernel_rfl);intro _)
    (apply ZReg.setE (.int .i64 n2);(case h=>(intro w' hw' hF';obtain⟨X',rfl⟩:=hw';have HF':=tH hF';clear hF';go_wp2_with (fail);exact⟨rfl,xE⟩));(case hv=>kernel_rfl);intro _)
    (apply ZReg.setE (.agg #[(.int .i64 n1),(.int .i64 n2)]);(case h=>(intro w' hw' hF';obtain⟨X',rfl⟩:=hw';have HF':=tH hF';clear hF';go_wp2_with (fail);exact⟨rfl,xE⟩));(case hv=>kernel_rfl);intro _)
    (apply ZReg.setE (.slice (some ⟨gb,go,none⟩) 6 gc);(case h=>(intro w' hw' hF';obtain⟨X',rfl⟩:=hw';have HF':=tH hF';clear hF';go_wp2_with (fail);exact⟨rfl,xE⟩));(case hv=>kernel_rfl);intro _)
    (apply ZReg.setE (.pointer (some ⟨gb,go+3,none⟩));(case h=>(intro w' hw' hF';obtain⟨X',rfl⟩:=hw';have HF':=tH hF';clear hF';go_wp2_with (fail);exact⟨rfl,xE⟩));(case hv=>kernel_rfl);intro _)
    (apply ZReg.setE (.int .i64 n3);(case h=>(intro w' hw' hF';obtain⟨X',rfl⟩:=hw';have HF':=tH hF';clear hF';go_wp2_with (fail);exact⟨rfl,xE⟩));(case hv=>kernel_rfl);intro _)
    (apply ZReg.setE (.slice (some ⟨gb,go,none⟩) 6 gc);(case h=>(intro w' hw' hF';obtain⟨X',rfl⟩:=hw';have HF':=tH hF';clear hF';go_wp2_with (fail);exact⟨rfl,xE⟩));(case hv=>kernel_rfl);intro _)
    (apply ZReg.setE (.pointer (some ⟨gb,go+4,none⟩));(case h=>(intro w' hw' hF';obtain⟨X',rfl⟩:=hw';have HF':=tH hF';clear hF';go_wp2_with (fail);exact⟨rfl,xE⟩));(case hv=>kernel_rfl);intro _)
    (apply ZReg.setE (.int .i64 n4);(case h=>(intro w' hw' hF';obtain⟨X',rfl⟩:=hw';have HF':=tH hF';clear hF';go_wp2_with (fail);exact⟨rfl,xE⟩));(case hv=>kernel_rfl);intro _)
    (apply ZReg.setE (.slice (some ⟨gb,go,none⟩) 6 gc);(case h=>(intro w' hw' hF';obtain⟨X',rfl⟩:=hw';have HF':=tH hF';clear hF';go_wp2_with (fail);exact⟨rfl,xE⟩));(case hv=>kernel_rfl);intro _)
    (apply ZReg.setE (.pointer (some ⟨gb,go+5,none⟩));(case h=>(intro w' hw' hF';obtain⟨X',rfl⟩:=hw';have HF':=tH hF';clear hF';go_wp2_with (fail);exact⟨rfl,xE⟩));(case hv=>kernel_rfl);intro _)
    (apply ZReg.setE (.int .i64 n5);(case h=>(intro w' hw' hF';obtain⟨X',rfl⟩:=hw';have HF':=tH hF';clear hF';go_wp2_with (fail);exact⟨rfl,xE⟩));(case hv=>kernel_rfl);intro _)
    (apply ZReg.setE (.agg #[(.int .i64 n0),(.int .i64 n1),(.int .i64 n2),(.int .i64 n3),(.int .i64 n4),(.int .i64 n5)]);(case h=>(intro w' hw' hF';obtain⟨X',rfl⟩:=hw';have HF':=tH hF';clear hF';go_wp2_with (fail);exact⟨rfl,xE⟩));(case hv=>kernel_rfl);intro _)
    refine ZReg.kindE (fun w' hw' hF'=>?_) (fun v w1 x9 hK=>?_)
    ·obtain⟨X',rfl⟩:=hw'
     clear hF'
     go_wp2
     refine⟨xE,_,rfl,?_,?_⟩
     ·first | omega | (simp only[World.size_plus,World.size_alloc];omega)
     ·have h:=heap_alloc_new (W.plus X') (.cells (List.toArray [(.int .i64 0),(.int .i64 0),(.int .i64 0),(.int .i64 0),(.int .i64 0),(.int .i64 0)]) 57)
      simp only[World.size_plus] at h
      exact h
    obtain⟨g,rfl,hgB,hgh⟩:=hK
    have HGB:=tH hgB
    clear hgB hgh w1
    refine ZReg.T ?_
    refine ZReg.doneE (fun X9 hF hR=>ZReg.run ?_)
    have hbx:=kBoxZ_g (x:=x9) (hF 20 (kBoxZ W.heap.size [(.int .i64 0),(.int .i64 0),(.int .i64 0),(.int .i64 0),(.int .i64 0),(.int .i64 0)] 57 x9,.pointer (some ⟨g,0,none⟩)) (by kernel_rfl))
    clear hF hR
    have HBH:=tH hbx.2
    have hbc:=CellsAt.of_heap hbx.2
    have hfz:=frozen_of_heap hbx.2
    have d0:=hbc 0 _ rfl
    have d1:=hbc 1 _ rfl
    have d2:=hbc 2 _ rfl
    have d3:=hbc 3 _ rfl
    have d4:=hbc 4 _ rfl
    have d5:=hbc 5 _ rfl
    have hog:=World.old_of_cell d0
    clear hbx hbc
    go_wp2
    clear d0 d1 d2 d3 d4 d5 hog hfz ho i0 i1 i2 i3 i4 i5
    refine ZReg.endG (fun W8 hW8=>?_)
    have hLay:W8=(W.plus X9).layCells g 0 [(.int .i64 n0),(.int .i64 n1),(.int .i64 n2),(.int .i64 n3),(.int .i64 n4),(.int .i64 n5)]:=hW8
    have hC8:Chg [g] (W.plus X9) W8:=by rw[hLay];exact layCells_chg _ _ _ _
    have hE8:Ext W W8:=hC8.ext xE (fun b hb=>by simp at hb;rw[hb];exact HGB.out)
    have HB8:Hid (CellsAt W8 g [(.int .i64 n0),(.int .i64 n1),(.int .i64 n2),(.int .i64 n3),(.int .i64 n4),(.int .i64 n5)]):=tH (by rw[hLay];exact CellsAt.lay HBH.out (by kernel_rfl))
    clear hW8 hLay hC8 HBH HGB
    obtain⟨Y9,rfl⟩:=hE8
    have hW:=HWE.out
    clear HWE HEW
    subst hW
    have hb8:=HB8.out
    have d0:=hb8 0 _ rfl
    have d1:=hb8 1 _ rfl
    have d2:=hb8 2 _ rfl
    have d3:=hb8 3 _ rfl
    have d4:=hb8 4 _ rfl
    have d5:=hb8 5 _ rfl
    have hog:=World.old_of_cell d0
    clear hb8 HB8
    go_wp2_with fail
    refine(HEB.out _).mono ?_
    rintro e _ ⟨rfl,Z,rfl⟩
    go_wp2
    exact bodyPost_ret (v:=.agg #[(.int .i64 0),(.int .i64 0),(.int .i64 0),(.int .i64 0),(.int .i64 0),(.int .i64 0),(.int .i64 3)]) (by simp[results,Tryz.results30,go_sem]) rfl ⟨rfl,xF⟩
   ·obtain rfl:R=(⟨n0,⟨n1,n2⟩,n3,n4,n5⟩,0):=by have h:=HR.out;rw[hb] at h;simpa using h
    clear HR
    show Calls Tryz.prog 30 #[.string s] w fun e w'=>e=.returned (.agg #[(.int .i64 n0),(.int .i64 n1),(.int .i64 n2),(.int .i64 n3),(.int .i64 n4),(.int .i64 n5),(.int .i64 0)])∧Ext w w'
    go_enter Tryz.func30,Tryz.ntmps30
    go_wp2_with fail
    refine(HU.out _).mono ?_
    rintro e _ ⟨rfl,X,rfl⟩
    go_wp2_with fail
    refine(HG.out _).mono ?_
    rintro e w2 ⟨⟨Y,rfl⟩,h⟩
    obtain⟨v,rfl,hR⟩:∃ v,e=.returned (.tuple #[v,(.int .i64 a),.bool true])∧Row _ _ 2 1 intCell v [n0,n1,n2,n3,n4,n5]:=by
     rcases h with ⟨h,_⟩ | ⟨l',a',v,h,he,hr⟩
     ·rw[HN.out] at h;cases h
     ·rw[HN.out] at h
      obtain⟨rfl,rfl⟩:[n0,n1,n2,n3,n4,n5]=l'∧a=a':=by simpa only [Option.some.injEq,Prod.mk.injEq] using h
      exact⟨v,he,hr⟩
    obtain⟨fp,hO⟩:=Row.own (f:=intCell) (K:=1) (fun _=>rfl) hR
    have hS6:=oIntS_r hO.1 HI.out
    obtain⟨av,gc,rfl⟩:=hS6.len
    obtain⟨gb,go,rfl⟩:=slr_some hS6 (i:=0) (by simp)
    have HS6:=tH hS6
    clear h hO hS6 hR fp
    go_upto_region 7 with fail
    refine gen_world ?_
    intro W hW
    have hEW:Ext w W:=by rw[hW];exact xE
    have HSW:=HS6.out.ext rInt_stable (show Ext _ W by rw[hW];exact xE)
    obtain⟨ho,_,i0⟩:=int_at HSW (i:=0) (by simp)
    obtain⟨_,_,i1⟩:=int_at HSW (i:=1) (by simp)
    obtain⟨_,_,i2⟩:=int_at HSW (i:=2) (by simp)
    obtain⟨_,_,i3⟩:=int_at HSW (i:=3) (by simp)
    obtain⟨_,_,i4⟩:=int_at HSW (i:=4) (by simp)
    obtain⟨_,_,i5⟩:=int_at HSW (i:=5) (by simp)
    simp only[List.getElem_cons_zero,List.getElem_cons_succ,Nat.add_zero] at i0 i1 i2 i3 i4 i5
    have HWE:=tH hW
    have HEW:=tH hEW
    clear hW hEW HSW
    (refine wp_region_z [] [XReg.ZOp.A (fun _ u _=>u=(.slice (some ⟨gb,go,none⟩) 6 gc)) [] [] [],XReg.ZOp.A (fun _ u _=>u=(.pointer (some ⟨gb,go,none⟩))) [] [] [],XReg.ZOp.A (fun _ u _=>u=(.int .i64 n0)) [] [] [],XReg.ZOp.A (fun _ u _=>u=(.slice (some ⟨gb,go,none⟩) 6 gc)) [] [] [],XReg.ZOp.A (fun _ u _=>u=(.pointer (some ⟨gb,go+1,none⟩))) [] [] [],XReg.ZOp.A (fun _ u _=>u=(.int .i64 n1)) [] [] [],XReg.ZOp.A (fun _ u _=>u=(.slice (some ⟨gb,go,none⟩) 6 gc)) [] [] [],XReg.ZOp.A (fun _ u _=>u=(.pointer (some ⟨gb,go+2,none⟩))) [] [] [],XReg.ZOp.A (fun _ u _=>u=(.int .i64 n2)) [] [] [],XReg.ZOp.A (fun _ u _=>u=(.agg #[(.int .i64 n1),(.int .i64 n2)])) [] [] [],XReg.ZOp.A (fun _ u _=>u=(.slice (some ⟨gb,go,none⟩) 6 gc)) [] [] [],XReg.ZOp.A (fun _ u _=>u=(.pointer (some ⟨gb,go+3,none⟩))) [] [] [],XReg.ZOp.A (fun _ u _=>u=(.int .i64 n3)) [] [] [],XReg.ZOp.A (fun _ u _=>u=(.slice (some ⟨gb,go,none⟩) 6 gc)) [] [] [],XReg.ZOp.A (fun _ u _=>u=(.pointer (some ⟨gb,go+4,none⟩))) [] [] [],XReg.ZOp.A (fun _ u _=>u=(.int .i64 n4)) [] [] [],XReg.ZOp.A (fun _ u _=>u=(.slice (some ⟨gb,go,none⟩) 6 gc)) [] [] [],XReg.ZOp.A (fun _ u _=>u=(.pointer (some ⟨gb,go+5,none⟩))) [] [] [],XReg.ZOp.A (fun _ u _=>u=(.int .i64 n5)) [] [] [],XReg.ZOp.A (fun _ u _=>u=(.agg #[(.int .i64 n0),(.int .i64 n1),(.int .i64 n2),(.int .i64 n3),(.int .i64 n4),(.int .i64 n5)])) [] [] [],.A (kBoxZ W.heap.size [(.int .i64 0),(.int .i64 0),(.int .i64 0),(.int .i64 0),(.int .i64 0),(.int .i64 0)] 57) [] [] [],.T] [_] (by kernel_rfl) (by kernel_rfl) (by kernel_rfl) (by kernel_rfl) rfl ?_ (by repeat' (first | exact trivial | exact XReg.ZOp.good_is _ _ _ _ | exact XReg.ZOp.good_v _ | exact XReg.ZOp.good_t | exact kBoxZ_good _ _ _ | refine And.intro ?_ ?_)) (by repeat' (first | exact trivial | exact XReg.subL_nil _ | exact XReg.subL_refl _ | exact Or.inr (XReg.subL_nil _) | exact Or.inr (XReg.subL_refl _) | exact Or.inl (by kernel_rfl) | refine And.intro ?_ ?_)))
    (apply ZReg.setE (.slice (some ⟨gb,go,none⟩) 6 gc);(case h=>(intro w' hw' hF';obtain⟨X',rfl⟩:=hw';have HF':=tH hF';clear hF';go_wp2_with (fail);exact⟨rfl,xE⟩));(case hv=>kernel_rfl);intro _)
    (apply ZReg.setE (.pointer (some ⟨gb,go,none⟩));(case h=>(intro w' hw' hF';obtain⟨X',rfl⟩:=hw';have HF':=tH hF';clear hF';go_wp2_with (fail);exact⟨rfl,xE⟩));(case hv=>kernel_rfl);intro _)
    (apply ZReg.setE (.int .i64 n0);(case h=>(intro w' hw' hF';obtain⟨X',rfl⟩:=hw';have HF':=tH hF';clear hF';go_wp2_with (fail);exact⟨rfl,xE⟩));(case hv=>kernel_rfl);intro _)
    (apply ZReg.setE (.slice (some ⟨gb,go,none⟩) 6 gc);(case h=>(intro w' hw' hF';obtain⟨X',rfl⟩:=hw';have HF':=tH hF';clear hF';go_wp2_with (fail);exact⟨rfl,xE⟩));(case hv=>kernel_rfl);intro _)
    (apply ZReg.setE (.pointer (some ⟨gb,go+1,none⟩));(case h=>(intro w' hw' hF';obtain⟨X',rfl⟩:=hw';have HF':=tH hF';clear hF';go_wp2_with (fail);exact⟨rfl,xE⟩));(case hv=>kernel_rfl);intro _)
    (apply ZReg.setE (.int .i64 n1);(case h=>(intro w' hw' hF';obtain⟨X',rfl⟩:=hw';have HF':=tH hF';clear hF';go_wp2_with (fail);exact⟨rfl,xE⟩));(case hv=>kernel_rfl);intro _)
    (apply ZReg.setE (.slice (some ⟨gb,go,none⟩) 6 gc);(case h=>(intro w' hw' hF';obtain⟨X',rfl⟩:=hw';have HF':=tH hF';clear hF';go_wp2_with (fail);exact⟨rfl,xE⟩));(case hv=>kernel_rfl);intro _)
    (apply ZReg.setE (.pointer (some ⟨gb,go+2,none⟩));(case h=>(intro w' hw' hF';obtain⟨X',rfl⟩:=hw';have HF':=tH hF';clear hF';go_wp2_with (fail);exact⟨rfl,xE⟩));(case hv=>kernel_rfl);intro _)
    (apply ZReg.setE (.int .i64 n2);(case h=>(intro w' hw' hF';obtain⟨X',rfl⟩:=hw';have HF':=tH hF';clear hF';go_wp2_with (fail);exact⟨rfl,xE⟩));(case hv=>kernel_rfl);intro _)
    (apply ZReg.setE (.agg #[(.int .i64 n1),(.int .i64 n2)]);(case h=>(intro w' hw' hF';obtain⟨X',rfl⟩:=hw';have HF':=tH hF';clear hF';go_wp2_with (fail);exact⟨rfl,xE⟩));(case hv=>kernel_rfl);intro _)
    (apply ZReg.setE (.slice (some ⟨gb,go,none⟩) 6 gc);(case h=>(intro w' hw' hF';obtain⟨X',rfl⟩:=hw';have HF':=tH hF';clear hF';go_wp2_with (fail);exact⟨rfl,xE⟩));(case hv=>kernel_rfl);intro _)
    (apply ZReg.setE (.pointer (some ⟨gb,go+3,none⟩));(case h=>(intro w' hw' hF';obtain⟨X',rfl⟩:=hw';have HF':=tH hF';clear hF';go_wp2_with (fail);exact⟨rfl,xE⟩));(case hv=>kernel_rfl);intro _)
    (apply ZReg.setE (.int .i64 n3);(case h=>(intro w' hw' hF';obtain⟨X',rfl⟩:=hw';have HF':=tH hF';clear hF';go_wp2_with (fail);exact⟨rfl,xE⟩));(case hv=>kernel_rfl);intro _)
    (apply ZReg.setE (.slice (some ⟨gb,go,none⟩) 6 gc);(case h=>(intro w' hw' hF';obtain⟨X',rfl⟩:=hw';have HF':=tH hF';clear hF';go_wp2_with (fail);exact⟨rfl,xE⟩));(case hv=>kernel_rfl);intro _)
    (apply ZReg.setE (.pointer (some ⟨gb,go+4,none⟩));(case h=>(intro w' hw' hF';obtain⟨X',rfl⟩:=hw';have HF':=tH hF';clear hF';go_wp2_with (fail);exact⟨rfl,xE⟩));(case hv=>kernel_rfl);intro _)
    (apply ZReg.setE (.int .i64 n4);(case h=>(intro w' hw' hF';obtain⟨X',rfl⟩:=hw';have HF':=tH hF';clear hF';go_wp2_with (fail);exact⟨rfl,xE⟩));(case hv=>kernel_rfl);intro _)
    (apply ZReg.setE (.slice (some ⟨gb,go,none⟩) 6 gc);(case h=>(intro w' hw' hF';obtain⟨X',rfl⟩:=hw';have HF':=tH hF';clear hF';go_wp2_with (fail);exact⟨rfl,xE⟩));(case hv=>kernel_rfl);intro _)
    (apply ZReg.setE (.pointer (some ⟨gb,go+5,none⟩));(case h=>(intro w' hw' hF';obtain⟨X',rfl⟩:=hw';have HF':=tH hF';clear hF';go_wp2_with (fail);exact⟨rfl,xE⟩));(case hv=>kernel_rfl);intro _)
    (apply ZReg.setE (.int .i64 n5);(case h=>(intro w' hw' hF';obtain⟨X',rfl⟩:=hw';have HF':=tH hF';clear hF';go_wp2_with (fail);exact⟨rfl,xE⟩));(case hv=>kernel_rfl);intro _)
    (apply ZReg.setE (.agg #[(.int .i64 n0),(.int .i64 n1),(.int .i64 n2),(.int .i64 n3),(.int .i64 n4),(.int .i64 n5)]);(case h=>(intro w' hw' hF';obtain⟨X',rfl⟩:=hw';have HF':=tH hF';clear hF';go_wp2_with (fail);exact⟨rfl,xE⟩));(case hv=>kernel_rfl);intro _)
    refine ZReg.kindE (fun w' hw' hF'=>?_) (fun v w1 x9 hK=>?_)
    ·obtain⟨X',rfl⟩:=hw'
     clear hF'
     go_wp2
     refine⟨xE,_,rfl,?_,?_⟩
     ·first | omega | (simp only[World.size_plus,World.size_alloc];omega)
     ·have h:=heap_alloc_new (W.plus X') (.cells (List.toArray [(.int .i64 0),(.int .i64 0),(.int .i64 0),(.int .i64 0),(.int .i64 0),(.int .i64 0)]) 57)
      simp only[World.size_plus] at h
      exact h
    obtain⟨g,rfl,hgB,hgh⟩:=hK
    have HGB:=tH hgB
    clear hgB hgh w1
    refine ZReg.T ?_
    refine ZReg.doneE (fun X9 hF hR=>ZReg.run ?_)
    have hbx:=kBoxZ_g (x:=x9) (hF 20 (kBoxZ W.heap.size [(.int .i64 0),(.int .i64 0),(.int .i64 0),(.int .i64 0),(.int .i64 0),(.int .i64 0)] 57 x9,.pointer (some ⟨g,0,none⟩)) (by kernel_rfl))
    clear hF hR
    have HBH:=tH hbx.2
    have hbc:=CellsAt.of_heap hbx.2
    have hfz:=frozen_of_heap hbx.2
    have d0:=hbc 0 _ rfl
    have d1:=hbc 1 _ rfl
    have d2:=hbc 2 _ rfl
    have d3:=hbc 3 _ rfl
    have d4:=hbc 4 _ rfl
    have d5:=hbc 5 _ rfl
    have hog:=World.old_of_cell d0
    clear hbx hbc
    go_wp2
    clear d0 d1 d2 d3 d4 d5 hog hfz ho i0 i1 i2 i3 i4 i5
    refine ZReg.endG (fun W8 hW8=>?_)
    have hLay:W8=(W.plus X9).layCells g 0 [(.int .i64 n0),(.int .i64 n1),(.int .i64 n2),(.int .i64 n3),(.int .i64 n4),(.int .i64 n5)]:=hW8
    have hC8:Chg [g] (W.plus X9) W8:=by rw[hLay];exact layCells_chg _ _ _ _
    have hE8:Ext W W8:=hC8.ext xE (fun b hb=>by simp at hb;rw[hb];exact HGB.out)
    have HB8:Hid (CellsAt W8 g [(.int .i64 n0),(.int .i64 n1),(.int .i64 n2),(.int .i64 n3),(.int .i64 n4),(.int .i64 n5)]):=tH (by rw[hLay];exact CellsAt.lay HBH.out (by kernel_rfl))
    clear hW8 hLay hC8 HBH HGB
    obtain⟨Y9,rfl⟩:=hE8
    have hW:=HWE.out
    clear HWE HEW
    subst hW
    have hb8:=HB8.out
    have d0:=hb8 0 _ rfl
    have d1:=hb8 1 _ rfl
    have d2:=hb8 2 _ rfl
    have d3:=hb8 3 _ rfl
    have d4:=hb8 4 _ rfl
    have d5:=hb8 5 _ rfl
    have hog:=World.old_of_cell d0
    clear hb8 HB8
    go_wp2_with fail
    refine(HEB.out _).mono ?_
    rintro e _ ⟨rfl,Z,rfl⟩
    go_wp2
    exact bodyPost_ret (v:=.agg #[(.int .i64 n0),(.int .i64 n1),(.int .i64 n2),(.int .i64 n3),(.int .i64 n4),(.int .i64 n5),(.int .i64 0)]) (by simp[results,Tryz.results30,go_sem]) rfl ⟨rfl,xF⟩
 ·obtain rfl:R=(zE,uc):=HC.out (by simpa using hq)
  clear HC HNo HSo
  show Calls Tryz.prog 30 #[.string s] w fun e w'=>e=.returned (.agg #[(.int .i64 0),(.int .i64 0),(.int .i64 0),(.int .i64 0),(.int .i64 0),(.int .i64 0),(.int .i64 uc)])∧Ext w w'
  go_enter Tryz.func30,Tryz.ntmps30
  go_wp2_with fail
  refine(HU.out _).mono ?_
  rintro e _ ⟨rfl,X,rfl⟩
  go_wp2
  exact bodyPost_ret (v:=.agg #[(.int .i64 0),(.int .i64 0),(.int .i64 0),(.int .i64 0),(.int .i64 0),(.int .i64 0),(.int .i64 uc)]) (by simp[results,Tryz.results30,go_sem]) rfl ⟨rfl,xF⟩
end Go.Proofs.YtdoeoojjabnboaaGreat
