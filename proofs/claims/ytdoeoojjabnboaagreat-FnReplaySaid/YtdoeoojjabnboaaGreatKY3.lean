/- The walk of the reference's EntryRead, and the law. -/
import Derived.Test.YtdoeoojjabnboaaGreatKY2
set_option maxRecDepth 100000
set_option linter.unusedVariables false
namespace Go.Proofs.YtdoeoojjabnboaaGreat
open Go.RowKit Go.Fin1
theorem numsN_at {s:ByteArray}:∀ {k:Nat} {l:List Int} {a:Int},numsN s k=some (l,a)→s.size≤1048576→I64 a
 | 0,l,a,h,_=>by
  obtain⟨_,rfl⟩:[]=l∧0=a:=by simpa [numsN] using h
  unfold I64;constructor<;>decide
 | k+1,l,a,h,hs=>by
  unfold numsN at h
  split at h
  ·cases h
  ·rename_i l' a' h'
   split at h
   ·rename_i hc
    obtain⟨_,rfl⟩:_∧(getNum s a').at_=a:=by simpa using h
    have:=getNum_bd hc
    unfold I64;omega
   ·cases h
set_option maxHeartbeats 800000 in
theorem specEntryRead_any (s:ByteArray) (w:World) (hs:s.size≤1048576) :
  Calls Tryz.prog 34 #[.string s] w fun e w'=>e=.returned (entOV (entRd s).1 (entRd s).2)∧Ext w w':=by
 have HU:=tH (fun w=>specUnseal_any s w hs)
 have hsz:=unsealS_sz hs
 have HC:=tH (entRd_code (s:=s))
 have HNo:=tH (entRd_none (s:=s))
 have HSo:=tH (fun l a=>entRd_some (s:=s) (l:=l) (a:=a))
 generalize entRd s=R at *
 generalize unsealS s=U at *
 obtain⟨ut,ua,uc⟩:=U
 simp only at HU hsz HC HNo HSo
 cases hq:(uc != 0)
 ·have hc0:uc=0:=by simpa using hq
  have hcn:¬ uc≠0:=by simp[hc0]
  cases hn:numsN ut 6 with
  | none =>
   obtain rfl:R=(zE,3):=HNo.out hcn hn
   have HN:=tH hn
   clear hcn HC HNo HSo hq hn
   subst hc0
   show Calls Tryz.prog 34 #[.string s] w fun e w'=>e=.returned (.agg #[(.int .i64 0),(.int .i64 0),(.int .i64 0),(.int .i64 0),(.int .i64 0),(.int .i64 0),(.int .i64 3)])∧Ext w w'
   go_enter Tryz.func34,Tryz.ntmps34
   go_wp2_with fail
   refine(HU.out _).mono ?_
   rintro e _ ⟨rfl,X,rfl⟩
   go_wp2
   go_loopw [4,5,6,7] (fun v at_ i _ wr=>∃ (k:Nat) (l:List Int) (a:Int),k≤6∧i=.int .i64 k∧at_=(.int .i64 a)∧Ext (((w.alloc (.cells #[(.int .i64 0),(.int .i64 0),(.int .i64 0),(.int .i64 0),(.int .i64 0),(.int .i64 0),(.int .i64 0)] 62)).plus X).alloc (.cells #[.string ut,(.int .i64 ua),(.int .i64 0)] 107)) wr∧Hid (numsN ut k=some (l,a))∧Hid (Row (((w.alloc (.cells #[(.int .i64 0),(.int .i64 0),(.int .i64 0),(.int .i64 0),(.int .i64 0),(.int .i64 0),(.int .i64 0)] 62)).plus X).alloc (.cells #[.string ut,(.int .i64 ua),(.int .i64 0)] 107)).heap.size wr 2 1 intCell v l)) (fun _ _ i _ _=>6-(intOf i).toNat)
   case atStart=>exact⟨0,[],0,by omega,rfl,rfl,xE,tH rfl,tH (by repeat (first | (refine Row.madeB' ?_ ?_<;>(simp<;>omega)) | refine Row.plus ?_ _))⟩
   case round =>
    obtain⟨k,l,a2,hk,rfl,rfl,⟨Y,rfl⟩,HNk,HR⟩:=hrel
    obtain⟨av,gc,rfl⟩:=HR.out.shape
    have hll:=tH (numsN_len HNk.out).1
    by_cases hlt:k < 6
    ·have HG:=tH (show ∀ w,Calls Tryz.prog 89 #[.string ut,(.int .i64 a2)] w fun e w'=>e=.returned (numV' (getNum ut a2))∧Ext w w' from fun w=>specGetNum_any ut a2 w hsz (numsN_at HNk.out hsz))
     by_cases hc:(getNum ut a2).c=0
     ·have HY:=tH (numsN_yes HNk.out hc)
      have hl1:l.length≤6:=by rw[hll.out];omega
      generalize getNum ut a2=G at HG hc HY
      obtain⟨gn,ga,gcd⟩:=G
      simp only[numV'] at HG
      simp only at hc HY
      subst hc
      go_wp2_with fail
      refine(HG.out _).mono ?_
      rintro e _ ⟨rfl,Z,rfl⟩
      go_upto_region 12 with fail
      refine gen_world ?_
      intro W hW
      have hE:Ext ((((w.alloc (.cells #[(.int .i64 0),(.int .i64 0),(.int .i64 0),(.int .i64 0),(.int .i64 0),(.int .i64 0),(.int .i64 0)] 62)).plus X).alloc (.cells #[.string ut,(.int .i64 ua),(.int .i64 0)] 107)).plus Y) W:=by rw[hW];exact xE
      have hc0:W.cell? ⟨w.heap.size+1+X.n+1+Y.n+Z.n,0,none⟩=some (.int .i64 gn):=by rw[hW];simp[go_sem]
      have hc1:W.cell? ⟨w.heap.size+1+X.n+1+Y.n+Z.n,1,none⟩=some (.int .i64 ga):=by rw[hW];simp[go_sem]
      have hco:=World.old_of_cell hc1
      have HRW:=tH (HR.out.ext hE)
      have hbl:w.heap.size+1+X.n+1+Y.n+Z.n∉blkL (.slice av l.length gc):=fun hb=>by
       have:=(HR.out.blk _ hb).2
       simp at this;omega
      have HBL:=tH hbl
      have HEW:=tH (show Ext (((w.alloc (.cells #[(.int .i64 0),(.int .i64 0),(.int .i64 0),(.int .i64 0),(.int .i64 0),(.int .i64 0),(.int .i64 0)] 62)).plus X).alloc (.cells #[.string ut,(.int .i64 ua),(.int .i64 0)] 107)) W from ((Ext.refl _).plus Y).trans hE)
      clear hE hbl hW HG
      go_wp2_with (at_builtin;go_must (refine Row.appC (f:=intCell) el_Int rfl _ _ rfl (((w.alloc (.cells #[(.int .i64 0),(.int .i64 0),(.int .i64 0),(.int .i64 0),(.int .i64 0),(.int .i64 0),(.int .i64 0)] 62)).plus X).alloc (.cells #[.string ut,(.int .i64 ua),(.int .i64 0)] 107)).heap.size (HEW.out.alloc _).below.size _ l rfl (HRW.out.ext xE) ⟨W.heap.size,0,none⟩ 1 1 [gn] rfl rfl (fun _=>rfl) ?_ ?_ ?_ ?_ ?_);(intro j u hj;exact flat1 (by simp[go_sem]) hj);(intro u hu;simp[intCell] at hu;subst hu;rfl);(unfold maxLen;simp;omega);(simp;omega);intro v' w2 hR2 hC2;have HR2:=tH hR2;have g1:=chg_cell hC2 (show (W.alloc _).cell? ⟨w.heap.size+1+X.n+1+Y.n+Z.n,1,none⟩=some (.int .i64 ga) by simp[go_sem,hc1,hco]) HBL.out;have go1:=World.old_of_cell g1;have HE2:Hid (Ext (((w.alloc (.cells #[(.int .i64 0),(.int .i64 0),(.int .i64 0),(.int .i64 0),(.int .i64 0),(.int .i64 0),(.int .i64 0)] 62)).plus X).alloc (.cells #[.string ut,(.int .i64 ua),(.int .i64 0)] 107)) w2):=tH (hC2.ext (HEW.out.alloc _) (fun b hb=>(HR.out.blk b hb).1));clear hR2 hC2)
      clear g1 go1 hc0 hc1 hco
      exact⟨⟨k+1,l++[gn],ga,by omega,by go_num,rfl,HE2.out,HY,HR2⟩,by simp[intOf];omega⟩
     ·have HZ:=tH (numsN_no HNk.out hc)
      generalize getNum ut a2=G at HG hc
      obtain⟨gn,ga,gcd⟩:=G
      simp only[numV'] at HG
      simp only at hc
      have hb9:(gcd != 0)=true:=by simpa using hc
      have HNone:Hid (numsN ut 6=none):=tH (by
       have:=HZ.out (6-(k+1))
       rwa [show k+1+(6-(k+1))=6 from by omega] at this)
      go_wp2_with fail
      refine(HG.out _).mono ?_
      rintro e _ ⟨rfl,Z,rfl⟩
      go_wp2
      exact bodyPost_ret (v:=.agg #[(.int .i64 0),(.int .i64 0),(.int .i64 0),(.int .i64 0),(.int .i64 0),(.int .i64 0),(.int .i64 3)]) (by simp[results,Tryz.results34,go_sem]) rfl ⟨rfl,xF⟩
    ·obtain rfl:k=6:=by omega
     exfalso
     have h6:=HNk.out
     rw[HN.out] at h6
     cases h6
  | some p =>
   obtain⟨l,a⟩:=p
   have HR:=tH (HSo.out l a hcn hn)
   have HN:=tH hn
   obtain⟨n0,n1,n2,n3,n4,n5,rfl⟩:=lenI6 (numsN_len hn).1
   have hI:=(numsN_len hn).2
   have HI:=tH hI
   have HX:Hid ((⟨n0,⟨n1,n2⟩,n3,n4,n5⟩:Ent).ok):=tH ⟨hI n0 (by simp),⟨hI n1 (by simp),hI n2 (by simp)⟩,hI n3 (by simp),hI n4 (by simp),hI n5 (by simp)⟩
   have HEB:=tH (fun w=>specEntryBytes_any ⟨n0,⟨n1,n2⟩,n3,n4,n5⟩ w HX.out)
   change Hid (R=if ((entB ⟨n0,⟨n1,n2⟩,n3,n4,n5⟩).toList == s.toList)=true then ((⟨n0,⟨n1,n2⟩,n3,n4,n5⟩:Ent),(0:Int)) else (zE,3)) at HR
   clear hcn HC HNo HSo hq hn hI HX
   subst hc0
   generalize entB ⟨n0,⟨n1,n2⟩,n3,n4,n5⟩=EB at *
   unfold Ent.val at HEB
   simp only at HEB
   cases hb:(EB.toList == s.toList)
   ·obtain rfl:R=(zE,3):=by have h:=HR.out;rw[hb] at h;simpa using h
    clear HR
    show Calls Tryz.prog 34 #[.string s] w fun e w'=>e=.returned (.agg #[(.int .i64 0),(.int .i64 0),(.int .i64 0),(.int .i64 0),(.int .i64 0),(.int .i64 0),(.int .i64 3)])∧Ext w w'
    go_enter Tryz.func34,Tryz.ntmps34
    go_wp2_with fail
    refine(HU.out _).mono ?_
    rintro e _ ⟨rfl,X,rfl⟩
    go_wp2
    go_loopw [4,5,6,7] (fun v at_ i _ wr=>∃ (k:Nat) (l:List Int) (a:Int),k≤6∧i=.int .i64 k∧at_=(.int .i64 a)∧Ext (((w.alloc (.cells #[(.int .i64 0),(.int .i64 0),(.int .i64 0),(.int .i64 0),(.int .i64 0),(.int .i64 0),(.int .i64 0)] 62)).plus X).alloc (.cells #[.string ut,(.int .i64 ua),(.int .i64 0)] 107)) wr∧Hid (numsN ut k=some (l,a))∧Hid (Row (((w.alloc (.cells #[(.int .i64 0),(.int .i64 0),(.int .i64 0),(.int .i64 0),(.int .i64 0),(.int .i64 0),(.int .i64 0)] 62)).plus X).alloc (.cells #[.string ut,(.int .i64 ua),(.int .i64 0)] 107)).heap.size wr 2 1 intCell v l)) (fun _ _ i _ _=>6-(intOf i).toNat)
    case atStart=>exact⟨0,[],0,by omega,rfl,rfl,xE,tH rfl,tH (by repeat (first | (refine Row.madeB' ?_ ?_<;>(simp<;>omega)) | refine Row.plus ?_ _))⟩
    case round =>
     obtain⟨k,l,a2,hk,rfl,rfl,⟨Y,rfl⟩,HNk,HR⟩:=hrel
     obtain⟨av,gc,rfl⟩:=HR.out.shape
     have hll:=tH (numsN_len HNk.out).1
     by_cases hlt:k < 6
     ·have HG:=tH (show ∀ w,Calls Tryz.prog 89 #[.string ut,(.int .i64 a2)] w fun e w'=>e=.returned (numV' (getNum ut a2))∧Ext w w' from fun w=>specGetNum_any ut a2 w hsz (numsN_at HNk.out hsz))
      by_cases hc:(getNum ut a2).c=0
      ·have HY:=tH (numsN_yes HNk.out hc)
       have hl1:l.length≤6:=by rw[hll.out];omega
       generalize getNum ut a2=G at HG hc HY
       obtain⟨gn,ga,gcd⟩:=G
       simp only[numV'] at HG
       simp only at hc HY
       subst hc
       go_wp2_with fail
       refine(HG.out _).mono ?_
       rintro e _ ⟨rfl,Z,rfl⟩
       go_upto_region 12 with fail
       refine gen_world ?_
       intro W hW
       have hE:Ext ((((w.alloc (.cells #[(.int .i64 0),(.int .i64 0),(.int .i64 0),(.int .i64 0),(.int .i64 0),(.int .i64 0),(.int .i64 0)] 62)).plus X).alloc (.cells #[.string ut,(.int .i64 ua),(.int .i64 0)] 107)).plus Y) W:=by rw[hW];exact xE
       have hc0:W.cell? ⟨w.heap.size+1+X.n+1+Y.n+Z.n,0,none⟩=some (.int .i64 gn):=by rw[hW];simp[go_sem]
       have hc1:W.cell? ⟨w.heap.size+1+X.n+1+Y.n+Z.n,1,none⟩=some (.int .i64 ga):=by rw[hW];simp[go_sem]
       have hco:=World.old_of_cell hc1
       have HRW:=tH (HR.out.ext hE)
       have hbl:w.heap.size+1+X.n+1+Y.n+Z.n∉blkL (.slice av l.length gc):=fun hb=>by
        have:=(HR.out.blk _ hb).2
        simp at this;omega
       have HBL:=tH hbl
       have HEW:=tH (show Ext (((w.alloc (.cells #[(.int .i64 0),(.int .i64 0),(.int .i64 0),(.int .i64 0),(.int .i64 0),(.int .i64 0),(.int .i64 0)] 62)).plus X).alloc (.cells #[.string ut,(.int .i64 ua),(.int .i64 0)] 107)) W from ((Ext.refl _).plus Y).trans hE)
       clear hE hbl hW HG
       go_wp2_with (at_builtin;go_must (refine Row.appC (f:=intCell) el_Int rfl _ _ rfl (((w.alloc (.cells #[(.int .i64 0),(.int .i64 0),(.int .i64 0),(.int .i64 0),(.int .i64 0),(.int .i64 0),(.int .i64 0)] 62)).plus X).alloc (.cells #[.string ut,(.int .i64 ua),(.int .i64 0)] 107)).heap.size (HEW.out.alloc _).below.size _ l rfl (HRW.out.ext xE) ⟨W.heap.size,0,none⟩ 1 1 [gn] rfl rfl (fun _=>rfl) ?_ ?_ ?_ ?_ ?_);(intro j u hj;exact flat1 (by simp[go_sem]) hj);(intro u hu;simp[intCell] at hu;subst hu;rfl);(unfold maxLen;simp;omega);(simp;omega);intro v' w2 hR2 hC2;have HR2:=tH hR2;have g1:=chg_cell hC2 (show (W.alloc _).cell? ⟨w.heap.size+1+X.n+1+Y.n+Z.n,1,none⟩=some (.int .i64 ga) by simp[go_sem,hc1,hco]) HBL.out;have go1:=World.old_of_cell g1;have HE2:Hid (Ext (((w.alloc (.cells #[(.int .i64 0),(.int .i64 0),(.int .i64 0),(.int .i64 0),(.int .i64 0),(.int .i64 0),(.int .i64 0)] 62)).plus X).alloc (.cells #[.string ut,(.int .i64 ua),(.int .i64 0)] 107)) w2):=tH (hC2.ext (HEW.out.alloc _) (fun b hb=>(HR.out.blk b hb).1));clear hR2 hC2)
       clear g1 go1 hc0 hc1 hco
       exact⟨⟨k+1,l++[gn],ga,by omega,by go_num,rfl,HE2.out,HY,HR2⟩,by simp[intOf];omega⟩
      ·have HZ:=tH (numsN_no HNk.out hc)
       generalize getNum ut a2=G at HG hc
       obtain⟨gn,ga,gcd⟩:=G
       simp only[numV'] at HG
       simp only at hc
       have hb9:(gcd != 0)=true:=by simpa using hc
       have HNone:Hid (numsN ut 6=none):=tH (by
        have:=HZ.out (6-(k+1))
        rwa [show k+1+(6-(k+1))=6 from by omega] at this)
       go_wp2_with fail
       refine(HG.out _).mono ?_
       rintro e _ ⟨rfl,Z,rfl⟩
       go_wp2
       (exfalso;have h6:=HNone.out;rw[HN.out] at h6;cases h6)
     ·obtain rfl:k=6:=by omega
      have h6:=HNk.out
      rw[HN.out] at h6
      obtain⟨rfl,rfl⟩:[n0,n1,n2,n3,n4,n5]=l∧a=a2:=by simpa only [Option.some.injEq,Prod.mk.injEq] using h6
      obtain⟨fp,hO⟩:=Row.own (f:=intCell) (K:=1) (fun _=>rfl) HR.out
      have hS6:=oIntS_r hO.1 HI.out
      obtain⟨gb,go,rfl⟩:=slr_some hS6 (i:=0) (by simp)
      have HS6:=tH hS6
      clear hO hS6 fp h6 hll HNk HR
      go_upto_region 14 with fail
      refine gen_world ?_
      intro W hW
      have hEW:Ext w W:=by rw[hW];exact xE
      have HSW:=HS6.out.ext rInt_stable (show Ext _ W by rw[hW];exact xE)
      obtain⟨ho,_,i0⟩:=int_at HSW (i:=0) (by simp)
      obtain⟨_,_,i1⟩:=int_at HSW (i:=1) (by simp)
      obtain⟨_,_,i2⟩:=int_at HSW (i:=2) (by simp)
      obtain⟨_,_,i3⟩:=int_at HSW (i:=3) (by simp)
      obtain⟨_,_,i4⟩:=int_at HSW (i:=4) (by simp)
      obtain⟨_,_,i5⟩:=int_at HSW (i:=5) (by simp)
      simp only[List.getElem_cons_zero,List.getElem_cons_succ,Nat.add_zero] at i0 i1 i2 i3 i4 i5
      have HWE:=tH hW
      have HEW:=tH hEW
      clear hW hEW HSW
      (refine wp_region_z [] [XReg.ZOp.A (fun _ u _=>u=(.slice (some ⟨gb,go,none⟩) 6 gc)) [] [] [],XReg.ZOp.A (fun _ u _=>u=(.pointer (some ⟨gb,go,none⟩))) [] [] [],XReg.ZOp.A (fun _ u _=>u=(.int .i64 n0)) [] [] [],XReg.ZOp.A (fun _ u _=>u=(.slice (some ⟨gb,go,none⟩) 6 gc)) [] [] [],XReg.ZOp.A (fun _ u _=>u=(.pointer (some ⟨gb,go+1,none⟩))) [] [] [],XReg.ZOp.A (fun _ u _=>u=(.int .i64 n1)) [] [] [],XReg.ZOp.A (fun _ u _=>u=(.slice (some ⟨gb,go,none⟩) 6 gc)) [] [] [],XReg.ZOp.A (fun _ u _=>u=(.pointer (some ⟨gb,go+2,none⟩))) [] [] [],XReg.ZOp.A (fun _ u _=>u=(.int .i64 n2)) [] [] [],XReg.ZOp.A (fun _ u _=>u=(.agg #[(.int .i64 n1),(.int .i64 n2)])) [] [] [],XReg.ZOp.A (fun _ u _=>u=(.slice (some ⟨gb,go,none⟩) 6 gc)) [] [] [],XReg.ZOp.A (fun _ u _=>u=(.pointer (some ⟨gb,go+3,none⟩))) [] [] [],XReg.ZOp.A (fun _ u _=>u=(.int .i64 n3)) [] [] [],XReg.ZOp.A (fun _ u _=>u=(.slice (some ⟨gb,go,none⟩) 6 gc)) [] [] [],XReg.ZOp.A (fun _ u _=>u=(.pointer (some ⟨gb,go+4,none⟩))) [] [] [],XReg.ZOp.A (fun _ u _=>u=(.int .i64 n4)) [] [] [],XReg.ZOp.A (fun _ u _=>u=(.slice (some ⟨gb,go,none⟩) 6 gc)) [] [] [],XReg.ZOp.A (fun _ u _=>u=(.pointer (some ⟨gb,go+5,none⟩))) [] [] [],XReg.ZOp.A (fun _ u _=>u=(.int .i64 n5)) [] [] [],XReg.ZOp.A (fun _ u _=>u=(.agg #[(.int .i64 n0),(.int .i64 n1),(.int .i64 n2),(.int .i64 n3),(.int .i64 n4),(.int .i64 n5)])) [] [] [],.A (kBoxZ W.heap.size [(.int .i64 0),(.int .i64 0),(.int .i64 0),(.int .i64 0),(.int .i64 0),(.int .i64 0)] 57) [] [] [],.T] [_] (by kernel_rfl) (by kernel_rfl) (by kernel_rfl) (by kernel_rfl) rfl ?_ (by repeat' (first | exact trivial | exact XReg.ZOp.good_is _ _ _ _ | exact XReg.ZOp.good_v _ | exact XReg.ZOp.good_t | exact kBoxZ_good _ _ _ | refine And.intro ?_ ?_)) (by repeat' (first | exact trivial | exact XReg.subL_nil _ | exact XReg.subL_refl _ | exact Or.inr (XReg.subL_nil _) | exact Or.inr (XReg.subL_refl _) | exact Or.inl (by kernel_rfl) | refine And.intro ?_ ?_)))
      (apply ZReg.setE (.slice (some ⟨gb,go,none⟩) 6 gc);(case h=>(intro w' hw' hF';obtain⟨X',rfl⟩:=hw';have HF':=tH hF';clear hF';go_wp2_with (fail);exact⟨rfl,xE⟩));(case hv=>kernel_rfl);intro _)
      (apply ZReg.setE (.pointer (some ⟨gb,go,none⟩));(case h=>(intro w' hw' hF';obtain⟨X',rfl⟩:=hw';have HF':=tH hF';clear hF';go_wp2_with (fail);exact⟨rfl,xE⟩));(case hv=>kernel_rfl);intro _)
      (apply ZReg.setE (.int .i64 n0);(case h=>(intro w' hw' hF';obtain⟨X',rfl⟩:=hw';have HF':=tH hF';clear hF';go_wp2_with (fail);exact⟨rfl,xE⟩));(case hv=>kernel_rfl);intro _)
      (apply ZReg.setE (.slice (some ⟨gb,go,none⟩) 6 gc);(case h=>(intro w' hw' hF';obtain⟨X',rfl⟩:=hw';have HF':=tH hF';clear hF';go_wp2_with (fail);exact⟨rfl,xE⟩));(case hv=>kernel_rfl);intro _)
      (apply ZReg.setE (.pointer (some ⟨gb,go+1,none⟩));(case h=>(intro w' hw' hF';obtain⟨X',rfl⟩:=hw';have HF':=tH hF';clear hF';go_wp2_with (fail);exact⟨rfl,xE⟩));(case hv=>kernel_rfl);intro _)
      (apply ZReg.setE (.int .i64 n1);(case h=>(intro w' hw' hF';obtain⟨X',rfl⟩:=hw';have HF':=tH hF';clear hF';go_wp2_with (fail);exact⟨rfl,xE⟩));(case hv=>kernel_rfl);intro _)
      (apply ZReg.setE (.slice (some ⟨gb,go,none⟩) 6 gc);(case h=>(intro w' hw' hF';obtain⟨X',rfl⟩:=hw';have HF':=tH hF';clear hF';go_wp2_with (fail);exact⟨rfl,xE⟩));(case hv=>kernel_rfl);intro _)
      (apply ZReg.setE (.pointer (some ⟨gb,go+2,none⟩));(case h=>(intro w' hw' hF';obtain⟨X',rfl⟩:=hw';have HF':=tH hF';clear hF';go_wp2_with (fail);exact⟨rfl,xE⟩));(case hv=>kernel_rfl);intro _)
      (apply ZReg.setE (.int .i64 n2);(case h=>(intro w' hw' hF';obtain⟨X',rfl⟩:=hw';have HF':=tH hF';clear hF';go_wp2_with (fail);exact⟨rfl,xE⟩));(case hv=>kernel_rfl);intro _)
      (apply ZReg.setE (.agg #[(.int .i64 n1),(.int .i64 n2)]);(case h=>(intro w' hw' hF';obtain⟨X',rfl⟩:=hw';have HF':=tH hF';clear hF';go_wp2_with (fail);exact⟨rfl,xE⟩));(case hv=>kernel_rfl);intro _)
      (apply ZReg.setE (.slice (some ⟨gb,go,none⟩) 6 gc);(case h=>(intro w' hw' hF';obtain⟨X',rfl⟩:=hw';have HF':=tH hF';clear hF';go_wp2_with (fail);exact⟨rfl,xE⟩));(case hv=>kernel_rfl);intro _)
      (apply ZReg.setE (.pointer (some ⟨gb,go+3,none⟩));(case h=>(intro w' hw' hF';obtain⟨X',rfl⟩:=hw';have HF':=tH hF';clear hF';go_wp2_with (fail);exact⟨rfl,xE⟩));(case hv=>kernel_rfl);intro _)
      (apply ZReg.setE (.int .i64 n3);(case h=>(intro w' hw' hF';obtain⟨X',rfl⟩:=hw';have HF':=tH hF';clear hF';go_wp2_with (fail);exact⟨rfl,xE⟩));(case hv=>kernel_rfl);intro _)
      (apply ZReg.setE (.slice (some ⟨gb,go,none⟩) 6 gc);(case h=>(intro w' hw' hF';obtain⟨X',rfl⟩:=hw';have HF':=tH hF';clear hF';go_wp2_with (fail);exact⟨rfl,xE⟩));(case hv=>kernel_rfl);intro _)
      (apply ZReg.setE (.pointer (some ⟨gb,go+4,none⟩));(case h=>(intro w' hw' hF';obtain⟨X',rfl⟩:=hw';have HF':=tH hF';clear hF';go_wp2_with (fail);exact⟨rfl,xE⟩));(case hv=>kernel_rfl);intro _)
      (apply ZReg.setE (.int .i64 n4);(case h=>(intro w' hw' hF';obtain⟨X',rfl⟩:=hw';have HF':=tH hF';clear hF';go_wp2_with (fail);exact⟨rfl,xE⟩));(case hv=>kernel_rfl);intro _)
      (apply ZReg.setE (.slice (some ⟨gb,go,none⟩) 6 gc);(case h=>(intro w' hw' hF';obtain⟨X',rfl⟩:=hw';have HF':=tH hF';clear hF';go_wp2_with (fail);exact⟨rfl,xE⟩));(case hv=>kernel_rfl);intro _)
      (apply ZReg.setE (.pointer (some ⟨gb,go+5,none⟩));(case h=>(intro w' hw' hF';obtain⟨X',rfl⟩:=hw';have HF':=tH hF';clear hF';go_wp2_with (fail);exact⟨rfl,xE⟩));(case hv=>kernel_rfl);intro _)
      (apply ZReg.setE (.int .i64 n5);(case h=>(intro w' hw' hF';obtain⟨X',rfl⟩:=hw';have HF':=tH hF';clear hF';go_wp2_with (fail);exact⟨rfl,xE⟩));(case hv=>kernel_rfl);intro _)
      (apply ZReg.setE (.agg #[(.int .i64 n0),(.int .i64 n1),(.int .i64 n2),(.int .i64 n3),(.int .i64 n4),(.int .i64 n5)]);(case h=>(intro w' hw' hF';obtain⟨X',rfl⟩:=hw';have HF':=tH hF';clear hF';go_wp2_with (fail);exact⟨rfl,xE⟩));(case hv=>kernel_rfl);intro _)
      refine ZReg.kindE (fun w' hw' hF'=>?_) (fun v w1 x9 hK=>?_)
      ·obtain⟨X',rfl⟩:=hw'
       clear hF'
       go_wp2
       refine⟨xE,_,rfl,?_,?_⟩
       ·first | omega | (simp only[World.size_plus,World.size_alloc];omega)
       ·have h:=heap_alloc_new (W.plus X') (.cells (List.toArray [(.int .i64 0),(.int .i64 0),(.int .i64 0),(.int .i64 0),(.int .i64 0),(.int .i64 0)]) 57)
        simp only[World.size_plus] at h
        exact h
      obtain⟨g,rfl,hgB,hgh⟩:=hK
      have HGB:=tH hgB
      clear hgB hgh w1
      refine ZReg.T ?_
      refine ZReg.doneE (fun X9 hF hR=>ZReg.run ?_)
      have hbx:=kBoxZ_g (x:=x9) (hF 20 (kBoxZ W.heap.size [(.int .i64 0),(.int .i64 0),(.int .i64 0),(.int .i64 0),(.int .i64 0),(.int .i64 0)] 57 x9,.pointer (some ⟨g,0,none⟩)) (by kernel_rfl))
      clear hF hR
      have HBH:=tH hbx.2
      have hbc:=CellsAt.of_heap hbx.2
      have hfz:=frozen_of_heap hbx.2
      have d0:=hbc 0 _ rfl
      have d1:=hbc 1 _ rfl
      have d2:=hbc 2 _ rfl
      have d3:=hbc 3 _ rfl
      have d4:=hbc 4 _ rfl
      have d5:=hbc 5 _ rfl
      have hog:=World.old_of_cell d0
      clear hbx hbc
      go_wp2
      clear d0 d1 d2 d3 d4 d5 hog hfz ho i0 i1 i2 i3 i4 i5
      refine ZReg.endG (fun W8 hW8=>?_)
      have hLay:W8=(W.plus X9).layCells g 0 [(.int .i64 n0),(.int .i64 n1),(.int .i64 n2),(.int .i64 n3),(.int .i64 n4),(.int .i64 n5)]:=hW8
      have hC8:Chg [g] (W.plus X9) W8:=by rw[hLay];exact layCells_chg _ _ _ _
      have hE8:Ext W W8:=hC8.ext xE (fun b hb=>by simp at hb;rw[hb];exact HGB.out)
      have HB8:Hid (CellsAt W8 g [(.int .i64 n0),(.int .i64 n1),(.int .i64 n2),(.int .i64 n3),(.int .i64 n4),(.int .i64 n5)]):=tH (by rw[hLay];exact CellsAt.lay HBH.out (by kernel_rfl))
      clear hW8 hLay hC8 HBH HGB
      obtain⟨Y9,rfl⟩:=hE8
      have hW:=HWE.out
      clear HWE HEW
      subst hW
      have hb8:=HB8.out
      have d0:=hb8 0 _ rfl
      have d1:=hb8 1 _ rfl
      have d2:=hb8 2 _ rfl
      have d3:=hb8 3 _ rfl
      have d4:=hb8 4 _ rfl
      have d5:=hb8 5 _ rfl
      have hog:=World.old_of_cell d0
      clear hb8 HB8
      go_wp2_with fail
      refine(HEB.out _).mono ?_
      rintro e _ ⟨rfl,Z,rfl⟩
      go_wp2
      exact bodyPost_ret (v:=.agg #[(.int .i64 0),(.int .i64 0),(.int .i64 0),(.int .i64 0),(.int .i64 0),(.int .i64 0),(.int .i64 3)]) (by simp[results,Tryz.results34,go_sem]) rfl ⟨rfl,xF⟩
   ·obtain rfl:R=(⟨n0,⟨n1,n2⟩,n3,n4,n5⟩,0):=by have h:=HR.out;rw[hb] at h;simpa using h
    clear HR
    show Calls Tryz.prog 34 #[.string s] w fun e w'=>e=.returned (.agg #[(.int .i64 n0),(.int .i64 n1),(.int .i64 n2),(.int .i64 n3),(.int .i64 n4),(.int .i64 n5),(.int .i64 0)])∧Ext w w'
    go_enter Tryz.func34,Tryz.ntmps34
    go_wp2_with fail
    refine(HU.out _).mono ?_
    rintro e _ ⟨rfl,X,rfl⟩
    go_wp2
    go_loopw [4,5,6,7] (fun v at_ i _ wr=>∃ (k:Nat) (l:List Int) (a:Int),k≤6∧i=.int .i64 k∧at_=(.int .i64 a)∧Ext (((w.alloc (.cells #[(.int .i64 0),(.int .i64 0),(.int .i64 0),(.int .i64 0),(.int .i64 0),(.int .i64 0),(.int .i64 0)] 62)).plus X).alloc (.cells #[.string ut,(.int .i64 ua),(.int .i64 0)] 107)) wr∧Hid (numsN ut k=some (l,a))∧Hid (Row (((w.alloc (.cells #[(.int .i64 0),(.int .i64 0),(.int .i64 0),(.int .i64 0),(.int .i64 0),(.int .i64 0),(.int .i64 0)] 62)).plus X).alloc (.cells #[.string ut,(.int .i64 ua),(.int .i64 0)] 107)).heap.size wr 2 1 intCell v l)) (fun _ _ i _ _=>6-(intOf i).toNat)
    case atStart=>exact⟨0,[],0,by omega,rfl,rfl,xE,tH rfl,tH (by repeat (first | (refine Row.madeB' ?_ ?_<;>(simp<;>omega)) | refine Row.plus ?_ _))⟩
    case round =>
     obtain⟨k,l,a2,hk,rfl,rfl,⟨Y,rfl⟩,HNk,HR⟩:=hrel
     obtain⟨av,gc,rfl⟩:=HR.out.shape
     have hll:=tH (numsN_len HNk.out).1
     by_cases hlt:k < 6
     ·have HG:=tH (show ∀ w,Calls Tryz.prog 89 #[.string ut,(.int .i64 a2)] w fun e w'=>e=.returned (numV' (getNum ut a2))∧Ext w w' from fun w=>specGetNum_any ut a2 w hsz (numsN_at HNk.out hsz))
      by_cases hc:(getNum ut a2).c=0
      ·have HY:=tH (numsN_yes HNk.out hc)
       have hl1:l.length≤6:=by rw[hll.out];omega
       generalize getNum ut a2=G at HG hc HY
       obtain⟨gn,ga,gcd⟩:=G
       simp only[numV'] at HG
       simp only at hc HY
       subst hc
       go_wp2_with fail
       refine(HG.out _).mono ?_
       rintro e _ ⟨rfl,Z,rfl⟩
       go_upto_region 12 with fail
       refine gen_world ?_
       intro W hW
       have hE:Ext ((((w.alloc (.cells #[(.int .i64 0),(.int .i64 0),(.int .i64 0),(.int .i64 0),(.int .i64 0),(.int .i64 0),(.int .i64 0)] 62)).plus X).alloc (.cells #[.string ut,(.int .i64 ua),(.int .i64 0)] 107)).plus Y) W:=by rw[hW];exact xE
       have hc0:W.cell? ⟨w.heap.size+1+X.n+1+Y.n+Z.n,0,none⟩=some (.int .i64 gn):=by rw[hW];simp[go_sem]
       have hc1:W.cell? ⟨w.heap.size+1+X.n+1+Y.n+Z.n,1,none⟩=some (.int .i64 ga):=by rw[hW];simp[go_sem]
       have hco:=World.old_of_cell hc1
       have HRW:=tH (HR.out.ext hE)
       have hbl:w.heap.size+1+X.n+1+Y.n+Z.n∉blkL (.slice av l.length gc):=fun hb=>by
        have:=(HR.out.blk _ hb).2
        simp at this;omega
       have HBL:=tH hbl
       have HEW:=tH (show Ext (((w.alloc (.cells #[(.int .i64 0),(.int .i64 0),(.int .i64 0),(.int .i64 0),(.int .i64 0),(.int .i64 0),(.int .i64 0)] 62)).plus X).alloc (.cells #[.string ut,(.int .i64 ua),(.int .i64 0)] 107)) W from ((Ext.refl _).plus Y).trans hE)
       clear hE hbl hW HG
       go_wp2_with (at_builtin;go_must (refine Row.appC (f:=intCell) el_Int rfl _ _ rfl (((w.alloc (.cells #[(.int .i64 0),(.int .i64 0),(.int .i64 0),(.int .i64 0),(.int .i64 0),(.int .i64 0),(.int .i64 0)] 62)).plus X).alloc (.cells #[.string ut,(.int .i64 ua),(.int .i64 0)] 107)).heap.size (HEW.out.alloc _).below.size _ l rfl (HRW.out.ext xE) ⟨W.heap.size,0,none⟩ 1 1 [gn] rfl rfl (fun _=>rfl) ?_ ?_ ?_ ?_ ?_);(intro j u hj;exact flat1 (by simp[go_sem]) hj);(intro u hu;simp[intCell] at hu;subst hu;rfl);(unfold maxLen;simp;omega);(simp;omega);intro v' w2 hR2 hC2;have HR2:=tH hR2;have g1:=chg_cell hC2 (show (W.alloc _).cell? ⟨w.heap.size+1+X.n+1+Y.n+Z.n,1,none⟩=some (.int .i64 ga) by simp[go_sem,hc1,hco]) HBL.out;have go1:=World.old_of_cell g1;have HE2:Hid (Ext (((w.alloc (.cells #[(.int .i64 0),(.int .i64 0),(.int .i64 0),(.int .i64 0),(.int .i64 0),(.int .i64 0),(.int .i64 0)] 62)).plus X).alloc (.cells #[.string ut,(.int .i64 ua),(.int .i64 0)] 107)) w2):=tH (hC2.ext (HEW.out.alloc _) (fun b hb=>(HR.out.blk b hb).1));clear hR2 hC2)
       clear g1 go1 hc0 hc1 hco
       exact⟨⟨k+1,l++[gn],ga,by omega,by go_num,rfl,HE2.out,HY,HR2⟩,by simp[intOf];omega⟩
      ·have HZ:=tH (numsN_no HNk.out hc)
       generalize getNum ut a2=G at HG hc
       obtain⟨gn,ga,gcd⟩:=G
       simp only[numV'] at HG
       simp only at hc
       have hb9:(gcd != 0)=true:=by simpa using hc
       have HNone:Hid (numsN ut 6=none):=tH (by
        have:=HZ.out (6-(k+1))
        rwa [show k+1+(6-(k+1))=6 from by omega] at this)
       go_wp2_with fail
       refine(HG.out _).mono ?_
       rintro e _ ⟨rfl,Z,rfl⟩
       go_wp2
       (exfalso;have h6:=HNone.out;rw[HN.out] at h6;cases h6)
     ·obtain rfl:k=6:=by omega
      have h6:=HNk.out
      rw[HN.out] at h6
      obtain⟨rfl,rfl⟩:[n0,n1,n2,n3,n4,n5]=l∧a=a2:=by simpa only [Option.some.injEq,Prod.mk.injEq] using h6
      obtain⟨fp,hO⟩:=Row.own (f:=intCell) (K:=1) (fun _=>rfl) HR.out
      have hS6:=oIntS_r hO.1 HI.out
      obtain⟨gb,go,rfl⟩:=slr_some hS6 (i:=0) (by simp)
      have HS6:=tH hS6
      clear hO hS6 fp h6 hll HNk HR
      go_upto_region 14 with fail
      refine gen_world ?_
      intro W hW
      have hEW:Ext w W:=by rw[hW];exact xE
      have HSW:=HS6.out.ext rInt_stable (show Ext _ W by rw[hW];exact xE)
      obtain⟨ho,_,i0⟩:=int_at HSW (i:=0) (by simp)
      obtain⟨_,_,i1⟩:=int_at HSW (i:=1) (by simp)
      obtain⟨_,_,i2⟩:=int_at HSW (i:=2) (by simp)
      obtain⟨_,_,i3⟩:=int_at HSW (i:=3) (by simp)
      obtain⟨_,_,i4⟩:=int_at HSW (i:=4) (by simp)
      obtain⟨_,_,i5⟩:=int_at HSW (i:=5) (by simp)
      simp only[List.getElem_cons_zero,List.getElem_cons_succ,Nat.add_zero] at i0 i1 i2 i3 i4 i5
      have HWE:=tH hW
      have HEW:=tH hEW
      clear hW hEW HSW
      (refine wp_region_z [] [XReg.ZOp.A (fun _ u _=>u=(.slice (some ⟨gb,go,none⟩) 6 gc)) [] [] [],XReg.ZOp.A (fun _ u _=>u=(.pointer (some ⟨gb,go,none⟩))) [] [] [],XReg.ZOp.A (fun _ u _=>u=(.int .i64 n0)) [] [] [],XReg.ZOp.A (fun _ u _=>u=(.slice (some ⟨gb,go,none⟩) 6 gc)) [] [] [],XReg.ZOp.A (fun _ u _=>u=(.pointer (some ⟨gb,go+1,none⟩))) [] [] [],XReg.ZOp.A (fun _ u _=>u=(.int .i64 n1)) [] [] [],XReg.ZOp.A (fun _ u _=>u=(.slice (some ⟨gb,go,none⟩) 6 gc)) [] [] [],XReg.ZOp.A (fun _ u _=>u=(.pointer (some ⟨gb,go+2,none⟩))) [] [] [],XReg.ZOp.A (fun _ u _=>u=(.int .i64 n2)) [] [] [],XReg.ZOp.A (fun _ u _=>u=(.agg #[(.int .i64 n1),(.int .i64 n2)])) [] [] [],XReg.ZOp.A (fun _ u _=>u=(.slice (some ⟨gb,go,none⟩) 6 gc)) [] [] [],XReg.ZOp.A (fun _ u _=>u=(.pointer (some ⟨gb,go+3,none⟩))) [] [] [],XReg.ZOp.A (fun _ u _=>u=(.int .i64 n3)) [] [] [],XReg.ZOp.A (fun _ u _=>u=(.slice (some ⟨gb,go,none⟩) 6 gc)) [] [] [],XReg.ZOp.A (fun _ u _=>u=(.pointer (some ⟨gb,go+4,none⟩))) [] [] [],XReg.ZOp.A (fun _ u _=>u=(.int .i64 n4)) [] [] [],XReg.ZOp.A (fun _ u _=>u=(.slice (some ⟨gb,go,none⟩) 6 gc)) [] [] [],XReg.ZOp.A (fun _ u _=>u=(.pointer (some ⟨gb,go+5,none⟩))) [] [] [],XReg.ZOp.A (fun _ u _=>u=(.int .i64 n5)) [] [] [],XReg.ZOp.A (fun _ u _=>u=(.agg #[(.int .i64 n0),(.int .i64 n1),(.int .i64 n2),(.int .i64 n3),(.int .i64 n4),(.int .i64 n5)])) [] [] [],.A (kBoxZ W.heap.size [(.int .i64 0),(.int .i64 0),(.int .i64 0),(.int .i64 0),(.int .i64 0),(.int .i64 0)] 57) [] [] [],.T] [_] (by kernel_rfl) (by kernel_rfl) (by kernel_rfl) (by kernel_rfl) rfl ?_ (by repeat' (first | exact trivial | exact XReg.ZOp.good_is _ _ _ _ | exact XReg.ZOp.good_v _ | exact XReg.ZOp.good_t | exact kBoxZ_good _ _ _ | refine And.intro ?_ ?_)) (by repeat' (first | exact trivial | exact XReg.subL_nil _ | exact XReg.subL_refl _ | exact Or.inr (XReg.subL_nil _) | exact Or.inr (XReg.subL_refl _) | exact Or.inl (by kernel_rfl) | refine And.intro ?_ ?_)))
      (apply ZReg.setE (.slice (some ⟨gb,go,none⟩) 6 gc);(case h=>(intro w' hw' hF';obtain⟨X',rfl⟩:=hw';have HF':=tH hF';clear hF';go_wp2_with (fail);exact⟨rfl,xE⟩));(case hv=>kernel_rfl);intro _)
      (apply ZReg.setE (.pointer (some ⟨gb,go,none⟩));(case h=>(intro w' hw' hF';obtain⟨X',rfl⟩:=hw';have HF':=tH hF';clear hF';go_wp2_with (fail);exact⟨rfl,xE⟩));(case hv=>kernel_rfl);intro _)
      (apply ZReg.setE (.int .i64 n0);(case h=>(intro w' hw' hF';obtain⟨X',rfl⟩:=hw';have HF':=tH hF';clear hF';go_wp2_with (fail);exact⟨rfl,xE⟩));(case hv=>kernel_rfl);intro _)
      (apply ZReg.setE (.slice (some ⟨gb,go,none⟩) 6 gc);(case h=>(intro w' hw' hF';obtain⟨X',rfl⟩:=hw';have HF':=tH hF';clear hF';go_wp2_with (fail);exact⟨rfl,xE⟩));(case hv=>kernel_rfl);intro _)
      (apply ZReg.setE (.pointer (some ⟨gb,go+1,none⟩));(case h=>(intro w' hw' hF';obtain⟨X',rfl⟩:=hw';have HF':=tH hF';clear hF';go_wp2_with (fail);exact⟨rfl,xE⟩));(case hv=>kernel_rfl);intro _)
      (apply ZReg.setE (.int .i64 n1);(case h=>(intro w' hw' hF';obtain⟨X',rfl⟩:=hw';have HF':=tH hF';clear hF';go_wp2_with (fail);exact⟨rfl,xE⟩));(case hv=>kernel_rfl);intro _)
      (apply ZReg.setE (.slice (some ⟨gb,go,none⟩) 6 gc);(case h=>(intro w' hw' hF';obtain⟨X',rfl⟩:=hw';have HF':=tH hF';clear hF';go_wp2_with (fail);exact⟨rfl,xE⟩));(case hv=>kernel_rfl);intro _)
      (apply ZReg.setE (.pointer (some ⟨gb,go+2,none⟩));(case h=>(intro w' hw' hF';obtain⟨X',rfl⟩:=hw';have HF':=tH hF';clear hF';go_wp2_with (fail);exact⟨rfl,xE⟩));(case hv=>kernel_rfl);intro _)
      (apply ZReg.setE (.int .i64 n2);(case h=>(intro w' hw' hF';obtain⟨X',rfl⟩:=hw';have HF':=tH hF';clear hF';go_wp2_with (fail);exact⟨rfl,xE⟩));(case hv=>kernel_rfl);intro _)
      (apply ZReg.setE (.agg #[(.int .i64 n1),(.int .i64 n2)]);(case h=>(intro w' hw' hF';obtain⟨X',rfl⟩:=hw';have HF':=tH hF';clear hF';go_wp2_with (fail);exact⟨rfl,xE⟩));(case hv=>kernel_rfl);intro _)
      (apply ZReg.setE (.slice (some ⟨gb,go,none⟩) 6 gc);(case h=>(intro w' hw' hF';obtain⟨X',rfl⟩:=hw';have HF':=tH hF';clear hF';go_wp2_with (fail);exact⟨rfl,xE⟩));(case hv=>kernel_rfl);intro _)
      (apply ZReg.setE (.pointer (some ⟨gb,go+3,none⟩));(case h=>(intro w' hw' hF';obtain⟨X',rfl⟩:=hw';have HF':=tH hF';clear hF';go_wp2_with (fail);exact⟨rfl,xE⟩));(case hv=>kernel_rfl);intro _)
      (apply ZReg.setE (.int .i64 n3);(case h=>(intro w' hw' hF';obtain⟨X',rfl⟩:=hw';have HF':=tH hF';clear hF';go_wp2_with (fail);exact⟨rfl,xE⟩));(case hv=>kernel_rfl);intro _)
      (apply ZReg.setE (.slice (some ⟨gb,go,none⟩) 6 gc);(case h=>(intro w' hw' hF';obtain⟨X',rfl⟩:=hw';have HF':=tH hF';clear hF';go_wp2_with (fail);exact⟨rfl,xE⟩));(case hv=>kernel_rfl);intro _)
      (apply ZReg.setE (.pointer (some ⟨gb,go+4,none⟩));(case h=>(intro w' hw' hF';obtain⟨X',rfl⟩:=hw';have HF':=tH hF';clear hF';go_wp2_with (fail);exact⟨rfl,xE⟩));(case hv=>kernel_rfl);intro _)
      (apply ZReg.setE (.int .i64 n4);(case h=>(intro w' hw' hF';obtain⟨X',rfl⟩:=hw';have HF':=tH hF';clear hF';go_wp2_with (fail);exact⟨rfl,xE⟩));(case hv=>kernel_rfl);intro _)
      (apply ZReg.setE (.slice (some ⟨gb,go,none⟩) 6 gc);(case h=>(intro w' hw' hF';obtain⟨X',rfl⟩:=hw';have HF':=tH hF';clear hF';go_wp2_with (fail);exact⟨rfl,xE⟩));(case hv=>kernel_rfl);intro _)
      (apply ZReg.setE (.pointer (some ⟨gb,go+5,none⟩));(case h=>(intro w' hw' hF';obtain⟨X',rfl⟩:=hw';have HF':=tH hF';clear hF';go_wp2_with (fail);exact⟨rfl,xE⟩));(case hv=>kernel_rfl);intro _)
      (apply ZReg.setE (.int .i64 n5);(case h=>(intro w' hw' hF';obtain⟨X',rfl⟩:=hw';have HF':=tH hF';clear hF';go_wp2_with (fail);exact⟨rfl,xE⟩));(case hv=>kernel_rfl);intro _)
      (apply ZReg.setE (.agg #[(.int .i64 n0),(.int .i64 n1),(.int .i64 n2),(.int .i64 n3),(.int .i64 n4),(.int .i64 n5)]);(case h=>(intro w' hw' hF';obtain⟨X',rfl⟩:=hw';have HF':=tH hF';clear hF';go_wp2_with (fail);exact⟨rfl,xE⟩));(case hv=>kernel_rfl);intro _)
      refine ZReg.kindE (fun w' hw' hF'=>?_) (fun v w1 x9 hK=>?_)
      ·obtain⟨X',rfl⟩:=hw'
       clear hF'
       go_wp2
       refine⟨xE,_,rfl,?_,?_⟩
       ·first | omega | (simp only[World.size_plus,World.size_alloc];omega)
       ·have h:=heap_alloc_new (W.plus X') (.cells (List.toArray [(.int .i64 0),(.int .i64 0),(.int .i64 0),(.int .i64 0),(.int .i64 0),(.int .i64 0)]) 57)
        simp only[World.size_plus] at h
        exact h
      obtain⟨g,rfl,hgB,hgh⟩:=hK
      have HGB:=tH hgB
      clear hgB hgh w1
      refine ZReg.T ?_
      refine ZReg.doneE (fun X9 hF hR=>ZReg.run ?_)
      have hbx:=kBoxZ_g (x:=x9) (hF 20 (kBoxZ W.heap.size [(.int .i64 0),(.int .i64 0),(.int .i64 0),(.int .i64 0),(.int .i64 0),(.int .i64 0)] 57 x9,.pointer (some ⟨g,0,none⟩)) (by kernel_rfl))
      clear hF hR
      have HBH:=tH hbx.2
      have hbc:=CellsAt.of_heap hbx.2
      have hfz:=frozen_of_heap hbx.2
      have d0:=hbc 0 _ rfl
      have d1:=hbc 1 _ rfl
      have d2:=hbc 2 _ rfl
      have d3:=hbc 3 _ rfl
      have d4:=hbc 4 _ rfl
      have d5:=hbc 5 _ rfl
      have hog:=World.old_of_cell d0
      clear hbx hbc
      go_wp2
      clear d0 d1 d2 d3 d4 d5 hog hfz ho i0 i1 i2 i3 i4 i5
      refine ZReg.endG (fun W8 hW8=>?_)
      have hLay:W8=(W.plus X9).layCells g 0 [(.int .i64 n0),(.int .i64 n1),(.int .i64 n2),(.int .i64 n3),(.int .i64 n4),(.int .i64 n5)]:=hW8
      have hC8:Chg [g] (W.plus X9) W8:=by rw[hLay];exact layCells_chg _ _ _ _
      have hE8:Ext W W8:=hC8.ext xE (fun b hb=>by simp at hb;rw[hb];exact HGB.out)
      have HB8:Hid (CellsAt W8 g [(.int .i64 n0),(.int .i64 n1),(.int .i64 n2),(.int .i64 n3),(.int .i64 n4),(.int .i64 n5)]):=tH (by rw[hLay];exact CellsAt.lay HBH.out (by kernel_rfl))
      clear hW8 hLay hC8 HBH HGB
      obtain⟨Y9,rfl⟩:=hE8
      have hW:=HWE.out
      clear HWE HEW
      subst hW
      have hb8:=HB8.out
      have d0:=hb8 0 _ rfl
      have d1:=hb8 1 _ rfl
      have d2:=hb8 2 _ rfl
      have d3:=hb8 3 _ rfl
      have d4:=hb8 4 _ rfl
      have d5:=hb8 5 _ rfl
      have hog:=World.old_of_cell d0
      clear hb8 HB8
      go_wp2_with fail
      refine(HEB.out _).mono ?_
      rintro e _ ⟨rfl,Z,rfl⟩
      go_wp2
      exact bodyPost_ret (v:=.agg #[(.int .i64 n0),(.int .i64 n1),(.int .i64 n2),(.int .i64 n3),(.int .i64 n4),(.int .i64 n5),(.int .i64 0)]) (by simp[results,Tryz.results34,go_sem]) rfl ⟨rfl,xF⟩
 ·obtain rfl:R=(zE,uc):=HC.out (by simpa using hq)
  clear HC HNo HSo
  show Calls Tryz.prog 34 #[.string s] w fun e w'=>e=.returned (.agg #[(.int .i64 0),(.int .i64 0),(.int .i64 0),(.int .i64 0),(.int .i64 0),(.int .i64 0),(.int .i64 uc)])∧Ext w w'
  go_enter Tryz.func34,Tryz.ntmps34
  go_wp2_with fail
  refine(HU.out _).mono ?_
  rintro e _ ⟨rfl,X,rfl⟩
  go_wp2
  exact bodyPost_ret (v:=.agg #[(.int .i64 0),(.int .i64 0),(.int .i64 0),(.int .i64 0),(.int .i64 0),(.int .i64 0),(.int .i64 uc)]) (by simp[results,Tryz.results34,go_sem]) rfl ⟨rfl,xF⟩
end Go.Proofs.YtdoeoojjabnboaaGreat
