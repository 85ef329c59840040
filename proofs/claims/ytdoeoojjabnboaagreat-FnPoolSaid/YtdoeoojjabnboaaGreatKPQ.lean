/- The laws' own comparison of lists; bytes as arguments. -/
import Derived.Test.YtdoeoojjabnboaaGreatKDR3
import Derived.Test.YtdoeoojjabnboaaGreatKPA1
import Derived.Test.YtdoeoojjabnboaaGreatKRRC
import Derived.Test.YtdoeoojjabnboaaGreatKPGM
import Derived.Test.YtdoeoojjabnboaaGreatKJE
import Derived.Test.YtdoeoojjabnboaaGreatKDP
set_option maxRecDepth 100000
set_option linter.unusedVariables false
namespace Go.Proofs.YtdoeoojjabnboaaGreat
open Go.ChangeShapes Go.WideShapes Go.ChangeAt Go.RowKit Go.Fin1
section
variable {H:Type} {enc:TypeId×Value→H} {w:World} {base:Nat} {spare:Nat→Bool} {held:Bool} {fuel:Nat} {cs:List Value} {x:DataW H×List MemPlace}
theorem b_u8 (h:DataW.trod enc Tryz.prog w base spare held fuel 5 cs=some x):∃ n:Int,rU8 w cs n:=by
 obtain⟨n,h1,_,h2⟩:=DataW.trod_int Tryz.underlying5 h
 have h3:0≤n∧n≤255:=by
  simpa [Lit.wf,IntKind.min,IntKind.max,IntKind.signed,IntKind.bits] using h2
 exact⟨n,h1,h3.1,h3.2⟩
theorem b_bytes (h:DataW.trod enc Tryz.prog w base spare held fuel 22 cs=some x):∃ v xs,cs=[v]∧SlR w 1 rU8 v xs :=
 b_slice Tryz.underlying22 (by kernel_rfl) (by decide) (fun _ _ _ h=>b_u8 h) h
end
section
variable {H:Type} {enc:TypeId×Value→H} {w:World} {base:Nat} {spare:Nat→Bool} {held:Bool} {r:Reach} {b0:Nat} {v:Value} {d:DataW H} {ps:List MemPlace}
theorem open_bytes (hv:Value.okWide Tryz.prog w r b0 22 v) (h:DataW.Trod enc Tryz.prog w base spare held 22 v d ps):∃ a:Arg (List Int),v=a.v∧SlR w 1 rU8 a.v a.x:=slice_arg Tryz.underlying22 hv (fun _ _ _ h=>b_bytes h) h
end
set_option maxHeartbeats 800000 in
theorem lwNums_self (v v':Value) (l:List Int) (w:World) (h:SlR w 1 rInt v l) (h':SlR w 1 rInt v' l) :
  Calls Tryz.prog 127 #[v,v'] w fun e w'=>e=.returned (.bool true)∧Ext w w':=by
 obtain⟨ad,cap,rfl⟩:=h.len
 obtain⟨ad',cap',rfl⟩:=h'.len
 obtain⟨-,hlc,hcm⟩:=slr_len h
 have hlm:l.length≤9223372036854775807:=by unfold maxLen at hcm;omega
 clear hcm hlc
 have HS:=tH h
 have HS':=tH h'
 clear h h'
 go_enter Tryz.func127,Tryz.ntmps127
 go_wp2
 go_loopw [5] (fun i wr=>∃ k:Nat,k≤l.length∧i=.int .i64 k∧Ext w wr) (fun i _=>l.length-(intOf i).toNat)
 case atStart=>exact⟨0,Nat.zero_le _,rfl,xE⟩
 case round =>
  obtain⟨k,hk,rfl,⟨X,rfl⟩⟩:=hrel
  by_cases hlt:k < l.length
  ·obtain⟨b,off,rfl⟩:=slr_some HS.out hlt
   obtain⟨b',off',rfl⟩:=slr_some HS'.out hlt
   obtain⟨ho,-,h0⟩:=int_at HS.out hlt;obtain⟨ho',-,h0'⟩:=int_at HS'.out hlt
   skip
   go_wp2_with fail
   (refine wp_region_x 9 (by kernel_rfl) (by kernel_rfl) (by kernel_rfl) ?_;(iterate 9 (apply XReg.step;(case h=>(intro w' hw';obtain⟨X',rfl⟩:=hw';go_wp2_with (fail);exact⟨rfl,xE⟩));(case hv=>kernel_rfl)));refine XReg.doneN (fun X=>?_))
   go_wp2
   exact⟨⟨k+1,by omega,by go_num,xE⟩,by simp[intOf];omega⟩
  ·go_wp2
   go_ret
   exact⟨rfl,xE⟩
end Go.Proofs.YtdoeoojjabnboaaGreat
set_option maxRecDepth 100000
set_option linter.unusedVariables false
namespace Go.Proofs.YtdoeoojjabnboaaGreat
open Go.RowKit Go.Fin1
theorem jobOf_key {J:List Jb} (h:jobsR J=true) {j:Jb} (hj:j∈J):jobOf J j.l j.id=j:=by
 obtain⟨k,hk,hp,h1,h2⟩:=pos_key (J:=J) (x:=j.l) (id:=j.id) (List.mem_map.2 ⟨j,hj,rfl⟩)
 have e:J[k]=j:=keyJ_eq_of (jobsR_ne h) (List.getElem_mem hk) hj (by unfold keyJ;rw[h1,h2])
 unfold jobOf
 rw[if_pos ⟨h,by omega⟩,hp,Int.toNat_natCast]
 simp[hk,e]
end Go.Proofs.YtdoeoojjabnboaaGreat
set_option maxRecDepth 100000
set_option linter.unusedVariables false
namespace Go.Proofs.YtdoeoojjabnboaaGreat
open Go.RowKit Go.Fin1
theorem chg_old9 {w w0 w1:World} {g:Nat} (hx:Ext w w0) (hc:Chg [g] w0 w1) (hg:w.heap.size≤g):Ext w w1:=hc.ext hx (by simpa using hg)
set_option maxHeartbeats 1600000 in
theorem drawAdvance_any (v:Value) (l:List Int) (w:World) (h:SlR w 1 rU8 v l) (hl:l.length≤1048576) :
  Calls Tryz.prog 8 #[v] w fun e w'=>∃ (p:Pl) (ca:Option Addr) (cc:Nat) (ja:Option Addr) (jc:Nat),e=.returned (.agg #[.slice ca p.clear.length cc,.slice ja p.jobs.length jc,(.int .i64 p.now)])∧Ext w w'∧ePool w' (.agg #[.slice ca p.clear.length cc,.slice ja p.jobs.length jc,(.int .i64 p.now)]) p∧PlB p:=by
 have HS:=tH h
 clear h
 go_enter Tryz.func8,Tryz.ntmps8
 go_wp2_with fail
 refine(l01Source_any v l _ (HS.out.ext rU8_stable xE) hl).mono ?_
 rintro e w2 ⟨g,rfl,hg,hx,hs⟩
 have HG9:=tH (show w.heap.size < g by simp at hg;omega)
 have HG:=tH (show w.heap.size≤g by have:=HG9.out;omega)
 have HR:=tH ((Blk.new (w:=w) (cs:=#[.slice none 0 0,.slice none 0 0,(.int .i64 0)]) (ty:=26) rfl).ext hx)
 have HX:=tH ((Ext.refl w).alloc (.cells #[.slice none 0 0,.slice none 0 0,(.int .i64 0)] 26) |>.trans hx)
 have HA:=tH hs
 have HWG:=tH (show w.heap.size < w2.heap.size from HR.out.old)
 clear hx hs hg
 go_wp2_with fail
 refine(srcPool_any g _ v l HA.out).mono ?_
 rintro e w3 ⟨p,c,j,rfl,hc,hs,hP,hB⟩
 obtain⟨⟨ca,cc,rfl⟩,⟨ja,jc,rfl⟩⟩:=hP.shape
 have HX3:=tH (chg_old9 HX.out hc HG.out)
 have HR3:=tH (HR.out.chg hc (by have:=HG9.out;simp;omega))
 have HP:=tH hP
 have HB:=tH hB
 clear hc hs hP hB HA HX HR
 unfold Pl.val
 have r0:w3.cell? ⟨w.heap.size,0,none⟩=some (.slice none 0 0):=HR3.out.cell 0
 have r1:w3.cell? ⟨w.heap.size,1,none⟩=some (.slice none 0 0):=HR3.out.cell 1
 have r2:w3.cell? ⟨w.heap.size,2,none⟩=some (.int .i64 0):=HR3.out.cell 2
 have ro:=HR3.out.old
 have rf:=HR3.out.fz
 go_wp2
 have hC:=set3_chg9 w3 w.heap.size (.slice ca p.clear.length cc) (.slice ja p.jobs.length jc) (.int .i64 p.now)
 exact bodyPost_ret (v:=.agg #[.slice ca p.clear.length cc,.slice ja p.jobs.length jc,(.int .i64 p.now)]) (by simp[results,Tryz.results8,go_sem,r0,r1,r2]) rfl ⟨p,ca,cc,ja,jc,rfl,hC.ext HX3.out (by simp),(HP.out.off hC (offP_g HWG.out)).e,HB.out⟩
end Go.Proofs.YtdoeoojjabnboaaGreat
