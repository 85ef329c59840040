/- impl.Advance, in every case. -/
import Derived.Test.YtbmbanelodabgaaGreatDoorKAC
import Derived.Test.YtbmbanelodabgaaGreatDoorKAAB
import Derived.Test.YtbmbanelodabgaaGreatDoorKMI6
set_option maxRecDepth 100000
set_option linter.unusedVariables false
namespace Go.Proofs.YtbmbanelodabgaaGreatDoor
open Go.RowKit Go.Fin1
theorem implAdvance_any (p:Pl) (v:Value) (w:World) (h:ePool w v p) (hf:p.fits 1048576) :
  Calls Tryz.prog 82 #[v] w fun e w'=>∃ cv jv fc fj,e=.returned (poV (advR p).1 (advR p).2.1 (advR p).2.2 cv jv)∧Ext w w'∧OwnP w.heap.size w' fc fj cv jv (advR p).1:=by
 cases hq:poolR p
 ·rw[advR_form hq];exact implAdvance_form p v w h hq
 ·by_cases hn:p.now=999900
  ·rw[advR_full hq hn];exact implAdvance_full p v w h hq hn
  ·rw[advR_yes hq hn];exact implAdvance_yes p v w h hf (tH hq) hn
end Go.Proofs.YtbmbanelodabgaaGreatDoor
set_option maxRecDepth 100000
set_option linter.unusedVariables false
set_option linter.unusedSimpArgs false
namespace Go.Proofs.YtbmbanelodabgaaGreatDoor
open Go.RowKit Go.Fin1
theorem set5_chgI (w:World) (g:Nat) (a b c d e:Value):Chg [g] w (((((w.setCell ⟨g,0,none⟩ a).setCell ⟨g,1,none⟩ b).setCell ⟨g,2,none⟩ c).setCell ⟨g,3,none⟩ d).setCell ⟨g,4,none⟩ e):=(((((Chg.refl _ _).setCell (.inl (by simp)) _).setCell (.inl (by simp)) _).setCell (.inl (by simp)) _).setCell (.inl (by simp)) _).setCell (.inl (by simp)) _
def PoW (w:World) (b:Nat) (q:Pl) (id c:Int):Prop:=∃ (pa:Option Addr) (pc:Nat) (pb:Option Addr) (pd:Nat) (fc fj:List Nat),Blk w b [.slice pa q.clear.length pc,.slice pb q.jobs.length pd,(.int .i64 q.now),(.int .i64 id),(.int .i64 c)] 43∧OwnP 0 w fc fj (.slice pa q.clear.length pc) (.slice pb q.jobs.length pd) q
set_option maxHeartbeats 1600000 in
theorem tick_any (p:Pl) (n:Nat) (ca:Option Addr) (cc:Nat) (ja:Option Addr) (jc:Nat) (fc fj:List Nat) (w:World) (hO:OwnP 0 w fc fj (.slice ca p.clear.length cc) (.slice ja p.jobs.length jc) p) (hR:poolR p=true) (hn:p.now+n≤100000) :
  Calls Tryz.prog 50 #[.agg #[.slice ca p.clear.length cc,.slice ja p.jobs.length jc,(.int .i64 p.now)],(.int .i64 (n:Int))] w fun e w'=>∃ cv jv gc gj,e=.returned (poV (tickN n p) 0 0 cv jv)∧Ext w w'∧OwnP 0 w' gc gj cv jv (tickN n p):=by
 have HR:=tH hR
 have HO:=tH hO
 have hpn:=(poolR_of hR).nw
 clear hO hR
 have hfp:∀ (a b c d e:Value) w,(Instr.field 43 (.agg #[a,b,c,d,e]) 0).run Tryz.prog w=.ok (.agg #[a,b,c]) w:=fun a b c d e w=>by kernel_rfl
 go_enter Tryz.func50,Tryz.ntmps50
 go_upto_region 2 with fail
 refine gen_world (fun W1 hW=>?_)
 have HX1:=tH (show Ext w W1 by rw[hW];exact xE)
 have HZ1:=tH (show Blk W1 (w.heap.size+1) [.slice none 0 0,.slice none 0 0,(.int .i64 0),(.int .i64 0),(.int .i64 0)] 43 by rw[hW];exact(Blk.new (w:=w.alloc (.cells #[.slice ca p.clear.length cc,.slice ja p.jobs.length jc,(.int .i64 p.now)] 41)) (cs:=#[.slice none 0 0,.slice none 0 0,(.int .i64 0),(.int .i64 0),(.int .i64 0)]) (by simp)).ext xE)
 have HQ1:=tH (show PoW W1 (w.heap.size+1+1) p 0 0 by
  rw[hW]
  exact⟨ca,cc,ja,jc,fc,fj,Blk.new (cs:=#[.slice ca p.clear.length cc,.slice ja p.jobs.length jc,(.int .i64 p.now),(.int .i64 0),(.int .i64 0)]) (by simp),HO.out.ext xE⟩)
 clear hW HO
 go_wp2
 go_loopw [9] (fun i wr=>∃ (m:Nat) (q:Pl),m≤n∧i=(.int .i64 (m:Int))∧Hid (tickN (n-m) q=tickN n p)∧Hid (poolR q=true)∧Hid (q.now=p.now+m)∧Hid (PoW wr (w.heap.size+1+1) q 0 0)∧Hid (Blk wr (w.heap.size+1) [.slice none 0 0,.slice none 0 0,(.int .i64 0),(.int .i64 0),(.int .i64 0)] 43)∧Hid (Ext w wr)) (fun i _=>n-(intOf i).toNat)
 case atStart=>exact⟨0,p,Nat.zero_le _,rfl,tH rfl,HR,tH (by simp),HQ1,HZ1,HX1⟩
 case round =>
  clear HQ1 HZ1 HX1
  obtain⟨m,q,hm,rfl,HT,HQR,hqn,HQ,HZ,HX⟩:=hrel
  obtain⟨pa,pc,pb,pd,gc,gj,hB,hO⟩:=HQ.out
  have HB:=tH hB
  have HO:=tH hO
  have HE:=tH (hO.e' (right_ok HQR.out).1)
  have b0:wr.cell? ⟨w.heap.size+1+1,0,none⟩=some (.slice pa q.clear.length pc):=hB.cell 0
  have b1:wr.cell? ⟨w.heap.size+1+1,1,none⟩=some (.slice pb q.jobs.length pd):=hB.cell 1
  have b2:wr.cell? ⟨w.heap.size+1+1,2,none⟩=some (.int .i64 q.now):=hB.cell 2
  have b3:wr.cell? ⟨w.heap.size+1+1,3,none⟩=some (.int .i64 0):=hB.cell 3
  have b4:wr.cell? ⟨w.heap.size+1+1,4,none⟩=some (.int .i64 0):=hB.cell 4
  have bo:=hB.old
  clear hB hO HQ
  by_cases hlt:m < n
  ·have hltb:decide ((m:Int) < (n:Int))=true:=decide_eq_true (by omega)
   have hltn:decide (m < n)=true:=decide_eq_true hlt
   go_wp2_with fail
   refine(implAdvance_any q (q.val (.slice pa q.clear.length pc) (.slice pb q.jobs.length pd)) _ (HE.out.ext xE) (right_fits HQR.out)).mono ?_
   rintro e _ ⟨cv,jv,fc9,fj9,rfl,⟨X2,rfl⟩,hO9⟩
   obtain⟨ca9,cc9,rfl⟩:=hO9.1.shape
   obtain⟨ja9,jc9,rfl⟩:=hO9.2.1.shape
   have hq9:¬ q.now=999900:=by have:=hqn.out;omega
   have e9:(advR q).1=advP q:=by rw[advR_yes HQR.out hq9]
   rw[advR_yes HQR.out hq9] at hO9 ⊢
   simp only at hO9 ⊢
   have HN3:=tH (show (advP q).now=q.now+1 by unfold advP;rfl)
   have HR3:=tH (advP_right HQR.out hq9)
   have HT3:=tH (show tickN (n-(m+1)) (advP q)=tickN n p by
    have h9:tickN (n-m) q=tickN n p:=HT.out
    rw[show n-m=(n-(m+1))+1 by omega,show tickN (n-(m+1)+1) q=tickN (n-(m+1)) (advR q).1 from rfl,e9] at h9;exact h9)
   have HO3:=tH (hO9.mono (Nat.zero_le _))
   have HB3:=tH (HB.out.ext ((Ext.refl wr).plus X2))
   have HZ3:=tH (HZ.out.ext ((Ext.refl wr).plus X2))
   have HX3:=tH (HX.out.plus X2)
   clear hO9 HB HO HE b0 b1 b2 b3 b4 bo HT hq9 e9 HZ HX
   generalize hQ9:advP q=q9 at HN3 HR3 HT3 HO3 ⊢
   clear hQ9
   unfold poV
   generalize wr.plus X2=W3 at HO3 HZ3 HX3 HB3 ⊢
   have b0:W3.cell? ⟨w.heap.size+1+1,0,none⟩=some (.slice pa q.clear.length pc):=HB3.out.cell 0
   have b1:W3.cell? ⟨w.heap.size+1+1,1,none⟩=some (.slice pb q.jobs.length pd):=HB3.out.cell 1
   have b2:W3.cell? ⟨w.heap.size+1+1,2,none⟩=some (.int .i64 q.now):=HB3.out.cell 2
   have b3:W3.cell? ⟨w.heap.size+1+1,3,none⟩=some (.int .i64 0):=HB3.out.cell 3
   have b4:W3.cell? ⟨w.heap.size+1+1,4,none⟩=some (.int .i64 0):=HB3.out.cell 4
   have bo:=HB3.out.old
   have bf:=HB3.out.fz
   go_upto_region 5 with fail
   refine gen_world (fun W4 hW=>?_)
   have hC:Chg [w.heap.size+1+1] W3 W4:=by rw[hW];exact set5_chgI _ _ _ _ _ _ _
   have HB4:=tH (show Blk W4 (w.heap.size+1+1) [.slice ca9 q9.clear.length cc9,.slice ja9 q9.jobs.length jc9,(.int .i64 q9.now),(.int .i64 0),(.int .i64 0)] 43 by rw[hW];exact((((HB3.out.set 0 _).set 1 _).set 2 _).set 3 _).set 4 _)
   have HO4:=tH (HO3.out.far hC (ownP_boxM HO3.out HB3.out (by decide) (by decide)))
   have HZ4:=tH (HZ3.out.chg hC (by simp))
   have HX4:=tH (hC.ext HX3.out (by simp;omega))
   clear hW hC b0 b1 b2 b3 b4 bo bf HB3 HO3 HZ3 HX3
   have b4:W4.cell? ⟨w.heap.size+1+1,4,none⟩=some (.int .i64 0):=HB4.out.cell 4
   have bo:=HB4.out.old
   go_wp2
   exact⟨⟨m+1,q9,by omega,by go_num,HT3,HR3,tH (by have:=HN3.out;have:=hqn.out;push_cast;omega),tH ⟨ca9,cc9,ja9,jc9,_,_,HB4.out,HO4.out⟩,HZ4,HX4⟩,by simp[intOf];omega⟩
  ·have hltb:decide ((m:Int) < (n:Int))=false:=decide_eq_false (by omega)
   have hltn:decide (m < n)=false:=decide_eq_false hlt
   obtain rfl:m=n:=by omega
   have HQ9:=tH (show q=tickN m p from by have h:=HT.out;rw[Nat.sub_self] at h;exact h)
   have z0:wr.cell? ⟨w.heap.size+1,0,none⟩=some (.slice none 0 0):=HZ.out.cell 0
   have z1:wr.cell? ⟨w.heap.size+1,1,none⟩=some (.slice none 0 0):=HZ.out.cell 1
   have z2:wr.cell? ⟨w.heap.size+1,2,none⟩=some (.int .i64 0):=HZ.out.cell 2
   have z3:wr.cell? ⟨w.heap.size+1,3,none⟩=some (.int .i64 0):=HZ.out.cell 3
   have z4:wr.cell? ⟨w.heap.size+1,4,none⟩=some (.int .i64 0):=HZ.out.cell 4
   have zo:=HZ.out.old
   have zf:=HZ.out.fz
   go_wp2
   refine gen_post (fun W9 hW=>?_)
   have hC:Chg [w.heap.size+1] wr W9:=by rw[hW];exact set5_chgI _ _ _ _ _ _ _
   have HB9:=tH (show Blk W9 (w.heap.size+1) [.slice pa q.clear.length pc,.slice pb q.jobs.length pd,(.int .i64 q.now),(.int .i64 0),(.int .i64 0)] 43 by rw[hW];exact((((HZ.out.set 0 _).set 1 _).set 2 _).set 3 _).set 4 _)
   have HO9:=tH (HO.out.far hC (ownP_boxM HO.out HZ.out (by decide) (by decide)))
   have HX9:=tH (hC.ext HX.out (by simp))
   have y0:W9.cell? ⟨w.heap.size+1,0,none⟩=some (.slice pa q.clear.length pc):=HB9.out.cell 0
   have y1:W9.cell? ⟨w.heap.size+1,1,none⟩=some (.slice pb q.jobs.length pd):=HB9.out.cell 1
   have y2:W9.cell? ⟨w.heap.size+1,2,none⟩=some (.int .i64 q.now):=HB9.out.cell 2
   have y3:W9.cell? ⟨w.heap.size+1,3,none⟩=some (.int .i64 0):=HB9.out.cell 3
   have y4:W9.cell? ⟨w.heap.size+1,4,none⟩=some (.int .i64 0):=HB9.out.cell 4
   refine bodyPost_ret (v:=poV q 0 0 (.slice pa q.clear.length pc) (.slice pb q.jobs.length pd)) (by unfold poV;simp[results,Tryz.results50,go_sem,y0,y1,y2,y3,y4]) rfl ?_
   rw[← HQ9.out]
   exact⟨_,_,gc,gj,rfl,HX9.out,HO9.out⟩
end Go.Proofs.YtbmbanelodabgaaGreatDoor
