/- The walks of Submit. -/
import Derived.Test.YtbmbanelodabgaaGreatDoorKZZ9
import Derived.Test.YtbmbanelodabgaaGreatDoorKZZ3
import Derived.Test.YtbmbanelodabgaaGreatDoorKQJ
import Derived.Test.YtbmbanelodabgaaGreatDoorKJE
set_option maxRecDepth 100000
set_option linter.unusedVariables false
namespace Go.Proofs.YtbmbanelodabgaaGreatDoor
open Go.RowKit Go.Fin1
@[irreducible] def clN (c:List (List Lab)) (x:Lab) (k:Nat):Nat:=((c.take k).filter (fun l=>hasL l x)).length
theorem clN_zero (c:List (List Lab)) (x:Lab):clN c x 0=0:=by unfold clN;simp
theorem clN_step {c:List (List Lab)} {x:Lab} {k:Nat} (hk:k < c.length):clN c x (k+1)=clN c x k+if hasL c[k] x then 1 else 0:=by
 unfold clN
 rw[List.take_succ_eq_append_getElem hk,List.filter_append,List.length_append]
 congr 1
 cases h:hasL c[k] x<;>simp[h]
def subJ (x:Lab) (id need long prio:Int):Jb:=⟨x,id,need,long,prio,1,0,[]⟩
def subP (p:Pl) (x:Lab) (need long prio:Int):Pl:=⟨p.clear,p.jobs++[subJ x (cntL p.jobs x+1) need long prio],p.now⟩
@[irreducible] def subR (p:Pl) (x:Lab) (need long prio:Int):Pl×Int×Int :=
 if poolR p=false∨jobR (subJ x 1 need long prio)=false then (zPl,0,1)
 else if (clN p.clear x p.clear.length:Int) < need then (zPl,0,11)
 else if (3:Int) < (cntL p.jobs x:Int)+1 then (zPl,0,9)
 else (subP p x need long prio,(cntL p.jobs x:Int)+1,0)
theorem subR_form {p:Pl} {x:Lab} {need long prio:Int} (h:poolR p=false∨jobR (subJ x 1 need long prio)=false):subR p x need long prio=(zPl,0,1):=by unfold subR;rw[if_pos h]
theorem subR_lab {p:Pl} {x:Lab} {need long prio:Int} (h1:poolR p=true) (h2:jobR (subJ x 1 need long prio)=true) (h:(clN p.clear x p.clear.length:Int) < need):subR p x need long prio=(zPl,0,11):=by
 unfold subR;rw[if_neg (by simp[h1,h2]),if_pos h]
theorem subR_full {p:Pl} {x:Lab} {need long prio:Int} (h1:poolR p=true) (h2:jobR (subJ x 1 need long prio)=true) (h:¬ (clN p.clear x p.clear.length:Int) < need) (h3:(3:Int) < (cntL p.jobs x:Int)+1):subR p x need long prio=(zPl,0,9):=by
 unfold subR;rw[if_neg (by simp[h1,h2]),if_neg h,if_pos h3]
theorem subR_yes {p:Pl} {x:Lab} {need long prio:Int} (h1:poolR p=true) (h2:jobR (subJ x 1 need long prio)=true) (h:¬ (clN p.clear x p.clear.length:Int) < need) (h3:¬ (3:Int) < (cntL p.jobs x:Int)+1):subR p x need long prio=(subP p x need long prio,(cntL p.jobs x:Int)+1,0):=by
 unfold subR;rw[if_neg (by simp[h1,h2]),if_neg h,if_neg h3]
theorem subJ_ok {x:Lab} {need long prio:Int} (hx:x.ok) (h1:I64 need) (h2:I64 long) (h3:I64 prio) {id:Int} (h0:I64 id):(subJ x id need long prio).ok:=by
 have z:I64 0:=by unfold I64;omega
 have z1:I64 1:=by unfold I64;omega
 first | exact⟨hx,h0,h1,h2,h3,z1,z⟩ | (unfold Jb.ok subJ;simp_all)
theorem nilIntsS (w:World):SlR w 1 rInt (.slice none 0 0) ([]:List Int):=⟨none,0,rfl,Nat.le_refl _,Nat.zero_le _,fun i hi=>by cases hi⟩
structure OutW (w W:World) (gr gb:Nat) (cv jv:Value) (now:Int):Prop where
 ext:Ext w W
 gr0:w.heap.size≤gr
 gb0:w.heap.size≤gb
 ne:gr≠gb
 r:CellsAt W gr [.slice none 0 0,.slice none 0 0,(.int .i64 0),(.int .i64 0),(.int .i64 0)]
 o:CellsAt W gb [cv,jv,(.int .i64 now)]
 fr:∀ q,W.frozen? ⟨gr,q,none⟩=false
 fo:∀ q,W.frozen? ⟨gb,q,none⟩=false
theorem OutW.chg {w W W':World} {gr gb:Nat} {cv jv:Value} {now:Int} {S:List Nat} (h:OutW w W gr gb cv jv now) (hx:Chg S W W') (h0:∀ b∈S,w.heap.size≤b) (hr:gr∉S) (hb:gb∉S):OutW w W' gr gb cv jv now:=by
 have lr:=World.block_lt_of_cell? _ _ (h.r 0 _ rfl)
 have lb:=World.block_lt_of_cell? _ _ (h.o 0 _ rfl)
 refine⟨hx.ext h.ext h0,h.gr0,h.gb0,h.ne,h.r.chg hx hr,h.o.chg hx hb,fun q=>?_,fun q=>?_⟩
 ·have:=h.fr q
  simp only[World.frozen?,hx.block gr lr hr] at this ⊢;exact this
 ·have:=h.fo q
  simp only[World.frozen?,hx.block gb lb hb] at this ⊢;exact this
set_option maxHeartbeats 3200000 in
theorem implSubmit_any (p:Pl) (v:Value) (x:Lab) (need long prio:Int) (w:World) (h:ePool w v p) (hf:p.fits 1048576) (hx:x.ok) (hn:I64 need) (hlo:I64 long) (hpr:I64 prio) :
  Calls Tryz.prog 48 #[v,.agg #[(.int .i64 x.lv),(.int .i64 x.st)],(.int .i64 need),(.int .i64 long),(.int .i64 prio)] w fun e w'=>∃ cv jv fc fj,e=.returned (poV (subR p x need long prio).1 (subR p x need long prio).2.1 (subR p x need long prio).2.2 cv jv)∧Ext w w'∧OwnP w.heap.size w' fc fj cv jv (subR p x need long prio).1:=by
 have HP:=tH h
 obtain⟨a,c,b,d,rfl,h0,h1,h2⟩:=h
 have HC:=tH h1
 have HJ:=tH h2
 have hlc:p.clear.length≤1048576:=Nat.le_trans (szL_len List.length _) hf.1
 have hlj:p.jobs.length≤1048576:=Nat.le_trans (szL_len Jb.sz _) (Nat.le_trans hf.2 (Nat.sub_le _ _))
 have HF:=tH hf
 have HOK:=tH (subJ_ok hx hn hlo hpr (id:=1) (by unfold I64;omega))
 have HI:=tH (And.intro hn (And.intro hlo hpr))
 clear h0 h1 h2 hf hx hn hlo hpr
 unfold Pl.val at HP ⊢
 cases q1:poolR p
 ·rw[subR_form (.inl q1)]
  go_enter Tryz.func48,Tryz.ntmps48
  go_wp2_with fail
  refine(implPoolRight_any p _ _ (HP.out.ext xE)).mono ?_
  rintro e _ ⟨rfl,X,rfl⟩
  rw[q1]
  go_wp2
  exact bodyPost_ret (v:=.agg #[.slice none 0 0,.slice none 0 0,(.int .i64 0),(.int .i64 0),(.int .i64 1)]) (by simp[results,Tryz.results48,go_sem]) rfl ⟨_,_,[],[],rfl,xF,OwnP.zero _ _ _⟩
 cases q2:jobR (subJ x 1 need long prio)
 ·rw[subR_form (.inr q2)]
  go_enter Tryz.func48,Tryz.ntmps48
  go_wp2_with fail
  refine(implPoolRight_any p _ _ (HP.out.ext xE)).mono ?_
  rintro e _ ⟨rfl,X,rfl⟩
  rw[q1]
  go_wp2_with fail
  refine(implJobRight_any (subJ x 1 need long prio) (.slice none 0 0) _ HOK.out (nilIntsS _)).mono ?_
  rintro e _ ⟨rfl,X2,rfl⟩
  rw[q2]
  go_wp2
  exact bodyPost_ret (v:=.agg #[.slice none 0 0,.slice none 0 0,(.int .i64 0),(.int .i64 0),(.int .i64 1)]) (by simp[results,Tryz.results48,go_sem]) rfl ⟨_,_,[],[],rfl,xF,OwnP.zero _ _ _⟩
 have HQ1:=tH q1
 have HQ2:=tH q2
 clear q1 q2
 go_enter Tryz.func48,Tryz.ntmps48
 go_wp2_with fail
 refine(implPoolRight_any p _ _ (HP.out.ext xE)).mono ?_
 rintro e _ ⟨rfl,X,rfl⟩
 rw[HQ1.out]
 go_wp2_with fail
 refine(implJobRight_any (subJ x 1 need long prio) (.slice none 0 0) _ HOK.out (nilIntsS _)).mono ?_
 rintro e _ ⟨rfl,X2,rfl⟩
 rw[HQ2.out]
 go_wp2
 go_loopw [12,33,14] (fun o i _ wr=>∃ k n:Nat,k≤p.clear.length∧i=.int .i64 k∧o=(.int .i64 (n:Int))∧Hid (n=clN p.clear x k)∧n≤k∧Ext ((((w.alloc (.cells #[.slice a p.clear.length c,.slice b p.jobs.length d,(.int .i64 p.now)] 41)).alloc (.cells #[(.int .i64 x.lv),(.int .i64 x.st)] 36)).alloc (.cells #[.slice none 0 0,.slice none 0 0,(.int .i64 0),(.int .i64 0),(.int .i64 0)] 43)).alloc (.cells #[(.int .i64 x.lv),(.int .i64 x.st),(.int .i64 1),(.int .i64 need),(.int .i64 long),(.int .i64 prio),(.int .i64 1),(.int .i64 0),.slice none 0 0] 92)) wr) (fun _ i _ _=>p.clear.length-(intOf i).toNat)
 case atStart=>exact⟨0,0,Nat.zero_le _,rfl,rfl,tH (clN_zero _ _).symm,Nat.le_refl _,xE⟩
 case round =>
  obtain⟨k,n,hk,rfl,rfl,HN,hnk,⟨X3,rfl⟩⟩:=hrel
  by_cases hlt:k < p.clear.length
  ·obtain⟨b1,off,rfl⟩:=slr_some HC.out hlt
   obtain⟨ho,vx,hsx,h0⟩:=sl_at HC.out hlt
   obtain⟨ax,cx,rfl⟩:=hsx.len
   have HX:=tH hsx
   have HST:=tH (clN_step (x:=x) hlt)
   clear hsx
   go_wp2_with fail
   refine(containsLab_any _ p.clear[k] x _ (HX.out.ext rLab_stable xE)).mono ?_
   rintro e _ ⟨rfl,Y,rfl⟩
   cases hq:hasL p.clear[k] x
   ·go_wp2
    exact⟨⟨k+1,n,by omega,by go_num,rfl,tH (by rw[HST.out,if_neg (by simp[hq]),HN.out];simp),by omega,xE⟩,by simp[intOf];omega⟩
   ·go_wp2
    exact⟨⟨k+1,n+1,by omega,by go_num,by go_num,tH (by rw[HST.out,if_pos hq,HN.out]),by omega,xE⟩,by simp[intOf];omega⟩
  ·obtain rfl:k=p.clear.length:=by omega
   by_cases h3:(n:Int) < need
   ·have HL:=tH (subR_lab HQ1.out HQ2.out (by rw[← HN.out];exact h3))
    have hb3:decide ((n:Int) < need)=true:=decide_eq_true h3
    clear h3
    go_wp2
    refine bodyPost_ret (v:=.agg #[.slice none 0 0,.slice none 0 0,(.int .i64 0),(.int .i64 0),(.int .i64 11)]) (by simp[results,Tryz.results48,go_sem]) rfl ?_
    rw[HL.out]
    exact⟨_,_,[],[],rfl,xF,OwnP.zero _ _ _⟩
   ·have hb3:decide ((n:Int) < need)=false:=decide_eq_false h3
    have H3:=tH h3
    clear h3
    go_wp2_with fail
    refine(countOf_any _ p.jobs x _ (HJ.out.ext rJob_stable xE)).mono ?_
    rintro e _ ⟨rfl,Y,rfl⟩
    obtain⟨m,hm⟩:∃ m,m=cntL p.jobs x:=⟨_,rfl⟩
    have hml:m≤1048576:=by rw[hm];exact Nat.le_trans (cntL_le _ _) hlj
    rw[← hm]
    have HM:=tH hm
    clear hm
    by_cases h4:(3:Int) < (m:Int)+1
    ·have HL:=tH (subR_full HQ1.out HQ2.out (by rw[← HN.out];exact(fun h=>by have:=H3.out;omega)) (by rw[← HM.out];exact h4))
     have hb4:decide ((3:Int) < (m:Int)+1)=true:=decide_eq_true h4
     clear h4
     go_wp2
     refine bodyPost_ret (v:=.agg #[.slice none 0 0,.slice none 0 0,(.int .i64 0),(.int .i64 0),(.int .i64 9)]) (by simp[results,Tryz.results48,go_sem]) rfl ?_
     rw[HL.out]
     exact⟨_,_,[],[],rfl,xF,OwnP.zero _ _ _⟩
    ·have HL:=tH (subR_yes HQ1.out HQ2.out (by rw[← HN.out];exact(fun h=>by have:=H3.out;omega)) (by rw[← HM.out];exact h4))
     have hb4:decide ((3:Int) < (m:Int)+1)=false:=decide_eq_false h4
     clear h4
     go_wp2_with fail
     refine(copyPool_any p _ _ (HP.out.ext xE) HF.out).mono ?_
     rintro e _ ⟨cv,jv,fc,fj,rfl,⟨Y2,rfl⟩,hO⟩
     obtain⟨ac,cc,rfl⟩:=hO.1.shape
     obtain⟨aj,cj,rfl⟩:=hO.2.1.shape
     unfold Pl.val
     go_upto_region 17 with fail
     refine gen_world (fun W1 hW=>?_)
     have r0:=CellsAt.fresh ((w.alloc (.cells #[.slice a p.clear.length c,.slice b p.jobs.length d,(.int .i64 p.now)] 41)).alloc (.cells #[(.int .i64 x.lv),(.int .i64 x.st)] 36)) [.slice none 0 0,.slice none 0 0,(.int .i64 0),(.int .i64 0),(.int .i64 0)] 43
     have j0:=CellsAt.fresh (((w.alloc (.cells #[.slice a p.clear.length c,.slice b p.jobs.length d,(.int .i64 p.now)] 41)).alloc (.cells #[(.int .i64 x.lv),(.int .i64 x.st)] 36)).alloc (.cells #[.slice none 0 0,.slice none 0 0,(.int .i64 0),(.int .i64 0),(.int .i64 0)] 43)) [(.int .i64 x.lv),(.int .i64 x.st),(.int .i64 ((m:Int)+1)),(.int .i64 need),(.int .i64 long),(.int .i64 prio),(.int .i64 1),(.int .i64 0),.slice none 0 0] 92
     have o0:=CellsAt.fresh (((((((w.alloc (.cells #[.slice a p.clear.length c,.slice b p.jobs.length d,(.int .i64 p.now)] 41)).alloc (.cells #[(.int .i64 x.lv),(.int .i64 x.st)] 36)).alloc (.cells #[.slice none 0 0,.slice none 0 0,(.int .i64 0),(.int .i64 0),(.int .i64 0)] 43)).alloc (.cells #[(.int .i64 x.lv),(.int .i64 x.st),(.int .i64 ((m:Int)+1)),(.int .i64 need),(.int .i64 long),(.int .i64 prio),(.int .i64 1),(.int .i64 0),.slice none 0 0] 92)).plus X3).plus Y).plus Y2) [.slice ac p.clear.length cc,.slice aj p.jobs.length cj,(.int .i64 p.now)] 41
     simp only[World.size_alloc,World.size_plus] at r0 j0 o0
     have hOW:OutW w W1 (w.heap.size+1+1) (w.heap.size+1+1+1+1+X3.n+Y.n+Y2.n) (.slice ac p.clear.length cc) (.slice aj p.jobs.length cj) p.now:=by
      rw[hW]
      exact⟨xE,by omega,by omega,by omega,r0.ext xE,o0,fun q=>by simp[go_sem],fun q=>by simp[go_sem]⟩
     have hJB:CellsAt W1 (w.heap.size+1+1+1) [(.int .i64 x.lv),(.int .i64 x.st),(.int .i64 ((m:Int)+1)),(.int .i64 need),(.int .i64 long),(.int .i64 prio),(.int .i64 1),(.int .i64 0),.slice none 0 0]:=by rw[hW];exact j0.ext xE
     have hOP:OwnP (w.heap.size+1+1+1+1) W1 fc fj (.slice ac p.clear.length cc) (.slice aj p.jobs.length cj) p:=by
      rw[hW]
      exact(hO.ext ((Ext.refl _).alloc _)).mono (by simp;omega)
     have hHI:∀ q∈fc++fj,q < w.heap.size+1+1+1+1+X3.n+Y.n+Y2.n:=fun q hq=>by have:=hO.high q hq;simpa using this
     have hgb:w.heap.size+1+1+1+1≤w.heap.size+1+1+1+1+X3.n+Y.n+Y2.n:=by omega
     generalize w.heap.size+1+1+1+1+X3.n+Y.n+Y2.n=gb at hOW hHI hgb ⊢
     clear hW r0 j0 o0 hO
     have HOW:=tH hOW
     have HJB:=tH hJB
     have HOP:=tH hOP
     have HHI:=tH hHI
     have HGB:=tH hgb
     have HBK:Hid (∀ q∈blkL (.slice aj p.jobs.length cj),q∈fj):=tH (fun q hq=>hOP.2.1.blkL_in q hq)
     have i0:=hJB 0 _ rfl
     have i1:=hJB 1 _ rfl
     have i2:=hJB 2 _ rfl
     have i3:=hJB 3 _ rfl
     have i4:=hJB 4 _ rfl
     have i5:=hJB 5 _ rfl
     have i6:=hJB 6 _ rfl
     have i7:=hJB 7 _ rfl
     have i8:=hJB 8 _ rfl
     have k1:=hOW.o 1 _ rfl
     have gi:=World.old_of_cell i0
     have gk:=World.old_of_cell k1
     have HSZ:Hid (w.heap.size+1+1+1+1≤W1.heap.size):=tH (by have:=World.block_lt_of_cell? _ _ k1;simp at this;omega)
     have HGW:Hid (gb < W1.heap.size):=tH (by have:=World.block_lt_of_cell? _ _ k1;simpa using this)
     clear hOW hJB hOP hHI hgb
     go_wp2_with (at_builtin;go_must (refine Own.appN oJob_local oJob_held el_eJob rfl _ _ rfl (w.heap.size+1+1+1+1) HSZ.out _ p.jobs fj rfl HOP.out.2.1 _ rfl rfl (subJ x ((m:Int)+1) need long prio) [] ⟨⟨.slice none 0 0,rfl,(Own.nil 0 _ _ _ _).1⟩,List.nodup_nil,fun q hq=>by cases hq⟩ rfl (fun q _ hq=>by cases hq) ?_ ?_ ?_ ?_);(intro u hu;simp at hu;rcases hu with rfl | rfl | rfl | rfl | rfl | rfl | rfl | rfl | rfl<;>rfl);(unfold maxLen;omega);omega;intro v' W2 fp' hO2 hC2 hS2;have HO2:=tH hO2;have HS2:=tH hS2;have HOW2:=tH (HOW.out.chg hC2 (fun q hq=>by have:=HOP.out.low q (List.mem_append_right _ (HBK.out q hq));omega) (fun hq=>by have:=HOP.out.low _ (List.mem_append_right _ (HBK.out _ hq));omega) (fun hq=>by have:=HHI.out _ (List.mem_append_right _ (HBK.out _ hq));omega));have HJ2:=tH (HJB.out.chg hC2 (fun hq=>by have:=HOP.out.low _ (List.mem_append_right _ (HBK.out _ hq));omega));have HC2:=tH (HOP.out.1.far oLabelSS_local oLabelSS_held hC2 (fun q hq hq2=>HOP.out.2.2 q hq (HBK.out q hq2)));clear hO2 hC2 hS2 i0 i1 i2 i3 i4 i5 i6 i7 i8 k1 gi gk;obtain⟨aj2,cj2,rfl⟩:=HO2.out.shape;have k0:=HOW2.out.o 0 _ rfl;have k1:=HOW2.out.o 1 _ rfl;have k2:=HOW2.out.o 2 _ rfl;have gk:=World.old_of_cell k1;have r0:=HOW2.out.r 0 _ rfl;have r1:=HOW2.out.r 1 _ rfl;have r2:=HOW2.out.r 2 _ rfl;have r3:=HOW2.out.r 3 _ rfl;have r4:=HOW2.out.r 4 _ rfl;have gr:=World.old_of_cell r0;have fr:=HOW2.out.fr;have fo:=HOW2.out.fo;have i2:=HJ2.out 2 _ rfl;have gi:=World.old_of_cell i2;have hne1:¬ (gb=w.heap.size+1+1):=(by have:=HGB.out;omega);have hne2:¬ (gb=w.heap.size+1+1+1):=(by have:=HGB.out;omega);have hne3:¬ (w.heap.size+1+1=gb):=(by have:=HGB.out;omega);have hne4:¬ (w.heap.size+1+1+1=gb):=(by have:=HGB.out;omega))
     have hch:∀ u0 u1 u2 u3 u4 u5,Chg [gb,w.heap.size+1+1] W2 ((((((W2.setCell ⟨gb,1,none⟩ u0).setCell ⟨w.heap.size+1+1,0,none⟩ u1).setCell ⟨w.heap.size+1+1,1,none⟩ u2).setCell ⟨w.heap.size+1+1,2,none⟩ u3).setCell ⟨w.heap.size+1+1,3,none⟩ u4).setCell ⟨w.heap.size+1+1,4,none⟩ u5):=fun u0 u1 u2 u3 u4 u5=>((((((Chg.refl _ _).setCell (.inl (by simp)) _).setCell (.inl (by simp)) _).setCell (.inl (by simp)) _).setCell (.inl (by simp)) _).setCell (.inl (by simp)) _).setCell (.inl (by simp)) _
     have hv:(p.jobs++[subJ x ((m:Int)+1) need long prio]).length=p.jobs.length+1:=by simp
     have hO2:=HO2.out
     rw[hv] at hO2
     refine bodyPost_ret (v:=.agg #[.slice ac p.clear.length cc,.slice aj2 (p.jobs.length+1) cj2,(.int .i64 p.now),(.int .i64 ((m:Int)+1)),(.int .i64 0)]) (by simp[results,Tryz.results48,go_sem,r0,r1,r2,r3,r4]) rfl ?_
     rw[HL.out]
     unfold subP
     rw[← HM.out]
     refine⟨_,_,fc,fp',rfl,(hch _ _ _ _ _ _).ext HOW2.out.ext (by have:=HGB.out;simp;omega),?_,?_,?_⟩
     ·exact(HC2.out.far oLabelSS_local oLabelSS_held (hch _ _ _ _ _ _) (fun q hq hq2=>by
       have h1:=HHI.out q (List.mem_append_left _ hq)
       have h2:=HOP.out.1.2.2 q hq
       simp at hq2;omega)).mono (by omega)
     ·exact(hO2.far oJobS_local oJobS_held (hch _ _ _ _ _ _) (fun q hq hq2=>by
       have h2:=hO2.2.2 q hq
       have h4:=HGW.out
       have h5:=HGB.out
       rcases HS2.out q hq with h | h | h
       ·have h3:=HHI.out q (List.mem_append_right _ h)
        simp at hq2;omega
       ·cases h
       ·simp at hq2;omega)).mono (by omega)
     ·intro q hq hq2
      have h4:=HGW.out
      have h1:=HHI.out q (List.mem_append_left _ hq)
      rcases HS2.out q hq2 with h | h | h
      ·exact HOP.out.2.2 q hq h
      ·cases h
      ·omega
set_option maxHeartbeats 3200000 in
theorem specSubmit_any (p:Pl) (v:Value) (x:Lab) (need long prio:Int) (w:World) (h:ePool w v p) (hf:p.fits 1048576) (hx:x.ok) (hn:I64 need) (hlo:I64 long) (hpr:I64 prio) :
  Calls Tryz.prog 35 #[v,.agg #[(.int .i64 x.lv),(.int .i64 x.st)],(.int .i64 need),(.int .i64 long),(.int .i64 prio)] w fun e w'=>∃ cv jv fc fj,e=.returned (poV (subR p x need long prio).1 (subR p x need long prio).2.1 (subR p x need long prio).2.2 cv jv)∧Ext w w'∧OwnP w.heap.size w' fc fj cv jv (subR p x need long prio).1:=by
 have HP:=tH h
 obtain⟨a,c,b,d,rfl,h0,h1,h2⟩:=h
 have HC:=tH h1
 have HJ:=tH h2
 have hlc:p.clear.length≤1048576:=Nat.le_trans (szL_len List.length _) hf.1
 have hlj:p.jobs.length≤1048576:=Nat.le_trans (szL_len Jb.sz _) (Nat.le_trans hf.2 (Nat.sub_le _ _))
 have HF:=tH hf
 have HOK:=tH (subJ_ok hx hn hlo hpr (id:=1) (by unfold I64;omega))
 have HI:=tH (And.intro hn (And.intro hlo hpr))
 clear h0 h1 h2 hf hx hn hlo hpr
 unfold Pl.val at HP ⊢
 cases q1:poolR p
 ·rw[subR_form (.inl q1)]
  go_enter Tryz.func35,Tryz.ntmps35
  go_wp2_with fail
  refine(specPoolRight_any p _ _ (HP.out.ext xE)).mono ?_
  rintro e _ ⟨rfl,X,rfl⟩
  rw[q1]
  go_wp2_with (go_at_call 28;refine(l05Ill_any _ _).mono ?_;rintro e _ ⟨rfl,X,rfl⟩)
  exact bodyPost_ret (v:=.agg #[.slice none 0 0,.slice none 0 0,(.int .i64 0),(.int .i64 0),(.int .i64 1)]) (by simp[results,Tryz.results35,go_sem]) rfl ⟨_,_,[],[],rfl,xF,OwnP.zero _ _ _⟩
 cases q2:jobR (subJ x 1 need long prio)
 ·rw[subR_form (.inr q2)]
  go_enter Tryz.func35,Tryz.ntmps35
  go_wp2_with fail
  refine(specPoolRight_any p _ _ (HP.out.ext xE)).mono ?_
  rintro e _ ⟨rfl,X,rfl⟩
  rw[q1]
  go_wp2_with fail
  refine(specJobRight_any (subJ x 1 need long prio) (.slice none 0 0) _ HOK.out (nilIntsS _)).mono ?_
  rintro e _ ⟨rfl,X2,rfl⟩
  rw[q2]
  go_wp2_with (go_at_call 28;refine(l05Ill_any _ _).mono ?_;rintro e _ ⟨rfl,X,rfl⟩)
  exact bodyPost_ret (v:=.agg #[.slice none 0 0,.slice none 0 0,(.int .i64 0),(.int .i64 0),(.int .i64 1)]) (by simp[results,Tryz.results35,go_sem]) rfl ⟨_,_,[],[],rfl,xF,OwnP.zero _ _ _⟩
 have HQ1:=tH q1
 have HQ2:=tH q2
 clear q1 q2
 go_enter Tryz.func35,Tryz.ntmps35
 go_wp2_with fail
 refine(specPoolRight_any p _ _ (HP.out.ext xE)).mono ?_
 rintro e _ ⟨rfl,X,rfl⟩
 rw[HQ1.out]
 go_wp2_with fail
 refine(specJobRight_any (subJ x 1 need long prio) (.slice none 0 0) _ HOK.out (nilIntsS _)).mono ?_
 rintro e _ ⟨rfl,X2,rfl⟩
 rw[HQ2.out]
 go_wp2
 go_loopw [12,13] (fun o i wr=>∃ k n:Nat,k≤p.clear.length∧i=.int .i64 k∧o=(.int .i64 (n:Int))∧Hid (n=clN p.clear x k)∧n≤k∧Ext ((((w.alloc (.cells #[.slice a p.clear.length c,.slice b p.jobs.length d,(.int .i64 p.now)] 41)).alloc (.cells #[(.int .i64 x.lv),(.int .i64 x.st)] 36)).alloc (.cells #[.slice none 0 0,.slice none 0 0,(.int .i64 0),(.int .i64 0),(.int .i64 0)] 43)).alloc (.cells #[(.int .i64 x.lv),(.int .i64 x.st),(.int .i64 1),(.int .i64 need),(.int .i64 long),(.int .i64 prio),(.int .i64 1),(.int .i64 0),.slice none 0 0] 92)) wr) (fun _ i _=>p.clear.length-(intOf i).toNat)
 case atStart=>exact⟨0,0,Nat.zero_le _,rfl,rfl,tH (clN_zero _ _).symm,Nat.le_refl _,xE⟩
 case round =>
  obtain⟨k,n,hk,rfl,rfl,HN,hnk,⟨X3,rfl⟩⟩:=hrel
  by_cases hlt:k < p.clear.length
  ·obtain⟨b1,off,rfl⟩:=slr_some HC.out hlt
   obtain⟨ho,vx,hsx,h0⟩:=sl_at HC.out hlt
   obtain⟨ax,cx,rfl⟩:=hsx.len
   have HX:=tH hsx
   have HST:=tH (clN_step (x:=x) hlt)
   clear hsx
   go_upto_region 8 with fail
   cases hq:hasL p.clear[k] x
   all_goals (refine wp_region_x 7 (by kernel_rfl) (by kernel_rfl) (by kernel_rfl) ?_;(iterate 7 (apply XReg.step;(case h=>(intro w' hw';obtain⟨X',rfl⟩:=hw';go_wp2_with ((go_at_call 60;refine(l05Cleared_any _ p.clear[k] x _ (HX.out.ext rLab_stable xE)).mono ?_;rintro e _ ⟨rfl,Y,rfl⟩;rw[hq]));exact⟨rfl,xE⟩));(case hv=>kernel_rfl)));refine XReg.doneN (fun X=>?_))
   ·go_wp2
    exact⟨⟨k+1,n,by omega,by go_num,rfl,tH (by rw[HST.out,if_neg (by simp[hq]),HN.out];simp),by omega,xE⟩,by simp[intOf];omega⟩
   ·go_wp2
    exact⟨⟨k+1,n+1,by omega,by go_num,by go_num,tH (by rw[HST.out,if_pos hq,HN.out]),by omega,xE⟩,by simp[intOf];omega⟩
  ·obtain rfl:k=p.clear.length:=by omega
   go_wp2_with fail
   refine(l04Many_any _ p.jobs x _ (HJ.out.ext rJob_stable xE)).mono ?_
   rintro e _ ⟨rfl,Y,rfl⟩
   obtain⟨m,hm⟩:∃ m,m=cntL p.jobs x:=⟨_,rfl⟩
   have hml:m≤1048576:=by rw[hm];exact Nat.le_trans (cntL_le _ _) hlj
   rw[← hm]
   have HM:=tH hm
   clear hm
   by_cases h3:(n:Int) < need
   ·have HL:=tH (subR_lab HQ1.out HQ2.out (by rw[← HN.out];exact h3))
    have hb3:decide ((n:Int) < need)=true:=decide_eq_true h3
    clear h3
    go_wp2_with (go_at_call 28;refine(l05Ill_any _ _).mono ?_;rintro e _ ⟨rfl,X,rfl⟩)
    refine bodyPost_ret (v:=.agg #[.slice none 0 0,.slice none 0 0,(.int .i64 0),(.int .i64 0),(.int .i64 11)]) (by simp[results,Tryz.results35,go_sem]) rfl ?_
    rw[HL.out]
    exact⟨_,_,[],[],rfl,xF,OwnP.zero _ _ _⟩
   ·have hb3:decide ((n:Int) < need)=false:=decide_eq_false h3
    have H3:=tH h3
    clear h3
    by_cases h4:(3:Int) < (m:Int)+1
    ·have HL:=tH (subR_full HQ1.out HQ2.out (by rw[← HN.out];exact(fun h=>by have:=H3.out;omega)) (by rw[← HM.out];exact h4))
     have hb4:decide ((3:Int) < (m:Int)+1)=true:=decide_eq_true h4
     clear h4
     go_wp2_with (go_at_call 28;refine(l05Ill_any _ _).mono ?_;rintro e _ ⟨rfl,X,rfl⟩)
     refine bodyPost_ret (v:=.agg #[.slice none 0 0,.slice none 0 0,(.int .i64 0),(.int .i64 0),(.int .i64 9)]) (by simp[results,Tryz.results35,go_sem]) rfl ?_
     rw[HL.out]
     exact⟨_,_,[],[],rfl,xF,OwnP.zero _ _ _⟩
    ·have HL:=tH (subR_yes HQ1.out HQ2.out (by rw[← HN.out];exact(fun h=>by have:=H3.out;omega)) (by rw[← HM.out];exact h4))
     have hb4:decide ((3:Int) < (m:Int)+1)=false:=decide_eq_false h4
     clear h4
     go_wp2_with fail
     refine(l05Copy_any p _ _ (HP.out.ext xE) HF.out).mono ?_
     rintro e _ ⟨cv,jv,fc,fj,rfl,⟨Y2,rfl⟩,hO⟩
     obtain⟨ac,cc,rfl⟩:=hO.1.shape
     obtain⟨aj,cj,rfl⟩:=hO.2.1.shape
     unfold Pl.val
     go_upto_region 16 with fail
     refine gen_world (fun W1 hW=>?_)
     have r0:=CellsAt.fresh ((w.alloc (.cells #[.slice a p.clear.length c,.slice b p.jobs.length d,(.int .i64 p.now)] 41)).alloc (.cells #[(.int .i64 x.lv),(.int .i64 x.st)] 36)) [.slice none 0 0,.slice none 0 0,(.int .i64 0),(.int .i64 0),(.int .i64 0)] 43
     have j0:=CellsAt.fresh (((w.alloc (.cells #[.slice a p.clear.length c,.slice b p.jobs.length d,(.int .i64 p.now)] 41)).alloc (.cells #[(.int .i64 x.lv),(.int .i64 x.st)] 36)).alloc (.cells #[.slice none 0 0,.slice none 0 0,(.int .i64 0),(.int .i64 0),(.int .i64 0)] 43)) [(.int .i64 x.lv),(.int .i64 x.st),(.int .i64 ((m:Int)+1)),(.int .i64 need),(.int .i64 long),(.int .i64 prio),(.int .i64 1),(.int .i64 0),.slice none 0 0] 92
     have o0:=CellsAt.fresh (((((((w.alloc (.cells #[.slice a p.clear.length c,.slice b p.jobs.length d,(.int .i64 p.now)] 41)).alloc (.cells #[(.int .i64 x.lv),(.int .i64 x.st)] 36)).alloc (.cells #[.slice none 0 0,.slice none 0 0,(.int .i64 0),(.int .i64 0),(.int .i64 0)] 43)).alloc (.cells #[(.int .i64 x.lv),(.int .i64 x.st),(.int .i64 ((m:Int)+1)),(.int .i64 need),(.int .i64 long),(.int .i64 prio),(.int .i64 1),(.int .i64 0),.slice none 0 0] 92)).plus X3).plus Y).plus Y2) [.slice ac p.clear.length cc,.slice aj p.jobs.length cj,(.int .i64 p.now)] 41
     simp only[World.size_alloc,World.size_plus] at r0 j0 o0
     have hOW:OutW w W1 (w.heap.size+1+1) (w.heap.size+1+1+1+1+X3.n+Y.n+Y2.n) (.slice ac p.clear.length cc) (.slice aj p.jobs.length cj) p.now:=by
      rw[hW]
      exact⟨xE,by omega,by omega,by omega,r0.ext xE,o0,fun q=>by simp[go_sem],fun q=>by simp[go_sem]⟩
     have hJB:CellsAt W1 (w.heap.size+1+1+1) [(.int .i64 x.lv),(.int .i64 x.st),(.int .i64 ((m:Int)+1)),(.int .i64 need),(.int .i64 long),(.int .i64 prio),(.int .i64 1),(.int .i64 0),.slice none 0 0]:=by rw[hW];exact j0.ext xE
     have hOP:OwnP (w.heap.size+1+1+1+1) W1 fc fj (.slice ac p.clear.length cc) (.slice aj p.jobs.length cj) p:=by
      rw[hW]
      exact(hO.ext ((Ext.refl _).alloc _)).mono (by simp;omega)
     have hHI:∀ q∈fc++fj,q < w.heap.size+1+1+1+1+X3.n+Y.n+Y2.n:=fun q hq=>by have:=hO.high q hq;simpa using this
     have hgb:w.heap.size+1+1+1+1≤w.heap.size+1+1+1+1+X3.n+Y.n+Y2.n:=by omega
     generalize w.heap.size+1+1+1+1+X3.n+Y.n+Y2.n=gb at hOW hHI hgb ⊢
     clear hW r0 j0 o0 hO
     have HOW:=tH hOW
     have HJB:=tH hJB
     have HOP:=tH hOP
     have HHI:=tH hHI
     have HGB:=tH hgb
     have HBK:Hid (∀ q∈blkL (.slice aj p.jobs.length cj),q∈fj):=tH (fun q hq=>hOP.2.1.blkL_in q hq)
     have i0:=hJB 0 _ rfl
     have i1:=hJB 1 _ rfl
     have i2:=hJB 2 _ rfl
     have i3:=hJB 3 _ rfl
     have i4:=hJB 4 _ rfl
     have i5:=hJB 5 _ rfl
     have i6:=hJB 6 _ rfl
     have i7:=hJB 7 _ rfl
     have i8:=hJB 8 _ rfl
     have k1:=hOW.o 1 _ rfl
     have gi:=World.old_of_cell i0
     have gk:=World.old_of_cell k1
     have HSZ:Hid (w.heap.size+1+1+1+1≤W1.heap.size):=tH (by have:=World.block_lt_of_cell? _ _ k1;simp at this;omega)
     have HGW:Hid (gb < W1.heap.size):=tH (by have:=World.block_lt_of_cell? _ _ k1;simpa using this)
     clear hOW hJB hOP hHI hgb
     go_wp2_with (at_builtin;go_must (refine Own.appN oJob_local oJob_held el_eJob rfl _ _ rfl (w.heap.size+1+1+1+1) HSZ.out _ p.jobs fj rfl HOP.out.2.1 _ rfl rfl (subJ x ((m:Int)+1) need long prio) [] ⟨⟨.slice none 0 0,rfl,(Own.nil 0 _ _ _ _).1⟩,List.nodup_nil,fun q hq=>by cases hq⟩ rfl (fun q _ hq=>by cases hq) ?_ ?_ ?_ ?_);(intro u hu;simp at hu;rcases hu with rfl | rfl | rfl | rfl | rfl | rfl | rfl | rfl | rfl<;>rfl);(unfold maxLen;omega);omega;intro v' W2 fp' hO2 hC2 hS2;have HO2:=tH hO2;have HS2:=tH hS2;have HOW2:=tH (HOW.out.chg hC2 (fun q hq=>by have:=HOP.out.low q (List.mem_append_right _ (HBK.out q hq));omega) (fun hq=>by have:=HOP.out.low _ (List.mem_append_right _ (HBK.out _ hq));omega) (fun hq=>by have:=HHI.out _ (List.mem_append_right _ (HBK.out _ hq));omega));have HJ2:=tH (HJB.out.chg hC2 (fun hq=>by have:=HOP.out.low _ (List.mem_append_right _ (HBK.out _ hq));omega));have HC2:=tH (HOP.out.1.far oLabelSS_local oLabelSS_held hC2 (fun q hq hq2=>HOP.out.2.2 q hq (HBK.out q hq2)));clear hO2 hC2 hS2 i0 i1 i2 i3 i4 i5 i6 i7 i8 k1 gi gk;obtain⟨aj2,cj2,rfl⟩:=HO2.out.shape;have k0:=HOW2.out.o 0 _ rfl;have k1:=HOW2.out.o 1 _ rfl;have k2:=HOW2.out.o 2 _ rfl;have gk:=World.old_of_cell k1;have r0:=HOW2.out.r 0 _ rfl;have r1:=HOW2.out.r 1 _ rfl;have r2:=HOW2.out.r 2 _ rfl;have r3:=HOW2.out.r 3 _ rfl;have r4:=HOW2.out.r 4 _ rfl;have gr:=World.old_of_cell r0;have fr:=HOW2.out.fr;have fo:=HOW2.out.fo;have i2:=HJ2.out 2 _ rfl;have gi:=World.old_of_cell i2;have hne1:¬ (gb=w.heap.size+1+1):=(by have:=HGB.out;omega);have hne2:¬ (gb=w.heap.size+1+1+1):=(by have:=HGB.out;omega);have hne3:¬ (w.heap.size+1+1=gb):=(by have:=HGB.out;omega);have hne4:¬ (w.heap.size+1+1+1=gb):=(by have:=HGB.out;omega))
     have hch:∀ u0 u1 u2 u3 u4 u5,Chg [gb,w.heap.size+1+1] W2 ((((((W2.setCell ⟨gb,1,none⟩ u0).setCell ⟨w.heap.size+1+1,0,none⟩ u1).setCell ⟨w.heap.size+1+1,1,none⟩ u2).setCell ⟨w.heap.size+1+1,2,none⟩ u3).setCell ⟨w.heap.size+1+1,3,none⟩ u4).setCell ⟨w.heap.size+1+1,4,none⟩ u5):=fun u0 u1 u2 u3 u4 u5=>((((((Chg.refl _ _).setCell (.inl (by simp)) _).setCell (.inl (by simp)) _).setCell (.inl (by simp)) _).setCell (.inl (by simp)) _).setCell (.inl (by simp)) _).setCell (.inl (by simp)) _
     have hv:(p.jobs++[subJ x ((m:Int)+1) need long prio]).length=p.jobs.length+1:=by simp
     have hO2:=HO2.out
     rw[hv] at hO2
     refine bodyPost_ret (v:=.agg #[.slice ac p.clear.length cc,.slice aj2 (p.jobs.length+1) cj2,(.int .i64 p.now),(.int .i64 ((m:Int)+1)),(.int .i64 0)]) (by simp[results,Tryz.results35,go_sem,r0,r1,r2,r3,r4]) rfl ?_
     rw[HL.out]
     unfold subP
     rw[← HM.out]
     refine⟨_,_,fc,fp',rfl,(hch _ _ _ _ _ _).ext HOW2.out.ext (by have:=HGB.out;simp;omega),?_,?_,?_⟩
     ·exact(HC2.out.far oLabelSS_local oLabelSS_held (hch _ _ _ _ _ _) (fun q hq hq2=>by
       have h1:=HHI.out q (List.mem_append_left _ hq)
       have h2:=HOP.out.1.2.2 q hq
       simp at hq2;omega)).mono (by omega)
     ·exact(hO2.far oJobS_local oJobS_held (hch _ _ _ _ _ _) (fun q hq hq2=>by
       have h2:=hO2.2.2 q hq
       have h4:=HGW.out
       have h5:=HGB.out
       rcases HS2.out q hq with h | h | h
       ·have h3:=HHI.out q (List.mem_append_right _ h)
        simp at hq2;omega
       ·cases h
       ·simp at hq2;omega)).mono (by omega)
     ·intro q hq hq2
      have h4:=HGW.out
      have h1:=HHI.out q (List.mem_append_left _ hq)
      rcases HS2.out q hq2 with h | h | h
      ·exact HOP.out.2.2 q hq h
      ·cases h
      ·omega
end Go.Proofs.YtbmbanelodabgaaGreatDoor
set_option maxRecDepth 100000
set_option linter.unusedVariables false
namespace Go
open Go.RowKit
def Typed {α:Type} (o:Ow α) (T:List TypeId):Prop:=∀ w fp cs x,o w fp cs x→∀ b∈fp,∃ cur t,w.heap[b]?=some (.cells cur t (0,0))∧t∈T
theorem oFlat_typed {α:Type} (f:α→List Value):Typed (oFlat f) []:=fun w fp cs x h b hb=>by rw[h.1] at hb;cases hb
theorem oSl_typed {α:Type} {ty K:Nat} {o:Ow α} {T:List TypeId} (h:Typed o T):Typed (oSl ty K o) (ty :: T):=by
 rintro w fp cs xs ⟨v,hcs,h1⟩ b hb
 rcases h1 with ⟨_,_,rfl⟩ | ⟨g,cap,cur,fps,hv,hg,hsz,hl,hm,hf,rfl,h2⟩
 ·cases hb
 ·rcases List.mem_cons.1 hb with rfl | hb
  ·exact⟨cur,ty,hg,by simp⟩
  ·obtain⟨fi,hfi,hbf⟩:=List.mem_flatten.1 hb
   obtain⟨i,hi,rfl⟩:=List.getElem_of_mem hfi
   obtain⟨cur',t,h3,h4⟩:=h _ _ _ _ (h2 i (by omega) _ (List.getElem?_eq_getElem hi)) b hbf
   exact⟨cur',t,h3,List.mem_cons_of_mem _ h4⟩
theorem Typed.apart {α:Type} {o:Ow α} {T:List TypeId} (h:Typed o T) {w:World} {fp:List Nat} {cs:List Value} {x:α} (ho:o w fp cs x) {g:Nat} {cur:Array Value} {t:TypeId} (hg:w.heap[g]?=some (.cells cur t (0,0))) (ht:t∉T):g∉fp:=fun hb=>by
 obtain⟨cur',t',h1,h2⟩:=h _ _ _ _ ho g hb
 rw[hg] at h1
 simp at h1
 exact ht (h1.2▸h2)
end Go
namespace Go.Proofs.YtbmbanelodabgaaGreatDoor
open Go.RowKit Go.Fin1
theorem oJobS_typed:Typed oJobS [92,2]:=oSl_typed (o:=oJob) (fun w fp cs x ⟨v,_,h⟩=>oSl_typed (oFlat_typed _) w fp _ _ h)
theorem oLabelSS_typed:Typed oLabelSS [45,36]:=oSl_typed (oSl_typed (oFlat_typed _))
theorem OwnP.far {B:Nat} {w w':World} {S fc fj:List Nat} {c j:Value} {p:Pl} (h:OwnP B w fc fj c j p) (hx:Chg S w w') (hd:∀ b∈fc++fj,b∉S):OwnP B w' fc fj c j p :=
 ⟨h.1.far oLabelSS_local oLabelSS_held hx (fun b hb=>hd b (List.mem_append_left _ hb)),h.2.1.far oJobS_local oJobS_held hx (fun b hb=>hd b (List.mem_append_right _ hb)),h.2.2⟩
structure PlFit (p:Pl):Prop where
 c1:p.clear.length≤maxLen
 c2:∀ x∈p.clear,x.length≤maxLen
 j1:p.jobs.length≤maxLen
 j2:∀ j∈p.jobs,j.nodes.length≤maxLen
theorem PlFit.can {p:Pl} (h:PlFit p) (B:Nat):∃ w a c b d fc fj,OwnP B w fc fj (.slice a p.clear.length c) (.slice b p.jobs.length d) p:=by
 obtain⟨w1,a,c,fc,hx1,hO1⟩:=own_can (ty:=45) (oSl_local (oFlat_local _)) (oSl_held (oFlat_held _)) (fun y hy=>canLabS (h.c2 y hy)) h.c1 (emptyH B)
 obtain⟨w2,b,d,fj,hx2,hO2⟩:=own_can (ty:=92) oJob_local oJob_held (fun y hy=>canO_job (h.j2 y hy)) h.j1 w1
 rw[emptyH_size] at hO1
 have hs:=hx1.below.size
 rw[emptyH_size] at hs
 refine⟨w2,a,c,b,d,fc,fj,hO1.ext oLabelSS_local oLabelSS_held hx2,hO2.mono hs,fun q hq hq2=>?_⟩
 have h1:=oLabelSS_held _ _ _ _ hO1.1 q hq
 have h2:=hO2.2.2 q hq2
 omega
def kOutO (B:Nat) (p:Pl) (id c:Int):XReg.Kind:=fun v w=>∃ a e b d fc fj,v=poV p id c (.slice a p.clear.length e) (.slice b p.jobs.length d)∧OwnP B w fc fj (.slice a p.clear.length e) (.slice b p.jobs.length d) p
theorem kOutO_good {B:Nat} {p:Pl} {id c:Int} (h:PlFit p):XReg.GoodK (kOutO B p id c) :=
 ⟨fun v w w' hx ⟨a,e,b,d,fc,fj,hv,hO⟩=>⟨a,e,b,d,fc,fj,hv,hO.ext hx⟩,by
  obtain⟨w,a,e,b,d,fc,fj,hO⟩:=h.can B
  exact⟨_,w,a,e,b,d,fc,fj,rfl,hO⟩⟩
theorem kOutO_in {B:Nat} {p:Pl} {id c:Int} {w:World} {fc fj:List Nat} {cv jv:Value} (h:OwnP B w fc fj cv jv p):kOutO B p id c (poV p id c cv jv) w:=by
 obtain⟨a,e,rfl⟩:=h.1.shape
 obtain⟨b,d,rfl⟩:=h.2.1.shape
 exact⟨a,e,b,d,fc,fj,rfl,h⟩
theorem kOutO_out {B:Nat} {p:Pl} {id c:Int} {w:World} {cv jv:Value} (h:kOutO B p id c (.agg #[cv,jv,(.int .i64 p.now),(.int .i64 id),(.int .i64 c)]) w):∃ fc fj,OwnP B w fc fj cv jv p:=by
 obtain⟨a,e,b,d,fc,fj,hv,h⟩:=h
 unfold poV at hv
 simp at hv
 obtain⟨rfl,rfl⟩:=hv
 exact⟨fc,fj,h⟩
end Go.Proofs.YtbmbanelodabgaaGreatDoor
set_option maxRecDepth 100000
set_option linter.unusedVariables false
namespace Go
open Go.RowKit
theorem Own.setE {α:Type} {B:Nat} {w:World} {ty K:Nat} {o:Ow α} (hlo:Local o) (hhe:Held o) {fp:List Nat} {g n cap:Nat} {xs:List α} (h:Own B w (oSl ty K o) fp [.slice (some ⟨g,0,none⟩) n cap] xs) {i:Nat} (hi:i < xs.length) :
  ∃ fi cs,w.old g∧(∀ j,w.frozen? ⟨g,j,none⟩=false)∧cs.length=K∧(∀ j u,cs[j]?=some u→w.cell? ⟨g,i*K+j,none⟩=some u)∧o w fi cs xs[i]∧g∈fp ∧
   ∀ (q:Nat) (vs:List Value) (y:α),q+vs.length≤K→(∀ w',o w' [] (cs.take q++vs++cs.drop (q+vs.length)) y) →
    ∃ fp',(∀ b∈fp',b∈fp)∧Own B (w.layCells g (i*K+q) vs) (oSl ty K o) fp' [.slice (some ⟨g,0,none⟩) n cap] (xs.set i y):=by
 obtain⟨⟨v',hv,h⟩,hnd,hge⟩:=h
 rcases h with ⟨rfl,_,_⟩ | ⟨g',cap',cur,fps,rfl,hg,hsz,hl,hm,hf,rfl,h⟩
 ·simp at hv
 ·obtain⟨rfl,rfl,rfl⟩:g=g'∧n=xs.length∧cap=cap':=by simpa using hv
  obtain⟨hgn,hnd2⟩:=List.nodup_cons.1 hnd
  have hif:i < fps.length:=by omega
  have hki:(i+1)*K≤cur.size:=by rw[hsz];exact Nat.mul_le_mul_right _ (by omega)
  rw[Nat.add_mul,Nat.one_mul] at hki
  have hcl:((cur.toList.drop (i*K)).take K).length=K:=by simp;omega
  have hsub:∀ b∈(fps.set i []).flatten,b∈fps.flatten:=fun b hb=>by
   obtain⟨f,hfm,hbf⟩:=List.mem_flatten.1 hb
   rcases List.mem_or_eq_of_mem_set hfm with hfm | rfl
   ·exact List.mem_flatten.2 ⟨f,hfm,hbf⟩
   ·cases hbf
  refine⟨fps[i],(cur.toList.drop (i*K)).take K,(Array.getElem?_eq_some_iff.1 hg).1,frozen_of_heap hg,hcl,fun j u hu=>by rw[cell_of_heap hg];exact drop_take_get hu,h i hi _ (List.getElem?_eq_getElem hif),by simp,fun q vs y hq ho=>?_⟩
  have hx:=layCells_chg vs w g (i*K+q)
  refine⟨g :: (fps.set i []).flatten,fun b hb=>?_,⟨_,rfl,.inr ⟨g,cap,spl cur (i*K+q) vs,fps.set i [],by simp,layCells_heap vs _ hg,by rw[spl_size];exact hsz,by simpa using hl,hm,by simpa using hf,rfl,fun j hj fj hfj=>?_⟩⟩,?_,fun b hb=>?_⟩
  ·rcases List.mem_cons.1 hb with rfl | hb
   ·simp
   ·exact List.mem_cons_of_mem _ (hsub b hb)
  ·have hj':j < xs.length:=by simpa using hj
   have hjk:(j+1)*K≤cur.size:=by rw[hsz];exact Nat.mul_le_mul_right _ (by omega)
   rw[Nat.add_mul,Nat.one_mul] at hjk
   by_cases e:j=i
   ·subst e
    have hfe:fj=[]:=by simpa [hif] using hfj.symm
    subst hfe
    have hcs:((spl cur (j*K+q) vs).toList.drop (j*K)).take K=((cur.toList.drop (j*K)).take K).take q++vs++((cur.toList.drop (j*K)).take K).drop (q+vs.length):=by
     refine List.ext_getElem? fun r=>?_
     rw[List.getElem?_take,List.getElem?_drop,Array.getElem?_toList,spl_get vs cur _ _ (by omega)]
     have hlq:(((cur.toList.drop (j*K)).take K).take q).length=q:=by rw[List.length_take,hcl];omega
     by_cases hr:r < K
     ·rw[if_pos hr]
      by_cases h1:r < q
      ·rw[if_neg (by omega),List.append_assoc,List.getElem?_append_left (by omega),List.getElem?_take,if_pos h1,List.getElem?_take,if_pos hr,List.getElem?_drop,Array.getElem?_toList]
      ·by_cases h2:r < q+vs.length
       ·rw[if_pos (by omega),List.append_assoc,List.getElem?_append_right (by omega),List.getElem?_append_left (by omega),hlq]
        congr 1;omega
       ·rw[if_neg (by omega),List.append_assoc,List.getElem?_append_right (by omega),List.getElem?_append_right (by omega),List.getElem?_drop,hlq,List.getElem?_take,if_pos (by omega),List.getElem?_drop,Array.getElem?_toList]
        congr 1;omega
     ·rw[if_neg hr,List.getElem?_eq_none]
      rw[List.length_append,List.length_append,hlq,List.length_drop,hcl];omega
    rw[hcs]
    simpa using ho _
   ·have hfj':fps[j]?=some fj:=by rwa [List.getElem?_set_ne (Ne.symm e)] at hfj
    rw[List.getElem_set_ne (Ne.symm e)]
    have hsame:((spl cur (i*K+q) vs).toList.drop (j*K)).take K=(cur.toList.drop (j*K)).take K:=by
     refine List.ext_getElem? fun r=>?_
     rw[List.getElem?_take,List.getElem?_take]
     by_cases hr:r < K
     ·rw[if_pos hr,if_pos hr,List.getElem?_drop,List.getElem?_drop,Array.getElem?_toList,Array.getElem?_toList,spl_get vs cur _ _ (by omega),if_neg]
      rintro ⟨h1,h2⟩
      rcases Nat.lt_or_gt_of_ne e with h | h
      ·have:(j+1)*K≤i*K:=Nat.mul_le_mul_right _ h
       rw[Nat.add_mul,Nat.one_mul] at this
       omega
      ·have:(i+1)*K≤j*K:=Nat.mul_le_mul_right _ h
       rw[Nat.add_mul,Nat.one_mul] at this
       omega
     ·rw[if_neg hr,if_neg hr]
    rw[hsame]
    refine hlo.chg hhe hx (fun b hb hbg=>?_) (h j hj' _ hfj')
    simp at hbg
    subst hbg
    exact hgn (List.mem_flatten.2 ⟨_,List.mem_of_getElem? hfj',hb⟩)
  ·refine List.nodup_cons.2 ⟨fun hb=>hgn (hsub g hb),?_⟩
   have hp:=List.pairwise_flatten.1 hnd2
   refine List.pairwise_flatten.2 ⟨fun f hfm=>?_,?_⟩
   ·rcases List.mem_or_eq_of_mem_set hfm with hfm | rfl
    ·exact hp.1 f hfm
    ·exact List.Pairwise.nil
   ·have hp2:=List.pairwise_iff_getElem.1 hp.2
    refine List.pairwise_iff_getElem.2 fun a b ha hb hab=>?_
    rw[List.getElem_set,List.getElem_set]
    split
    ·intro x hx;cases hx
    ·split
     ·intro x _ y hy;cases hy
     ·exact hp2 a b (by simpa using ha) (by simpa using hb) hab
  ·rcases List.mem_cons.1 hb with rfl | hb
   ·exact hge b (by simp)
   ·exact hge b (List.mem_cons_of_mem _ (hsub b hb))
end Go
namespace Go.Proofs.YtbmbanelodabgaaGreatDoor
open Go.RowKit Go.Fin1
def setJ (j:Jb) (s:Int):Jb:=⟨j.l,j.id,j.need,j.long,j.prio,s,0,[]⟩
def chP (p:Pl) (k:Nat) (s:Int):Pl:=⟨p.clear,p.jobs.set k (setJ (p.jobs.getD k ⟨⟨0,0⟩,0,0,0,0,0,0,[]⟩) s),p.now⟩
def stOk (s:Int):Prop:=s=1∨s=3∨s=4
instance (s : Int) : Decidable (stOk s) := by unfold stOk; exact inferInstance
@[irreducible] def chR (p:Pl) (x:Lab) (id s:Int):Pl×Int×Int :=
 if poolR p=false∨¬ stOk s then (zPl,0,1)
 else if posJ p.jobs x id < 0 then (zPl,0,6)
 else if (p.jobs.getD (posJ p.jobs x id).toNat ⟨⟨0,0⟩,0,0,0,0,0,0,[]⟩).state=3∨(p.jobs.getD (posJ p.jobs x id).toNat ⟨⟨0,0⟩,0,0,0,0,0,0,[]⟩).state=s then (zPl,0,10)
 else (chP p (posJ p.jobs x id).toNat s,0,0)
theorem chR_form {p:Pl} {x:Lab} {id s:Int} (h:poolR p=false∨¬ stOk s):chR p x id s=(zPl,0,1):=by unfold chR;rw[if_pos h]
theorem chR_none {p:Pl} {x:Lab} {id s:Int} (h1:poolR p=true) (h2:stOk s) (h:posJ p.jobs x id=-1):chR p x id s=(zPl,0,6):=by
 unfold chR;rw[if_neg (by simp[h1,h2]),if_pos (by omega)]
theorem chR_state {p:Pl} {x:Lab} {id s:Int} {k:Nat} (h1:poolR p=true) (h2:stOk s) (hk:k < p.jobs.length) (h:posJ p.jobs x id=k) (h3:p.jobs[k].state=3∨p.jobs[k].state=s):chR p x id s=(zPl,0,10):=by
 unfold chR;rw[if_neg (by simp[h1,h2]),h,if_neg (by omega),if_pos]
 simpa [List.getD,hk] using h3
theorem chR_yes {p:Pl} {x:Lab} {id s:Int} {k:Nat} (h1:poolR p=true) (h2:stOk s) (hk:k < p.jobs.length) (h:posJ p.jobs x id=k) (h3:¬ (p.jobs[k].state=3∨p.jobs[k].state=s)):chR p x id s=(⟨p.clear,p.jobs.set k (setJ p.jobs[k] s),p.now⟩,0,0):=by
 unfold chR;rw[if_neg (by simp[h1,h2]),h,if_neg (by omega),if_neg]
 ·unfold chP;simp[List.getD,hk]
 ·simpa [List.getD,hk] using h3
set_option maxHeartbeats 800000 in
theorem setState_any (g o:Nat) (s:Int) (u6 u7 u8:Value) (w:World) (h6:w.cell? ⟨g,o+6,none⟩=some u6) (h7:w.cell? ⟨g,o+7,none⟩=some u7) (h8:w.cell? ⟨g,o+8,none⟩=some u8) (hf:∀ j,w.frozen? ⟨g,j,none⟩=false) :
  Calls Tryz.prog 84 #[.pointer (some ⟨g,o,none⟩),(.int .i64 s)] w fun e w'=>(∃ v,e=.returned v)∧w'=((w.setCell ⟨g,o+6,none⟩ (.int .i64 s)).setCell ⟨g,o+7,none⟩ (.int .i64 0)).setCell ⟨g,o+8,none⟩ (.slice none 0 0):=by
 have ho:=World.old_of_cell h6
 go_enter Tryz.func84,Tryz.ntmps84
 go_wp2
 exact bodyPost_end (v:=.tuple #[]) (by simp[results,Tryz.results84,go_sem]) rfl ⟨⟨_,rfl⟩,rfl⟩
theorem st_cases (st:Int):(stOk st∧(((st != 1)=false)∨((st != 1)=true∧(st != 3)=false)∨((st != 1)=true∧(st != 3)=true∧(st != 4)=false)))∨(¬ stOk st∧(st != 1)=true∧(st != 3)=true∧(st != 4)=true):=by
 unfold stOk
 by_cases h1:st=1
 ·subst h1;exact .inl ⟨.inl rfl,.inl rfl⟩
 ·have e1:(st != 1)=true:=by simpa using h1
  by_cases h3:st=3
  ·subst h3;exact .inl ⟨.inr (.inl rfl),.inr (.inl ⟨e1,rfl⟩)⟩
  ·have e3:(st != 3)=true:=by simpa using h3
   by_cases h4:st=4
   ·subst h4;exact .inl ⟨.inr (.inr rfl),.inr (.inr ⟨e1,e3,rfl⟩)⟩
   ·exact .inr ⟨by omega,e1,e3,by simpa using h4⟩
set_option maxHeartbeats 3200000 in
theorem implChange_st (p:Pl) (v:Value) (x:Lab) (id st:Int) (w:World) (h:ePool w v p) (hf:p.fits 1048576) (hb:((st != 1)=false)∨((st != 1)=true∧(st != 3)=false)∨((st != 1)=true∧(st != 3)=true∧(st != 4)=false)) (HQ1:Hid (poolR p=true)) (HS:Hid (stOk st)) :
  Calls Tryz.prog 51 #[v,.agg #[(.int .i64 x.lv),(.int .i64 x.st)],(.int .i64 id),(.int .i64 st)] w fun e w'=>∃ cv jv fc fj,e=.returned (poV (chR p x id st).1 (chR p x id st).2.1 (chR p x id st).2.2 cv jv)∧Ext w w'∧OwnP w.heap.size w' fc fj cv jv (chR p x id st).1:=by
 have HP:=tH h
 obtain⟨a,c,b,d,rfl,h0,h1,h2⟩:=h
 have HC:=tH h1
 have HJ:=tH h2
 have hlj:p.jobs.length≤1048576:=Nat.le_trans (szL_len Jb.sz _) (Nat.le_trans hf.2 (Nat.sub_le _ _))
 have HF:=tH hf
 clear h0 h1 h2 hf
 unfold Pl.val at HP ⊢
 rcases hb with s1 | ⟨s1,s3⟩ | ⟨s1,s3,s4⟩
 all_goals (
  rcases findI_cases (isJb x id) p.jobs with hpos | ⟨k,hk,hpos,_⟩
  ·have HL:=tH (chR_none (id:=id) HQ1.out HS.out hpos)
   have HPS:=tH (show posJ p.jobs x id=-1 from hpos)
   clear hpos
   go_enter Tryz.func51,Tryz.ntmps51
   go_wp2_with fail
   refine(implPoolRight_any p _ _ (HP.out.ext xE)).mono ?_
   rintro e _ ⟨rfl,X,rfl⟩
   rw[HQ1.out]
   go_wp2_with fail
   refine(indexOf_any _ p.jobs x id _ (HJ.out.ext rJob_stable xE)).mono ?_
   rintro e _ ⟨rfl,Y,rfl⟩
   rw[HPS.out]
   go_wp2
   refine bodyPost_ret (v:=.agg #[.slice none 0 0,.slice none 0 0,(.int .i64 0),(.int .i64 0),(.int .i64 6)]) (by simp[results,Tryz.results51,go_sem]) rfl ?_
   rw[HL.out]
   exact⟨_,_,[],[],rfl,xF,OwnP.zero _ _ _⟩
  ·have HPS:=tH (show posJ p.jobs x id=(k:Int) from hpos)
   clear hpos
   obtain⟨bJ,offJ,hbJ⟩:=slr_some HJ.out hk
   have HJ2:=HJ.out
   rw[hbJ] at HJ2
   obtain⟨hoJ,an,cn,hok,hsn,t0,t1,t2,t3,t4,t5,t6,t7,t8⟩:=job_at HJ2 hk
   have hneg:decide ((k:Int) < 0)=false:=decide_eq_false (by omega)
   clear hsn hok HJ2 t0 t1 t2 t3 t4 t5 t7 t8
   by_cases h3:p.jobs[k].state=3∨p.jobs[k].state=st
   ·have HL:=tH (chR_state (id:=id) HQ1.out HS.out hk HPS.out h3)
    have hh3:((p.jobs[k].state == 3)=true)∨((p.jobs[k].state == 3)=false∧(p.jobs[k].state == st)=true):=by
     rcases h3 with h3 | h3
     ·exact .inl (by simp[h3])
     ·cases hq:(p.jobs[k].state == 3)
      ·exact .inr ⟨rfl,by simp[h3]⟩
      ·exact .inl rfl
    clear h3
    subst hbJ
    rcases hh3 with z1 | ⟨z1,z2⟩
    all_goals (
     go_enter Tryz.func51,Tryz.ntmps51
     go_wp2_with fail
     refine(implPoolRight_any p _ _ (HP.out.ext xE)).mono ?_
     rintro e _ ⟨rfl,X,rfl⟩
     rw[HQ1.out]
     go_wp2_with fail
     refine(indexOf_any _ p.jobs x id _ (HJ.out.ext rJob_stable xE)).mono ?_
     rintro e _ ⟨rfl,Y,rfl⟩
     rw[HPS.out]
     go_wp2
     refine bodyPost_ret (v:=.agg #[.slice none 0 0,.slice none 0 0,(.int .i64 0),(.int .i64 0),(.int .i64 10)]) (by simp[results,Tryz.results51,go_sem]) rfl ?_
     rw[HL.out]
     exact⟨_,_,[],[],rfl,xF,OwnP.zero _ _ _⟩)
   ·have HL:=tH (chR_yes (id:=id) HQ1.out HS.out hk HPS.out h3)
    have z1:(p.jobs[k].state == 3)=false:=by simp;exact fun h=>h3 (.inl h)
    have z2:(p.jobs[k].state == st)=false:=by simp;exact fun h=>h3 (.inr h)
    clear h3
    subst hbJ
    go_enter Tryz.func51,Tryz.ntmps51
    go_wp2_with fail
    refine(implPoolRight_any p _ _ (HP.out.ext xE)).mono ?_
    rintro e _ ⟨rfl,X,rfl⟩
    rw[HQ1.out]
    go_wp2_with fail
    refine(indexOf_any _ p.jobs x id _ (HJ.out.ext rJob_stable xE)).mono ?_
    rintro e _ ⟨rfl,Y,rfl⟩
    rw[HPS.out]
    go_wp2_with fail
    refine(copyPool_any p _ _ (HP.out.ext xE) HF.out).mono ?_
    rintro e _ ⟨cv,jv,fc,fj,rfl,⟨Y2,rfl⟩,hO⟩
    obtain⟨ac,cc,rfl⟩:=hO.1.shape
    obtain⟨aj,cj,rfl⟩:=hO.2.1.shape
    unfold Pl.val
    go_upto_region 10 with fail
    refine gen_world (fun W1 hW=>?_)
    have r0:=CellsAt.fresh ((w.alloc (.cells #[.slice a p.clear.length c,.slice (some ⟨bJ,offJ,none⟩) p.jobs.length d,(.int .i64 p.now)] 41)).alloc (.cells #[(.int .i64 x.lv),(.int .i64 x.st)] 36)) [.slice none 0 0,.slice none 0 0,(.int .i64 0),(.int .i64 0),(.int .i64 0)] 43
    have o0:=CellsAt.fresh (((((((w.alloc (.cells #[.slice a p.clear.length c,.slice (some ⟨bJ,offJ,none⟩) p.jobs.length d,(.int .i64 p.now)] 41)).alloc (.cells #[(.int .i64 x.lv),(.int .i64 x.st)] 36)).alloc (.cells #[.slice none 0 0,.slice none 0 0,(.int .i64 0),(.int .i64 0),(.int .i64 0)] 43)).plus X).plus Y).plus Y2)) [.slice ac p.clear.length cc,.slice aj p.jobs.length cj,(.int .i64 p.now)] 41
    simp only[World.size_alloc,World.size_plus] at r0 o0
    have hOW:OutW w W1 (w.heap.size+1+1) (w.heap.size+1+1+1+X.n+Y.n+Y2.n) (.slice ac p.clear.length cc) (.slice aj p.jobs.length cj) p.now:=by
     rw[hW]
     exact⟨xE,by omega,by omega,by omega,r0.ext xE,o0,fun q=>by simp[go_sem],fun q=>by simp[go_sem]⟩
    have hOP:OwnP (w.heap.size+1+1+1) W1 fc fj (.slice ac p.clear.length cc) (.slice aj p.jobs.length cj) p:=by
     rw[hW]
     exact(hO.ext ((Ext.refl _).alloc _)).mono (by simp;omega)
    have hHI:∀ q∈fc++fj,q < w.heap.size+1+1+1+X.n+Y.n+Y2.n:=fun q hq=>by have:=hO.high q hq;simpa using this
    have hgb:w.heap.size+1+1+1≤w.heap.size+1+1+1+X.n+Y.n+Y2.n:=by omega
    generalize w.heap.size+1+1+1+X.n+Y.n+Y2.n=gb at hOW hHI hgb ⊢
    clear hW r0 o0 hO
    obtain⟨gj,cj',cur,hv,_,_,_,_,_,hgj⟩:∃ g cap cur,Value.slice aj p.jobs.length cj=.slice (some ⟨g,0,none⟩) p.jobs.length cap∧W1.heap[g]?=some (.cells cur 92 (0,0))∧cur.size=cap*9∧p.jobs.length≤cap∧cap≤maxLen∧w.heap.size+1+1+1≤g∧g∈fj:=by
     rcases hOP.2.1.blk with ⟨_,h0,_⟩ | h
     ·rw[h0] at hk;cases hk
     ·exact h
    obtain⟨rfl,rfl⟩:aj=some ⟨gj,0,none⟩∧cj=cj':=by simpa using hv
    clear hv
    obtain⟨fi,cs,hog,hfz,hcl,hcells,⟨nv,hcs,_⟩,_,hset⟩:=hOP.2.1.setE oJob_local oJob_held hk
    subst hcs
    have i6:=hcells 6 _ rfl
    have i7:=hcells 7 _ rfl
    have i8:=hcells 8 _ rfl
    obtain⟨fp',hsub,hown⟩:=hset 6 [(.int .i64 st),(.int .i64 0),.slice none 0 0] (setJ p.jobs[k] st) (by show 6+3≤9;decide) (fun w'=>⟨.slice none 0 0,rfl,(Own.nil 0 _ _ _ _).1⟩)
    have hgj1:gj < gb:=hHI gj (List.mem_append_right _ hgj)
    have hgj2:w.heap.size+1+1+1≤gj:=hOP.low gj (List.mem_append_right _ hgj)
    have hgjc:gj∉fc:=fun hq=>hOP.2.2 gj hq hgj
    have HOW:=tH hOW
    have HOP:=tH hOP
    have HHI:=tH hHI
    have HGB:=tH hgb
    have HOWN:=tH hown
    have HSUB:=tH hsub
    have HGJ:=tH (And.intro hgj1 (And.intro hgj2 hgjc))
    have k0:=hOW.o 0 _ rfl
    have k1:=hOW.o 1 _ rfl
    have k2:=hOW.o 2 _ rfl
    have gk:=World.old_of_cell k1
    have hne1:¬ (gj=gb):=by omega
    have hne2:¬ (gb=gj):=by omega
    clear hset hcells hcl hown hsub hgj hgj1 hgj2 hgjc hOW hOP hHI hgb
    (go_wp2_with fail;refine(setState_any gj (k*9) st _ _ _ _ i6 i7 i8 hfz).mono ?_;rintro e _ ⟨⟨v9,rfl⟩,rfl⟩;go_upto_region 11 with fail)
    refine gen_world (fun W2 hW=>?_)
    have hLay:W2=W1.layCells gj (k*9+6) [(.int .i64 st),(.int .i64 0),.slice none 0 0]:=hW
    have hC:Chg [gj] W1 W2:=by rw[hLay];exact layCells_chg _ _ _ _
    have HOW2:=tH (HOW.out.chg hC (fun q hq=>by simp at hq;subst hq;have:=HGJ.out.2.1;omega) (fun hq=>by simp at hq;have:=HGJ.out.2.1;omega) (fun hq=>by simp at hq;have:=HGJ.out.1;omega))
    have HC2:=tH (HOP.out.1.far oLabelSS_local oLabelSS_held hC (fun q hq hq2=>by simp at hq2;subst hq2;exact HGJ.out.2.2 hq))
    have HO2:Hid (Own (w.heap.size+1+1+1) W2 oJobS fp' [.slice (some ⟨gj,0,none⟩) p.jobs.length cj] (p.jobs.set k (setJ p.jobs[k] st))):=tH (by rw[hLay];exact HOWN.out)
    clear hW hLay hC i6 i7 i8 k0 k1 k2 gk hne1 hne2 hog hfz HOWN
    have k0:=HOW2.out.o 0 _ rfl
    have k1:=HOW2.out.o 1 _ rfl
    have k2:=HOW2.out.o 2 _ rfl
    have gk:=World.old_of_cell k1
    have r0:=HOW2.out.r 0 _ rfl
    have r1:=HOW2.out.r 1 _ rfl
    have r2:=HOW2.out.r 2 _ rfl
    have r3:=HOW2.out.r 3 _ rfl
    have r4:=HOW2.out.r 4 _ rfl
    have gr:=World.old_of_cell r0
    have fr:=HOW2.out.fr
    go_wp2
    have hch:∀ u1 u2 u3 u4 u5,Chg [w.heap.size+1+1] W2 (((((W2.setCell ⟨w.heap.size+1+1,0,none⟩ u1).setCell ⟨w.heap.size+1+1,1,none⟩ u2).setCell ⟨w.heap.size+1+1,2,none⟩ u3).setCell ⟨w.heap.size+1+1,3,none⟩ u4).setCell ⟨w.heap.size+1+1,4,none⟩ u5):=fun u1 u2 u3 u4 u5=>(((((Chg.refl _ _).setCell (.inl (by simp)) _).setCell (.inl (by simp)) _).setCell (.inl (by simp)) _).setCell (.inl (by simp)) _).setCell (.inl (by simp)) _
    refine bodyPost_ret (v:=.agg #[.slice ac p.clear.length cc,.slice (some ⟨gj,0,none⟩) p.jobs.length cj,(.int .i64 p.now),(.int .i64 0),(.int .i64 0)]) (by simp[results,Tryz.results51,go_sem,r0,r1,r2,r3,r4]) rfl ?_
    rw[HL.out]
    refine⟨_,_,fc,fp',rfl,(hch _ _ _ _ _).ext HOW2.out.ext (by simp;omega),?_,?_,?_⟩
    ·exact(HC2.out.chg oLabelSS_local oLabelSS_held (hch _ _ _ _ _) (by simp)).mono (by omega)
    ·exact(HO2.out.chg oJobS_local oJobS_held (hch _ _ _ _ _) (by simp)).mono (by omega)
    ·exact fun q hq hq2=>HOP.out.2.2 q hq (HSUB.out q hq2))
set_option maxHeartbeats 3200000 in
theorem implChange_any (p:Pl) (v:Value) (x:Lab) (id st:Int) (w:World) (h:ePool w v p) (hf:p.fits 1048576) :
  Calls Tryz.prog 51 #[v,.agg #[(.int .i64 x.lv),(.int .i64 x.st)],(.int .i64 id),(.int .i64 st)] w fun e w'=>∃ cv jv fc fj,e=.returned (poV (chR p x id st).1 (chR p x id st).2.1 (chR p x id st).2.2 cv jv)∧Ext w w'∧OwnP w.heap.size w' fc fj cv jv (chR p x id st).1:=by
 have HP:=tH h
 cases q1:poolR p
 ·obtain⟨a,c,b,d,rfl,h0,h1,h2⟩:=h
  clear h0 h1 h2
  unfold Pl.val at HP ⊢
  rw[chR_form (.inl q1)]
  go_enter Tryz.func51,Tryz.ntmps51
  go_wp2_with fail
  refine(implPoolRight_any p _ _ (HP.out.ext xE)).mono ?_
  rintro e _ ⟨rfl,X,rfl⟩
  rw[q1]
  go_wp2
  exact bodyPost_ret (v:=.agg #[.slice none 0 0,.slice none 0 0,(.int .i64 0),(.int .i64 0),(.int .i64 1)]) (by simp[results,Tryz.results51,go_sem]) rfl ⟨_,_,[],[],rfl,xF,OwnP.zero _ _ _⟩
 ·rcases st_cases st with ⟨hs,hb⟩ | ⟨hs,s1,s3,s4⟩
  ·exact implChange_st p v x id st w h hf hb (tH q1) (tH hs)
  ·obtain⟨a,c,b,d,rfl,h0,h1,h2⟩:=h
   clear h0 h1 h2
   unfold Pl.val at HP ⊢
   rw[chR_form (.inr hs)]
   clear hs
   go_enter Tryz.func51,Tryz.ntmps51
   go_wp2_with fail
   refine(implPoolRight_any p _ _ (HP.out.ext xE)).mono ?_
   rintro e _ ⟨rfl,X,rfl⟩
   rw[q1]
   go_wp2
   exact bodyPost_ret (v:=.agg #[.slice none 0 0,.slice none 0 0,(.int .i64 0),(.int .i64 0),(.int .i64 1)]) (by simp[results,Tryz.results51,go_sem]) rfl ⟨_,_,[],[],rfl,xF,OwnP.zero _ _ _⟩
set_option maxHeartbeats 3200000 in
theorem specChange_st (p:Pl) (v:Value) (x:Lab) (id st:Int) (w:World) (h:ePool w v p) (hf:p.fits 1048576) (hb:((st != 1)=false)∨((st != 1)=true∧(st != 3)=false)∨((st != 1)=true∧(st != 3)=true∧(st != 4)=false)) (HQ1:Hid (poolR p=true)) (HS:Hid (stOk st)) :
  Calls Tryz.prog 36 #[v,.agg #[(.int .i64 x.lv),(.int .i64 x.st)],(.int .i64 id),(.int .i64 st)] w fun e w'=>∃ cv jv fc fj,e=.returned (poV (chR p x id st).1 (chR p x id st).2.1 (chR p x id st).2.2 cv jv)∧Ext w w'∧OwnP w.heap.size w' fc fj cv jv (chR p x id st).1:=by
 have HP:=tH h
 obtain⟨a,c,b,d,rfl,h0,h1,h2⟩:=h
 have HC:=tH h1
 have HJ:=tH h2
 have hlj:p.jobs.length≤1048576:=Nat.le_trans (szL_len Jb.sz _) (Nat.le_trans hf.2 (Nat.sub_le _ _))
 have HF:=tH hf
 clear h0 h1 h2 hf
 unfold Pl.val at HP ⊢
 rcases hb with s1 | ⟨s1,s3⟩ | ⟨s1,s3,s4⟩
 all_goals (
  rcases findI_cases (isJb x id) p.jobs with hpos | ⟨k,hk,hpos,_⟩
  ·have HL:=tH (chR_none (id:=id) HQ1.out HS.out hpos)
   have HPS:=tH (show posJ p.jobs x id=-1 from hpos)
   clear hpos
   go_enter Tryz.func36,Tryz.ntmps36
   go_wp2_with fail
   refine(specPoolRight_any p _ _ (HP.out.ext xE)).mono ?_
   rintro e _ ⟨rfl,X,rfl⟩
   rw[HQ1.out]
   go_wp2_with fail
   refine(l04At_any _ p.jobs x id _ (HJ.out.ext rJob_stable xE)).mono ?_
   rintro e _ ⟨rfl,Y,rfl⟩
   rw[HPS.out]
   go_wp2_with (go_at_call 28;refine(l05Ill_any _ _).mono ?_;rintro e _ ⟨rfl,X,rfl⟩)
   refine bodyPost_ret (v:=.agg #[.slice none 0 0,.slice none 0 0,(.int .i64 0),(.int .i64 0),(.int .i64 6)]) (by simp[results,Tryz.results36,go_sem]) rfl ?_
   rw[HL.out]
   exact⟨_,_,[],[],rfl,xF,OwnP.zero _ _ _⟩
  ·have HPS:=tH (show posJ p.jobs x id=(k:Int) from hpos)
   clear hpos
   obtain⟨bJ,offJ,hbJ⟩:=slr_some HJ.out hk
   have HJ2:=HJ.out
   rw[hbJ] at HJ2
   obtain⟨hoJ,an,cn,hok,hsn,t0,t1,t2,t3,t4,t5,t6,t7,t8⟩:=job_at HJ2 hk
   have hneg:decide ((k:Int) < 0)=false:=decide_eq_false (by omega)
   clear hsn hok HJ2 t0 t1 t2 t3 t4 t5 t7 t8
   by_cases h3:p.jobs[k].state=3∨p.jobs[k].state=st
   ·have HL:=tH (chR_state (id:=id) HQ1.out HS.out hk HPS.out h3)
    have hh3:((p.jobs[k].state == 3)=true)∨((p.jobs[k].state == 3)=false∧(p.jobs[k].state == st)=true):=by
     rcases h3 with h3 | h3
     ·exact .inl (by simp[h3])
     ·cases hq:(p.jobs[k].state == 3)
      ·exact .inr ⟨rfl,by simp[h3]⟩
      ·exact .inl rfl
    clear h3
    subst hbJ
    rcases hh3 with z1 | ⟨z1,z2⟩
    all_goals (
     go_enter Tryz.func36,Tryz.ntmps36
     go_wp2_with fail
     refine(specPoolRight_any p _ _ (HP.out.ext xE)).mono ?_
     rintro e _ ⟨rfl,X,rfl⟩
     rw[HQ1.out]
     go_wp2_with fail
     refine(l04At_any _ p.jobs x id _ (HJ.out.ext rJob_stable xE)).mono ?_
     rintro e _ ⟨rfl,Y,rfl⟩
     rw[HPS.out]
     go_wp2_with (go_at_call 28;refine(l05Ill_any _ _).mono ?_;rintro e _ ⟨rfl,X,rfl⟩)
     refine bodyPost_ret (v:=.agg #[.slice none 0 0,.slice none 0 0,(.int .i64 0),(.int .i64 0),(.int .i64 10)]) (by simp[results,Tryz.results36,go_sem]) rfl ?_
     rw[HL.out]
     exact⟨_,_,[],[],rfl,xF,OwnP.zero _ _ _⟩)
   ·have HL:=tH (chR_yes (id:=id) HQ1.out HS.out hk HPS.out h3)
    have z1:(p.jobs[k].state == 3)=false:=by simp;exact fun h=>h3 (.inl h)
    have z2:(p.jobs[k].state == st)=false:=by simp;exact fun h=>h3 (.inr h)
    clear h3
    subst hbJ
    go_enter Tryz.func36,Tryz.ntmps36
    go_wp2_with fail
    refine(specPoolRight_any p _ _ (HP.out.ext xE)).mono ?_
    rintro e _ ⟨rfl,X,rfl⟩
    rw[HQ1.out]
    go_wp2_with fail
    refine(l04At_any _ p.jobs x id _ (HJ.out.ext rJob_stable xE)).mono ?_
    rintro e _ ⟨rfl,Y,rfl⟩
    rw[HPS.out]
    go_wp2_with fail
    refine(l05Copy_any p _ _ (HP.out.ext xE) HF.out).mono ?_
    rintro e _ ⟨cv,jv,fc,fj,rfl,⟨Y2,rfl⟩,hO⟩
    obtain⟨ac,cc,rfl⟩:=hO.1.shape
    obtain⟨aj,cj,rfl⟩:=hO.2.1.shape
    unfold Pl.val
    go_upto_region 9 with fail
    refine gen_world (fun W1 hW=>?_)
    have r0:=CellsAt.fresh ((w.alloc (.cells #[.slice a p.clear.length c,.slice (some ⟨bJ,offJ,none⟩) p.jobs.length d,(.int .i64 p.now)] 41)).alloc (.cells #[(.int .i64 x.lv),(.int .i64 x.st)] 36)) [.slice none 0 0,.slice none 0 0,(.int .i64 0),(.int .i64 0),(.int .i64 0)] 43
    have o0:=CellsAt.fresh (((((((w.alloc (.cells #[.slice a p.clear.length c,.slice (some ⟨bJ,offJ,none⟩) p.jobs.length d,(.int .i64 p.now)] 41)).alloc (.cells #[(.int .i64 x.lv),(.int .i64 x.st)] 36)).alloc (.cells #[.slice none 0 0,.slice none 0 0,(.int .i64 0),(.int .i64 0),(.int .i64 0)] 43)).plus X).plus Y).plus Y2)) [.slice ac p.clear.length cc,.slice aj p.jobs.length cj,(.int .i64 p.now)] 41
    simp only[World.size_alloc,World.size_plus] at r0 o0
    have hOW:OutW w W1 (w.heap.size+1+1) (w.heap.size+1+1+1+X.n+Y.n+Y2.n) (.slice ac p.clear.length cc) (.slice aj p.jobs.length cj) p.now:=by
     rw[hW]
     exact⟨xE,by omega,by omega,by omega,r0.ext xE,o0,fun q=>by simp[go_sem],fun q=>by simp[go_sem]⟩
    have hOP:OwnP (w.heap.size+1+1+1) W1 fc fj (.slice ac p.clear.length cc) (.slice aj p.jobs.length cj) p:=by
     rw[hW]
     exact(hO.ext ((Ext.refl _).alloc _)).mono (by simp;omega)
    have hHI:∀ q∈fc++fj,q < w.heap.size+1+1+1+X.n+Y.n+Y2.n:=fun q hq=>by have:=hO.high q hq;simpa using this
    have hgb:w.heap.size+1+1+1≤w.heap.size+1+1+1+X.n+Y.n+Y2.n:=by omega
    generalize w.heap.size+1+1+1+X.n+Y.n+Y2.n=gb at hOW hHI hgb ⊢
    clear hW r0 o0 hO
    obtain⟨gj,cj',cur,hv,_,_,_,_,_,hgj⟩:∃ g cap cur,Value.slice aj p.jobs.length cj=.slice (some ⟨g,0,none⟩) p.jobs.length cap∧W1.heap[g]?=some (.cells cur 92 (0,0))∧cur.size=cap*9∧p.jobs.length≤cap∧cap≤maxLen∧w.heap.size+1+1+1≤g∧g∈fj:=by
     rcases hOP.2.1.blk with ⟨_,h0,_⟩ | h
     ·rw[h0] at hk;cases hk
     ·exact h
    obtain⟨rfl,rfl⟩:aj=some ⟨gj,0,none⟩∧cj=cj':=by simpa using hv
    clear hv
    obtain⟨fi,cs,hog,hfz,hcl,hcells,⟨nv,hcs,_⟩,_,hset⟩:=hOP.2.1.setE oJob_local oJob_held hk
    subst hcs
    have i6:=hcells 6 _ rfl
    have i7:=hcells 7 _ rfl
    have i8:=hcells 8 _ rfl
    obtain⟨fp',hsub,hown⟩:=hset 6 [(.int .i64 st),(.int .i64 0),.slice none 0 0] (setJ p.jobs[k] st) (by show 6+3≤9;decide) (fun w'=>⟨.slice none 0 0,rfl,(Own.nil 0 _ _ _ _).1⟩)
    have hgj1:gj < gb:=hHI gj (List.mem_append_right _ hgj)
    have hgj2:w.heap.size+1+1+1≤gj:=hOP.low gj (List.mem_append_right _ hgj)
    have hgjc:gj∉fc:=fun hq=>hOP.2.2 gj hq hgj
    have HOW:=tH hOW
    have HOP:=tH hOP
    have HHI:=tH hHI
    have HGB:=tH hgb
    have HOWN:=tH hown
    have HSUB:=tH hsub
    have HGJ:=tH (And.intro hgj1 (And.intro hgj2 hgjc))
    have k0:=hOW.o 0 _ rfl
    have k1:=hOW.o 1 _ rfl
    have k2:=hOW.o 2 _ rfl
    have gk:=World.old_of_cell k1
    have hne1:¬ (gj=gb):=by omega
    have hne2:¬ (gb=gj):=by omega
    clear hset hcells hcl hown hsub hgj hgj1 hgj2 hgjc hOW hOP hHI hgb
    go_upto_region 12 with fail
    refine gen_world (fun W2 hW=>?_)
    have hLay:W2=W1.layCells gj (k*9+6) [(.int .i64 st),(.int .i64 0),.slice none 0 0]:=hW
    have hC:Chg [gj] W1 W2:=by rw[hLay];exact layCells_chg _ _ _ _
    have HOW2:=tH (HOW.out.chg hC (fun q hq=>by simp at hq;subst hq;have:=HGJ.out.2.1;omega) (fun hq=>by simp at hq;have:=HGJ.out.2.1;omega) (fun hq=>by simp at hq;have:=HGJ.out.1;omega))
    have HC2:=tH (HOP.out.1.far oLabelSS_local oLabelSS_held hC (fun q hq hq2=>by simp at hq2;subst hq2;exact HGJ.out.2.2 hq))
    have HO2:Hid (Own (w.heap.size+1+1+1) W2 oJobS fp' [.slice (some ⟨gj,0,none⟩) p.jobs.length cj] (p.jobs.set k (setJ p.jobs[k] st))):=tH (by rw[hLay];exact HOWN.out)
    clear hW hLay hC i6 i7 i8 k0 k1 k2 gk hne1 hne2 hog hfz HOWN
    have k0:=HOW2.out.o 0 _ rfl
    have k1:=HOW2.out.o 1 _ rfl
    have k2:=HOW2.out.o 2 _ rfl
    have gk:=World.old_of_cell k1
    have r0:=HOW2.out.r 0 _ rfl
    have r1:=HOW2.out.r 1 _ rfl
    have r2:=HOW2.out.r 2 _ rfl
    have r3:=HOW2.out.r 3 _ rfl
    have r4:=HOW2.out.r 4 _ rfl
    have gr:=World.old_of_cell r0
    have fr:=HOW2.out.fr
    go_wp2
    have hch:∀ u1 u2 u3 u4 u5,Chg [w.heap.size+1+1] W2 (((((W2.setCell ⟨w.heap.size+1+1,0,none⟩ u1).setCell ⟨w.heap.size+1+1,1,none⟩ u2).setCell ⟨w.heap.size+1+1,2,none⟩ u3).setCell ⟨w.heap.size+1+1,3,none⟩ u4).setCell ⟨w.heap.size+1+1,4,none⟩ u5):=fun u1 u2 u3 u4 u5=>(((((Chg.refl _ _).setCell (.inl (by simp)) _).setCell (.inl (by simp)) _).setCell (.inl (by simp)) _).setCell (.inl (by simp)) _).setCell (.inl (by simp)) _
    refine bodyPost_ret (v:=.agg #[.slice ac p.clear.length cc,.slice (some ⟨gj,0,none⟩) p.jobs.length cj,(.int .i64 p.now),(.int .i64 0),(.int .i64 0)]) (by simp[results,Tryz.results36,go_sem,r0,r1,r2,r3,r4]) rfl ?_
    rw[HL.out]
    refine⟨_,_,fc,fp',rfl,(hch _ _ _ _ _).ext HOW2.out.ext (by simp;omega),?_,?_,?_⟩
    ·exact(HC2.out.chg oLabelSS_local oLabelSS_held (hch _ _ _ _ _) (by simp)).mono (by omega)
    ·exact(HO2.out.chg oJobS_local oJobS_held (hch _ _ _ _ _) (by simp)).mono (by omega)
    ·exact fun q hq hq2=>HOP.out.2.2 q hq (HSUB.out q hq2))
set_option maxHeartbeats 3200000 in
theorem specChange_any (p:Pl) (v:Value) (x:Lab) (id st:Int) (w:World) (h:ePool w v p) (hf:p.fits 1048576) :
  Calls Tryz.prog 36 #[v,.agg #[(.int .i64 x.lv),(.int .i64 x.st)],(.int .i64 id),(.int .i64 st)] w fun e w'=>∃ cv jv fc fj,e=.returned (poV (chR p x id st).1 (chR p x id st).2.1 (chR p x id st).2.2 cv jv)∧Ext w w'∧OwnP w.heap.size w' fc fj cv jv (chR p x id st).1:=by
 have HP:=tH h
 cases q1:poolR p
 ·obtain⟨a,c,b,d,rfl,h0,h1,h2⟩:=h
  clear h0 h1 h2
  unfold Pl.val at HP ⊢
  rw[chR_form (.inl q1)]
  go_enter Tryz.func36,Tryz.ntmps36
  go_wp2_with fail
  refine(specPoolRight_any p _ _ (HP.out.ext xE)).mono ?_
  rintro e _ ⟨rfl,X,rfl⟩
  rw[q1]
  go_wp2_with (go_at_call 28;refine(l05Ill_any _ _).mono ?_;rintro e _ ⟨rfl,X,rfl⟩)
  exact bodyPost_ret (v:=.agg #[.slice none 0 0,.slice none 0 0,(.int .i64 0),(.int .i64 0),(.int .i64 1)]) (by simp[results,Tryz.results36,go_sem]) rfl ⟨_,_,[],[],rfl,xF,OwnP.zero _ _ _⟩
 ·rcases st_cases st with ⟨hs,hb⟩ | ⟨hs,s1,s3,s4⟩
  ·exact specChange_st p v x id st w h hf hb (tH q1) (tH hs)
  ·obtain⟨a,c,b,d,rfl,h0,h1,h2⟩:=h
   clear h0 h1 h2
   unfold Pl.val at HP ⊢
   rw[chR_form (.inr hs)]
   clear hs
   go_enter Tryz.func36,Tryz.ntmps36
   go_wp2_with fail
   refine(specPoolRight_any p _ _ (HP.out.ext xE)).mono ?_
   rintro e _ ⟨rfl,X,rfl⟩
   rw[q1]
   go_wp2_with (go_at_call 28;refine(l05Ill_any _ _).mono ?_;rintro e _ ⟨rfl,X,rfl⟩)
   exact bodyPost_ret (v:=.agg #[.slice none 0 0,.slice none 0 0,(.int .i64 0),(.int .i64 0),(.int .i64 1)]) (by simp[results,Tryz.results36,go_sem]) rfl ⟨_,_,[],[],rfl,xF,OwnP.zero _ _ _⟩
end Go.Proofs.YtbmbanelodabgaaGreatDoor
