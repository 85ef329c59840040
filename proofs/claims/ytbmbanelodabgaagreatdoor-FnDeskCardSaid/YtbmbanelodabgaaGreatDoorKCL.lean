/- The reference's desk: any line. -/
import Derived.Test.YtbmbanelodabgaaGreatDoorKMS6
import Derived.Test.YtbmbanelodabgaaGreatDoorKAG
import Derived.Test.YtbmbanelodabgaaGreatDoorKVBC
import Derived.Test.YtbmbanelodabgaaGreatDoorKZZ1
set_option maxRecDepth 100000
set_option linter.unusedVariables false
set_option linter.unusedSimpArgs false
namespace Go.Proofs.YtbmbanelodabgaaGreatDoor
open Go.RowKit Go.Fin1
theorem tickN_now:∀ {n:Nat} {p:Pl},poolR p=true→p.now+n≤900000→poolR (tickN n p)=true∧(tickN n p).now=p.now+n
 | 0,p,h,_=>⟨h,by show p.now=_;simp⟩
 | n+1,p,h,hn=>by
  have h1:¬ p.now=999900:=by omega
  have h2:(advR p).1=advP p:=by rw[advR_yes h h1]
  have h3:(advP p).now=p.now+1:=by unfold advP;rfl
  have h4:=tickN_now (n:=n) (p:=advP p) (advP_right h h1) (by rw[h3];omega)
  unfold tickN
  rw[h2]
  exact⟨h4.1,by rw[h4.2,h3];push_cast;omega⟩
theorem joinW_len {l:List Bs} (h:∀ x∈l,x.length≤100):(joinW l).length≤l.length*101+1:=by
 unfold joinW
 split
 ·simp
 ·have:([32].intercalate l:Bs).length≤l.length*101:=by
   induction l with
   | nil=>simp[List.intercalate]
   | cons a r ih =>
    have ha:=h a (List.mem_cons_self ..)
    have ih:=ih (fun x hx=>h x (List.mem_cons_of_mem _ hx))
    cases r with
    | nil=>simp[List.intercalate];omega
    | cons c r =>
     have:([32].intercalate (a :: c :: r):Bs)=a++(32 :: [32].intercalate (c :: r)):=by simp[List.intercalate,List.intersperse]
     rw[this]
     rw[List.length_append,List.length_cons]
     refine Nat.le_trans (Nat.add_le_add ha (Nat.succ_le_succ (ih (by simp)))) ?_
     simp only[List.length_cons]
     omega
  omega
theorem itoa_len6 {n:Int} (h0:0≤n) (h:n≤1000000):(Lib.itoa n).length≤7:=by
 obtain⟨m,rfl⟩:=Int.eq_ofNat_of_zero_le h0
 rw[Lib.itoa_nonneg]
 exact dec_len_pow 6 m (by omega)
theorem seeT_len {p:Pl} (x:Lab) (h:poolR p=true):(seeT p x).length≤9797:=by
 obtain⟨h1,h2⟩:=sees_bd h
 unfold seeT seesL
 refine Nat.le_trans (joinW_len (fun y hy=>?_)) ?_
 ·obtain⟨j,hj,rfl⟩:=List.mem_map.1 hy
  obtain⟨⟨h3,h4,h5⟩,h6⟩:=h2 j (List.mem_filter.1 hj).1
  have e1:=lblT_len j.l
  have e2:=itoa_len6 (n:=j.id) (by omega) (by omega)
  unfold wordJ
  split
  ·rename_i h7
   have e3:=itoa_len6 (n:=j.start) (h6 h7).1 (h6 h7).2
   simp;omega
  ·simp;omega
 ·have:=List.length_filter_le (fun j:Jb=>blw j.l x) (sortedJ p.jobs)
  rw[List.length_map]
  omega
theorem planT_len {p:Pl} (x:Lab) (h:poolR p=true):(planT p x).length≤9797:=by
 obtain⟨h1,h2⟩:=planL_bd h
 unfold planT
 refine Nat.le_trans (joinW_len (fun y hy=>?_)) ?_
 ·obtain⟨j,hj,rfl⟩:=List.mem_map.1 hy
  obtain⟨⟨h3,h4⟩,h6⟩:=h2 j (List.mem_filter.1 hj).1
  have e1:=lblT_len j.l
  have e2:=itoa_len6 (n:=j.id) (by omega) (by omega)
  have e3:=itoa_len6 (n:=j.start) h6.1 h6.2
  unfold wordS
  simp;omega
 ·have:=List.length_filter_le (fun j:Slt=>blw j.l x) (planL p.clear p.now p.jobs)
  rw[List.length_map]
  omega
set_option maxHeartbeats 1600000 in
theorem line_see (b:Nat) (p:Pl) (x:Lab) (na:Option Addr) (nn nc:Nat) (w:World) (hD:DeskW w b p) (hR:poolR p=true) :
  Calls Tryz.prog 18 #[.pointer (some ⟨b,0,none⟩),.agg #[.string ⟨kSee.toArray⟩,(.int .i64 x.lv),(.int .i64 x.st),.slice na nn nc]] w fun e w'=>∃ z,e=.returned (.string z)∧z.size≤10000∧dl z=seeT p x∧Chg [b] w w'∧DeskW w' b p:=by
 have HR:=tH hR
 have HD:=tH hD
 clear hD hR
 unfold kSee
 go_enter Tryz.func18,Tryz.ntmps18
 go_upto_region 11 with fail
 refine gen_world (fun W1 hW=>?_)
 have HX1:=tH (show Ext w W1 by rw[hW];exact xE)
 have HD1:=tH (HD.out.ext HX1.out)
 have HB1:=tH (show Blk W1 w.heap.size _ 50 by rw[hW];exact(Blk.new (w:=w) (cs:=#[.string _,(.int .i64 x.lv),(.int .i64 x.st),.slice na nn nc]) rfl).ext xE)
 clear hW HD
 generalize w.heap.size=bX at HB1 ⊢
 obtain⟨pa,pc,pb,pd,fc,fj,hB,hO⟩:=HD1.out
 have HE:=tH (hO.e' (right_ok HR.out).1)
 have x1:W1.cell? ⟨bX,1,none⟩=some (.int .i64 x.lv):=HB1.out.cell 1
 have x2:W1.cell? ⟨bX,2,none⟩=some (.int .i64 x.st):=HB1.out.cell 2
 have xo:=HB1.out.old
 go_wp2_with fail
 refine(seeD_any b p pa pc pb pd x _ (hB.ext xE) (HE.out.ext xE) HR.out).mono ?_
 rintro e w9 ⟨⟨z,rfl,hz⟩,hx⟩
 go_wp2
 go_ret
 exact⟨z,rfl,by have:=seeT_len x HR.out;rw[← hz] at this;unfold dl at this;rw[Array.length_toList] at this;show z.data.size≤_;omega,hz,(HX1.out.trans hx).chg _,HD1.out.ext hx⟩
theorem line_plan (b:Nat) (p:Pl) (x:Lab) (na:Option Addr) (nn nc:Nat) (w:World) (hD:DeskW w b p) (hR:poolR p=true) :
  Calls Tryz.prog 18 #[.pointer (some ⟨b,0,none⟩),.agg #[.string ⟨kPlan.toArray⟩,(.int .i64 x.lv),(.int .i64 x.st),.slice na nn nc]] w fun e w'=>∃ z,e=.returned (.string z)∧z.size≤10000∧dl z=planT p x∧Chg [b] w w'∧DeskW w' b p:=by
 have HR:=tH hR
 have HD:=tH hD
 clear hD hR
 unfold kPlan
 go_enter Tryz.func18,Tryz.ntmps18
 go_upto_region 13 with fail
 refine gen_world (fun W1 hW=>?_)
 have HX1:=tH (show Ext w W1 by rw[hW];exact xE)
 have HD1:=tH (HD.out.ext HX1.out)
 have HB1:=tH (show Blk W1 w.heap.size _ 50 by rw[hW];exact(Blk.new (w:=w) (cs:=#[.string _,(.int .i64 x.lv),(.int .i64 x.st),.slice na nn nc]) rfl).ext xE)
 clear hW HD
 generalize w.heap.size=bX at HB1 ⊢
 obtain⟨pa,pc,pb,pd,fc,fj,hB,hO⟩:=HD1.out
 have HE:=tH (hO.e' (right_ok HR.out).1)
 have x1:W1.cell? ⟨bX,1,none⟩=some (.int .i64 x.lv):=HB1.out.cell 1
 have x2:W1.cell? ⟨bX,2,none⟩=some (.int .i64 x.st):=HB1.out.cell 2
 have xo:=HB1.out.old
 go_wp2_with fail
 refine(planD_any b p pa pc pb pd x _ (hB.ext xE) (HE.out.ext xE) HR.out).mono ?_
 rintro e w9 ⟨⟨z,rfl,hz⟩,hx⟩
 go_wp2
 go_ret
 exact⟨z,rfl,by have:=planT_len x HR.out;rw[← hz] at this;unfold dl at this;rw[Array.length_toList] at this;show z.data.size≤_;omega,hz,(HX1.out.trans hx).chg _,HD1.out.ext hx⟩
def nowT (p:Pl):Bs:=[110,111,119,32]++Lib.itoa p.now
theorem line_tick (b:Nat) (p:Pl) (x:Lab) (n:Nat) (na:Option Addr) (nc:Nat) (w:World) (hD:DeskW w b p) (hR:poolR p=true) (hS:SlR w 1 rInt (.slice na 1 nc) [(n:Int)]) (hn:p.now+n≤100000) :
  Calls Tryz.prog 18 #[.pointer (some ⟨b,0,none⟩),.agg #[.string ⟨kTick.toArray⟩,(.int .i64 x.lv),(.int .i64 x.st),.slice na 1 nc]] w fun e w'=>∃ z,e=.returned (.string z)∧z.size≤10000∧dl z=nowT (tickN n p)∧Chg [b] w w'∧DeskW w' b (tickN n p):=by
 obtain⟨r9,n9⟩:=tickN_now (n:=n) hR (by omega)
 have HR9:=tH r9
 have HN9:=tH (show 0≤(tickN n p).now∧(tickN n p).now≤900000 from ⟨by have:=(poolR_of hR).nw;omega,by omega⟩)
 have HR:=tH hR
 have HD:=tH hD
 have HS:=tH hS
 clear hD hR hS r9 n9
 unfold kTick
 go_enter Tryz.func18,Tryz.ntmps18
 go_upto_region 14 with fail
 refine gen_world (fun W1 hW=>?_)
 have HX1:=tH (show Ext w W1 by rw[hW];exact xE)
 have HD1:=tH (HD.out.ext HX1.out)
 have HS1:=tH (HS.out.ext rInt_stable HX1.out)
 have HB1:=tH (show Blk W1 w.heap.size _ 50 by rw[hW];exact(Blk.new (w:=w) (cs:=#[.string _,(.int .i64 x.lv),(.int .i64 x.st),.slice na 1 nc]) rfl).ext xE)
 clear hW HD HS
 generalize w.heap.size=bX at HB1 ⊢
 obtain⟨pa,pc,pb,pd,fc,fj,hB,hO⟩:=HD1.out
 have HE:=tH (hO.e' (right_ok HR.out).1)
 have b0:W1.cell? ⟨b,0,none⟩=some (.slice pa p.clear.length pc):=hB.cell 0
 have b1:W1.cell? ⟨b,1,none⟩=some (.slice pb p.jobs.length pd):=hB.cell 1
 have b2:W1.cell? ⟨b,2,none⟩=some (.int .i64 p.now):=hB.cell 2
 have bo:=hB.old
 have x1:W1.cell? ⟨bX,1,none⟩=some (.int .i64 x.lv):=HB1.out.cell 1
 have x2:W1.cell? ⟨bX,2,none⟩=some (.int .i64 x.st):=HB1.out.cell 2
 have x3:W1.cell? ⟨bX,3,none⟩=some (.slice na 1 nc):=HB1.out.cell 3
 have xo:=HB1.out.old
 obtain⟨bN,oN,rfl⟩:=slr_some HS1.out (i:=0) (by exact Nat.succ_pos _)
 obtain⟨io,m1,i0⟩:=int_at HS1.out (i:=0) (by simp)
 simp only[List.getElem_cons_zero,List.getElem_cons_succ,Nat.add_zero] at m1 i0
 clear m1 hB hO HE b0 b1 b2 bo
 go_upto_region 15 with fail
 clear x1 x2 x3 xo io i0 HB1 HS1
 go_loopw [5] (fun i wr=>∃ (m:Nat) (q:Pl),i=(.int .i64 (m:Int))∧Hid (tickN m q=tickN n p)∧Hid (poolR q=true)∧q.now+m=p.now+n∧Hid (DeskW wr b q)∧Hid (Chg [b] w wr)) (fun i _=>(intOf i).toNat)
 case atStart=>exact⟨n,p,rfl,tH rfl,HR,rfl,HD1,tH (HX1.out.chg _)⟩
 case round =>
  clear HD1 HX1
  obtain⟨m,q,rfl,HT,HQ,hqn,HD,HC⟩:=hrel
  by_cases hm:0 < m
  ·obtain⟨m,rfl⟩:∃ k,m=k+1:=⟨m-1,by omega⟩
   obtain⟨pa,pc,pb,pd,fc,fj,hB,hO⟩:=HD.out
   have HE:=tH (hO.e' (right_ok HQ.out).1)
   have b0:wr.cell? ⟨b,0,none⟩=some (.slice pa q.clear.length pc):=hB.cell 0
   have b1:wr.cell? ⟨b,1,none⟩=some (.slice pb q.jobs.length pd):=hB.cell 1
   have b2:wr.cell? ⟨b,2,none⟩=some (.int .i64 q.now):=hB.cell 2
   have bo:=hB.old
   have hm9:m≤900000:=by have:=(poolR_of HQ.out).nw;have:=(poolR_of HR.out).nw;omega
   go_upto_region 17 with fail
   go_wp2_with fail
   refine(specAdvance_any q (q.val (.slice pa q.clear.length pc) (.slice pb q.jobs.length pd)) _ (HE.out.ext xE) (right_fits HQ.out)).mono ?_
   rintro e _ ⟨cv,jv,fc9,fj9,rfl,⟨X2,rfl⟩,hO9⟩
   obtain⟨ca,cc,rfl⟩:=hO9.1.shape
   obtain⟨ja,jc,rfl⟩:=hO9.2.1.shape
   have hq9:¬ q.now=999900:=by omega
   have e9:(advR q).1=advP q:=by rw[advR_yes HQ.out hq9]
   rw[advR_yes HQ.out hq9] at hO9 ⊢
   simp only at hO9 ⊢
   have HN3:=tH (show (advP q).now=q.now+1 by unfold advP;rfl)
   have HR3:=tH (advP_right HQ.out hq9)
   have HT3:=tH (show tickN m (advP q)=tickN n p by have h9:tickN (m+1) q=tickN n p:=HT.out;rw[show tickN (m+1) q=tickN m (advR q).1 from rfl,e9] at h9;exact h9)
   have HO3:=tH (hO9.mono (Nat.zero_le _))
   have HC3:=tH (HC.out.plus X2)
   have HB3:=tH (hB.ext (show Ext wr (wr.plus X2) from xE))
   clear hO9 hB hO HE HD HC b0 b1 b2 bo HT e9 hq9
   generalize hQ9:advP q=q9 at HN3 HR3 HT3 HO3 ⊢
   clear hQ9
   unfold poV
   generalize wr.plus X2=W3 at HO3 HC3 HB3 ⊢
   have b0:W3.cell? ⟨b,0,none⟩=some (.slice pa q.clear.length pc):=HB3.out.cell 0
   have b1:W3.cell? ⟨b,1,none⟩=some (.slice pb q.jobs.length pd):=HB3.out.cell 1
   have b2:W3.cell? ⟨b,2,none⟩=some (.int .i64 q.now):=HB3.out.cell 2
   have bo:=HB3.out.old
   have bf:=HB3.out.fz
   have hfp:∀ (a b c d e:Value) w,(Instr.field 43 (.agg #[a,b,c,d,e]) 0).run Tryz.prog w=.ok (.agg #[a,b,c]) w:=fun a b c d e w=>by kernel_rfl
   go_upto_region 16 with fail
   refine gen_world (fun W4 hW=>?_)
   have hC:Chg [b] W3 W4:=by rw[hW];exact set3_chgM _ _ _ _ _
   have HB4:=tH (show Blk W4 b [.slice ca q9.clear.length cc,.slice ja q9.jobs.length jc,(.int .i64 q9.now)] 47 by rw[hW];exact((HB3.out.set 0 _).set 1 _).set 2 _)
   have HO4:=tH (HO3.out.far hC (ownP_boxM HO3.out HB3.out (by decide) (by decide)))
   have HC4:=tH (HC3.out.trans hC)
   clear hW hC b0 b1 b2 bo bf HB3 HO3 HC3
   go_wp2
   exact⟨⟨m,q9,by go_num,HT3,HR3,by have:=HN3.out;omega,tH ⟨ca,cc,ja,jc,_,_,HB4.out,HO4.out⟩,HC4⟩,by simp[intOf]⟩
  ·obtain rfl:m=0:=by omega
   obtain⟨pa,pc,pb,pd,fc,fj,hB,hO⟩:=HD.out
   have b2:wr.cell? ⟨b,2,none⟩=some (.int .i64 q.now):=hB.cell 2
   have bo:=hB.old
   have HT9:=tH (show q=tickN n p from HT.out)
   go_upto_region 18 with fail
   have hnn:=HN9.out
   rw[← HT9.out] at hnn
   obtain⟨N,hN⟩:=Int.eq_ofNat_of_zero_le hnn.1
   rw[hN] at b2
   have hN6:N≤900000:=by have:=hnn.2;omega
   go_wp2_with fail
   refine(l01DecN_any N _ (by omega)).mono ?_
   rintro e _ ⟨rfl,Y,rfl⟩
   obtain⟨zD,hzD⟩:∃ z,(⟨(Lib.decDigits N).toArray⟩:ByteArray)=z:=⟨_,rfl⟩
   have HZD:=tH hzD
   have hsD:zD.size≤7:=by rw[← hzD];show (Lib.decDigits N).toArray.size≤7;rw[List.size_toArray];exact dec_len_pow 6 N (by omega)
   rw[hzD]
   clear hzD
   go_wp2
   generalize hz:(⟨#[110,111,119,32]⟩:ByteArray)++zD=z
   go_ret
   refine⟨_,rfl,?_,?_,HC.out.plus Y,by rw[← HT9.out];exact HD.out.ext xE⟩
   ·have h3:(⟨#[110,111,119,32]⟩:ByteArray).size=4:=rfl
    rw[← hz,ByteArray.size_append,h3]
    omega
   ·rw[← HT9.out]
    unfold nowT
    rw[hN,Lib.itoa_nonneg]
    unfold dl
    rw[← hz,← HZD.out,ByteArray.data_append,Array.toList_append]
end Go.Proofs.YtbmbanelodabgaaGreatDoor
set_option maxRecDepth 100000
set_option linter.unusedVariables false
set_option linter.unusedSimpArgs false
namespace Go.Proofs.YtbmbanelodabgaaGreatDoor
open Go.RowKit Go.Fin1
theorem ordK_ok (k:Nat) (h:k < 32):labR (ordK k)=true:=by
 have:∀ k < 32,labR (ordK k)=true:=by decide +kernel
 exact this k h
theorem rdL_labR (s:ByteArray):labR (rdL s).1=true:=by
 by_cases h8:8000 < s.size
 ·rw[rdL_big h8];decide
 ·cases e:(List.range 32).find? (rdK s) with
  | none =>
   have:rdL s=(⟨0,0⟩,3):=by unfold rdL;rw[if_neg h8,e]
   rw[this];decide
  | some k =>
   have hr:rdL s=(ordK k,0):=by unfold rdL;rw[if_neg h8,e]
   rw[hr]
   exact ordK_ok k (List.mem_range.1 (List.mem_of_find?_eq_some e))
theorem rdB_ok (t:Bs):(rdB t).1.ok:=by
 have h:=rdL_labR ⟨t.toArray⟩
 unfold labR isIn at h
 simp at h
 have e:rdB t=rdL ⟨t.toArray⟩:=rfl
 unfold Lab.ok I64
 rw[e]
 omega
theorem subR_nowM {p:Pl} {x:Lab} {n l q:Int} (h:(subR p x n l q).2.2=0):(subR p x n l q).1.now=p.now:=by
 unfold subR at h ⊢
 split
 ·rename_i h1;rw[if_pos h1] at h;cases h
 ·rename_i h1
  rw[if_neg h1] at h
  split
  ·rename_i h2;rw[if_pos h2] at h;cases h
  ·rename_i h2
   rw[if_neg h2] at h
   split
   ·rename_i h3;rw[if_pos h3] at h;cases h
   ·rfl
theorem chR_nowM {p:Pl} {x:Lab} {n l:Int} (h:(chR p x n l).2.2=0):(chR p x n l).1.now=p.now:=by
 unfold chR at h ⊢
 split
 ·rename_i h1;rw[if_pos h1] at h;cases h
 ·rename_i h1
  rw[if_neg h1] at h
  split
  ·rename_i h2;rw[if_pos h2] at h;cases h
  ·rename_i h2
   rw[if_neg h2] at h
   split
   ·rename_i h3;rw[if_pos h3] at h;cases h
   ·rfl
theorem resT_right {p:Pl} {Y:Pl×Int×Int} (t:Bs) (hR:poolR p=true) (h:Y.2.2=0→poolR Y.1=true∧Y.1.now=p.now):poolR (resT p Y t).1=true∧(resT p Y t).1.now=p.now:=by
 unfold resT
 split
 ·rename_i e;exact h e
 ·exact⟨hR,rfl⟩
theorem ok_cases {ws:List Bs} (h:okW ws=true) (hn:ws≠[]) :
  (∃ a b c d,ws=[kSubmit,a,b,c,d]∧(rdB a).2=0∧0≤numW b∧0≤numW c∧0≤numW d)∨(∃ k a b,(k=kDone∨k=kHold∨k=kWait)∧ws=[k,a,b]∧(rdB a).2=0∧0≤numW b)∨(∃ a,ws=[kTick,a]∧0≤numW a∧numW a≤30)∨(∃ k a,(k=kSee∨k=kPlan)∧ws=[k,a]∧(rdB a).2=0):=by
 cases ws with
 | nil=>exact absurd rfl hn
 | cons k r =>
  unfold okW at h
  rw[show (k :: r).getD 0 []=k from rfl,Bool.and_eq_true] at h
  obtain⟨h1,h2⟩:=h
  have h1:=of_decide_eq_true h1
  unfold manyW at h1
  rw[List.length_cons] at h1
  by_cases e1:k=kSubmit
  ·rw[if_pos e1] at h1
   match r,h1,h2 with
   | [a,b,c,d],_,h2 =>
    rw[if_neg (by rw[e1];unfold kSubmit kTick;decide)] at h2
    simp at h2
    exact .inl ⟨a,b,c,d,by rw[e1],h2.2,h2.1.1,h2.1.2.1,h2.1.2.2⟩
  rw[if_neg e1] at h1
  by_cases e2:k=kDone∨k=kHold∨k=kWait
  ·rw[if_pos e2] at h1
   match r,h1,h2 with
   | [a,b],_,h2 =>
    rw[if_neg (by rcases e2 with rfl | rfl | rfl<;>(unfold kTick;first | (unfold kDone;decide) | (unfold kHold;decide) | (unfold kWait;decide)))] at h2
    simp at h2
    exact .inr (.inl ⟨k,a,b,e2,rfl,h2.2,h2.1⟩)
  rw[if_neg e2] at h1
  by_cases e3:k=kTick
  ·rw[if_pos (.inl e3)] at h1
   match r,h1,h2 with
   | [a],_,h2 =>
    rw[if_pos e3] at h2
    simp at h2
    exact .inr (.inr (.inl ⟨a,by rw[e3],h2.1,h2.2⟩))
  by_cases e4:k=kSee∨k=kPlan
  ·rw[if_pos (.inr e4)] at h1
   match r,h1,h2 with
   | [a],_,h2 =>
    rw[if_neg e3] at h2
    simp at h2
    exact .inr (.inr (.inr ⟨k,a,e4,rfl,h2⟩))
  rw[if_neg (by rintro (h | h);exact e3 h;exact e4 h)] at h1
  cases h1
theorem runW_submit (p:Pl) (a b c d:Bs):runW p [kSubmit,a,b,c,d]=resT p (subR p (rdB a).1 (numW b) (numW c) (numW d)) (Lib.itoa (subR p (rdB a).1 (numW b) (numW c) (numW d)).2.1):=by
 unfold runW
 show (if kSubmit=kSee then _ else if kSubmit=kPlan then _ else if kSubmit=kSubmit then _ else _)=_
 rw[if_neg (by unfold kSubmit kSee;decide),if_neg (by unfold kSubmit kPlan;decide),if_pos rfl]
 rfl
def stW (k:Bs):Int:=if k=kDone then 3 else if k=kHold then 4 else 1
theorem runW_ch (p:Pl) {k:Bs} (a b:Bs) (h:k=kDone∨k=kHold∨k=kWait):runW p [k,a,b]=resT p (chR p (rdB a).1 (numW b) (stW k)) okT:=by
 unfold runW
 show (if k=kSee then _ else if k=kPlan then _ else if k=kSubmit then _ else if k=kTick then _ else _)=_
 rw[if_neg (by rcases h with rfl | rfl | rfl<;>(unfold kSee;first | (unfold kDone;decide) | (unfold kHold;decide) | (unfold kWait;decide))),if_neg (by rcases h with rfl | rfl | rfl<;>(unfold kPlan;first | (unfold kDone;decide) | (unfold kHold;decide) | (unfold kWait;decide))),if_neg (by rcases h with rfl | rfl | rfl<;>(unfold kSubmit;first | (unfold kDone;decide) | (unfold kHold;decide) | (unfold kWait;decide))),if_neg (by rcases h with rfl | rfl | rfl<;>(unfold kTick;first | (unfold kDone;decide) | (unfold kHold;decide) | (unfold kWait;decide)))]
 rfl
theorem runW_tick (p:Pl) (a:Bs):runW p [kTick,a]=(tickN (numW a).toNat p,nowT (tickN (numW a).toNat p)):=by
 unfold runW
 show (if kTick=kSee then _ else if kTick=kPlan then _ else if kTick=kSubmit then _ else if kTick=kTick then _ else _)=_
 rw[if_neg (by unfold kTick kSee;decide),if_neg (by unfold kTick kPlan;decide),if_neg (by unfold kTick kSubmit;decide),if_pos rfl]
 rfl
theorem runW_see (p:Pl) (a:Bs):runW p [kSee,a]=(p,seeT p (rdB a).1):=by
 unfold runW
 show (if kSee=kSee then _ else _)=_
 rw[if_pos rfl]
 rfl
theorem runW_plan (p:Pl) (a:Bs):runW p [kPlan,a]=(p,planT p (rdB a).1):=by
 unfold runW
 show (if kPlan=kSee then _ else if kPlan=kPlan then _ else _)=_
 rw[if_neg (by unfold kPlan kSee;decide),if_pos rfl]
 rfl
theorem runW_right {p:Pl} {ws:List Bs} (hR:poolR p=true) (hp:p.now≤90000) (h:okW ws=true) (hn:ws≠[]):poolR (runW p ws).1=true∧(runW p ws).1.now≤p.now+30:=by
 rcases ok_cases h hn with ⟨a,b,c,d,rfl,-⟩ | ⟨k,a,b,hk,rfl,-⟩ | ⟨a,rfl,h1,h2⟩ | ⟨k,a,rfl | rfl,rfl,-⟩
 ·rw[runW_submit]
  have h1:=resT_right (p:=p) (Y:=subR p (rdB a).1 (numW b) (numW c) (numW d)) (Lib.itoa (subR p (rdB a).1 (numW b) (numW c) (numW d)).2.1) hR (fun h=>⟨(subR_right h).2,subR_nowM h⟩)
  exact⟨h1.1,by omega⟩
 ·rw[runW_ch p a b hk]
  have h1:=resT_right (p:=p) (Y:=chR p (rdB a).1 (numW b) (stW k)) okT hR (fun h=>⟨(chR_right h).2,chR_nowM h⟩)
  exact⟨h1.1,by omega⟩
 ·rw[runW_tick]
  have h3:=tickN_now (p:=p) (n:=(numW a).toNat) hR (by omega)
  refine⟨h3.1,?_⟩
  show (tickN (numW a).toNat p).now≤_
  rw[h3.2];omega
 ·rw[runW_see];exact⟨hR,by show p.now≤_;omega⟩
 ·rw[runW_plan];exact⟨hR,by show p.now≤_;omega⟩
set_option maxHeartbeats 1600000 in
theorem line_any (b:Nat) (p:Pl) (ws:List Bs) (wd:ByteArray) (x:Lab) (na:Option Addr) (nc:Nat) (nums:List Int) (w:World) (hD:DeskW w b p) (hR:poolR p=true) (hp:p.now≤90000) (hok:okW ws=true) (hne:ws≠[]) (hwd:dl wd=ws.getD 0 []) (hx:x=labW ws) (hn:nums=numsW ws) (hS:SlR w 1 rInt (.slice na nums.length nc) nums) :
  Calls Tryz.prog 18 #[.pointer (some ⟨b,0,none⟩),.agg #[.string wd,(.int .i64 x.lv),(.int .i64 x.st),.slice na nums.length nc]] w fun e w'=>∃ z,e=.returned (.string z)∧z.size≤10000∧dl z=(runW p ws).2∧Chg [b] w w'∧DeskW w' b (runW p ws).1:=by
 have hwd:=ba_of hwd
 subst hwd hx hn
 rcases ok_cases hok hne with ⟨a,b',c,d,rfl,h1,h2,h3,h4⟩ | ⟨k,a,b',hk,rfl,h1,h2⟩ | ⟨a,rfl,h1,h2⟩ | ⟨k,a,rfl | rfl,rfl,h1⟩
 ·have e1:labW [kSubmit,a,b',c,d]=(rdB a).1:=by unfold labW;rw[if_neg (by show ¬ kSubmit=kTick;unfold kSubmit kTick;decide)];rfl
  have e2:numsW [kSubmit,a,b',c,d]=[numW b',numW c,numW d]:=by unfold numsW;rw[if_neg (by show ¬ kSubmit=kTick;unfold kSubmit kTick;decide)];rfl
  rw[e2] at hS ⊢
  rw[e1,runW_submit]
  refine(line_submit b p (rdB a).1 _ _ _ na nc w hD hR (rdB_ok a) hS).mono ?_
  rintro e w' ⟨z,rfl,hz,hd,hc,hD'⟩
  exact⟨z,rfl,by omega,hd,hc,hD'⟩
 ·have hkt:¬ k=kTick:=by rcases hk with rfl | rfl | rfl<;>(unfold kTick;first | (unfold kDone;decide) | (unfold kHold;decide) | (unfold kWait;decide))
  have e1:labW [k,a,b']=(rdB a).1:=by unfold labW;rw[if_neg (by exact hkt)];rfl
  have e2:numsW [k,a,b']=[numW b']:=by unfold numsW;rw[if_neg (by exact hkt)];rfl
  rw[e2] at hS ⊢
  rw[e1,runW_ch p a b' hk]
  rcases hk with rfl | rfl | rfl
  ·rw[show stW kDone=3 by unfold stW;rw[if_pos rfl]]
   refine(line_done b p (rdB a).1 _ na nc w hD hR (rdB_ok a) hS).mono ?_
   rintro e w' ⟨z,rfl,hz,hd,hc,hD'⟩
   exact⟨z,rfl,by omega,hd,hc,hD'⟩
  ·rw[show stW kHold=4 by unfold stW;rw[if_neg (by unfold kHold kDone;decide),if_pos rfl]]
   refine(line_hold b p (rdB a).1 _ na nc w hD hR (rdB_ok a) hS).mono ?_
   rintro e w' ⟨z,rfl,hz,hd,hc,hD'⟩
   exact⟨z,rfl,by omega,hd,hc,hD'⟩
  ·rw[show stW kWait=1 by unfold stW;rw[if_neg (by unfold kWait kDone;decide),if_neg (by unfold kWait kHold;decide)]]
   refine(line_wait b p (rdB a).1 _ na nc w hD hR (rdB_ok a) hS).mono ?_
   rintro e w' ⟨z,rfl,hz,hd,hc,hD'⟩
   exact⟨z,rfl,by omega,hd,hc,hD'⟩
 ·have e2:numsW [kTick,a]=[numW a]:=by unfold numsW;show (if kTick=kTick then _ else _)=_;rw[if_pos rfl];rfl
  rw[e2] at hS ⊢
  rw[runW_tick]
  obtain⟨n,hn⟩:=Int.eq_ofNat_of_zero_le h1
  rw[hn] at hS ⊢
  exact line_tick b p _ n na nc w hD hR hS (by omega)
 ·have e1:labW [kSee,a]=(rdB a).1:=by unfold labW;rw[if_neg (by show ¬ kSee=kTick;unfold kSee kTick;decide)];rfl
  rw[e1,runW_see]
  exact line_see b p _ na _ nc w hD hR
 ·have e1:labW [kPlan,a]=(rdB a).1:=by unfold labW;rw[if_neg (by show ¬ kPlan=kTick;unfold kPlan kTick;decide)];rfl
  rw[e1,runW_plan]
  exact line_plan b p _ na _ nc w hD hR
end Go.Proofs.YtbmbanelodabgaaGreatDoor
set_option maxRecDepth 100000
set_option linter.unusedVariables false
namespace Go.Proofs.YtbmbanelodabgaaGreatDoor
open Go.RowKit Go.Fin1
theorem slr_labB {W:World} {b n:Nat} {ty:Nat} {ls:List Lab} (h:Blk W b (ls.flatMap Lab.cells) ty) (hn:n=ls.length) (hok:∀ x∈ls,x.ok) (hm:ls.length≤maxLen):SlR W 2 rLab (.slice (some ⟨b,0,none⟩) n n) ls:=by
 subst hn
 refine⟨_,ls.length,rfl,Nat.le_refl _,hm,fun i hi=>⟨b,0,ls[i].cells,rfl,rfl,fun j u hu=>?_,rfl,hok _ (List.getElem_mem hi)⟩⟩
 have hj:j < 2:=(List.getElem?_eq_some_iff.1 hu).1
 have hl:((ls.flatMap Lab.cells).drop (i*2)).take 2=ls[i].cells:=by
  have key:∀ (l:List Lab) (i:Nat) (hi:i < l.length),((l.flatMap Lab.cells).drop (i*2)).take 2=l[i].cells:=by
   intro l
   induction l with
   | nil=>intro i hi;cases hi
   | cons a l ih =>
    intro i hi
    cases i with
    | zero=>rw[List.flatMap_cons];rfl
    | succ i =>
     have:=ih i (by simpa using hi)
     rw[List.flatMap_cons,List.getElem_cons_succ,← this,Nat.add_mul,Nat.one_mul,Nat.add_comm (i*2) 2,← List.drop_drop]
     rfl
  exact key ls i hi
 rw[h.cell,Nat.zero_add]
 rw[← hl,List.getElem?_take,if_pos hj,List.getElem?_drop] at hu
 exact hu
theorem slr_valB {α:Type} {W:World} {b n:Nat} {ty:Nat} {vs:List Value} {r:World→List Value→α→Prop} {xs:List α} (h:Blk W b vs ty) (hn:n=xs.length) (hl:vs.length=xs.length) (hm:xs.length≤maxLen) (hr:∀ (i:Nat) (h1:i < vs.length) (h2:i < xs.length),r W [vs[i]] xs[i]):SlR W 1 r (.slice (some ⟨b,0,none⟩) n n) xs:=by
 subst hn
 refine⟨_,xs.length,rfl,Nat.le_refl _,hm,fun i hi=>⟨b,0,[vs[i]'(by omega)],rfl,rfl,fun j u hu=>?_,hr i (by omega) hi⟩⟩
 have hj:j=0:=by
  have:=(List.getElem?_eq_some_iff.1 hu).1
  simp at this;omega
 subst hj
 rw[h.cell,Nat.zero_add,Nat.mul_one,Nat.add_zero,List.getElem?_eq_getElem (by omega)]
 simpa using hu
end Go.Proofs.YtbmbanelodabgaaGreatDoor
