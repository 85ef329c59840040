/- The reference's desk: any line. -/
import Derived.Test.YtbmbanelodabgaaGreatDoorKMS6
import Derived.Test.YtbmbanelodabgaaGreatDoorKAG
set_option maxRecDepth 100000
set_option linter.unusedVariables false
set_option linter.unusedSimpArgs false
namespace Go.Proofs.YtbmbanelodabgaaGreatDoor
open Go.RowKit Go.Fin1
theorem tickN_now:∀ {n:Nat} {p:Pl},poolR p=true→p.now+n≤900000→poolR (tickN n p)=true∧(tickN n p).now=p.now+n
 | 0,p,h,_=>⟨h,by show p.now=_;simp⟩
 | n+1,p,h,hn=>by
  have h1:¬ p.now=999900:=by omega
  have h2:(advR p).1=advP p:=by rw[advR_yes h h1]
  have h3:(advP p).now=p.now+1:=by unfold advP;rfl
  have h4:=tickN_now (n:=n) (p:=advP p) (advP_right h h1) (by rw[h3];omega)
  unfold tickN
  rw[h2]
  exact⟨h4.1,by rw[h4.2,h3];push_cast;omega⟩
theorem joinW_len {l:List Bs} (h:∀ x∈l,x.length≤100):(joinW l).length≤l.length*101+1:=by
 unfold joinW
 split
 ·simp
 ·have:([32].intercalate l:Bs).length≤l.length*101:=by
   induction l with
   | nil=>simp[List.intercalate]
   | cons a r ih =>
    have ha:=h a (List.mem_cons_self ..)
    have ih:=ih (fun x hx=>h x (List.mem_cons_of_mem _ hx))
    cases r with
    | nil=>simp[List.intercalate];omega
    | cons c r =>
     have:([32].intercalate (a :: c :: r):Bs)=a++(32 :: [32].intercalate (c :: r)):=by simp[List.intercalate,List.intersperse]
     rw[this]
     rw[List.length_append,List.length_cons]
     refine Nat.le_trans (Nat.add_le_add ha (Nat.succ_le_succ (ih (by simp)))) ?_
     simp only[List.length_cons]
     omega
  omega
theorem itoa_len6 {n:Int} (h0:0≤n) (h:n≤1000000):(Lib.itoa n).length≤7:=by
 obtain⟨m,rfl⟩:=Int.eq_ofNat_of_zero_le h0
 rw[Lib.itoa_nonneg]
 exact dec_len_pow 6 m (by omega)
theorem seeT_len {p:Pl} (x:Lab) (h:poolR p=true):(seeT p x).length≤9797:=by
 obtain⟨h1,h2⟩:=sees_bd h
 unfold seeT seesL
 refine Nat.le_trans (joinW_len (fun y hy=>?_)) ?_
 ·obtain⟨j,hj,rfl⟩:=List.mem_map.1 hy
  obtain⟨⟨h3,h4,h5⟩,h6⟩:=h2 j (List.mem_filter.1 hj).1
  have e1:=lblT_len j.l
  have e2:=itoa_len6 (n:=j.id) (by omega) (by omega)
  unfold wordJ
  split
  ·rename_i h7
   have e3:=itoa_len6 (n:=j.start) (h6 h7).1 (h6 h7).2
   simp;omega
  ·simp;omega
 ·have:=List.length_filter_le (fun j:Jb=>blw j.l x) (sortedJ p.jobs)
  rw[List.length_map]
  omega
theorem planT_len {p:Pl} (x:Lab) (h:poolR p=true):(planT p x).length≤9797:=by
 obtain⟨h1,h2⟩:=planL_bd h
 unfold planT
 refine Nat.le_trans (joinW_len (fun y hy=>?_)) ?_
 ·obtain⟨j,hj,rfl⟩:=List.mem_map.1 hy
  obtain⟨⟨h3,h4⟩,h6⟩:=h2 j (List.mem_filter.1 hj).1
  have e1:=lblT_len j.l
  have e2:=itoa_len6 (n:=j.id) (by omega) (by omega)
  have e3:=itoa_len6 (n:=j.start) h6.1 h6.2
  unfold wordS
  simp;omega
 ·have:=List.length_filter_le (fun j:Slt=>blw j.l x) (planL p.clear p.now p.jobs)
  rw[List.length_map]
  omega
set_option maxHeartbeats 1600000 in
theorem line_see (b:Nat) (p:Pl) (x:Lab) (na:Option Addr) (nn nc:Nat) (w:World) (hD:DeskW w b p) (hR:poolR p=true) :
  Calls Tryz.prog 18 #[.pointer (some ⟨b,0,none⟩),.agg #[.string ⟨kSee.toArray⟩,(.int .i64 x.lv),(.int .i64 x.st),.slice na nn nc]] w fun e w'=>∃ z,e=.returned (.string z)∧z.size≤10000∧dl z=seeT p x∧Chg [b] w w'∧DeskW w' b p:=by
 have HR:=tH hR
 have HD:=tH hD
 clear hD hR
 unfold kSee
 go_enter Tryz.func18,Tryz.ntmps18
 go_upto_region 11 with fail
 refine gen_world (fun W1 hW=>?_)
 have HX1:=tH (show Ext w W1 by rw[hW];exact xE)
 have HD1:=tH (HD.out.ext HX1.out)
 have HB1:=tH (show Blk W1 w.heap.size _ 50 by rw[hW];exact(Blk.new (w:=w) (cs:=#[.string _,(.int .i64 x.lv),(.int .i64 x.st),.slice na nn nc]) rfl).ext xE)
 clear hW HD
 generalize w.heap.size=bX at HB1 ⊢
 obtain⟨pa,pc,pb,pd,fc,fj,hB,hO⟩:=HD1.out
 have HE:=tH (hO.e' (right_ok HR.out).1)
 have x1:W1.cell? ⟨bX,1,none⟩=some (.int .i64 x.lv):=HB1.out.cell 1
 have x2:W1.cell? ⟨bX,2,none⟩=some (.int .i64 x.st):=HB1.out.cell 2
 have xo:=HB1.out.old
 go_wp2_with fail
 refine(seeD_any b p pa pc pb pd x _ (hB.ext xE) (HE.out.ext xE) HR.out).mono ?_
 rintro e w9 ⟨⟨z,rfl,hz⟩,hx⟩
 go_wp2
 go_ret
 exact⟨z,rfl,by have:=seeT_len x HR.out;rw[← hz] at this;unfold dl at this;rw[Array.length_toList] at this;show z.data.size≤_;omega,hz,(HX1.out.trans hx).chg _,HD1.out.ext hx⟩
theorem line_plan (b:Nat) (p:Pl) (x:Lab) (na:Option Addr) (nn nc:Nat) (w:World) (hD:DeskW w b p) (hR:poolR p=true) :
  Calls Tryz.prog 18 #[.pointer (some ⟨b,0,none⟩),.agg #[.string ⟨kPlan.toArray⟩,(.int .i64 x.lv),(.int .i64 x.st),.slice na nn nc]] w fun e w'=>∃ z,e=.returned (.string z)∧z.size≤10000∧dl z=planT p x∧Chg [b] w w'∧DeskW w' b p:=by
 have HR:=tH hR
 have HD:=tH hD
 clear hD hR
 unfold kPlan
 go_enter Tryz.func18,Tryz.ntmps18
 go_upto_region 13 with fail
 refine gen_world (fun W1 hW=>?_)
 have HX1:=tH (show Ext w W1 by rw[hW];exact xE)
 have HD1:=tH (HD.out.ext HX1.out)
 have HB1:=tH (show Blk W1 w.heap.size _ 50 by rw[hW];exact(Blk.new (w:=w) (cs:=#[.string _,(.int .i64 x.lv),(.int .i64 x.st),.slice na nn nc]) rfl).ext xE)
 clear hW HD
 generalize w.heap.size=bX at HB1 ⊢
 obtain⟨pa,pc,pb,pd,fc,fj,hB,hO⟩:=HD1.out
 have HE:=tH (hO.e' (right_ok HR.out).1)
 have x1:W1.cell? ⟨bX,1,none⟩=some (.int .i64 x.lv):=HB1.out.cell 1
 have x2:W1.cell? ⟨bX,2,none⟩=some (.int .i64 x.st):=HB1.out.cell 2
 have xo:=HB1.out.old
 go_wp2_with fail
 refine(planD_any b p pa pc pb pd x _ (hB.ext xE) (HE.out.ext xE) HR.out).mono ?_
 rintro e w9 ⟨⟨z,rfl,hz⟩,hx⟩
 go_wp2
 go_ret
 exact⟨z,rfl,by have:=planT_len x HR.out;rw[← hz] at this;unfold dl at this;rw[Array.length_toList] at this;show z.data.size≤_;omega,hz,(HX1.out.trans hx).chg _,HD1.out.ext hx⟩
def nowT (p:Pl):Bs:=[110,111,119,32]++Lib.itoa p.now
theorem line_tick (b:Nat) (p:Pl) (x:Lab) (n:Nat) (na:Option Addr) (nc:Nat) (w:World) (hD:DeskW w b p) (hR:poolR p=true) (hS:SlR w 1 rInt (.slice na 1 nc) [(n:Int)]) (hn:p.now+n≤100000) :
  Calls Tryz.prog 18 #[.pointer (some ⟨b,0,none⟩),.agg #[.string ⟨kTick.toArray⟩,(.int .i64 x.lv),(.int .i64 x.st),.slice na 1 nc]] w fun e w'=>∃ z,e=.returned (.string z)∧z.size≤10000∧dl z=nowT (tickN n p)∧Chg [b] w w'∧DeskW w' b (tickN n p):=by
 obtain⟨r9,n9⟩:=tickN_now (n:=n) hR (by omega)
 have HR9:=tH r9
 have HN9:=tH (show 0≤(tickN n p).now∧(tickN n p).now≤900000 from ⟨by have:=(poolR_of hR).nw;omega,by omega⟩)
 have HR:=tH hR
 have HD:=tH hD
 have HS:=tH hS
 clear hD hR hS r9 n9
 unfold kTick
 go_enter Tryz.func18,Tryz.ntmps18
 go_upto_region 14 with fail
 refine gen_world (fun W1 hW=>?_)
 have HX1:=tH (show Ext w W1 by rw[hW];exact xE)
 have HD1:=tH (HD.out.ext HX1.out)
 have HS1:=tH (HS.out.ext rInt_stable HX1.out)
 have HB1:=tH (show Blk W1 w.heap.size _ 50 by rw[hW];exact(Blk.new (w:=w) (cs:=#[.string _,(.int .i64 x.lv),(.int .i64 x.st),.slice na 1 nc]) rfl).ext xE)
 clear hW HD HS
 generalize w.heap.size=bX at HB1 ⊢
 obtain⟨pa,pc,pb,pd,fc,fj,hB,hO⟩:=HD1.out
 have HE:=tH (hO.e' (right_ok HR.out).1)
 have b0:W1.cell? ⟨b,0,none⟩=some (.slice pa p.clear.length pc):=hB.cell 0
 have b1:W1.cell? ⟨b,1,none⟩=some (.slice pb p.jobs.length pd):=hB.cell 1
 have b2:W1.cell? ⟨b,2,none⟩=some (.int .i64 p.now):=hB.cell 2
 have bo:=hB.old
 have x1:W1.cell? ⟨bX,1,none⟩=some (.int .i64 x.lv):=HB1.out.cell 1
 have x2:W1.cell? ⟨bX,2,none⟩=some (.int .i64 x.st):=HB1.out.cell 2
 have x3:W1.cell? ⟨bX,3,none⟩=some (.slice na 1 nc):=HB1.out.cell 3
 have xo:=HB1.out.old
 obtain⟨bN,oN,rfl⟩:=slr_some HS1.out (i:=0) (by exact Nat.succ_pos _)
 obtain⟨io,m1,i0⟩:=int_at HS1.out (i:=0) (by simp)
 simp only[List.getElem_cons_zero,List.getElem_cons_succ,Nat.add_zero] at m1 i0
 clear m1 hB hO HE b0 b1 b2 bo
 go_upto_region 15 with fail
 clear x1 x2 x3 xo io i0 HB1 HS1
 go_loopw [5] (fun i wr=>∃ (m:Nat) (q:Pl),i=(.int .i64 (m:Int))∧Hid (tickN m q=tickN n p)∧Hid (poolR q=true)∧q.now+m=p.now+n∧Hid (DeskW wr b q)∧Hid (Chg [b] w wr)) (fun i _=>(intOf i).toNat)
 case atStart=>exact⟨n,p,rfl,tH rfl,HR,rfl,HD1,tH (HX1.out.chg _)⟩
 case round =>
  clear HD1 HX1
  obtain⟨m,q,rfl,HT,HQ,hqn,HD,HC⟩:=hrel
  by_cases hm:0 < m
  ·obtain⟨m,rfl⟩:∃ k,m=k+1:=⟨m-1,by omega⟩
   obtain⟨pa,pc,pb,pd,fc,fj,hB,hO⟩:=HD.out
   have HE:=tH (hO.e' (right_ok HQ.out).1)
   have b0:wr.cell? ⟨b,0,none⟩=some (.slice pa q.clear.length pc):=hB.cell 0
   have b1:wr.cell? ⟨b,1,none⟩=some (.slice pb q.jobs.length pd):=hB.cell 1
   have b2:wr.cell? ⟨b,2,none⟩=some (.int .i64 q.now):=hB.cell 2
   have bo:=hB.old
   have hm9:m≤900000:=by have:=(poolR_of HQ.out).nw;have:=(poolR_of HR.out).nw;omega
   go_upto_region 17 with fail
   go_wp2_with fail
   refine(specAdvance_any q (q.val (.slice pa q.clear.length pc) (.slice pb q.jobs.length pd)) _ (HE.out.ext xE) (right_fits HQ.out)).mono ?_
   rintro e _ ⟨cv,jv,fc9,fj9,rfl,⟨X2,rfl⟩,hO9⟩
   obtain⟨ca,cc,rfl⟩:=hO9.1.shape
   obtain⟨ja,jc,rfl⟩:=hO9.2.1.shape
   have hq9:¬ q.now=999900:=by omega
   have e9:(advR q).1=advP q:=by rw[advR_yes HQ.out hq9]
   rw[advR_yes HQ.out hq9] at hO9 ⊢
   simp only at hO9 ⊢
   have HN3:=tH (show (advP q).now=q.now+1 by unfold advP;rfl)
   have HR3:=tH (advP_right HQ.out hq9)
   have HT3:=tH (show tickN m (advP q)=tickN n p by have h9:tickN (m+1) q=tickN n p:=HT.out;rw[show tickN (m+1) q=tickN m (advR q).1 from rfl,e9] at h9;exact h9)
   have HO3:=tH (hO9.mono (Nat.zero_le _))
   have HC3:=tH (HC.out.plus X2)
   have HB3:=tH (hB.ext (show Ext wr (wr.plus X2) from xE))
   clear hO9 hB hO HE HD HC b0 b1 b2 bo HT e9 hq9
   generalize hQ9:advP q=q9 at HN3 HR3 HT3 HO3 ⊢
   clear hQ9
   unfold poV
   generalize wr.plus X2=W3 at HO3 HC3 HB3 ⊢
   have b0:W3.cell? ⟨b,0,none⟩=some (.slice pa q.clear.length pc):=HB3.out.cell 0
   have b1:W3.cell? ⟨b,1,none⟩=some (.slice pb q.jobs.length pd):=HB3.out.cell 1
   have b2:W3.cell? ⟨b,2,none⟩=some (.int .i64 q.now):=HB3.out.cell 2
   have bo:=HB3.out.old
   have bf:=HB3.out.fz
   have hfp:∀ (a b c d e:Value) w,(Instr.field 43 (.agg #[a,b,c,d,e]) 0).run Tryz.prog w=.ok (.agg #[a,b,c]) w:=fun a b c d e w=>by kernel_rfl
   go_upto_region 16 with fail
   refine gen_world (fun W4 hW=>?_)
   have hC:Chg [b] W3 W4:=by rw[hW];exact set3_chgM _ _ _ _ _
   have HB4:=tH (show Blk W4 b [.slice ca q9.clear.length cc,.slice ja q9.jobs.length jc,(.int .i64 q9.now)] 47 by rw[hW];exact((HB3.out.set 0 _).set 1 _).set 2 _)
   have HO4:=tH (HO3.out.far hC (ownP_boxM HO3.out HB3.out (by decide) (by decide)))
   have HC4:=tH (HC3.out.trans hC)
   clear hW hC b0 b1 b2 bo bf HB3 HO3 HC3
   go_wp2
   exact⟨⟨m,q9,by go_num,HT3,HR3,by have:=HN3.out;omega,tH ⟨ca,cc,ja,jc,_,_,HB4.out,HO4.out⟩,HC4⟩,by simp[intOf]⟩
  ·obtain rfl:m=0:=by omega
   obtain⟨pa,pc,pb,pd,fc,fj,hB,hO⟩:=HD.out
   have b2:wr.cell? ⟨b,2,none⟩=some (.int .i64 q.now):=hB.cell 2
   have bo:=hB.old
   have HT9:=tH (show q=tickN n p from HT.out)
   go_upto_region 18 with fail
   have hnn:=HN9.out
   rw[← HT9.out] at hnn
   obtain⟨N,hN⟩:=Int.eq_ofNat_of_zero_le hnn.1
   rw[hN] at b2
   have hN6:N≤900000:=by have:=hnn.2;omega
   go_wp2_with fail
   refine(l01DecN_any N _ (by omega)).mono ?_
   rintro e _ ⟨rfl,Y,rfl⟩
   obtain⟨zD,hzD⟩:∃ z,(⟨(Lib.decDigits N).toArray⟩:ByteArray)=z:=⟨_,rfl⟩
   have HZD:=tH hzD
   have hsD:zD.size≤7:=by rw[← hzD];show (Lib.decDigits N).toArray.size≤7;rw[List.size_toArray];exact dec_len_pow 6 N (by omega)
   rw[hzD]
   clear hzD
   go_wp2
   generalize hz:(⟨#[110,111,119,32]⟩:ByteArray)++zD=z
   go_ret
   refine⟨_,rfl,?_,?_,HC.out.plus Y,by rw[← HT9.out];exact HD.out.ext xE⟩
   ·have h3:(⟨#[110,111,119,32]⟩:ByteArray).size=4:=rfl
    rw[← hz,ByteArray.size_append,h3]
    omega
   ·rw[← HT9.out]
    unfold nowT
    rw[hN,Lib.itoa_nonneg]
    unfold dl
    rw[← hz,← HZD.out,ByteArray.data_append,Array.toList_append]
end Go.Proofs.YtbmbanelodabgaaGreatDoor
