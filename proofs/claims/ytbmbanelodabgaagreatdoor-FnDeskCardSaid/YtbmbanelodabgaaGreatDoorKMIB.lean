/- The implementation's desk: any line; the first pool. -/
import Derived.Test.YtbmbanelodabgaaGreatDoorKMI9
set_option maxRecDepth 100000
set_option linter.unusedVariables false
set_option linter.unusedSimpArgs false
namespace Go.Proofs.YtbmbanelodabgaaGreatDoor
open Go.RowKit Go.Fin1
theorem itoa_lenN {n:Nat} (h:n≤1000000):(Lib.itoa (n:Int)).length≤7:=itoa_len6 (by omega) (by omega)
theorem resT_len {p:Pl} {Y:Pl×Int×Int} {t:Bs} (ht:t.length≤100) {c:Nat} (hc:Y.2.2=(c:Int)) (h:c < 1000):(resT p Y t).2.length≤100:=by
 unfold resT
 split
 ·exact ht
 ·show (errT Y.2.2).length≤100
  rw[hc]
  unfold errT
  have:=itoa_lenN (n:=c) (by omega)
  rw[List.length_append]
  simp only[List.length_cons,List.length_nil]
  omega
theorem runW_len {p:Pl} {ws:List Bs} (hR:poolR p=true) (hp:p.now≤90000) (h:okW ws=true) (hn:ws≠[]):(runW p ws).2.length≤10000:=by
 have hp0:=(poolR_of hR).nw
 rcases ok_cases h hn with ⟨a,b,c,d,rfl,-⟩ | ⟨k,a,b,hk,rfl,-⟩ | ⟨a,rfl,h1,h2⟩ | ⟨k,a,rfl | rfl,rfl,-⟩
 ·rw[runW_submit]
  obtain⟨i,c',hs,hi,hc,-⟩:=subR_nat (p:=p) (x:=(rdB a).1) (n:=numW b) (l:=numW c) (q:=numW d)
  have h1:=resT_len (p:=p) (Y:=subR p (rdB a).1 (numW b) (numW c) (numW d)) (t:=Lib.itoa (subR p (rdB a).1 (numW b) (numW c) (numW d)).2.1) (by rw[hs];show (Lib.itoa (i:Int)).length≤100;have:=itoa_lenN (n:=i) (by omega);omega) (c:=c') (by rw[hs]) hc
  omega
 ·rw[runW_ch p a b hk]
  obtain⟨c',hs,hc⟩:=chR_nat (p:=p) (x:=(rdB a).1) (id:=numW b) (s:=stW k)
  have h1:=resT_len (p:=p) (Y:=chR p (rdB a).1 (numW b) (stW k)) (t:=okT) (by decide) (c:=c') (by rw[hs]) hc
  omega
 ·rw[runW_tick]
  have h3:=tickN_now (p:=p) (n:=(numW a).toNat) hR (by omega)
  show (nowT (tickN (numW a).toNat p)).length≤10000
  unfold nowT
  have h4:=itoa_len6 (n:=(tickN (numW a).toNat p).now) (by omega) (by omega)
  rw[List.length_append]
  simp only[List.length_cons,List.length_nil]
  omega
 ·rw[runW_see];have:=seeT_len (rdB a).1 hR;show (seeT p (rdB a).1).length≤10000;omega
 ·rw[runW_plan];have:=planT_len (rdB a).1 hR;show (planT p (rdB a).1).length≤10000;omega
theorem deskLine_any (p:Pl) (ca:Option Addr) (cc:Nat) (ja:Option Addr) (jc:Nat) (fc fj:List Nat) (xs:List ByteArray) (xa:Option Addr) (xc:Nat) (w:World) (hO:OwnP 0 w fc fj (.slice ca p.clear.length cc) (.slice ja p.jobs.length jc) p) (hR:poolR p=true) (hp:p.now≤90000) (hz:∀ x∈xs,x.size≤8000) (hS:SlR w 1 (rc sCell) (.slice xa xs.length xc) xs) (hok:okW (xs.map dl)=true) (hne:xs≠[]) (hL:LibW w) :
  Calls Tryz.prog 23 #[.agg #[.slice ca p.clear.length cc,.slice ja p.jobs.length jc,(.int .i64 p.now)],.slice xa xs.length xc] w (DkRes (runW p (xs.map dl)).1 (runW p (xs.map dl)).2 w):=by
 rcases ok_cases hok (by simpa using hne) with ⟨a,b,c,d,he,h1,h2,h3,h4⟩ | ⟨k,a,b,hk,he,h1,h2⟩ | ⟨a,he,h1,h2⟩ | ⟨k,a,hk,he,h1⟩
 ·rw[he,runW_submit]
  obtain⟨x0,r0,rfl,e0,he⟩:=List.map_eq_cons_iff.1 he
  obtain⟨x1,r1,rfl,e1,he⟩:=List.map_eq_cons_iff.1 he
  obtain⟨x2,r2,rfl,e2,he⟩:=List.map_eq_cons_iff.1 he
  obtain⟨x3,r3,rfl,e3,he⟩:=List.map_eq_cons_iff.1 he
  obtain⟨x4,r4,rfl,e4,he⟩:=List.map_eq_cons_iff.1 he
  obtain rfl:=List.map_eq_nil_iff.1 he
  have e0:=ba_of e0
  subst e0 e1 e2 e3 e4
  exact desk_submit x2 x3 x4 (hz _ (by simp)) (hz _ (by simp)) (hz _ (by simp)) h2 h3 h4 p ca cc ja jc fc fj x1 xa xc w hO hR (hz _ (by simp)) hS hL
 ·rw[he,runW_ch p a b hk]
  obtain⟨x0,r0,rfl,e0,he⟩:=List.map_eq_cons_iff.1 he
  obtain⟨x1,r1,rfl,e1,he⟩:=List.map_eq_cons_iff.1 he
  obtain⟨x2,r2,rfl,e2,he⟩:=List.map_eq_cons_iff.1 he
  obtain rfl:=List.map_eq_nil_iff.1 he
  have e0:=ba_of e0
  subst e0 e1 e2
  exact desk_chg k hk x2 (hz _ (by simp)) h2 p ca cc ja jc fc fj x1 xa xc w hO hR (hz _ (by simp)) hS hL
 ·rw[he,runW_tick]
  obtain⟨x0,r0,rfl,e0,he⟩:=List.map_eq_cons_iff.1 he
  obtain⟨x1,r1,rfl,e1,he⟩:=List.map_eq_cons_iff.1 he
  obtain rfl:=List.map_eq_nil_iff.1 he
  have e0:=ba_of e0
  subst e0 e1
  obtain⟨n,hn⟩:=Int.eq_ofNat_of_zero_le h1
  rw[hn]
  exact desk_tick n p ca cc ja jc fc fj x1 xa xc w hO hR (hz _ (by simp)) hS hL hn (by omega)
 ·rw[he]
  obtain⟨x0,r0,rfl,e0,he⟩:=List.map_eq_cons_iff.1 he
  obtain⟨x1,r1,rfl,e1,he⟩:=List.map_eq_cons_iff.1 he
  obtain rfl:=List.map_eq_nil_iff.1 he
  have e0:=ba_of e0
  subst e0 e1
  rcases hk with rfl | rfl
  ·rw[runW_see]
   exact desk_see p ca cc ja jc fc fj x1 xa xc w hO hR (hz _ (by simp)) hS hL
  ·rw[runW_plan]
   exact desk_plan p ca cc ja jc fc fj x1 xa xc w hO hR (hz _ (by simp)) hS hL
theorem row_own1 {α:Type} {B:Nat} {w:World} {ty K g n c:Nat} {f:α→List Value} {xs:List α} (hf:∀ x,(f x).length=K) (h:Row B w ty K f (.slice (some ⟨g,0,none⟩) n c) xs):Own B w (oSl ty K (oFlat f)) [g] [.slice (some ⟨g,0,none⟩) n c] xs:=by
 obtain⟨fp,hO⟩:=Row.own hf h
 obtain⟨raw,fps,hR,rfl⟩:=hO.rowO
 rw[hR.flat] at hO
 exact hO
theorem labs_own {w:World} {g:Nat} {ls:List Lab} (h:Blk w g (ls.flatMap Lab.cells) 36) (hl:ls.length≤100):oLabelS w [g] [.slice (some ⟨g,0,none⟩) ls.length ls.length] ls:=by
 refine(row_own1 (B:=0) (f:=Lab.cells) (K:=2) (fun _=>rfl) ⟨?_,.inr ⟨g,ls.length,_,rfl,Nat.zero_le _,h,Nat.le_refl _,by unfold maxLen;omega,?_,?_⟩⟩).1
 ·have:∀ l:List Lab,(l.flatMap Lab.cells).length=l.length*2:=fun l=>by
   induction l with
   | nil=>rfl
   | cons a r ih=>rw[List.flatMap_cons,List.length_append,ih,List.length_cons];show 2+_=_;omega
  exact this ls
 ·have:∀ l:List Lab,(l.flatMap Lab.cells).length=l.length*2:=fun l=>by
   induction l with
   | nil=>rfl
   | cons a r ih=>rw[List.flatMap_cons,List.length_append,ih,List.length_cons];show 2+_=_;omega
  simpa using this ls
 ·have:∀ l:List Lab,(l.flatMap Lab.cells).length=l.length*2:=fun l=>by
   induction l with
   | nil=>rfl
   | cons a r ih=>rw[List.flatMap_cons,List.length_append,ih,List.length_cons];show 2+_=_;omega
  rw[List.take_of_length_le (by simpa using Nat.le_of_eq (this ls))]
theorem start_own {w:World} {g a b c:Nat} (h:Blk w g [.slice (some ⟨a,0,none⟩) 2 2,.slice (some ⟨b,0,none⟩) 3 3,.slice (some ⟨c,0,none⟩) 1 1] 45) (ha:Blk w a [(.int .i64 0),(.int .i64 0),(.int .i64 1),(.int .i64 0)] 36) (hb:Blk w b [(.int .i64 0),(.int .i64 0),(.int .i64 1),(.int .i64 0),(.int .i64 2),(.int .i64 1)] 36) (hc:Blk w c [(.int .i64 0),(.int .i64 0)] 36) (hd:[g,a,b,c].Nodup):OwnP 0 w [g,a,b,c] [] (.slice (some ⟨g,0,none⟩) pool0.clear.length 3) (.slice none 0 0) pool0:=by
 refine⟨⟨⟨_,rfl,.inr ⟨g,3,_,[[a],[b],[c]],rfl,h,rfl,by decide,by unfold maxLen;decide,rfl,rfl,fun i hi fi hfi=>?_⟩⟩,hd,fun _ _=>Nat.zero_le _⟩,Own.nil _ _ _ _ _,fun _ _ h=>by cases h⟩
 have h3:pool0.clear.length=3:=rfl
 have hi3:i=0∨i=1∨i=2:=by omega
 rcases hi3 with rfl | rfl | rfl
 ·obtain rfl:[a]=fi:=by simpa using hfi
  exact labs_own (ls:=[⟨0,0⟩,⟨1,0⟩]) ha (by decide)
 ·obtain rfl:[b]=fi:=by simpa using hfi
  exact labs_own (ls:=[⟨0,0⟩,⟨1,0⟩,⟨2,1⟩]) hb (by decide)
 ·obtain rfl:[c]=fi:=by simpa using hfi
  exact labs_own (ls:=[⟨0,0⟩]) hc (by decide)
set_option maxHeartbeats 1600000 in
theorem startPool_any (w:World) :
  Calls Tryz.prog 22 #[] w fun e w'=>∃ (ca:Option Addr) (cc:Nat) (fc:List Nat),e=.returned (.agg #[.slice ca pool0.clear.length cc,.slice none 0 0,(.int .i64 0)])∧Ext w w'∧OwnP 0 w' fc [] (.slice ca pool0.clear.length cc) (.slice none 0 0) pool0:=by
 go_enter Tryz.func22,Tryz.ntmps22
 go_wp2
 refine gen_post (fun W9 hW=>?_)
 have HX9:=tH (show Ext w W9 by rw[hW];exact xE)
 have HB9:=tH (show Blk W9 w.heap.size [.slice (some ⟨w.heap.size+1+1+1+1+1+1,0,none⟩) 3 3,.slice none 0 0,(.int .i64 0)] 41 by rw[hW];exact(Blk.new (w:=w) (cs:=#[.slice (some ⟨w.heap.size+1+1+1+1+1+1,0,none⟩) 3 3,.slice none 0 0,(.int .i64 0)]) rfl).ext xE)
 have HA:=tH (show Blk W9 (w.heap.size+1+1+1) [(.int .i64 0),(.int .i64 0),(.int .i64 1),(.int .i64 0)] 36 by rw[hW];exact(Blk.new (w:=(((w.alloc (.cells #[.slice (some ⟨w.heap.size+1+1+1+1+1+1,0,none⟩) 3 3,.slice none 0 0,(.int .i64 0)] 41)).alloc (.cells #[(.int .i64 0),(.int .i64 0)] 36)).alloc (.cells #[(.int .i64 1),(.int .i64 0)] 36))) (cs:=#[(.int .i64 0),(.int .i64 0),(.int .i64 1),(.int .i64 0)]) (by simp)).ext xE)
 have HC:=tH (show Blk W9 (w.heap.size+1+1+1+1) [(.int .i64 0),(.int .i64 0),(.int .i64 1),(.int .i64 0),(.int .i64 2),(.int .i64 1)] 36 by rw[hW];exact(Blk.new (w:=((((w.alloc (.cells #[.slice (some ⟨w.heap.size+1+1+1+1+1+1,0,none⟩) 3 3,.slice none 0 0,(.int .i64 0)] 41)).alloc (.cells #[(.int .i64 0),(.int .i64 0)] 36)).alloc (.cells #[(.int .i64 1),(.int .i64 0)] 36)).alloc (.cells #[(.int .i64 0),(.int .i64 0),(.int .i64 1),(.int .i64 0)] 36))) (cs:=#[(.int .i64 0),(.int .i64 0),(.int .i64 1),(.int .i64 0),(.int .i64 2),(.int .i64 1)]) (by simp)).ext xE)
 have HD:=tH (show Blk W9 (w.heap.size+1+1+1+1+1) [(.int .i64 0),(.int .i64 0)] 36 by rw[hW];exact(Blk.new (w:=(((((w.alloc (.cells #[.slice (some ⟨w.heap.size+1+1+1+1+1+1,0,none⟩) 3 3,.slice none 0 0,(.int .i64 0)] 41)).alloc (.cells #[(.int .i64 0),(.int .i64 0)] 36)).alloc (.cells #[(.int .i64 1),(.int .i64 0)] 36)).alloc (.cells #[(.int .i64 0),(.int .i64 0),(.int .i64 1),(.int .i64 0)] 36)).alloc (.cells #[(.int .i64 0),(.int .i64 0),(.int .i64 1),(.int .i64 0),(.int .i64 2),(.int .i64 1)] 36))) (cs:=#[(.int .i64 0),(.int .i64 0)]) (by simp)).ext xE)
 have HE:=tH (show Blk W9 (w.heap.size+1+1+1+1+1+1) [.slice (some ⟨w.heap.size+1+1+1,0,none⟩) 2 2,.slice (some ⟨w.heap.size+1+1+1+1,0,none⟩) 3 3,.slice (some ⟨w.heap.size+1+1+1+1+1,0,none⟩) 1 1] 45 by rw[hW];exact Blk.new (w:=((((((w.alloc (.cells #[.slice (some ⟨w.heap.size+1+1+1+1+1+1,0,none⟩) 3 3,.slice none 0 0,(.int .i64 0)] 41)).alloc (.cells #[(.int .i64 0),(.int .i64 0)] 36)).alloc (.cells #[(.int .i64 1),(.int .i64 0)] 36)).alloc (.cells #[(.int .i64 0),(.int .i64 0),(.int .i64 1),(.int .i64 0)] 36)).alloc (.cells #[(.int .i64 0),(.int .i64 0),(.int .i64 1),(.int .i64 0),(.int .i64 2),(.int .i64 1)] 36)).alloc (.cells #[(.int .i64 0),(.int .i64 0)] 36))) (cs:=#[.slice (some ⟨w.heap.size+1+1+1,0,none⟩) 2 2,.slice (some ⟨w.heap.size+1+1+1+1,0,none⟩) 3 3,.slice (some ⟨w.heap.size+1+1+1+1+1,0,none⟩) 1 1]) (by simp))
 have y0:W9.cell? ⟨w.heap.size,0,none⟩=some (.slice (some ⟨w.heap.size+1+1+1+1+1+1,0,none⟩) 3 3):=HB9.out.cell 0
 have y1:W9.cell? ⟨w.heap.size,1,none⟩=some (.slice none 0 0):=HB9.out.cell 1
 have y2:W9.cell? ⟨w.heap.size,2,none⟩=some (.int .i64 0):=HB9.out.cell 2
 exact bodyPost_ret (v:=.agg #[.slice (some ⟨w.heap.size+1+1+1+1+1+1,0,none⟩) 3 3,.slice none 0 0,(.int .i64 0)]) (by simp[results,Tryz.results22,go_sem,y0,y1,y2]) rfl ⟨_,3,_,rfl,HX9.out,start_own HE.out HA.out HC.out HD.out (by simp;omega)⟩
end Go.Proofs.YtbmbanelodabgaaGreatDoor
set_option maxRecDepth 100000
set_option linter.unusedVariables false
set_option linter.unusedSimpArgs false
namespace Go.Proofs.YtbmbanelodabgaaGreatDoor
open Go.RowKit Go.Fin1
def runWs (p:Pl):List (List Bs)→Bs
 | []=>[]
 | ws :: r=>(runW p ws).2++10 :: runWs (runW p ws).1 r
theorem runL_ws:∀ (l:List Bs) (p:Pl),(runL p l).2=runWs p (l.dropLast.map (splitL 32))
 | [],p=>rfl
 | [t],p=>rfl
 | t :: u :: r,p=>by
  rw[runL_more (by simp),List.dropLast_cons_cons,List.map_cons,runL_ws (u :: r)]
  rfl
theorem splitL_nil (c:UInt8) (s:Bs):splitL c s≠[]:=by obtain⟨h,q,e⟩:=splitL_ne c s;rw[e];simp
def PlW (w:World) (b:Nat) (q:Pl):Prop:=∃ (pa:Option Addr) (pc:Nat) (pb:Option Addr) (pd:Nat) (fc fj:List Nat),Blk w b [.slice pa q.clear.length pc,.slice pb q.jobs.length pd,(.int .i64 q.now)] 41∧OwnP 0 w fc fj (.slice pa q.clear.length pc) (.slice pb q.jobs.length pd) q
theorem WdR.mono {B B':Nat} {w:World} {v:Value} {rs:List WdS} (h:WdR B w v rs) (hb:B'≤B):WdR B' w v rs:=⟨h.row.mono hb,fun r hr=>(h.nd r hr).mono hb⟩
theorem WdR.box {B b:Nat} {w w':World} {v:Value} {rs:List WdS} {cs:List Value} (h:WdR B w v rs) (hb:Blk w b cs 41) (hx:Chg [b] w w'):WdR B w' v rs :=
 ⟨rowM_chg h.row hb (by decide) hx,fun r hr=>rowM_chg (h.nd r hr) hb (by decide) hx⟩
theorem wds_at {B:Nat} {w:World} {b off n c:Nat} {rs:List WdS} (h:WdR B w (.slice (some ⟨b,off,none⟩) n c) rs) {i:Nat} (hi:i < rs.length):w.old b∧w.cell? ⟨b,off+i,none⟩=some (rs[i]).val:=by
 obtain⟨cs,_,hc,he⟩:=slr_cells (row_rc (f:=WdS.cells) (fun _=>rfl) h.row) hi
 have he':cs=[(rs[i]).val]:=he
 subst he'
 have h0:=hc 0 _ rfl
 rw[Nat.mul_one,Nat.add_zero] at h0
 exact⟨World.old_of_cell h0,h0⟩
theorem isLongI_any (s:ByteArray) (w:World) :
  Calls Tryz.prog 19 #[.string s] w fun e w'=>e=.returned (.bool (decide ((8000:Int) < (s.size:Int))))∧w'=w:=by
 go_enter Tryz.func19,Tryz.ntmps19
 go_wp2
 go_ret
 exact⟨rfl,rfl⟩
set_option maxHeartbeats 1600000 in
theorem implDeskRun_any (t:ByteArray) (w:World) (hL:LibW w) :
  Calls Tryz.prog 7 #[.string t] w fun e w'=>(∃ z,e=.returned (.agg #[.string z,(.int .i64 (deskR t).2.1),(.int .i64 (deskR t).2.2)])∧dl z=(deskR t).1)∧Ext w w':=by
 have HL:=tH hL
 clear hL
 by_cases hbig:8000 < t.size
 ·have hb:decide ((8000:Int) < (t.size:Int))=true:=decide_eq_true (by omega)
  have HT:=tH (show deskR t=([],0,2) by unfold deskR;rw[if_pos hbig])
  clear hbig
  go_enter Tryz.func7,Tryz.ntmps7
  go_wp2_with (go_at_call 19;refine(isLongI_any t _).mono ?_;rintro e _ ⟨rfl,rfl⟩;rw[hb])
  exact bodyPost_ret (v:=.agg #[.string ⟨#[]⟩,(.int .i64 0),(.int .i64 2)]) (by simp[results,Tryz.results7,go_sem]) rfl ⟨⟨⟨#[]⟩,by rw[HT.out],by rw[HT.out]⟩,(by repeat' (first | exact Ext.refl _ | exact Nat.le_refl _ | (dsimp only;omega) | apply Ext.setCell | apply Ext.plus | apply Ext.alloc | apply Ext.drew))⟩
 have hb:decide ((8000:Int) < (t.size:Int))=false:=decide_eq_false (by omega)
 have hts:t.size≤8000:=by omega
 clear hbig
 go_enter Tryz.func7,Tryz.ntmps7
 go_wp2_with fail
 refine(isLongI_any t _).mono ?_
 rintro e _ ⟨rfl,rfl⟩
 rw[hb]
 go_wp2_with fail
 refine(linesOf_any t _ hts (HL.out.ext xE)).mono ?_
 rintro e w2 ⟨a,c,rs,rfl,hx,hW⟩
 obtain⟨LS,hLS⟩:∃ LS,splitL 10 (dl t)=LS:=⟨_,rfl⟩
 rw[hLS] at hW ⊢
 have HDR:=tH (show deskR t=if badL 0 LS < 0 then ((runL pool0 LS).2,0,0) else ([],badL 0 LS,3) by
  unfold deskR
  rw[if_neg (by omega)]
  show (if badL 0 (splitL 10 (dl t)) < 0 then ((runL pool0 (splitL 10 (dl t))).2,(0:Int),(0:Int)) else ([],badL 0 (splitL 10 (dl t)),3))=_
  rw[hLS])
 have HWR:=tH hW
 have HBO:=tH (badL_ok LS 0 (by omega))
 have HX2:=tH (((Ext.refl w).alloc (.cells #[.string ⟨#[]⟩,(.int .i64 0),(.int .i64 0)] 23)).trans hx)
 have HR2:=tH ((Blk.new (w:=w) (cs:=#[.string ⟨#[]⟩,(.int .i64 0),(.int .i64 0)]) (ty:=23) rfl).ext hx)
 clear hLS hW hx hb
 obtain⟨m,hm⟩:∃ m,badL 0 LS=m:=⟨_,rfl⟩
 rw[hm]
 by_cases h0:0≤m
 ·have hb0:decide ((0:Int)≤m)=true:=decide_eq_true h0
  have HRE:=tH (show deskR t=([],m,3) by rw[HDR.out,hm,if_neg (by omega)])
  clear hm h0
  have r0:w2.cell? ⟨w.heap.size,0,none⟩=some (.string ⟨#[]⟩):=HR2.out.cell 0
  have r1:w2.cell? ⟨w.heap.size,1,none⟩=some (.int .i64 0):=HR2.out.cell 1
  have r2:w2.cell? ⟨w.heap.size,2,none⟩=some (.int .i64 0):=HR2.out.cell 2
  have ro:=HR2.out.old
  have rf:=HR2.out.fz
  go_wp2
  refine gen_post (fun W9 hW=>?_)
  have HE9:=tH (show Ext w W9 by rw[hW];exact(set3_chgD _ _ _ _ _).ext HX2.out (fun b hb=>by simp at hb;omega))
  have HB9:=tH (show Blk W9 w.heap.size [(.string ⟨#[]⟩),(.int .i64 m),(.int .i64 3)] 23 by rw[hW];exact((HR2.out.set 0 _).set 1 _).set 2 _)
  have y0:W9.cell? ⟨w.heap.size,0,none⟩=some (.string ⟨#[]⟩):=HB9.out.cell 0
  have y1:W9.cell? ⟨w.heap.size,1,none⟩=some (.int .i64 m):=HB9.out.cell 1
  have y2:W9.cell? ⟨w.heap.size,2,none⟩=some (.int .i64 3):=HB9.out.cell 2
  refine bodyPost_ret (v:=.agg #[(.string ⟨#[]⟩),(.int .i64 m),(.int .i64 3)]) (by simp[results,Tryz.results7,go_sem,y0,y1,y2]) rfl ?_
  rw[HRE.out]
  exact⟨⟨⟨#[]⟩,rfl,rfl⟩,HE9.out⟩
 have hb0:decide ((0:Int)≤m)=false:=decide_eq_false h0
 obtain⟨hWR,hZR,hMR⟩:=HWR.out (by rw[hm];omega)
 obtain⟨L,hL⟩:∃ L,rs.map (fun r=>r.1.map dl)=L:=⟨_,rfl⟩
 have HLM:=tH hL
 have HLO:=tH (show (∀ ws∈L,okW ws=true∧ws≠[])∧rs.length≤40 by
  obtain⟨h1,h2⟩:=HBO.out (by rw[hm];omega)
  refine⟨fun ws hws=>?_,?_⟩
  ·rw[← hL,hMR] at hws
   obtain⟨s,hs,rfl⟩:=List.mem_map.1 hws
   exact⟨h1 s hs,splitL_nil 32 s⟩
  ·have h3:=congrArg List.length hMR
   rw[List.length_map,List.length_map] at h3
   omega)
 have HRE:=tH (show deskR t=(runWs pool0 L,0,0) by
  rw[HDR.out,if_pos (by rw[hm];omega),runL_ws,← hMR,hL])
 have HZR:=tH hZR
 have HW2:=tH (hWR.mono (Nat.zero_le _))
 clear hm h0 hWR hZR hMR hL HWR HBO HDR
 go_wp2_with fail
 refine(startPool_any w2).mono ?_
 rintro e _ ⟨ca,cc,fc,rfl,⟨X3,rfl⟩,hO⟩
 have HO:=tH hO
 clear hO
 go_upto_region 7 with fail
 refine gen_world (fun W3 hW=>?_)
 have HX3:=tH (show Ext w W3 by rw[hW];exact HX2.out.trans xE)
 have HR3:=tH (show Blk W3 w.heap.size [.string ⟨#[]⟩,(.int .i64 0),(.int .i64 0)] 23 by rw[hW];exact HR2.out.ext xE)
 have HW3:=tH (show WdR 0 W3 _ rs by rw[hW];exact HW2.out.ext xE)
 have HP3:=tH (show PlW W3 (w2.heap.size+X3.n) pool0 by
  rw[hW]
  exact⟨ca,cc,none,0,fc,[],Blk.new (w:=w2.plus X3) (cs:=#[.slice ca pool0.clear.length cc,.slice none 0 0,(.int .i64 0)]) (by simp),HO.out.ext xE⟩)
 have HBP:=tH (show w.heap.size < w2.heap.size+X3.n by have h:w.heap.size < w2.heap.size:=HR2.out.old;omega)
 clear hW HX2 HR2 HW2 HO
 generalize w2.heap.size+X3.n=bP at HP3 HBP ⊢
 have hrl:rs.length≤40:=HLO.out.2
 go_wp2
 go_loopw [6,25] (fun s k wr=>∃ (i:Nat) (q:Pl) (all:ByteArray),i≤rs.length∧k=(.int .i64 (i:Int))∧s=.string all∧all.size≤i*10001∧Hid (runWs pool0 L=dl all++runWs q (L.drop i))∧Hid (poolR q=true)∧Hid (q.now≤30*i)∧Hid (PlW wr bP q)∧Hid (WdR 0 wr (.slice a rs.length c) rs)∧Hid (Blk wr w.heap.size [.string ⟨#[]⟩,(.int .i64 0),(.int .i64 0)] 23)∧Hid (Ext w wr)) (fun _ k _=>rs.length-(intOf k).toNat)
 case atStart=>exact⟨0,pool0,⟨#[]⟩,Nat.zero_le _,rfl,rfl,Nat.zero_le _,tH rfl,tH pool0_right,tH (by decide),HP3,HW3,HR3,HX3⟩
 case round =>
  clear HX3 HR3 HW3 HP3
  obtain⟨i,q,all,hi,rfl,rfl,hal,HRU,HPR,HPN,HP,HW,HR,HX⟩:=hrel
  by_cases hlt:i < rs.length
  ·obtain⟨bL,oL,hxa⟩:=slr_some (row_rc (f:=WdS.cells) (fun _=>rfl) HW.out.row) hlt
   subst hxa
   obtain⟨ho,hc0⟩:=wds_at HW.out hlt
   have hli:i < L.length:=by rw[← HLM.out,List.length_map];exact hlt
   have HLI:=tH (show L.drop i=(rs[i]).1.map dl :: L.drop (i+1) by
    rw[List.drop_eq_getElem_cons hli]
    congr 1
    simp only[← HLM.out,List.getElem_map])
   have HOK:=tH (HLO.out.1 ((rs[i]).1.map dl) (by rw[← HLM.out];exact List.mem_map.2 ⟨rs[i],List.getElem_mem hlt,rfl⟩))
   have HZ9:=tH (HZR.out rs[i] (List.getElem_mem hlt))
   have HN9:=tH (HW.out.nd rs[i] (List.getElem_mem hlt))
   generalize hri:rs[i]=r at hc0 HLI HOK HZ9 HN9
   clear hri hli
   obtain⟨xs,xa,xc⟩:=r
   unfold WdS.val at hc0 HN9
   simp only at hc0 HLI HOK HZ9 HN9
   obtain⟨pa,pc,pb,pd,gc,gj,hB,hO⟩:=HP.out
   have HB:=tH hB
   have HO:=tH hO
   have b0:wr.cell? ⟨bP,0,none⟩=some (.slice pa q.clear.length pc):=hB.cell 0
   have b1:wr.cell? ⟨bP,1,none⟩=some (.slice pb q.jobs.length pd):=hB.cell 1
   have b2:wr.cell? ⟨bP,2,none⟩=some (.int .i64 q.now):=hB.cell 2
   have bo:=hB.old
   clear hB hO HP
   have HRT:=tH (runW_right HPR.out (by have:=HPN.out;omega) HOK.out.1 HOK.out.2)
   have HRL:=tH (runW_len HPR.out (by have:=HPN.out;omega) HOK.out.1 HOK.out.2)
   go_wp2_with fail
   refine(deskLine_any q pa pc pb pd gc gj xs xa xc _ HO.out HPR.out (by have:=HPN.out;omega) HZ9.out (row_rc (f:=sCell) (fun _=>rfl) HN9.out) HOK.out.1 (fun e=>HOK.out.2 (by rw[e];rfl)) (HL.out.ext HX.out)).mono ?_
   rintro e _ ⟨cv,jv,hc,hj,z,rfl,hd,⟨X4,rfl⟩,hO4⟩
   obtain⟨pa9,pc9,rfl⟩:=hO4.1.shape
   obtain⟨pb9,pd9,rfl⟩:=hO4.2.1.shape
   have HDZ:=tH hd
   have hz10:z.size≤10000:=by
    have h1:=HRL.out
    rw[← hd] at h1
    have h2:(dl z).length=z.size:=ba_len z
    omega
   have HRU1:=tH (show runWs pool0 L=dl (all++(z++(⟨#[10]⟩:ByteArray)))++runWs (runW q (xs.map dl)).1 (L.drop (i+1)) by
    rw[HRU.out,HLI.out]
    show dl all++((runW q (xs.map dl)).2++10 :: runWs (runW q (xs.map dl)).1 (L.drop (i+1)))=_
    rw[show dl (all++(z++(⟨#[10]⟩:ByteArray)))=dl all++(dl z++[10]) from by
     rw[← lf_list]
     unfold dl
     rw[ByteArray.data_append,Array.toList_append],HDZ.out]
    simp)
   have hsz9:(all++(z++(⟨#[10]⟩:ByteArray))).size≤(i+1)*10001:=by rw[ByteArray.size_append,lf_size];omega
   have HPR1:=tH HRT.out.1
   have HPN1:=tH (show (runW q (xs.map dl)).1.now≤30*((i+1:Nat):Int) by have h1:=HRT.out.2;have h2:=HPN.out;push_cast;omega)
   have HB4:=tH (HB.out.ext ((Ext.refl wr).plus X4))
   have HW4:=tH (HW.out.ext ((Ext.refl wr).plus X4))
   have HR4:=tH (HR.out.ext ((Ext.refl wr).plus X4))
   have HX4:=tH (HX.out.plus X4)
   have HO4:=tH hO4
   clear hd hO4 HB HO HW HR HX HRT HRL HRU HPR HPN HLI HOK HZ9 HN9 b0 b1 b2 bo hc0 ho
   generalize (runW q (xs.map dl)).1=q9 at HO4 HRU1 HPR1 HPN1 ⊢
   generalize wr.plus X4=W4 at HB4 HW4 HR4 HX4 HO4 ⊢
   have b0:W4.cell? ⟨bP,0,none⟩=some (.slice pa q.clear.length pc):=HB4.out.cell 0
   have b1:W4.cell? ⟨bP,1,none⟩=some (.slice pb q.jobs.length pd):=HB4.out.cell 1
   have b2:W4.cell? ⟨bP,2,none⟩=some (.int .i64 q.now):=HB4.out.cell 2
   have bo:=HB4.out.old
   have bf:=HB4.out.fz
   go_upto_region 12 with fail
   refine gen_world (fun W5 hW=>?_)
   have hC:Chg [bP] W4 W5:=by rw[hW];exact set3_chgI _ _ _ _ _
   have HB5:=tH (show Blk W5 bP [.slice pa9 q9.clear.length pc9,.slice pb9 q9.jobs.length pd9,(.int .i64 q9.now)] 41 by rw[hW];exact((HB4.out.set 0 _).set 1 _).set 2 _)
   have HO5:=tH (HO4.out.far hC (ownP_boxM HO4.out HB4.out (by decide) (by decide)))
   have HW5:=tH (HW4.out.box HB4.out hC)
   have HR5:=tH (HR4.out.chg hC (by have:=HBP.out;simp;omega))
   have HX5:=tH (hC.ext HX4.out (by have:=HBP.out;simp;omega))
   clear hW hC b0 b1 b2 bo bf HB4 HO4 HW4 HR4 HX4
   go_wp2
   exact⟨⟨i+1,q9,all++(z++(⟨#[10]⟩:ByteArray)),by omega,by go_num,rfl,hsz9,HRU1,HPR1,HPN1,tH ⟨_,_,_,_,_,_,HB5.out,HO5.out⟩,HW5,HR5,HX5⟩,by simp[intOf];omega⟩
  ·obtain rfl:i=rs.length:=by omega
   have HAL:=tH (show runWs pool0 L=dl all by
    rw[HRU.out,List.drop_of_length_le (by rw[← HLM.out,List.length_map];exact Nat.le_refl _)]
    show dl all++[]=_
    rw[List.append_nil])
   have r0:wr.cell? ⟨w.heap.size,0,none⟩=some (.string ⟨#[]⟩):=HR.out.cell 0
   have r1:wr.cell? ⟨w.heap.size,1,none⟩=some (.int .i64 0):=HR.out.cell 1
   have r2:wr.cell? ⟨w.heap.size,2,none⟩=some (.int .i64 0):=HR.out.cell 2
   have ro:=HR.out.old
   have rf:=HR.out.fz
   go_wp2
   refine gen_post (fun W9 hW=>?_)
   have HE9:=tH (show Ext w W9 by rw[hW];exact(set3_chgD _ _ _ _ _).ext HX.out (fun b hb=>by simp at hb;omega))
   have HB9:=tH (show Blk W9 w.heap.size [(.string all),(.int .i64 0),(.int .i64 0)] 23 by rw[hW];exact((HR.out.set 0 _).set 1 _).set 2 _)
   have y0:W9.cell? ⟨w.heap.size,0,none⟩=some (.string all):=HB9.out.cell 0
   have y1:W9.cell? ⟨w.heap.size,1,none⟩=some (.int .i64 0):=HB9.out.cell 1
   have y2:W9.cell? ⟨w.heap.size,2,none⟩=some (.int .i64 0):=HB9.out.cell 2
   refine bodyPost_ret (v:=.agg #[(.string all),(.int .i64 0),(.int .i64 0)]) (by simp[results,Tryz.results7,go_sem,y0,y1,y2]) rfl ?_
   rw[HRE.out]
   exact⟨⟨all,rfl,HAL.out.symm⟩,HE9.out⟩
end Go.Proofs.YtbmbanelodabgaaGreatDoor
