/- The implementation's desk: any line; the first pool. -/
import Derived.Test.YtbmbanelodabgaaGreatDoorKMI9
set_option maxRecDepth 100000
set_option linter.unusedVariables false
set_option linter.unusedSimpArgs false
namespace Go.Proofs.YtbmbanelodabgaaGreatDoor
open Go.RowKit Go.Fin1
theorem itoa_lenN {n:Nat} (h:n≤1000000):(Lib.itoa (n:Int)).length≤7:=itoa_len6 (by omega) (by omega)
theorem resT_len {p:Pl} {Y:Pl×Int×Int} {t:Bs} (ht:t.length≤100) {c:Nat} (hc:Y.2.2=(c:Int)) (h:c < 1000):(resT p Y t).2.length≤100:=by
 unfold resT
 split
 ·exact ht
 ·show (errT Y.2.2).length≤100
  rw[hc]
  unfold errT
  have:=itoa_lenN (n:=c) (by omega)
  rw[List.length_append]
  simp only[List.length_cons,List.length_nil]
  omega
theorem runW_len {p:Pl} {ws:List Bs} (hR:poolR p=true) (hp:p.now≤90000) (h:okW ws=true) (hn:ws≠[]):(runW p ws).2.length≤10000:=by
 have hp0:=(poolR_of hR).nw
 rcases ok_cases h hn with ⟨a,b,c,d,rfl,-⟩ | ⟨k,a,b,hk,rfl,-⟩ | ⟨a,rfl,h1,h2⟩ | ⟨k,a,rfl | rfl,rfl,-⟩
 ·rw[runW_submit]
  obtain⟨i,c',hs,hi,hc,-⟩:=subR_nat (p:=p) (x:=(rdB a).1) (n:=numW b) (l:=numW c) (q:=numW d)
  have h1:=resT_len (p:=p) (Y:=subR p (rdB a).1 (numW b) (numW c) (numW d)) (t:=Lib.itoa (subR p (rdB a).1 (numW b) (numW c) (numW d)).2.1) (by rw[hs];show (Lib.itoa (i:Int)).length≤100;have:=itoa_lenN (n:=i) (by omega);omega) (c:=c') (by rw[hs]) hc
  omega
 ·rw[runW_ch p a b hk]
  obtain⟨c',hs,hc⟩:=chR_nat (p:=p) (x:=(rdB a).1) (id:=numW b) (s:=stW k)
  have h1:=resT_len (p:=p) (Y:=chR p (rdB a).1 (numW b) (stW k)) (t:=okT) (by decide) (c:=c') (by rw[hs]) hc
  omega
 ·rw[runW_tick]
  have h3:=tickN_now (p:=p) (n:=(numW a).toNat) hR (by omega)
  show (nowT (tickN (numW a).toNat p)).length≤10000
  unfold nowT
  have h4:=itoa_len6 (n:=(tickN (numW a).toNat p).now) (by omega) (by omega)
  rw[List.length_append]
  simp only[List.length_cons,List.length_nil]
  omega
 ·rw[runW_see];have:=seeT_len (rdB a).1 hR;show (seeT p (rdB a).1).length≤10000;omega
 ·rw[runW_plan];have:=planT_len (rdB a).1 hR;show (planT p (rdB a).1).length≤10000;omega
theorem deskLine_any (p:Pl) (ca:Option Addr) (cc:Nat) (ja:Option Addr) (jc:Nat) (fc fj:List Nat) (xs:List ByteArray) (xa:Option Addr) (xc:Nat) (w:World) (hO:OwnP 0 w fc fj (.slice ca p.clear.length cc) (.slice ja p.jobs.length jc) p) (hR:poolR p=true) (hp:p.now≤90000) (hz:∀ x∈xs,x.size≤8000) (hS:SlR w 1 (rc sCell) (.slice xa xs.length xc) xs) (hok:okW (xs.map dl)=true) (hne:xs≠[]) (hL:LibW w) :
  Calls Tryz.prog 23 #[.agg #[.slice ca p.clear.length cc,.slice ja p.jobs.length jc,(.int .i64 p.now)],.slice xa xs.length xc] w (DkRes (runW p (xs.map dl)).1 (runW p (xs.map dl)).2 w):=by
 rcases ok_cases hok (by simpa using hne) with ⟨a,b,c,d,he,h1,h2,h3,h4⟩ | ⟨k,a,b,hk,he,h1,h2⟩ | ⟨a,he,h1,h2⟩ | ⟨k,a,hk,he,h1⟩
 ·rw[he,runW_submit]
  obtain⟨x0,r0,rfl,e0,he⟩:=List.map_eq_cons_iff.1 he
  obtain⟨x1,r1,rfl,e1,he⟩:=List.map_eq_cons_iff.1 he
  obtain⟨x2,r2,rfl,e2,he⟩:=List.map_eq_cons_iff.1 he
  obtain⟨x3,r3,rfl,e3,he⟩:=List.map_eq_cons_iff.1 he
  obtain⟨x4,r4,rfl,e4,he⟩:=List.map_eq_cons_iff.1 he
  obtain rfl:=List.map_eq_nil_iff.1 he
  have e0:=ba_of e0
  subst e0 e1 e2 e3 e4
  exact desk_submit x2 x3 x4 (hz _ (by simp)) (hz _ (by simp)) (hz _ (by simp)) h2 h3 h4 p ca cc ja jc fc fj x1 xa xc w hO hR (hz _ (by simp)) hS hL
 ·rw[he,runW_ch p a b hk]
  obtain⟨x0,r0,rfl,e0,he⟩:=List.map_eq_cons_iff.1 he
  obtain⟨x1,r1,rfl,e1,he⟩:=List.map_eq_cons_iff.1 he
  obtain⟨x2,r2,rfl,e2,he⟩:=List.map_eq_cons_iff.1 he
  obtain rfl:=List.map_eq_nil_iff.1 he
  have e0:=ba_of e0
  subst e0 e1 e2
  exact desk_chg k hk x2 (hz _ (by simp)) h2 p ca cc ja jc fc fj x1 xa xc w hO hR (hz _ (by simp)) hS hL
 ·rw[he,runW_tick]
  obtain⟨x0,r0,rfl,e0,he⟩:=List.map_eq_cons_iff.1 he
  obtain⟨x1,r1,rfl,e1,he⟩:=List.map_eq_cons_iff.1 he
  obtain rfl:=List.map_eq_nil_iff.1 he
  have e0:=ba_of e0
  subst e0 e1
  obtain⟨n,hn⟩:=Int.eq_ofNat_of_zero_le h1
  rw[hn]
  exact desk_tick n p ca cc ja jc fc fj x1 xa xc w hO hR (hz _ (by simp)) hS hL hn (by omega)
 ·rw[he]
  obtain⟨x0,r0,rfl,e0,he⟩:=List.map_eq_cons_iff.1 he
  obtain⟨x1,r1,rfl,e1,he⟩:=List.map_eq_cons_iff.1 he
  obtain rfl:=List.map_eq_nil_iff.1 he
  have e0:=ba_of e0
  subst e0 e1
  rcases hk with rfl | rfl
  ·rw[runW_see]
   exact desk_see p ca cc ja jc fc fj x1 xa xc w hO hR (hz _ (by simp)) hS hL
  ·rw[runW_plan]
   exact desk_plan p ca cc ja jc fc fj x1 xa xc w hO hR (hz _ (by simp)) hS hL
theorem row_own1 {α:Type} {B:Nat} {w:World} {ty K g n c:Nat} {f:α→List Value} {xs:List α} (hf:∀ x,(f x).length=K) (h:Row B w ty K f (.slice (some ⟨g,0,none⟩) n c) xs):Own B w (oSl ty K (oFlat f)) [g] [.slice (some ⟨g,0,none⟩) n c] xs:=by
 obtain⟨fp,hO⟩:=Row.own hf h
 obtain⟨raw,fps,hR,rfl⟩:=hO.rowO
 rw[hR.flat] at hO
 exact hO
theorem labs_own {w:World} {g:Nat} {ls:List Lab} (h:Blk w g (ls.flatMap Lab.cells) 36) (hl:ls.length≤100):oLabelS w [g] [.slice (some ⟨g,0,none⟩) ls.length ls.length] ls:=by
 refine(row_own1 (B:=0) (f:=Lab.cells) (K:=2) (fun _=>rfl) ⟨?_,.inr ⟨g,ls.length,_,rfl,Nat.zero_le _,h,Nat.le_refl _,by unfold maxLen;omega,?_,?_⟩⟩).1
 ·have:∀ l:List Lab,(l.flatMap Lab.cells).length=l.length*2:=fun l=>by
   induction l with
   | nil=>rfl
   | cons a r ih=>rw[List.flatMap_cons,List.length_append,ih,List.length_cons];show 2+_=_;omega
  exact this ls
 ·have:∀ l:List Lab,(l.flatMap Lab.cells).length=l.length*2:=fun l=>by
   induction l with
   | nil=>rfl
   | cons a r ih=>rw[List.flatMap_cons,List.length_append,ih,List.length_cons];show 2+_=_;omega
  simpa using this ls
 ·have:∀ l:List Lab,(l.flatMap Lab.cells).length=l.length*2:=fun l=>by
   induction l with
   | nil=>rfl
   | cons a r ih=>rw[List.flatMap_cons,List.length_append,ih,List.length_cons];show 2+_=_;omega
  rw[List.take_of_length_le (by simpa using Nat.le_of_eq (this ls))]
theorem start_own {w:World} {g a b c:Nat} (h:Blk w g [.slice (some ⟨a,0,none⟩) 2 2,.slice (some ⟨b,0,none⟩) 3 3,.slice (some ⟨c,0,none⟩) 1 1] 45) (ha:Blk w a [(.int .i64 0),(.int .i64 0),(.int .i64 1),(.int .i64 0)] 36) (hb:Blk w b [(.int .i64 0),(.int .i64 0),(.int .i64 1),(.int .i64 0),(.int .i64 2),(.int .i64 1)] 36) (hc:Blk w c [(.int .i64 0),(.int .i64 0)] 36) (hd:[g,a,b,c].Nodup):OwnP 0 w [g,a,b,c] [] (.slice (some ⟨g,0,none⟩) pool0.clear.length 3) (.slice none 0 0) pool0:=by
 refine⟨⟨⟨_,rfl,.inr ⟨g,3,_,[[a],[b],[c]],rfl,h,rfl,by decide,by unfold maxLen;decide,rfl,rfl,fun i hi fi hfi=>?_⟩⟩,hd,fun _ _=>Nat.zero_le _⟩,Own.nil _ _ _ _ _,fun _ _ h=>by cases h⟩
 have h3:pool0.clear.length=3:=rfl
 have hi3:i=0∨i=1∨i=2:=by omega
 rcases hi3 with rfl | rfl | rfl
 ·obtain rfl:[a]=fi:=by simpa using hfi
  exact labs_own (ls:=[⟨0,0⟩,⟨1,0⟩]) ha (by decide)
 ·obtain rfl:[b]=fi:=by simpa using hfi
  exact labs_own (ls:=[⟨0,0⟩,⟨1,0⟩,⟨2,1⟩]) hb (by decide)
 ·obtain rfl:[c]=fi:=by simpa using hfi
  exact labs_own (ls:=[⟨0,0⟩]) hc (by decide)
set_option maxHeartbeats 1600000 in
theorem startPool_any (w:World) :
  Calls Tryz.prog 22 #[] w fun e w'=>∃ (ca:Option Addr) (cc:Nat) (fc:List Nat),e=.returned (.agg #[.slice ca pool0.clear.length cc,.slice none 0 0,(.int .i64 0)])∧Ext w w'∧OwnP 0 w' fc [] (.slice ca pool0.clear.length cc) (.slice none 0 0) pool0:=by
 go_enter Tryz.func22,Tryz.ntmps22
 go_wp2
 refine gen_post (fun W9 hW=>?_)
 have HX9:=tH (show Ext w W9 by rw[hW];exact xE)
 have HB9:=tH (show Blk W9 w.heap.size [.slice (some ⟨w.heap.size+1+1+1+1+1+1,0,none⟩) 3 3,.slice none 0 0,(.int .i64 0)] 41 by rw[hW];exact(Blk.new (w:=w) (cs:=#[.slice (some ⟨w.heap.size+1+1+1+1+1+1,0,none⟩) 3 3,.slice none 0 0,(.int .i64 0)]) rfl).ext xE)
 have HA:=tH (show Blk W9 (w.heap.size+1+1+1) [(.int .i64 0),(.int .i64 0),(.int .i64 1),(.int .i64 0)] 36 by rw[hW];exact(Blk.new (w:=(((w.alloc (.cells #[.slice (some ⟨w.heap.size+1+1+1+1+1+1,0,none⟩) 3 3,.slice none 0 0,(.int .i64 0)] 41)).alloc (.cells #[(.int .i64 0),(.int .i64 0)] 36)).alloc (.cells #[(.int .i64 1),(.int .i64 0)] 36))) (cs:=#[(.int .i64 0),(.int .i64 0),(.int .i64 1),(.int .i64 0)]) (by simp)).ext xE)
 have HC:=tH (show Blk W9 (w.heap.size+1+1+1+1) [(.int .i64 0),(.int .i64 0),(.int .i64 1),(.int .i64 0),(.int .i64 2),(.int .i64 1)] 36 by rw[hW];exact(Blk.new (w:=((((w.alloc (.cells #[.slice (some ⟨w.heap.size+1+1+1+1+1+1,0,none⟩) 3 3,.slice none 0 0,(.int .i64 0)] 41)).alloc (.cells #[(.int .i64 0),(.int .i64 0)] 36)).alloc (.cells #[(.int .i64 1),(.int .i64 0)] 36)).alloc (.cells #[(.int .i64 0),(.int .i64 0),(.int .i64 1),(.int .i64 0)] 36))) (cs:=#[(.int .i64 0),(.int .i64 0),(.int .i64 1),(.int .i64 0),(.int .i64 2),(.int .i64 1)]) (by simp)).ext xE)
 have HD:=tH (show Blk W9 (w.heap.size+1+1+1+1+1) [(.int .i64 0),(.int .i64 0)] 36 by rw[hW];exact(Blk.new (w:=(((((w.alloc (.cells #[.slice (some ⟨w.heap.size+1+1+1+1+1+1,0,none⟩) 3 3,.slice none 0 0,(.int .i64 0)] 41)).alloc (.cells #[(.int .i64 0),(.int .i64 0)] 36)).alloc (.cells #[(.int .i64 1),(.int .i64 0)] 36)).alloc (.cells #[(.int .i64 0),(.int .i64 0),(.int .i64 1),(.int .i64 0)] 36)).alloc (.cells #[(.int .i64 0),(.int .i64 0),(.int .i64 1),(.int .i64 0),(.int .i64 2),(.int .i64 1)] 36))) (cs:=#[(.int .i64 0),(.int .i64 0)]) (by simp)).ext xE)
 have HE:=tH (show Blk W9 (w.heap.size+1+1+1+1+1+1) [.slice (some ⟨w.heap.size+1+1+1,0,none⟩) 2 2,.slice (some ⟨w.heap.size+1+1+1+1,0,none⟩) 3 3,.slice (some ⟨w.heap.size+1+1+1+1+1,0,none⟩) 1 1] 45 by rw[hW];exact Blk.new (w:=((((((w.alloc (.cells #[.slice (some ⟨w.heap.size+1+1+1+1+1+1,0,none⟩) 3 3,.slice none 0 0,(.int .i64 0)] 41)).alloc (.cells #[(.int .i64 0),(.int .i64 0)] 36)).alloc (.cells #[(.int .i64 1),(.int .i64 0)] 36)).alloc (.cells #[(.int .i64 0),(.int .i64 0),(.int .i64 1),(.int .i64 0)] 36)).alloc (.cells #[(.int .i64 0),(.int .i64 0),(.int .i64 1),(.int .i64 0),(.int .i64 2),(.int .i64 1)] 36)).alloc (.cells #[(.int .i64 0),(.int .i64 0)] 36))) (cs:=#[.slice (some ⟨w.heap.size+1+1+1,0,none⟩) 2 2,.slice (some ⟨w.heap.size+1+1+1+1,0,none⟩) 3 3,.slice (some ⟨w.heap.size+1+1+1+1+1,0,none⟩) 1 1]) (by simp))
 have y0:W9.cell? ⟨w.heap.size,0,none⟩=some (.slice (some ⟨w.heap.size+1+1+1+1+1+1,0,none⟩) 3 3):=HB9.out.cell 0
 have y1:W9.cell? ⟨w.heap.size,1,none⟩=some (.slice none 0 0):=HB9.out.cell 1
 have y2:W9.cell? ⟨w.heap.size,2,none⟩=some (.int .i64 0):=HB9.out.cell 2
 exact bodyPost_ret (v:=.agg #[.slice (some ⟨w.heap.size+1+1+1+1+1+1,0,none⟩) 3 3,.slice none 0 0,(.int .i64 0)]) (by simp[results,Tryz.results22,go_sem,y0,y1,y2]) rfl ⟨_,3,_,rfl,HX9.out,start_own HE.out HA.out HC.out HD.out (by simp;omega)⟩
end Go.Proofs.YtbmbanelodabgaaGreatDoor
