/- The reference's reading of a line. -/
import Derived.Test.YtbmbanelodabgaaGreatDoorKMI1
set_option maxRecDepth 100000
set_option linter.unusedVariables false
namespace Go.Proofs.YtbmbanelodabgaaGreatDoor
open Go.RowKit Go.Fin1
structure StI (W0:World) (a:Nat) (za ua:List Value) (ta:TypeId) (sx:Nat) (Ks:List (Option Value)) (L:Nat→Bool) (vs:Nat→Value) (w:World):Prop where
 c:Chg [a] W0 w
 x:Blk w a (if L sx then ua else za) ta
 k:∀ j v,Ks[j]?=some (some v)→L j=true→vs j=v
section
variable {W0:World} {a:Nat} {za ua:List Value} {ta:TypeId} {sx:Nat} {Ks:List (Option Value)} {L:Nat→Bool} {vs:Nat→Value} {w:World}
theorem StI.start {W:World} (hx:Ext W0 W) (h:Blk W0 a za ta):StI W0 a za ua ta sx Ks (fun _=>false) vs W:=⟨hx.chg _,h.ext hx,fun _ _ _ h=>by cases h⟩
theorem st_k (hk:∀ j v,Ks[j]?=some (some v)→L j=true→vs j=v) {n:Nat} {v:Value} (hv:∀ u,Ks[n]?=some (some u)→v=u):∀ j u,Ks[j]?=some (some u)→updB L n j=true→updV vs n v j=u:=fun j u hu hL=>by
 by_cases e:j=n
 ·subst e
  unfold updV;rw[if_pos rfl];exact hv u hu
 ·unfold updB at hL;rw[if_neg e] at hL
  unfold updV;rw[if_neg e];exact hk j u hu hL
theorem StI.put (h:StI W0 a za ua ta sx Ks L vs w) {n:Nat} (hn:sx≠n) {v:Value} (hv:∀ u,Ks[n]?=some (some u)→v=u) {w':World} (hx:Ext w w'):StI W0 a za ua ta sx Ks (updB L n) (updV vs n v) w':=by
 refine⟨h.c.trans (hx.chg _),?_,st_k h.k hv⟩
 rw[show updB L n sx=L sx by unfold updB;rw[if_neg hn]]
 exact h.x.ext hx
theorem StI.st (h:StI W0 a za ua ta sx Ks L vs w) {v:Value} (hv:∀ u,Ks[sx]?=some (some u)→v=u) {w':World} (hc:Chg [a] w w') (hb:Blk w' a ua ta):StI W0 a za ua ta sx Ks (updB L sx) (updV vs sx v) w':=by
 refine⟨h.c.trans hc,?_,st_k h.k hv⟩
 rw[show updB L sx sx=true by unfold updB;rw[if_pos rfl]]
 exact hb
theorem StI.x0 (h:StI W0 a za ua ta sx Ks L vs w) (hL:L sx=false):Blk w a za ta:=by have:=h.x;rw[hL] at this;exact this
theorem StI.x1 (h:StI W0 a za ua ta sx Ks L vs w) (hL:L sx=true):Blk w a ua ta:=by have:=h.x;rw[hL] at this;exact this
theorem StI.cell (h:StI W0 a za ua ta sx Ks L vs w) {b i:Nat} {u:Value} (hc:W0.cell? ⟨b,i,none⟩=some u) (hb:b≠a):w.cell? ⟨b,i,none⟩=some u∧w.old b:=by
 have hlt:=World.block_lt_of_cell? W0 _ hc
 have h1:w.cell? ⟨b,i,none⟩=some u:=by
  simp only[World.cell?,h.c.block b hlt (by simpa using hb)] at hc ⊢
  exact hc
 exact⟨h1,World.old_of_cell h1⟩
end
theorem some_eq9 {v u:Value} (h:(some (some v):Option (Option Value))=some (some u)):v=u:=Option.some.inj (Option.some.inj h)
def labW (ws:List Bs):Lab:=if ws.getD 0 []=kTick then ⟨0,0⟩ else (rdB (ws.getD 1 [])).1
def numsW (ws:List Bs):List Int:=if ws.getD 0 []=kTick then [numW (ws.getD 1 [])] else (ws.drop 2).map numW
theorem rowM_chg {α:Type} {B b:Nat} {w w':World} {ty ty' K:Nat} {f:α→List Value} {v:Value} {xs:List α} {cs:List Value} (h:Row B w ty K f v xs) (hb:Blk w b cs ty') (ht:ty≠ty') (hx:Chg [b] w w'):Row B w' ty K f v xs:=h.chg hx fun q hq hm=>by
 obtain rfl:=List.mem_singleton.1 hm
 obtain⟨c1,h1⟩:=h.type q hq
 unfold Blk at hb
 rw[h1] at hb
 simp at hb
 exact ht hb.2
theorem rowM_two {α β:Type} {B B':Nat} {w w':World} {ty K ty' K':Nat} {f:α→List Value} {f':β→List Value} {v v':Value} {xs:List α} {ys:List β} (h:Row B w ty K f v xs) (k:Row B' w ty' K' f' v' ys) (ht:ty≠ty') (hx:Chg (blkL v') w w'):Row B w' ty K f v xs:=h.chg hx fun b hb hm=>by
 obtain⟨c1,h1⟩:=h.type b hb
 obtain⟨c2,h2⟩:=k.type b hm
 rw[h1] at h2
 simp at h2
 exact ht h2.2
theorem blkM_row {α:Type} {B b:Nat} {w w':World} {ty ty' K:Nat} {f:α→List Value} {v:Value} {xs:List α} {cs:List Value} (hb:Blk w b cs ty') (h:Row B w ty K f v xs) (ht:ty≠ty') (hx:Chg (blkL v) w w'):Blk w' b cs ty':=hb.chg hx fun hm=>by
 obtain⟨c1,h1⟩:=h.type b hm
 unfold Blk at hb
 rw[h1] at hb
 simp at hb
 exact ht hb.2
theorem set4_chgM (w:World) (g:Nat) (a b c d:Value):Chg [g] w ((((w.setCell ⟨g,0,none⟩ a).setCell ⟨g,1,none⟩ b).setCell ⟨g,2,none⟩ c).setCell ⟨g,3,none⟩ d):=((((Chg.refl _ _).setCell (.inl (by simp)) _).setCell (.inl (by simp)) _).setCell (.inl (by simp)) _).setCell (.inl (by simp)) _
def nmJ (F:Nat) (xs:List ByteArray) (j:Nat):List Int:=((xs.take j).drop F).map fun t=>numW (dl t)
theorem nmJ_nil (F:Nat) (xs:List ByteArray):nmJ F xs F=[]:=by unfold nmJ;rw[List.drop_eq_nil_of_le (by rw[List.length_take];omega)];rfl
theorem nmJ_step {F:Nat} {xs:List ByteArray} {j:Nat} (hF:F≤j) (hj:j < xs.length):nmJ F xs (j+1)=nmJ F xs j++[numW (dl xs[j])]:=by
 unfold nmJ
 rw[List.take_succ_eq_append_getElem hj,List.drop_append_of_le_length (by rw[List.length_take];omega),List.map_append]
 rfl
theorem nmJ_all (F:Nat) (xs:List ByteArray):nmJ F xs xs.length=((xs.map dl).drop F).map numW:=by
 unfold nmJ
 rw[List.take_length,List.map_drop,List.map_drop,List.map_map]
 rfl
theorem numW_i64 {t:Bs} (h:0≤numW t):I64 (numW t):=by
 obtain⟨n,e,_,_,_,hn⟩:=numW_yes h
 rw[e];unfold I64;omega
theorem ints_at {w:World} {b off n cap:Nat} {xs:List Int} (h:SlR w 1 (rc intCell) (.slice (some ⟨b,off,none⟩) n cap) xs) {i:Nat} (hi:i < xs.length):w.old b∧w.cell? ⟨b,off+i,none⟩=some (.int .i64 xs[i]):=by
 obtain⟨cs,_,hc,rfl⟩:=slr_cells h hi
 have h0:=hc 0 _ rfl
 rw[Nat.mul_one] at h0
 exact⟨World.old_of_cell h0,h0⟩
theorem row_intM {B:Nat} {w:World} {v:Value} {xs:List Int} (h:Row B w 2 1 intCell v xs) (hx:∀ x∈xs,I64 x):SlR w 1 rInt v xs:=by
 obtain⟨fp,hO⟩:=Row.own (f:=intCell) (K:=1) (fun _=>rfl) h
 exact oIntS_r hO.1 hx
theorem many_rel {w:Bs} (h:¬ w=kTick):(many8 w=-1∧manyW w=0)∨((0≤many8 w∧many8 w≤3)∧(manyW w:Int)=many8 w+2):=by
 unfold many8 manyW
 by_cases h1:w=kSubmit
 ·rw[if_pos h1,if_pos h1];right;omega
 rw[if_neg h1,if_neg h1]
 by_cases h2:w=kDone∨w=kHold∨w=kWait
 ·rw[if_pos (by rcases h2 with h2 | h2 | h2<;>simp[h2]),if_pos h2];right;omega
 have h3:¬ (w=kDone∨w=kHold∨w=kWait∨w=kTick):=fun e=>by
  rcases e with e | e | e | e
  ·exact h2 (.inl e)
  ·exact h2 (.inr (.inl e))
  ·exact h2 (.inr (.inr e))
  ·exact h e
 rw[if_neg h3,if_neg h2]
 by_cases h4:w=kSee∨w=kPlan
 ·rw[if_pos h4,if_pos (.inr h4)];right;omega
 ·rw[if_neg h4,if_neg (fun e=>e.elim h h4)];left;exact⟨rfl,rfl⟩
theorem okW_len {ws:List Bs} (h:¬ ws.length=manyW (ws.getD 0 [])):okW ws=false:=by unfold okW;rw[decide_eq_false h,Bool.false_and]
theorem okW_lab {ws:List Bs} (hk:¬ ws.getD 0 []=kTick) (h:¬ (rdB (ws.getD 1 [])).2=0):okW ws=false:=by
 unfold okW;rw[if_neg hk,decide_eq_false h,Bool.and_false,Bool.and_false]
theorem okW_num {ws:List Bs} (hk:¬ ws.getD 0 []=kTick) {t:Bs} (ht:t∈ws.drop 2) (h:¬ 0≤numW t):okW ws=false:=by
 have h1:(ws.drop 2).all (fun t=>decide (0≤numW t))=false:=List.all_eq_false.2 ⟨t,ht,by simpa using h⟩
 unfold okW;rw[if_neg hk,h1,Bool.false_and,Bool.and_false]
theorem okW_all {ws:List Bs} (hk:¬ ws.getD 0 []=kTick) (hl:ws.length=manyW (ws.getD 0 [])) (hr:(rdB (ws.getD 1 [])).2=0) (h:∀ t∈ws.drop 2,0≤numW t):okW ws=true:=by
 have h1:(ws.drop 2).all (fun t=>decide (0≤numW t))=true:=List.all_eq_true.2 fun t ht=>decide_eq_true (h t ht)
 unfold okW;rw[if_neg hk,h1,decide_eq_true hl,decide_eq_true hr];rfl
theorem mem_drop9 {xs:List ByteArray} {F j:Nat} (hF:F≤j) (hj:j < xs.length):dl xs[j]∈(xs.map dl).drop F:=by
 rw[← List.map_drop]
 refine List.mem_map_of_mem ?_
 have h1:j-F < (xs.drop F).length:=by rw[List.length_drop];omega
 have h2:=List.getElem_mem h1
 rw[List.getElem_drop] at h2
 have e:F+(j-F)=j:=by omega
 simp only[e] at h2
 exact h2
theorem rdB_dl (t:ByteArray):rdB (dl t)=rdL t:=by unfold rdB;rw[show (⟨(dl t).toArray⟩:ByteArray)=t from ByteArray.ext (by simp)]
theorem set2_chgM (w:World) (g:Nat) (a b:Value):Chg [g] w ((w.setCell ⟨g,1,none⟩ a).setCell ⟨g,2,none⟩ b):=((Chg.refl _ _).setCell (.inl (by simp)) _).setCell (.inl (by simp)) _
set_option maxHeartbeats 1600000 in
theorem l08Read_any (t:ByteArray) (w:World) (ht:t.size≤8000) :
  Calls Tryz.prog 17 #[.string t] w fun e w'=>∃ (wd:ByteArray) (x:Lab) (na:Option Addr) (nc:Nat) (nums:List Int),e=.returned (.tuple #[.agg #[.string wd,(.int .i64 x.lv),(.int .i64 x.st),.slice na nums.length nc],.bool (okW (splitL 32 (dl t)))])∧Ext w w'∧(okW (splitL 32 (dl t))=true→dl wd=(splitL 32 (dl t)).getD 0 []∧x=labW (splitL 32 (dl t))∧nums=numsW (splitL 32 (dl t))∧SlR w' 1 rInt (.slice na nums.length nc) nums):=by
 go_enter Tryz.func17,Tryz.ntmps17
 go_wp2_with fail
 refine(l01Split_any t 32 _ ht).mono ?_
 rintro e w2 ⟨xa,xc,xs,rfl,hx,hR,hE⟩
 have hlen:=congrArg List.length hE
 rw[List.length_map,splitL_len] at hlen
 have hcz:(dl t).count 32≤8000:=by have h1:=List.count_le_length (a:=(32:UInt8)) (l:=dl t);have h2:=ba_len t;have h3:(dl t).length=t.size:=h2;omega
 have hzx:∀ x∈xs,x.size≤8000:=fun x hx=>by
  have h1:dl x∈splitL 32 (dl t):=by rw[← hE];exact List.mem_map_of_mem hx
  have h2:=splitL_sum 32 (dl t) _ h1
  rw[ba_len,ba_len] at h2
  omega
 have h0:0 < xs.length:=by omega
 have hxl:xs.length≤8001:=by omega
 have HE:=tH hE
 have HZX:=tH hzx
 have HX2:=tH (((Ext.refl w).alloc (.cells #[.string ⟨#[]⟩,(.int .i64 0),(.int .i64 0),.slice none 0 0] 50)).trans hx)
 have HR2:=tH ((Blk.new (w:=w) (cs:=#[.string ⟨#[]⟩,(.int .i64 0),(.int .i64 0),.slice none 0 0]) (ty:=50) rfl).ext hx)
 have HW2:=tH (hR.mono (show w.heap.size≤_ by simp))
 have HWB:=tH (show w.heap.size < w2.heap.size from HR2.out.old)
 clear hx hR hE hlen hcz hzx
 obtain⟨bW,oW,rfl⟩:=slr_some (row_rc (f:=sCell) (fun _=>rfl) HW2.out) h0
 obtain⟨ho,hc0⟩:=str_at (row_rc (f:=sCell) (fun _=>rfl) HW2.out) h0
 rw[Nat.add_zero] at hc0
 have HEQ:=tH (show okW (splitL 32 (dl t))=okW (xs.map dl) by rw[HE.out])
 go_upto_region 3 with fail
 refine gen_world (fun W3 hW=>?_)
 have HX3:=tH (show Ext w W3 by rw[hW];exact HX2.out.trans xE)
 have HR3:=tH (show Blk W3 w.heap.size _ _ by rw[hW];exact HR2.out.ext xE)
 have HW3:=tH (show Row w.heap.size W3 9 1 sCell _ xs by rw[hW];exact HW2.out.ext xE)
 have HB3:=tH (show Blk W3 w2.heap.size [.string xs[0],(.int .i64 0),(.int .i64 0),.slice none 0 0] 50 by rw[hW];exact Blk.new (cs:=#[.string xs[0],(.int .i64 0),(.int .i64 0),.slice none 0 0]) rfl)
 clear hW HX2 HR2 HW2 ho hc0
 generalize w2.heap.size=bX at HB3 HWB ⊢
 obtain⟨ho,hc0⟩:=str_at (row_rc (f:=sCell) (fun _=>rfl) HW3.out) h0
 rw[Nat.add_zero] at hc0
 go_wp2_with fail
 refine(l08Many_any xs[0] _).mono ?_
 rintro e _ ⟨rfl,X3,rfl⟩
 obtain⟨m,hm⟩:∃ m,many8 (dl xs[0])=m:=⟨_,rfl⟩
 rw[hm]
 have HM:=tH hm
 clear hm
 have hg0:(xs.map dl).getD 0 []=dl xs[0]:=by simp[List.getD,h0]
 have HG0:=tH hg0
 clear hg0
 have HW4:=tH (HW3.out.ext ((Ext.refl W3).plus X3))
 have HB4:=tH (HB3.out.ext ((Ext.refl W3).plus X3))
 have HR4:=tH (HR3.out.ext ((Ext.refl W3).plus X3))
 have HX4:=tH (HX3.out.trans ((Ext.refl W3).plus X3))
 by_cases hk:dl xs[0]=kTick
 ·have htk:(xs[0].toList == [116,105,99,107])=true:=by
   rw[ByteArray.toList_eq]
   have:kTick=[116,105,99,107]:=by unfold kTick;rfl
   rw[← this]
   exact beq_iff_eq.2 hk
  have hm:m=1:=by rw[← HM.out];unfold many8;rw[if_neg (by rw[hk];unfold kTick kSubmit;decide),if_pos (.inr (.inr (.inr hk)))]
  subst hm
  have HK:=tH hk
  clear hk HM
  by_cases h2:xs.length=2
  case neg =>
   have hne:((xs.length:Int) != 2)=true:=by simp;omega
   have HNO:=tH (show okW (splitL 32 (dl t))=false by
    rw[HEQ.out];unfold okW;rw[HG0.out,HK.out]
    rw[decide_eq_false (by rw[List.length_map];unfold manyW kTick kSubmit kDone kHold kWait;simpa using h2)];rfl)
   go_upto_region 8 with fail
   generalize W3.plus X3=W4 at HW4 HB4 HR4 HX4 ⊢
   have b0:W4.cell? ⟨bX,0,none⟩=some (.string xs[0]):=HB4.out.cell 0
   have b1:W4.cell? ⟨bX,1,none⟩=some (.int .i64 0):=HB4.out.cell 1
   have b2:W4.cell? ⟨bX,2,none⟩=some (.int .i64 0):=HB4.out.cell 2
   have b3:W4.cell? ⟨bX,3,none⟩=some (.slice none 0 0):=HB4.out.cell 3
   have bo:=HB4.out.old
   have bf:=HB4.out.fz
   have r0:W4.cell? ⟨w.heap.size,0,none⟩=some (.string ⟨#[]⟩):=HR4.out.cell 0
   have r1:W4.cell? ⟨w.heap.size,1,none⟩=some (.int .i64 0):=HR4.out.cell 1
   have r2:W4.cell? ⟨w.heap.size,2,none⟩=some (.int .i64 0):=HR4.out.cell 2
   have r3:W4.cell? ⟨w.heap.size,3,none⟩=some (.slice none 0 0):=HR4.out.cell 3
   have ro:=HR4.out.old
   have rf:=HR4.out.fz
   go_wp2
   have hC:=set4_chgM W4 w.heap.size (.string xs[0]) (.int .i64 0) (.int .i64 0) (.slice none 0 0)
   exact bodyPost_ret (v:=.tuple #[.agg #[.string xs[0],(.int .i64 0),(.int .i64 0),.slice none 0 0],.bool false]) (by simp[results,Tryz.results17,go_sem,r0,r1,r2,r3]) rfl ⟨xs[0],⟨_,_⟩,none,0,List.replicate 0 0,by rw[HNO.out,List.length_replicate],hC.ext HX4.out (by simp),fun h=>by rw[HNO.out] at h;cases h⟩
  have hne:((xs.length:Int) != 2)=false:=by simp;omega
  have h1b:1 < xs.length:=by omega
  have HTK:Hid (okW (splitL 32 (dl t))=decide ((0:Int)≤numW (dl (xs[1]'h1b))∧numW (dl (xs[1]'h1b))≤30)):=tH (by
   rw[HEQ.out];unfold okW;rw[HG0.out,HK.out,if_pos rfl,decide_eq_true (by rw[List.length_map];unfold manyW kTick kSubmit kDone kHold kWait;simpa using h2),Bool.true_and]
   have:(xs.map dl).getD 1 []=dl (xs[1]'h1b):=by simp[List.getD,show 1 < xs.length by omega]
   rw[this])
  have HBL:=HB4
  have HWL:=HW4
  have HRL:=HR4
  have HXL:=HX4
  obtain⟨W4,hW4⟩:∃ W,W3.plus X3=W:=⟨_,rfl⟩
  rw[hW4] at HBL HWL HRL HXL ⊢
  clear hW4 ho hc0 HB4 HW4 HR4 HX4
  have H2:=tH h2
  clear h2
  obtain⟨ho,hc0⟩:=str_at (row_rc (f:=sCell) (fun _=>rfl) HWL.out) h0
  rw[Nat.add_zero] at hc0
  go_wp2
  go_loopw [9] (fun i wr=>∃ (j:Nat) (na:Option Addr) (nc:Nat),1≤j∧j≤xs.length∧i=(.int .i64 (j:Int))∧Hid (Blk wr bX [.string xs[0],(.int .i64 0),(.int .i64 0),.slice na (nmJ 1 xs j).length nc] 50)∧Hid (Row w.heap.size wr 2 1 intCell (.slice na (nmJ 1 xs j).length nc) (nmJ 1 xs j))∧Hid (Row w.heap.size wr 9 1 sCell (.slice (some ⟨bW,oW,none⟩) xs.length xc) xs)∧Hid (Blk wr w.heap.size [.string ⟨#[]⟩,(.int .i64 0),(.int .i64 0),.slice none 0 0] 50)∧Hid (∀ n∈nmJ 1 xs j,0≤n∧I64 n)∧Hid (Ext w wr)) (fun i _=>xs.length-(intOf i).toNat)
  case atStart=>exact⟨1,none,0,Nat.le_refl _,(by first | omega | (have h22:=H2.out;omega)),rfl,tH (by rw[nmJ_nil];exact HBL.out),tH (by rw[nmJ_nil];exact Row.nil _ _ _ _ _),HWL,HRL,tH (by rw[nmJ_nil];simp),HXL⟩
  case round =>
   clear HBL HWL HRL HXL ho hc0
   obtain⟨j,na,nc,hF,hj,rfl,HB,HN,HW,HR,HP,HX⟩:=hrel
   by_cases hlt:j < xs.length
   ·obtain⟨ho,hcj⟩:=str_at (row_rc (f:=sCell) (fun _=>rfl) HW.out) hlt
    go_wp2_with fail
    refine(l08Num_any xs[j] _ (HZX.out _ (List.getElem_mem hlt))).mono ?_
    rintro e _ ⟨rfl,X5,rfl⟩
    obtain⟨n,hn⟩:∃ n,numW xs[j].data.toList=n:=⟨_,rfl⟩
    rw[hn]
    have HNJ:=tH hn
    clear hn ho hcj
    have HB5:=tH (HB.out.ext ((Ext.refl wr).plus X5))
    have HN5:=tH (HN.out.ext ((Ext.refl wr).plus X5))
    have HW5:=tH (HW.out.ext ((Ext.refl wr).plus X5))
    have HR5:=tH (HR.out.ext ((Ext.refl wr).plus X5))
    have HX5:=tH (HX.out.trans ((Ext.refl wr).plus X5))
    generalize wr.plus X5=W5 at HB5 HN5 HW5 HR5 HX5 ⊢
    clear HB HN HW HR HX
    have hsz:=tH HX5.out.below.size
    by_cases h0n:0≤n
    case neg =>
     have hb:decide (n < 0)=true:=decide_eq_true (by omega)
     have HNO:=tH (show okW (splitL 32 (dl t))=false by
      rw[HEQ.out]
      (have h22:=H2.out;have hj1:j=1:=(by omega);subst hj1;rw[← HEQ.out,HTK.out,decide_eq_false];rintro ⟨h5,-⟩;have h6:=HNJ.out;exact h0n (h6▸h5)))
     clear h0n
     have b0:W5.cell? ⟨bX,0,none⟩=some (.string xs[0]):=HB5.out.cell 0
     have b1:W5.cell? ⟨bX,1,none⟩=some (.int .i64 0):=HB5.out.cell 1
     have b2:W5.cell? ⟨bX,2,none⟩=some (.int .i64 0):=HB5.out.cell 2
     have b3:W5.cell? ⟨bX,3,none⟩=some (.slice na (nmJ 1 xs j).length nc):=HB5.out.cell 3
     have bo:=HB5.out.old
     have bf:=HB5.out.fz
     have r0:W5.cell? ⟨w.heap.size,0,none⟩=some (.string ⟨#[]⟩):=HR5.out.cell 0
     have r1:W5.cell? ⟨w.heap.size,1,none⟩=some (.int .i64 0):=HR5.out.cell 1
     have r2:W5.cell? ⟨w.heap.size,2,none⟩=some (.int .i64 0):=HR5.out.cell 2
     have r3:W5.cell? ⟨w.heap.size,3,none⟩=some (.slice none 0 0):=HR5.out.cell 3
     have ro:=HR5.out.old
     have rf:=HR5.out.fz
     go_wp2
     have hC:=set4_chgM W5 w.heap.size (.string xs[0]) (.int .i64 0) (.int .i64 0) (.slice na (nmJ 1 xs j).length nc)
     exact bodyPost_ret (v:=.tuple #[.agg #[.string xs[0],(.int .i64 0),(.int .i64 0),.slice na (nmJ 1 xs j).length nc],.bool false]) (by simp[results,Tryz.results17,go_sem,r0,r1,r2,r3]) rfl ⟨xs[0],⟨_,_⟩,na,nc,List.replicate (nmJ 1 xs j).length 0,by rw[HNO.out,List.length_replicate],hC.ext HX5.out (by simp),fun h=>by rw[HNO.out] at h;cases h⟩
    have hb:decide (n < 0)=false:=decide_eq_false (by omega)
    have hnj:(nmJ 1 xs j).length≤8001:=by unfold nmJ;rw[List.length_map,List.length_drop,List.length_take];omega
    have HST:=tH (show nmJ 1 xs (j+1)=nmJ 1 xs j++[n] by rw[nmJ_step hF hlt];rw[show numW (dl xs[j])=n from HNJ.out])
    have b0:W5.cell? ⟨bX,0,none⟩=some (.string xs[0]):=HB5.out.cell 0
    have b1:W5.cell? ⟨bX,1,none⟩=some (.int .i64 0):=HB5.out.cell 1
    have b2:W5.cell? ⟨bX,2,none⟩=some (.int .i64 0):=HB5.out.cell 2
    have b3:W5.cell? ⟨bX,3,none⟩=some (.slice na (nmJ 1 xs j).length nc):=HB5.out.cell 3
    have bo:=HB5.out.old
    have bf:=HB5.out.fz
    go_wp2_with (at_builtin;go_must (refine Row.appN (f:=intCell) el_Int rfl _ _ rfl w.heap.size (by simpa using hsz.out) _ (nmJ 1 xs j) rfl HN5.out n rfl _ ?_ rfl (fun _=>rfl) ?_ ?_ ?_ ?_);(simp);(simp[Value.oneCell']);(unfold maxLen;omega);(omega);intro v' w8 hR8 hc8;obtain⟨ra,rcc,rfl⟩:=hR8.shape;have HR8:=tH hR8;have HC8:=tH hc8;have HB8:=tH (blkM_row HB5.out HN5.out (by decide) hc8);clear hR8 hc8;clear b0 b1 b2 b3 bo bf;have c3:w8.cell? ⟨bX,3,none⟩=some (.slice na (nmJ 1 xs j).length nc):=HB8.out.cell 3;have co:=HB8.out.old;have cf:=HB8.out.fz)
    have hC1:Chg [bX] w8 (w8.setCell ⟨bX,3,none⟩ (.slice ra ((nmJ 1 xs j).length+1) rcc)):=(Chg.refl _ _).setCell (.inl (by simp)) _
    have hl1:(nmJ 1 xs j++[n]).length=(nmJ 1 xs j).length+1:=by simp
    exact⟨⟨j+1,ra,rcc,by omega,by omega,by go_num,tH (by rw[HST.out,hl1];exact HB8.out.set 3 _),tH (by rw[HST.out];exact rowM_chg HR8.out HB8.out (by decide) hC1),tH (rowM_chg (rowM_two HW5.out HN5.out (by decide) HC8.out) HB8.out (by decide) hC1),tH ((blkM_row HR5.out HN5.out (by decide) HC8.out).chg hC1 (by have:=HWB.out;simp;omega)),tH (by
     rw[HST.out]
     intro x hx
     rcases List.mem_append.1 hx with hx | hx
     ·exact HP.out x hx
     ·obtain rfl:=List.mem_singleton.1 hx;exact⟨h0n,by rw[← HNJ.out];exact numW_i64 (by rw[HNJ.out];exact h0n)⟩),tH (hC1.ext (HC8.out.ext HX5.out (fun b hb=>(HN5.out.blk b hb).1)) (by have:=HWB.out;simp;omega))⟩,by simp[intOf];omega⟩
   obtain rfl:j=xs.length:=by omega
   clear hlt hj hF
   have HNE:=tH (show nmJ 1 xs xs.length=[numW (dl (xs[1]'h1b))] by
    have h22:=H2.out
    rw[h22,nmJ_step (Nat.le_refl 1) h1b,nmJ_nil];rfl)
   obtain⟨n,hn⟩:∃ n,numW (dl (xs[1]'h1b))=n:=⟨_,rfl⟩
   have HNN:=tH hn
   clear hn
   have hn1:(nmJ 1 xs xs.length).length=1:=by rw[HNE.out];rfl
   have HN2:=tH (show Row w.heap.size wr 2 1 intCell (.slice na 1 nc) [n] by
    have h:=HN.out
    rw[show Row w.heap.size wr 2 1 intCell (.slice na (nmJ 1 xs xs.length).length nc) (nmJ 1 xs xs.length)=Row w.heap.size wr 2 1 intCell (.slice na 1 nc) [n] by rw[hn1,HNE.out,HNN.out]] at h
    exact h)
   have HB2:=tH (show Blk wr bX [.string xs[0],(.int .i64 0),(.int .i64 0),.slice na 1 nc] 50 by have h:=HB.out;rw[hn1] at h;exact h)
   have HP2:=tH (show I64 n from (HP.out n (by rw[HNE.out,HNN.out];simp)).2)
   have HP3:=tH (show 0≤n from (HP.out n (by rw[HNE.out,HNN.out];simp)).1)
   clear hn1 HN HB HP
   obtain⟨bN,oN,hna⟩:=slr_some (row_rc (f:=intCell) (fun _=>rfl) HN2.out) (show 0 < [n].length by simp)
   subst hna
   obtain⟨hno,hn0⟩:=ints_at (row_rc (f:=intCell) (fun _=>rfl) HN2.out) (show 0 < [n].length by simp)
   obtain⟨ho,hc0⟩:=str_at (row_rc (f:=sCell) (fun _=>rfl) HW.out) h0
   rw[Nat.add_zero] at hc0 hn0
   have hn0':wr.cell? ⟨bN,oN,none⟩=some (.int .i64 n):=hn0
   clear hn0
   have b0:wr.cell? ⟨bX,0,none⟩=some (.string xs[0]):=HB2.out.cell 0
   have b1:wr.cell? ⟨bX,1,none⟩=some (.int .i64 0):=HB2.out.cell 1
   have b2:wr.cell? ⟨bX,2,none⟩=some (.int .i64 0):=HB2.out.cell 2
   have b3:wr.cell? ⟨bX,3,none⟩=some (.slice (some ⟨bN,oN,none⟩) 1 nc):=HB2.out.cell 3
   have bo:=HB2.out.old
   have bf:=HB2.out.fz
   go_upto_region 21 with fail
   clear b0 b1 b2 b3 bo bf ho hc0 hno
   have HC0:=tH (str_at (row_rc (f:=sCell) (fun _=>rfl) HW.out) h0).2
   have HN0:=tH hn0'
   clear hn0'
   obtain⟨b,hb⟩:∃ b,decide (n≤30)=b:=⟨_,rfl⟩
   have hne9:=tH (show bX≠w.heap.size∧bW≠w.heap.size∧bN≠w.heap.size from by
    refine⟨by have:=HWB.out;omega,fun e=>?_,fun e=>?_⟩
    ·have h1:=HW.out.type bW (by simp[blkL])
     rw[e] at h1
     obtain⟨c1,h1⟩:=h1
     have h2:=HR.out
     unfold Blk at h2
     rw[h1] at h2;simp at h2
    ·have h1:=HN2.out.type bN (by simp[blkL])
     rw[e] at h1
     obtain⟨c1,h1⟩:=h1
     have h2:=HR.out
     unfold Blk at h2
     rw[h1] at h2;simp at h2)
   refine wp_region_i 14 (StI wr w.heap.size [.string ⟨#[]⟩,(.int .i64 0),(.int .i64 0),.slice none 0 0] [.string xs[0],(.int .i64 0),(.int .i64 0),.slice (some ⟨bN,oN,none⟩) 1 nc] 50 12 [some (.agg #[.string xs[0],(.int .i64 0),(.int .i64 0),.slice (some ⟨bN,oN,none⟩) 1 nc]),some (.slice (some ⟨bW,oW,none⟩) xs.length xc),some (.pointer (some ⟨bW,oW,none⟩)),some (.string xs[0]),some (.bool false),some (.bool false),some (.pointer (some ⟨bX,3,none⟩)),some (.slice (some ⟨bN,oN,none⟩) 1 nc),some (.pointer (some ⟨bN,oN,none⟩)),some (.int .i64 n),some (.bool b),some (.bool b),none,some (.bool b)]) (by kernel_rfl) (by kernel_rfl) (by kernel_rfl) (fun vs=>?_) (fun vs=>StI.start (Ext.refl _).drew HR.out)
   refine IReg.step 1 rfl (fun L w' hI hL hj=>?_) ?_
   ·(have hB:=HB2.out.chg hI.c (by have:=hne9.out.1;simpa using this);have b0:w'.cell? ⟨bX,0,none⟩=some (.string xs[0]):=hB.cell 0;have b1:w'.cell? ⟨bX,1,none⟩=some (.int .i64 0):=hB.cell 1;have b2:w'.cell? ⟨bX,2,none⟩=some (.int .i64 0):=hB.cell 2;have b3:w'.cell? ⟨bX,3,none⟩=some (.slice (some ⟨bN,oN,none⟩) 1 nc):=hB.cell 3;have bo:=hB.old;clear hB)
    have HI:=tH hI
    clear hI hL hj
    go_wp2
    exact HI.out.put (n:=0) (by decide) (fun u hu=>some_eq9 hu) xE
   (conv in (Act.put _ _ _)=>simp only[Act.put,List.setIfInBounds_toArray,List.set_cons_succ,List.set_cons_zero])
   refine IReg.step 2 rfl (fun L w' hI hL hj=>?_) ?_
   ·skip
    have HI:=tH hI
    clear hI hL hj
    go_wp2
    exact HI.out.put (n:=1) (by decide) (fun u hu=>some_eq9 hu) xE
   (conv in (Act.put _ _ _)=>simp only[Act.put,List.setIfInBounds_toArray,List.set_cons_succ,List.set_cons_zero])
   refine IReg.step 3 rfl (fun L w' hI hL hj=>?_) ?_
   ·(rw[show vs 1=_ from hI.k 1 _ rfl (hj 1 (by decide) (by kernel_rfl))])
    have HI:=tH hI
    clear hI hL hj
    go_wp2
    exact HI.out.put (n:=2) (by decide) (fun u hu=>some_eq9 hu) xE
   (conv in (Act.put _ _ _)=>simp only[Act.put,List.setIfInBounds_toArray,List.set_cons_succ,List.set_cons_zero])
   refine IReg.step 4 rfl (fun L w' hI hL hj=>?_) ?_
   ·((rw[show vs 2=_ from hI.k 2 _ rfl (hj 2 (by decide) (by kernel_rfl))]);obtain⟨q0,q1⟩:=hI.cell HC0.out hne9.out.2.1;rw[Nat.add_zero] at q0)
    have HI:=tH hI
    clear hI hL hj
    go_wp2
    exact HI.out.put (n:=3) (by decide) (fun u hu=>some_eq9 hu) xE
   (conv in (Act.put _ _ _)=>simp only[Act.put,List.setIfInBounds_toArray,List.set_cons_succ,List.set_cons_zero])
   refine IReg.step 5 rfl (fun L w' hI hL hj=>?_) ?_
   ·(rw[show vs 3=_ from hI.k 3 _ rfl (hj 3 (by decide) (by kernel_rfl))])
    have HI:=tH hI
    clear hI hL hj
    go_wp2
    exact HI.out.put (n:=4) (by decide) (fun u hu=>some_eq9 hu) xE
   (conv in (Act.put _ _ _)=>simp only[Act.put,List.setIfInBounds_toArray,List.set_cons_succ,List.set_cons_zero])
   refine IReg.step 6 rfl (fun L w' hI hL hj=>?_) ?_
   ·(rw[show vs 4=_ from hI.k 4 _ rfl (hj 4 (by decide) (by kernel_rfl))])
    have HI:=tH hI
    clear hI hL hj
    go_wp2
    exact HI.out.put (n:=5) (by decide) (fun u hu=>some_eq9 hu) xE
   (conv in (Act.put _ _ _)=>simp only[Act.put,List.setIfInBounds_toArray,List.set_cons_succ,List.set_cons_zero])
   refine IReg.step 7 rfl (fun L w' hI hL hj=>?_) ?_
   ·(rw[show vs 5=_ from hI.k 5 _ rfl (hj 5 (by decide) (by kernel_rfl))])
    have HI:=tH hI
    clear hI hL hj
    go_wp2
    exact HI.out.put (n:=6) (by decide) (fun u hu=>some_eq9 hu) xE
   (conv in (Act.put _ _ _)=>simp only[Act.put,List.setIfInBounds_toArray,List.set_cons_succ,List.set_cons_zero])
   refine IReg.step 8 rfl (fun L w' hI hL hj=>?_) ?_
   ·((rw[show vs 5=_ from hI.k 5 _ rfl (hj 5 (by decide) (by kernel_rfl))]);(rw[show vs 6=_ from hI.k 6 _ rfl (hj 6 (by decide) (by kernel_rfl))]);have hB:=HB2.out.chg hI.c (by have:=hne9.out.1;simpa using this);have b3:w'.cell? ⟨bX,3,none⟩=some (.slice (some ⟨bN,oN,none⟩) 1 nc):=hB.cell 3;have bo:=hB.old;clear hB)
    have HI:=tH hI
    clear hI hL hj
    go_wp2
    exact HI.out.put (n:=7) (by decide) (fun u hu=>some_eq9 hu) xE
   (conv in (Act.put _ _ _)=>simp only[Act.put,List.setIfInBounds_toArray,List.set_cons_succ,List.set_cons_zero])
   refine IReg.step 9 rfl (fun L w' hI hL hj=>?_) ?_
   ·((rw[show vs 5=_ from hI.k 5 _ rfl (hj 5 (by decide) (by kernel_rfl))]);(rw[show vs 7=_ from hI.k 7 _ rfl (hj 7 (by decide) (by kernel_rfl))]))
    have HI:=tH hI
    clear hI hL hj
    go_wp2
    exact HI.out.put (n:=8) (by decide) (fun u hu=>some_eq9 hu) xE
   (conv in (Act.put _ _ _)=>simp only[Act.put,List.setIfInBounds_toArray,List.set_cons_succ,List.set_cons_zero])
   refine IReg.step 10 rfl (fun L w' hI hL hj=>?_) ?_
   ·((rw[show vs 5=_ from hI.k 5 _ rfl (hj 5 (by decide) (by kernel_rfl))]);(rw[show vs 8=_ from hI.k 8 _ rfl (hj 8 (by decide) (by kernel_rfl))]);obtain⟨q0,q1⟩:=hI.cell HN0.out hne9.out.2.2)
    have HI:=tH hI
    clear hI hL hj
    go_wp2
    exact HI.out.put (n:=9) (by decide) (fun u hu=>some_eq9 hu) xE
   (conv in (Act.put _ _ _)=>simp only[Act.put,List.setIfInBounds_toArray,List.set_cons_succ,List.set_cons_zero])
   refine IReg.step 11 rfl (fun L w' hI hL hj=>?_) ?_
   ·((rw[show vs 5=_ from hI.k 5 _ rfl (hj 5 (by decide) (by kernel_rfl))]);(rw[show vs 9=_ from hI.k 9 _ rfl (hj 9 (by decide) (by kernel_rfl))]))
    have HI:=tH hI
    clear hI hL hj
    go_wp2
    exact HI.out.put (n:=10) (by decide) (fun u hu=>some_eq9 hu) xE
   (conv in (Act.put _ _ _)=>simp only[Act.put,List.setIfInBounds_toArray,List.set_cons_succ,List.set_cons_zero])
   refine IReg.step 12 rfl (fun L w' hI hL hj=>?_) ?_
   ·((rw[show vs 5=_ from hI.k 5 _ rfl (hj 5 (by decide) (by kernel_rfl))]);(rw[show vs 10=_ from hI.k 10 _ rfl (hj 10 (by decide) (by kernel_rfl))]))
    have HI:=tH hI
    clear hI hL hj
    go_wp2
    exact HI.out.put (n:=11) (by decide) (fun u hu=>some_eq9 hu) xE
   (conv in (Act.put _ _ _)=>simp only[Act.put,List.setIfInBounds_toArray,List.set_cons_succ,List.set_cons_zero])
   refine IReg.step 13 rfl (fun L w' hI hL hj=>?_) ?_
   ·(rw[show vs 0=_ from hI.k 0 _ rfl (hj 0 (by decide) (by kernel_rfl))])
    have hB:=hI.x0 hL
    have r0:w'.cell? ⟨w.heap.size,0,none⟩=some (.string ⟨#[]⟩):=hB.cell 0
    have r1:w'.cell? ⟨w.heap.size,1,none⟩=some (.int .i64 0):=hB.cell 1
    have r2:w'.cell? ⟨w.heap.size,2,none⟩=some (.int .i64 0):=hB.cell 2
    have r3:w'.cell? ⟨w.heap.size,3,none⟩=some (.slice none 0 0):=hB.cell 3
    have ro:=hB.old
    have rf:=hB.fz
    have HB9:=tH hB
    have HI:=tH hI
    clear hI hL hj hB
    go_wp2
    exact⟨undef,HI.out.st (fun u hu=>by cases hu) (set4_chgM _ _ _ _ _ _) ((((HB9.out.set 0 (.string xs[0])).set 1 (.int .i64 0)).set 2 (.int .i64 0)).set 3 (.slice (some ⟨bN,oN,none⟩) 1 nc))⟩
   (conv in (Act.put _ _ _)=>simp only[Act.put,List.setIfInBounds_toArray,List.set_cons_succ,List.set_cons_zero])
   refine IReg.step 14 rfl (fun L w' hI hL hj=>?_) ?_
   ·(rw[show vs 11=_ from hI.k 11 _ rfl (hj 11 (by decide) (by kernel_rfl))])
    have HI:=tH hI
    clear hI hL hj
    go_wp2
    exact HI.out.put (n:=13) (by decide) (fun u hu=>some_eq9 hu) xE
   (conv in (Act.put _ _ _)=>simp only[Act.put,List.setIfInBounds_toArray,List.set_cons_succ,List.set_cons_zero])
   refine IReg.done (fun L w9 hL hI=>?_)
   simp only[List.drop_succ_cons,List.drop_zero]
   rw[show vs 13=.bool b from hI.k 13 _ rfl (hL 13 (by decide))]
   have HR9:=tH (hI.x1 (hL 12 (by decide)))
   have HX9:=tH (hI.c.ext HX.out (by simp))
   have HN9:=tH (rowM_chg HN2.out HR.out (by decide) hI.c)
   clear hI hL
   have r0:w9.cell? ⟨w.heap.size,0,none⟩=some (.string xs[0]):=HR9.out.cell 0
   have r1:w9.cell? ⟨w.heap.size,1,none⟩=some (.int .i64 0):=HR9.out.cell 1
   have r2:w9.cell? ⟨w.heap.size,2,none⟩=some (.int .i64 0):=HR9.out.cell 2
   have r3:w9.cell? ⟨w.heap.size,3,none⟩=some (.slice (some ⟨bN,oN,none⟩) 1 nc):=HR9.out.cell 3
   have ro:=HR9.out.old
   have HOK:=tH (show okW (splitL 32 (dl t))=b by
    rw[HTK.out,HNN.out,← hb]
    have h9:=HP3.out
    by_cases h30:n≤30
    ·rw[decide_eq_true h30,decide_eq_true ⟨h9,h30⟩]
    ·rw[decide_eq_false h30,decide_eq_false (fun h=>h30 h.2)])
   have HL9:=tH (show labW (splitL 32 (dl t))=⟨0,0⟩ by rw[← HE.out];unfold labW;rw[HG0.out,HK.out,if_pos rfl])
   have HM9:=tH (show numsW (splitL 32 (dl t))=[n] by
    rw[← HE.out];unfold numsW
    rw[HG0.out,HK.out,if_pos rfl]
    have:(xs.map dl).getD 1 []=dl (xs[1]'h1b):=by simp[List.getD,h1b]
    rw[this,HNN.out])
   clear hb
   go_wp2
   exact bodyPost_ret (v:=.tuple #[.agg #[.string xs[0],(.int .i64 0),(.int .i64 0),.slice (some ⟨bN,oN,none⟩) 1 nc],.bool b]) (by simp[results,Tryz.results17,go_sem,r0,r1,r2,r3]) rfl ⟨xs[0],⟨0,0⟩,some ⟨bN,oN,none⟩,nc,[n],by rw[HOK.out];rfl,HX9.out,fun _=>⟨by rw[← HE.out];exact HG0.out.symm,HL9.out.symm,HM9.out.symm,row_intM HN9.out (fun x hx=>by obtain rfl:=List.mem_singleton.1 hx;exact HP2.out)⟩⟩
 have htk:(xs[0].toList == [116,105,99,107])=false:=by
  have h9:=ba_ne hk
  rw[show kTick=[116,105,99,107] by unfold kTick;rfl] at h9
  exact h9
 have HK:=tH (show ¬ (xs.map dl).getD 0 []=kTick by rw[HG0.out];exact hk)
 have HMR:=tH (show (m=-1∧manyW ((xs.map dl).getD 0 [])=0)∨((0≤m∧m≤3)∧(manyW ((xs.map dl).getD 0 []):Int)=m+2) by rw[HG0.out,← HM.out];exact many_rel hk)
 clear hk HM
 obtain⟨W4,hW4⟩:∃ W,W3.plus X3=W:=⟨_,rfl⟩
 rw[hW4] at HB4 HW4 HR4 HX4 ⊢
 clear hW4 ho hc0
 obtain⟨ho,hc0⟩:=str_at (row_rc (f:=sCell) (fun _=>rfl) HW4.out) h0
 rw[Nat.add_zero] at hc0
 by_cases hm0:0≤m
 case neg =>
  have hb:decide (m < 0)=true:=decide_eq_true (by omega)
  have HNO:=tH (show okW (splitL 32 (dl t))=false by
   rw[HEQ.out]
   refine okW_len ?_
   rcases HMR.out with h | h
   ·rw[h.2,List.length_map];omega
   ·exact absurd h.1.1 hm0)
  clear hm0
  go_upto_region 8 with fail
  have b0:W4.cell? ⟨bX,0,none⟩=some (.string xs[0]):=HB4.out.cell 0
  have b1:W4.cell? ⟨bX,1,none⟩=some (.int .i64 0):=HB4.out.cell 1
  have b2:W4.cell? ⟨bX,2,none⟩=some (.int .i64 0):=HB4.out.cell 2
  have b3:W4.cell? ⟨bX,3,none⟩=some (.slice none 0 0):=HB4.out.cell 3
  have bo:=HB4.out.old
  have bf:=HB4.out.fz
  have r0:W4.cell? ⟨w.heap.size,0,none⟩=some (.string ⟨#[]⟩):=HR4.out.cell 0
  have r1:W4.cell? ⟨w.heap.size,1,none⟩=some (.int .i64 0):=HR4.out.cell 1
  have r2:W4.cell? ⟨w.heap.size,2,none⟩=some (.int .i64 0):=HR4.out.cell 2
  have r3:W4.cell? ⟨w.heap.size,3,none⟩=some (.slice none 0 0):=HR4.out.cell 3
  have ro:=HR4.out.old
  have rf:=HR4.out.fz
  go_wp2
  have hC:=set4_chgM W4 w.heap.size (.string xs[0]) (.int .i64 0) (.int .i64 0) (.slice none 0 0)
  exact bodyPost_ret (v:=.tuple #[.agg #[.string xs[0],(.int .i64 0),(.int .i64 0),.slice none 0 0],.bool false]) (by simp[results,Tryz.results17,go_sem,r0,r1,r2,r3]) rfl ⟨xs[0],⟨_,_⟩,none,0,List.replicate 0 0,by rw[HNO.out,List.length_replicate],hC.ext HX4.out (by simp),fun h=>by rw[HNO.out] at h;cases h⟩
 have hb:decide (m < 0)=false:=decide_eq_false (by omega)
 have hm3:m≤3:=by rcases HMR.out with h | h<;>omega
 have HMW:=tH (show (manyW ((xs.map dl).getD 0 []):Int)=m+2 by rcases HMR.out with h | h<;>omega)
 by_cases hL:(xs.length:Int)=2+m
 case neg =>
  have hne:((xs.length:Int) != 2+m)=true:=by simp;omega
  have HNO:=tH (show okW (splitL 32 (dl t))=false by
   rw[HEQ.out]
   refine okW_len ?_
   have h:=HMW.out
   rw[List.length_map];omega)
  clear hL
  go_upto_region 8 with fail
  have b0:W4.cell? ⟨bX,0,none⟩=some (.string xs[0]):=HB4.out.cell 0
  have b1:W4.cell? ⟨bX,1,none⟩=some (.int .i64 0):=HB4.out.cell 1
  have b2:W4.cell? ⟨bX,2,none⟩=some (.int .i64 0):=HB4.out.cell 2
  have b3:W4.cell? ⟨bX,3,none⟩=some (.slice none 0 0):=HB4.out.cell 3
  have bo:=HB4.out.old
  have bf:=HB4.out.fz
  have r0:W4.cell? ⟨w.heap.size,0,none⟩=some (.string ⟨#[]⟩):=HR4.out.cell 0
  have r1:W4.cell? ⟨w.heap.size,1,none⟩=some (.int .i64 0):=HR4.out.cell 1
  have r2:W4.cell? ⟨w.heap.size,2,none⟩=some (.int .i64 0):=HR4.out.cell 2
  have r3:W4.cell? ⟨w.heap.size,3,none⟩=some (.slice none 0 0):=HR4.out.cell 3
  have ro:=HR4.out.old
  have rf:=HR4.out.fz
  go_wp2
  have hC:=set4_chgM W4 w.heap.size (.string xs[0]) (.int .i64 0) (.int .i64 0) (.slice none 0 0)
  exact bodyPost_ret (v:=.tuple #[.agg #[.string xs[0],(.int .i64 0),(.int .i64 0),.slice none 0 0],.bool false]) (by simp[results,Tryz.results17,go_sem,r0,r1,r2,r3]) rfl ⟨xs[0],⟨_,_⟩,none,0,List.replicate 0 0,by rw[HNO.out,List.length_replicate],hC.ext HX4.out (by simp),fun h=>by rw[HNO.out] at h;cases h⟩
 have hne:((xs.length:Int) != 2+m)=false:=by simp;omega
 have HL:=tH hL
 have h1b:1 < xs.length:=by omega
 have H2:=tH (show 2≤xs.length by omega)
 clear hL
 obtain⟨-,hc1⟩:=str_at (row_rc (f:=sCell) (fun _=>rfl) HW4.out) h1b
 have HG1:=tH (show (xs.map dl).getD 1 []=dl (xs[1]'h1b) by simp[List.getD,h1b])
 go_wp2_with fail
 refine(specLabelRead_any (xs[1]'h1b) _ (by have:=HZX.out _ (List.getElem_mem h1b);omega)).mono ?_
 rintro e _ ⟨rfl,X5,rfl⟩
 obtain⟨⟨⟨lv,st⟩,cd⟩,hrd⟩:∃ z,rdL (xs[1]'h1b)=z:=⟨_,rfl⟩
 rw[hrd]
 have HRD:=tH (show rdB ((xs.map dl).getD 1 [])=(⟨lv,st⟩,cd) by rw[HG1.out,rdB_dl];exact hrd)
 clear hrd
 go_upto_region 11 with fail
 refine gen_world (fun W5 hW=>?_)
 have HB5:=tH (show Blk W5 bX _ _ by rw[hW];exact HB4.out.ext xE)
 have HW5:=tH (show Row w.heap.size W5 9 1 sCell _ xs by rw[hW];exact HW4.out.ext xE)
 have HR5:=tH (show Blk W5 w.heap.size _ _ by rw[hW];exact HR4.out.ext xE)
 have HX5:=tH (show Ext w W5 by rw[hW];exact HX4.out.trans xE)
 obtain⟨bA,hbA⟩:∃ bA,(W4.plus X5).heap.size=bA:=⟨_,rfl⟩
 have HA5:=tH (show Blk W5 bA [(.int .i64 lv),(.int .i64 st),(.int .i64 cd)] 71 by rw[hW];exact Blk.new (cs:=#[(.int .i64 lv),(.int .i64 st),(.int .i64 cd)]) hbA.symm)
 simp only[World.size_plus] at hbA
 rw[hbA]
 clear hW hbA HB4 HW4 HR4 HX4 ho hc0 hc1
 have a0:W5.cell? ⟨bA,0,none⟩=some (.int .i64 lv):=HA5.out.cell 0
 have a1:W5.cell? ⟨bA,1,none⟩=some (.int .i64 st):=HA5.out.cell 1
 have a2:W5.cell? ⟨bA,2,none⟩=some (.int .i64 cd):=HA5.out.cell 2
 have ao:=HA5.out.old
 by_cases hcd:cd=0
 case neg =>
  have hcb:(cd != 0)=true:=by simp[hcd]
  have HNO:=tH (show okW (splitL 32 (dl t))=false by
   rw[HEQ.out];exact okW_lab HK.out (by rw[HRD.out];exact hcd))
  clear hcd
  go_upto_region 12 with fail
  clear a0 a1 a2 ao
  have b0:W5.cell? ⟨bX,0,none⟩=some (.string xs[0]):=HB5.out.cell 0
  have b1:W5.cell? ⟨bX,1,none⟩=some (.int .i64 0):=HB5.out.cell 1
  have b2:W5.cell? ⟨bX,2,none⟩=some (.int .i64 0):=HB5.out.cell 2
  have b3:W5.cell? ⟨bX,3,none⟩=some (.slice none 0 0):=HB5.out.cell 3
  have bo:=HB5.out.old
  have bf:=HB5.out.fz
  have r0:W5.cell? ⟨w.heap.size,0,none⟩=some (.string ⟨#[]⟩):=HR5.out.cell 0
  have r1:W5.cell? ⟨w.heap.size,1,none⟩=some (.int .i64 0):=HR5.out.cell 1
  have r2:W5.cell? ⟨w.heap.size,2,none⟩=some (.int .i64 0):=HR5.out.cell 2
  have r3:W5.cell? ⟨w.heap.size,3,none⟩=some (.slice none 0 0):=HR5.out.cell 3
  have ro:=HR5.out.old
  have rf:=HR5.out.fz
  go_wp2
  have hC:=set4_chgM W5 w.heap.size (.string xs[0]) (.int .i64 0) (.int .i64 0) (.slice none 0 0)
  exact bodyPost_ret (v:=.tuple #[.agg #[.string xs[0],(.int .i64 0),(.int .i64 0),.slice none 0 0],.bool false]) (by simp[results,Tryz.results17,go_sem,r0,r1,r2,r3]) rfl ⟨xs[0],⟨_,_⟩,none,0,List.replicate 0 0,by rw[HNO.out,List.length_replicate],hC.ext HX5.out (by simp),fun h=>by rw[HNO.out] at h;cases h⟩
 subst hcd
 have b0:W5.cell? ⟨bX,0,none⟩=some (.string xs[0]):=HB5.out.cell 0
 have b1:W5.cell? ⟨bX,1,none⟩=some (.int .i64 0):=HB5.out.cell 1
 have b2:W5.cell? ⟨bX,2,none⟩=some (.int .i64 0):=HB5.out.cell 2
 have b3:W5.cell? ⟨bX,3,none⟩=some (.slice none 0 0):=HB5.out.cell 3
 have bo:=HB5.out.old
 have bf:=HB5.out.fz
 go_upto_region 14 with fail
 refine gen_world (fun W6 hW=>?_)
 have hC:Chg [bX] W5 W6:=by rw[hW];exact set2_chgM _ _ _ _
 have HBL:Hid (Blk W6 bX [.string xs[0],(.int .i64 lv),(.int .i64 st),.slice none 0 0] 50):=tH (by rw[hW];exact(HB5.out.set 1 (.int .i64 lv)).set 2 (.int .i64 st))
 have HWL:=tH (rowM_chg HW5.out HB5.out (by decide) hC)
 have HRL:=tH (HR5.out.chg hC (by have:=HWB.out;simp;omega))
 have HXL:=tH (hC.ext HX5.out (by have:=HWB.out;simp;omega))
 clear hW hC a0 a1 a2 ao HA5 HB5 HW5 HR5 HX5
 clear b0 b1 b2 b3 bo bf
 obtain⟨ho,hc0⟩:=str_at (row_rc (f:=sCell) (fun _=>rfl) HWL.out) h0
 rw[Nat.add_zero] at hc0
 go_wp2
 go_loopw [9] (fun i wr=>∃ (j:Nat) (na:Option Addr) (nc:Nat),2≤j∧j≤xs.length∧i=(.int .i64 (j:Int))∧Hid (Blk wr bX [.string xs[0],(.int .i64 lv),(.int .i64 st),.slice na (nmJ 2 xs j).length nc] 50)∧Hid (Row w.heap.size wr 2 1 intCell (.slice na (nmJ 2 xs j).length nc) (nmJ 2 xs j))∧Hid (Row w.heap.size wr 9 1 sCell (.slice (some ⟨bW,oW,none⟩) xs.length xc) xs)∧Hid (Blk wr w.heap.size [.string ⟨#[]⟩,(.int .i64 0),(.int .i64 0),.slice none 0 0] 50)∧Hid (∀ n∈nmJ 2 xs j,0≤n∧I64 n)∧Hid (Ext w wr)) (fun i _=>xs.length-(intOf i).toNat)
 case atStart=>exact⟨2,none,0,Nat.le_refl _,(by first | omega | (have h22:=H2.out;omega)),rfl,tH (by rw[nmJ_nil];exact HBL.out),tH (by rw[nmJ_nil];exact Row.nil _ _ _ _ _),HWL,HRL,tH (by rw[nmJ_nil];simp),HXL⟩
 case round =>
  clear HBL HWL HRL HXL ho hc0
  obtain⟨j,na,nc,hF,hj,rfl,HB,HN,HW,HR,HP,HX⟩:=hrel
  by_cases hlt:j < xs.length
  ·obtain⟨ho,hcj⟩:=str_at (row_rc (f:=sCell) (fun _=>rfl) HW.out) hlt
   go_wp2_with fail
   refine(l08Num_any xs[j] _ (HZX.out _ (List.getElem_mem hlt))).mono ?_
   rintro e _ ⟨rfl,X5,rfl⟩
   obtain⟨n,hn⟩:∃ n,numW xs[j].data.toList=n:=⟨_,rfl⟩
   rw[hn]
   have HNJ:=tH hn
   clear hn ho hcj
   have HB5:=tH (HB.out.ext ((Ext.refl wr).plus X5))
   have HN5:=tH (HN.out.ext ((Ext.refl wr).plus X5))
   have HW5:=tH (HW.out.ext ((Ext.refl wr).plus X5))
   have HR5:=tH (HR.out.ext ((Ext.refl wr).plus X5))
   have HX5:=tH (HX.out.trans ((Ext.refl wr).plus X5))
   generalize wr.plus X5=W5 at HB5 HN5 HW5 HR5 HX5 ⊢
   clear HB HN HW HR HX
   have hsz:=tH HX5.out.below.size
   by_cases h0n:0≤n
   case neg =>
    have hb:decide (n < 0)=true:=decide_eq_true (by omega)
    have HNO:=tH (show okW (splitL 32 (dl t))=false by
     rw[HEQ.out]
     (exact okW_num HK.out (mem_drop9 hF hlt) (by intro h5;have h6:=HNJ.out;exact h0n (h6▸h5))))
    clear h0n
    have b0:W5.cell? ⟨bX,0,none⟩=some (.string xs[0]):=HB5.out.cell 0
    have b1:W5.cell? ⟨bX,1,none⟩=some (.int .i64 lv):=HB5.out.cell 1
    have b2:W5.cell? ⟨bX,2,none⟩=some (.int .i64 st):=HB5.out.cell 2
    have b3:W5.cell? ⟨bX,3,none⟩=some (.slice na (nmJ 2 xs j).length nc):=HB5.out.cell 3
    have bo:=HB5.out.old
    have bf:=HB5.out.fz
    have r0:W5.cell? ⟨w.heap.size,0,none⟩=some (.string ⟨#[]⟩):=HR5.out.cell 0
    have r1:W5.cell? ⟨w.heap.size,1,none⟩=some (.int .i64 0):=HR5.out.cell 1
    have r2:W5.cell? ⟨w.heap.size,2,none⟩=some (.int .i64 0):=HR5.out.cell 2
    have r3:W5.cell? ⟨w.heap.size,3,none⟩=some (.slice none 0 0):=HR5.out.cell 3
    have ro:=HR5.out.old
    have rf:=HR5.out.fz
    go_wp2
    have hC:=set4_chgM W5 w.heap.size (.string xs[0]) (.int .i64 lv) (.int .i64 st) (.slice na (nmJ 2 xs j).length nc)
    exact bodyPost_ret (v:=.tuple #[.agg #[.string xs[0],(.int .i64 lv),(.int .i64 st),.slice na (nmJ 2 xs j).length nc],.bool false]) (by simp[results,Tryz.results17,go_sem,r0,r1,r2,r3]) rfl ⟨xs[0],⟨_,_⟩,na,nc,List.replicate (nmJ 2 xs j).length 0,by rw[HNO.out,List.length_replicate],hC.ext HX5.out (by simp),fun h=>by rw[HNO.out] at h;cases h⟩
   have hb:decide (n < 0)=false:=decide_eq_false (by omega)
   have hnj:(nmJ 2 xs j).length≤8001:=by unfold nmJ;rw[List.length_map,List.length_drop,List.length_take];omega
   have HST:=tH (show nmJ 2 xs (j+1)=nmJ 2 xs j++[n] by rw[nmJ_step hF hlt];rw[show numW (dl xs[j])=n from HNJ.out])
   have b0:W5.cell? ⟨bX,0,none⟩=some (.string xs[0]):=HB5.out.cell 0
   have b1:W5.cell? ⟨bX,1,none⟩=some (.int .i64 lv):=HB5.out.cell 1
   have b2:W5.cell? ⟨bX,2,none⟩=some (.int .i64 st):=HB5.out.cell 2
   have b3:W5.cell? ⟨bX,3,none⟩=some (.slice na (nmJ 2 xs j).length nc):=HB5.out.cell 3
   have bo:=HB5.out.old
   have bf:=HB5.out.fz
   go_wp2_with (at_builtin;go_must (refine Row.appN (f:=intCell) el_Int rfl _ _ rfl w.heap.size (by simpa using hsz.out) _ (nmJ 2 xs j) rfl HN5.out n rfl _ ?_ rfl (fun _=>rfl) ?_ ?_ ?_ ?_);(simp);(simp[Value.oneCell']);(unfold maxLen;omega);(omega);intro v' w8 hR8 hc8;obtain⟨ra,rcc,rfl⟩:=hR8.shape;have HR8:=tH hR8;have HC8:=tH hc8;have HB8:=tH (blkM_row HB5.out HN5.out (by decide) hc8);clear hR8 hc8;clear b0 b1 b2 b3 bo bf;have c3:w8.cell? ⟨bX,3,none⟩=some (.slice na (nmJ 2 xs j).length nc):=HB8.out.cell 3;have co:=HB8.out.old;have cf:=HB8.out.fz)
   have hC1:Chg [bX] w8 (w8.setCell ⟨bX,3,none⟩ (.slice ra ((nmJ 2 xs j).length+1) rcc)):=(Chg.refl _ _).setCell (.inl (by simp)) _
   have hl1:(nmJ 2 xs j++[n]).length=(nmJ 2 xs j).length+1:=by simp
   exact⟨⟨j+1,ra,rcc,by omega,by omega,by go_num,tH (by rw[HST.out,hl1];exact HB8.out.set 3 _),tH (by rw[HST.out];exact rowM_chg HR8.out HB8.out (by decide) hC1),tH (rowM_chg (rowM_two HW5.out HN5.out (by decide) HC8.out) HB8.out (by decide) hC1),tH ((blkM_row HR5.out HN5.out (by decide) HC8.out).chg hC1 (by have:=HWB.out;simp;omega)),tH (by
    rw[HST.out]
    intro x hx
    rcases List.mem_append.1 hx with hx | hx
    ·exact HP.out x hx
    ·obtain rfl:=List.mem_singleton.1 hx;exact⟨h0n,by rw[← HNJ.out];exact numW_i64 (by rw[HNJ.out];exact h0n)⟩),tH (hC1.ext (HC8.out.ext HX5.out (fun b hb=>(HN5.out.blk b hb).1)) (by have:=HWB.out;simp;omega))⟩,by simp[intOf];omega⟩
  obtain rfl:j=xs.length:=by omega
  clear hlt hj hF
  have HC0:=tH (str_at (row_rc (f:=sCell) (fun _=>rfl) HW.out) h0).2
  have hne9:=tH (show bX≠w.heap.size∧bW≠w.heap.size from by
   refine⟨by have:=HWB.out;omega,fun e=>?_⟩
   have h1:=HW.out.type bW (by simp[blkL])
   rw[e] at h1
   obtain⟨c1,h1⟩:=h1
   have h2:=HR.out
   unfold Blk at h2
   rw[h1] at h2;simp at h2)
  obtain⟨NL,hNL⟩:∃ NL,nmJ 2 xs xs.length=NL:=⟨_,rfl⟩
  have HNL:=tH hNL
  rw[hNL] at HB HN HP
  clear hNL
  go_upto_region 21 with fail
  refine wp_region_i 14 (StI wr w.heap.size [.string ⟨#[]⟩,(.int .i64 0),(.int .i64 0),.slice none 0 0] [.string xs[0],(.int .i64 lv),(.int .i64 st),.slice na NL.length nc] 50 12 [some (.agg #[.string xs[0],(.int .i64 lv),(.int .i64 st),.slice na NL.length nc]),some (.slice (some ⟨bW,oW,none⟩) xs.length xc),some (.pointer (some ⟨bW,oW,none⟩)),some (.string xs[0]),some (.bool true),some (.bool true),none,none,none,none,none,some (.bool true),none,some (.bool true)]) (by kernel_rfl) (by kernel_rfl) (by kernel_rfl) (fun vs=>?_) (fun vs=>StI.start (Ext.refl _).drew HR.out)
  refine IReg.step 1 rfl (fun L w' hI hL hj=>?_) ?_
  ·(have hB:=HB.out.chg hI.c (by have:=hne9.out.1;simpa using this);have b0:w'.cell? ⟨bX,0,none⟩=some (.string xs[0]):=hB.cell 0;have b1:w'.cell? ⟨bX,1,none⟩=some (.int .i64 lv):=hB.cell 1;have b2:w'.cell? ⟨bX,2,none⟩=some (.int .i64 st):=hB.cell 2;have b3:w'.cell? ⟨bX,3,none⟩=some (.slice na NL.length nc):=hB.cell 3;have bo:=hB.old;clear hB)
   have HI:=tH hI
   clear hI hL hj
   go_wp2
   exact HI.out.put (n:=0) (by decide) (fun u hu=>some_eq9 hu) xE
  (conv in (Act.put _ _ _)=>simp only[Act.put,List.setIfInBounds_toArray,List.set_cons_succ,List.set_cons_zero])
  refine IReg.step 2 rfl (fun L w' hI hL hj=>?_) ?_
  ·skip
   have HI:=tH hI
   clear hI hL hj
   go_wp2
   exact HI.out.put (n:=1) (by decide) (fun u hu=>some_eq9 hu) xE
  (conv in (Act.put _ _ _)=>simp only[Act.put,List.setIfInBounds_toArray,List.set_cons_succ,List.set_cons_zero])
  refine IReg.step 3 rfl (fun L w' hI hL hj=>?_) ?_
  ·(rw[show vs 1=_ from hI.k 1 _ rfl (hj 1 (by decide) (by kernel_rfl))])
   have HI:=tH hI
   clear hI hL hj
   go_wp2
   exact HI.out.put (n:=2) (by decide) (fun u hu=>some_eq9 hu) xE
  (conv in (Act.put _ _ _)=>simp only[Act.put,List.setIfInBounds_toArray,List.set_cons_succ,List.set_cons_zero])
  refine IReg.step 4 rfl (fun L w' hI hL hj=>?_) ?_
  ·((rw[show vs 2=_ from hI.k 2 _ rfl (hj 2 (by decide) (by kernel_rfl))]);obtain⟨q0,q1⟩:=hI.cell HC0.out hne9.out.2;rw[Nat.add_zero] at q0)
   have HI:=tH hI
   clear hI hL hj
   go_wp2
   exact HI.out.put (n:=3) (by decide) (fun u hu=>some_eq9 hu) xE
  (conv in (Act.put _ _ _)=>simp only[Act.put,List.setIfInBounds_toArray,List.set_cons_succ,List.set_cons_zero])
  refine IReg.step 5 rfl (fun L w' hI hL hj=>?_) ?_
  ·(rw[show vs 3=_ from hI.k 3 _ rfl (hj 3 (by decide) (by kernel_rfl))])
   have HI:=tH hI
   clear hI hL hj
   go_wp2
   exact HI.out.put (n:=4) (by decide) (fun u hu=>some_eq9 hu) xE
  (conv in (Act.put _ _ _)=>simp only[Act.put,List.setIfInBounds_toArray,List.set_cons_succ,List.set_cons_zero])
  refine IReg.step 6 rfl (fun L w' hI hL hj=>?_) ?_
  ·(rw[show vs 4=_ from hI.k 4 _ rfl (hj 4 (by decide) (by kernel_rfl))])
   have HI:=tH hI
   clear hI hL hj
   go_wp2
   exact HI.out.put (n:=5) (by decide) (fun u hu=>some_eq9 hu) xE
  (conv in (Act.put _ _ _)=>simp only[Act.put,List.setIfInBounds_toArray,List.set_cons_succ,List.set_cons_zero])
  refine IReg.step 7 rfl (fun L w' hI hL hj=>?_) ?_
  ·(rw[show vs 5=_ from hI.k 5 _ rfl (hj 5 (by decide) (by kernel_rfl))])
   have HI:=tH hI
   clear hI hL hj
   go_wp2
   exact HI.out.put (n:=6) (by decide) (fun u hu=>by cases hu) xE
  (conv in (Act.put _ _ _)=>simp only[Act.put,List.setIfInBounds_toArray,List.set_cons_succ,List.set_cons_zero])
  refine IReg.step 8 rfl (fun L w' hI hL hj=>?_) ?_
  ·(rw[show vs 5=_ from hI.k 5 _ rfl (hj 5 (by decide) (by kernel_rfl))])
   have HI:=tH hI
   clear hI hL hj
   go_wp2
   exact HI.out.put (n:=7) (by decide) (fun u hu=>by cases hu) xE
  (conv in (Act.put _ _ _)=>simp only[Act.put,List.setIfInBounds_toArray,List.set_cons_succ,List.set_cons_zero])
  refine IReg.step 9 rfl (fun L w' hI hL hj=>?_) ?_
  ·(rw[show vs 5=_ from hI.k 5 _ rfl (hj 5 (by decide) (by kernel_rfl))])
   have HI:=tH hI
   clear hI hL hj
   go_wp2
   exact HI.out.put (n:=8) (by decide) (fun u hu=>by cases hu) xE
  (conv in (Act.put _ _ _)=>simp only[Act.put,List.setIfInBounds_toArray,List.set_cons_succ,List.set_cons_zero])
  refine IReg.step 10 rfl (fun L w' hI hL hj=>?_) ?_
  ·(rw[show vs 5=_ from hI.k 5 _ rfl (hj 5 (by decide) (by kernel_rfl))])
   have HI:=tH hI
   clear hI hL hj
   go_wp2
   exact HI.out.put (n:=9) (by decide) (fun u hu=>by cases hu) xE
  (conv in (Act.put _ _ _)=>simp only[Act.put,List.setIfInBounds_toArray,List.set_cons_succ,List.set_cons_zero])
  refine IReg.step 11 rfl (fun L w' hI hL hj=>?_) ?_
  ·(rw[show vs 5=_ from hI.k 5 _ rfl (hj 5 (by decide) (by kernel_rfl))])
   have HI:=tH hI
   clear hI hL hj
   go_wp2
   exact HI.out.put (n:=10) (by decide) (fun u hu=>by cases hu) xE
  (conv in (Act.put _ _ _)=>simp only[Act.put,List.setIfInBounds_toArray,List.set_cons_succ,List.set_cons_zero])
  refine IReg.step 12 rfl (fun L w' hI hL hj=>?_) ?_
  ·(rw[show vs 5=_ from hI.k 5 _ rfl (hj 5 (by decide) (by kernel_rfl))])
   have HI:=tH hI
   clear hI hL hj
   go_wp2
   exact HI.out.put (n:=11) (by decide) (fun u hu=>some_eq9 hu) xE
  (conv in (Act.put _ _ _)=>simp only[Act.put,List.setIfInBounds_toArray,List.set_cons_succ,List.set_cons_zero])
  refine IReg.step 13 rfl (fun L w' hI hL hj=>?_) ?_
  ·(rw[show vs 0=_ from hI.k 0 _ rfl (hj 0 (by decide) (by kernel_rfl))])
   have hB:=hI.x0 hL
   have r0:w'.cell? ⟨w.heap.size,0,none⟩=some (.string ⟨#[]⟩):=hB.cell 0
   have r1:w'.cell? ⟨w.heap.size,1,none⟩=some (.int .i64 0):=hB.cell 1
   have r2:w'.cell? ⟨w.heap.size,2,none⟩=some (.int .i64 0):=hB.cell 2
   have r3:w'.cell? ⟨w.heap.size,3,none⟩=some (.slice none 0 0):=hB.cell 3
   have ro:=hB.old
   have rf:=hB.fz
   have HB9:=tH hB
   have HI:=tH hI
   clear hI hL hj hB
   go_wp2
   exact⟨undef,HI.out.st (fun u hu=>by cases hu) (set4_chgM _ _ _ _ _ _) ((((HB9.out.set 0 (.string xs[0])).set 1 (.int .i64 lv)).set 2 (.int .i64 st)).set 3 (.slice na NL.length nc))⟩
  (conv in (Act.put _ _ _)=>simp only[Act.put,List.setIfInBounds_toArray,List.set_cons_succ,List.set_cons_zero])
  refine IReg.step 14 rfl (fun L w' hI hL hj=>?_) ?_
  ·(rw[show vs 11=_ from hI.k 11 _ rfl (hj 11 (by decide) (by kernel_rfl))])
   have HI:=tH hI
   clear hI hL hj
   go_wp2
   exact HI.out.put (n:=13) (by decide) (fun u hu=>some_eq9 hu) xE
  (conv in (Act.put _ _ _)=>simp only[Act.put,List.setIfInBounds_toArray,List.set_cons_succ,List.set_cons_zero])
  refine IReg.done (fun L w9 hL hI=>?_)
  simp only[List.drop_succ_cons,List.drop_zero]
  rw[show vs 13=.bool true from hI.k 13 _ rfl (hL 13 (by decide))]
  have HR9:=tH (hI.x1 (hL 12 (by decide)))
  have HX9:=tH (hI.c.ext HX.out (by simp))
  have HN9:=tH (rowM_chg HN.out HR.out (by decide) hI.c)
  clear hI hL
  have r0:w9.cell? ⟨w.heap.size,0,none⟩=some (.string xs[0]):=HR9.out.cell 0
  have r1:w9.cell? ⟨w.heap.size,1,none⟩=some (.int .i64 lv):=HR9.out.cell 1
  have r2:w9.cell? ⟨w.heap.size,2,none⟩=some (.int .i64 st):=HR9.out.cell 2
  have r3:w9.cell? ⟨w.heap.size,3,none⟩=some (.slice na NL.length nc):=HR9.out.cell 3
  have ro:=HR9.out.old
  have HND:=tH (show NL=((xs.map dl).drop 2).map numW by rw[← HNL.out,nmJ_all])
  have HOK:=tH (show okW (splitL 32 (dl t))=true by
   rw[HEQ.out]
   refine okW_all HK.out ?_ (by rw[HRD.out]) (fun x hx=>(HP.out (numW x) (by rw[HND.out];exact List.mem_map_of_mem hx)).1)
   have h1:=HMW.out
   have h2:=HL.out
   rw[List.length_map];omega)
  have HL9:=tH (show labW (splitL 32 (dl t))=⟨lv,st⟩ by rw[← HE.out];unfold labW;rw[if_neg HK.out,HRD.out])
  have HM9:=tH (show numsW (splitL 32 (dl t))=NL by rw[← HE.out];unfold numsW;rw[if_neg HK.out,HND.out])
  go_wp2
  exact bodyPost_ret (v:=.tuple #[.agg #[.string xs[0],(.int .i64 lv),(.int .i64 st),.slice na NL.length nc],.bool true]) (by simp[results,Tryz.results17,go_sem,r0,r1,r2,r3]) rfl ⟨xs[0],⟨lv,st⟩,na,nc,NL,by rw[HOK.out],HX9.out,fun _=>⟨by rw[← HE.out];exact HG0.out.symm,HL9.out.symm,HM9.out.symm,row_intM HN9.out (fun x hx=>(HP.out x hx).2)⟩⟩
end Go.Proofs.YtbmbanelodabgaaGreatDoor
