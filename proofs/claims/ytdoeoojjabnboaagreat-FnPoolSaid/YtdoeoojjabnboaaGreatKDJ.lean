/- The draw of a job. -/
import Derived.Test.YtdoeoojjabnboaaGreatKLL
import Derived.Test.YtdoeoojjabnboaaGreatKVBC
import Derived.Test.YtdoeoojjabnboaaGreatKJA1
import Derived.Test.YtdoeoojjabnboaaGreatKQJ
set_option maxRecDepth 100000
set_option linter.unusedVariables false
namespace Go.Proofs.YtdoeoojjabnboaaGreat
open Go.RowKit Go.Fin1
structure JbD (j:Jb) (n:Nat):Prop where
 ok:j.ok
 nd:∀ x∈j.nodes,I64 x
 ln:j.nodes.length≤n
theorem JbD.fit {j:Jb} {n:Nat} (h:JbD j n):j.fit:=⟨h.ok,h.nd⟩
theorem JbD.le {j:Jb} {n m:Nat} (h:JbD j n) (hm:n≤m):JbD j m:=⟨h.ok,h.nd,Nat.le_trans h.ln hm⟩
structure JdS (w:World) (g:Nat) (cv:Value) (l:List Int) (W:World) (b:Nat) (j:Jb) (nv:Value):Prop where
 c:Chg [g] w W
 s:SrcA W g cv l
 r:Blk W w.heap.size [(.int .i64 0),(.int .i64 0),(.int .i64 0),(.int .i64 0),(.int .i64 0),(.int .i64 0),(.int .i64 0),(.int .i64 0),.slice none 0 0] 48
 bx:Blk W b (j.cells nv) 48
 n:Row w.heap.size W 2 1 intCell nv j.nodes
 lt:w.heap.size < b
theorem row_box {W W':World} {B b:Nat} {cs:List Value} {ty:TypeId} {v:Value} {xs:List Int} (h:Row B W 2 1 intCell v xs) (hb:Blk W b cs ty) (ht:ty≠2) (hx:Chg [b] W W'):Row B W' 2 1 intCell v xs:=h.chg hx fun x hx hm=>by
 obtain⟨cur,hc⟩:=h.type x hx
 simp at hm;subst hm
 unfold Blk at hb
 rw[hc] at hb
 simp at hb
 exact ht hb.2.symm
theorem JdS.src {w:World} {g:Nat} {cv:Value} {l:List Int} {W W':World} {b:Nat} {j:Jb} {nv:Value} (h:JdS w g cv l W b j nv) (hg:g < w.heap.size) (hc:Chg [g] W W') (hs:SrcA W' g cv l):JdS w g cv l W' b j nv :=
 ⟨h.c.trans hc,hs,h.r.chg hc (by simp;omega),h.bx.chg hc (by have:=h.lt;simp;omega),h.n.chg hc (fun x hx=>by have:=(h.n.blk x hx).1;simp;omega),h.lt⟩
theorem JdS.store {w:World} {g:Nat} {cv:Value} {l:List Int} {W W':World} {b:Nat} {j:Jb} {nv:Value} (h:JdS w g cv l W b j nv) (h0:SrcA w g cv l) (hc:Chg [b] W W') {j':Jb} (hb:Blk W' b (j'.cells nv) 48) (hn:j'.nodes=j.nodes):JdS w g cv l W' b j' nv:=by
 have hlt:=h.lt
 exact⟨h.c.past hc (by simp;omega),h.s.chg h0 hc (by simp;omega),h.r.chg hc (by simp;omega),hb,by rw[hn];exact row_box h.n h.bx (by decide) hc,h.lt⟩
theorem JdS.nodes {w:World} {g:Nat} {cv:Value} {l:List Int} {W W' W2:World} {b:Nat} {j:Jb} {nv nv':Value} (h:JdS w g cv l W b j nv) (h0:SrcA w g cv l) (hc:Chg (blkL nv) W W') {x:Int} (hn:Row w.heap.size W' 2 1 intCell nv' (j.nodes++[x])) (hc2:Chg [b] W' W2) {j':Jb} (hb:Blk W' b (j.cells nv) 48→Blk W2 b (j'.cells nv') 48) (hj:j'.nodes=j.nodes++[x]):JdS w g cv l W2 b j' nv':=by
 have hlt:=h.lt
 have hbn:∀ {c:Nat} {cs:List Value},Blk W c cs 48→c∉blkL nv:=fun {c cs} hk hm=>by
  obtain⟨cur,hcur⟩:=h.n.type _ hm
  unfold Blk at hk
  rw[hcur] at hk
  simp at hk
 have hb1:=h.bx.chg hc (hbn h.bx)
 exact⟨(h.c.past hc (fun y hy=>(h.n.blk y hy).1)).past hc2 (by simp;omega),(h.s.chg h0 hc (fun y hy=>(h.n.blk y hy).1)).chg h0 hc2 (by simp;omega),(h.r.chg hc (hbn h.r)).chg hc2 (by simp;omega),hb hb1,by rw[hj];exact row_box hn hb1 (by decide) hc2,h.lt⟩
theorem set1_chg (w:World) (g k:Nat) (u:Value):Chg [g] w (w.setCell ⟨g,k,none⟩ u):=(Chg.refl _ _).setCell (.inl (by simp)) _
theorem set9_chg (w:World) (g:Nat) (u0 u1 u2 u3 u4 u5 u6 u7 u8:Value):Chg [g] w (((((((((w.setCell ⟨g,0,none⟩ u0).setCell ⟨g,1,none⟩ u1).setCell ⟨g,2,none⟩ u2).setCell ⟨g,3,none⟩ u3).setCell ⟨g,4,none⟩ u4).setCell ⟨g,5,none⟩ u5).setCell ⟨g,6,none⟩ u6).setCell ⟨g,7,none⟩ u7).setCell ⟨g,8,none⟩ u8) :=
 (((((((((Chg.refl _ _).setCell (.inl (by simp)) _).setCell (.inl (by simp)) _).setCell (.inl (by simp)) _).setCell (.inl (by simp)) _).setCell (.inl (by simp)) _).setCell (.inl (by simp)) _).setCell (.inl (by simp)) _).setCell (.inl (by simp)) _).setCell (.inl (by simp)) _
theorem JbD.state {j:Jb} {n:Nat} (h:JbD j n) {v:Int} (hv:I64 v):JbD { j with state:=v } n:=by obtain⟨h1,h2,h3,h4,h5,h6,h7⟩:=h.ok;exact⟨⟨h1,h2,h3,h4,h5,hv,h7⟩,h.nd,h.ln⟩
theorem JbD.start {j:Jb} {n:Nat} (h:JbD j n) {v:Int} (hv:I64 v):JbD { j with start:=v } n:=by obtain⟨h1,h2,h3,h4,h5,h6,h7⟩:=h.ok;exact⟨⟨h1,h2,h3,h4,h5,h6,hv⟩,h.nd,h.ln⟩
theorem JbD.long {j:Jb} {n:Nat} (h:JbD j n) {v:Int} (hv:I64 v):JbD { j with long:=v } n:=by obtain⟨h1,h2,h3,h4,h5,h6,h7⟩:=h.ok;exact⟨⟨h1,h2,h3,hv,h5,h6,h7⟩,h.nd,h.ln⟩
theorem JbD.id {j:Jb} {n:Nat} (h:JbD j n) {v:Int} (hv:I64 v):JbD { j with id:=v } n:=by obtain⟨h1,h2,h3,h4,h5,h6,h7⟩:=h.ok;exact⟨⟨h1,hv,h3,h4,h5,h6,h7⟩,h.nd,h.ln⟩
theorem JbD.snoc {j:Jb} {n:Nat} (h:JbD j n) {v:Int} (hv:I64 v):JbD { j with nodes:=j.nodes++[v] } (n+1):=⟨h.ok,fun x hx=>by
 rcases List.mem_append.1 hx with hx | hx
 ·exact h.nd x hx
 ·obtain rfl:=List.mem_singleton.1 hx;exact hv,by show (j.nodes++[v]).length≤n+1;have:=h.ln;simp;omega⟩
theorem i64_nat {n m:Nat} (h:n≤m) (hm:m≤1000):I64 (n:Int):=by unfold I64;omega
theorem JdS.farN {w:World} {g:Nat} {cv:Value} {l:List Int} {W:World} {b:Nat} {j:Jb} {nv:Value} (h:JdS w g cv l W b j nv):b∉blkL nv:=fun hm=>by
 obtain⟨cur,hcur⟩:=h.n.type _ hm
 have hb:=h.bx
 unfold Blk at hb
 rw[hcur] at hb
 simp at hb
theorem chg_past29 {S T:List Nat} {a b c:World} (h:Chg S a b) (k:Chg (S++T) b c) (hT:∀ x∈T,a.heap.size≤x):Chg S a c :=
 ⟨k.os.trans h.os,k.tape.trans h.tape,k.output.trans h.output,Nat.le_trans h.size k.size,fun i hi hs=>(k.block i (Nat.lt_of_lt_of_le hi h.size) (fun hx=>by
  rcases List.mem_append.1 hx with hx | hx
  ·exact hs hx
  ·have:=hT i hx;omega)).trans (h.block i hi hs)⟩
def kSrZ (g:Nat) (cv:Value) (l:List Int) (m:Nat) (_:Nat×Nat):XReg.Kind:=fun v u=>∃ n:Nat,n < m∧v=(.int .i64 (n:Int))∧SrcA u g cv l
theorem kSrZ_good {w0:World} {g:Nat} {cv:Value} {l:List Int} (h0:SrcA w0 g cv l) {m:Nat} (hm:0 < m) {S U V:List Nat} (hV:∀ b∈V,w0.heap.size≤b):(XReg.ZOp.A (kSrZ g cv l m) S U V).Good :=
 ⟨fun _ _ _ _ hx ⟨n,h1,h2,h3⟩=>⟨n,h1,h2,h3.chg h0 hx hV⟩,(0,0),_,w0,0,hm,rfl,h0⟩
def kOneE (B:Nat) (_:Nat×Nat):XReg.Kind:=fun v w=>∃ (n:Int) (g:Nat),v=.slice (some ⟨g,0,none⟩) 1 1∧w.cell? ⟨g,0,none⟩=some (.int .i64 n)∧I64 n∧B≤g
theorem chg_cell9 {S:List Nat} {w w':World} {b i:Nat} {u:Value} (hx:Chg S w w') (h:w.cell? ⟨b,i,none⟩=some u) (hb:b∉S):w'.cell? ⟨b,i,none⟩=some u:=by
 have hlt:=World.block_lt_of_cell? w _ h
 simp only[World.cell?,hx.block b hlt hb] at h ⊢
 exact h
theorem kOneE_good (B:Nat) {S U V:List Nat} (hV:∀ b∈V,b < B):(XReg.ZOp.A (kOneE B) S U V).Good :=
 ⟨fun x v w w' hx ⟨n,g,hv,hc,hn,hB⟩=>⟨n,g,hv,chg_cell9 hx hc (fun hb=>by have:=hV _ hb;omega),hn,hB⟩,
  (0,0),_,(emptyG B).alloc (.cells #[(.int .i64 0)] 2),0,(emptyG B).heap.size,rfl,by rw[World.cell?_alloc_new];rfl,by unfold I64;omega,by rw[emptyG_size];exact Nat.le_refl _⟩
def kRowE (B:Nat) (xs:List Int) (_:Nat×Nat):XReg.Kind:=fun v w=>∃ n:Int,I64 n∧Row B w 2 1 intCell v (xs++[n])
theorem kRowE_good (B:Nat) {xs:List Int} {S U:List Nat} (hm:xs.length+1≤maxLen):(XReg.ZOp.A (kRowE B xs) S U []).Good :=
 ⟨fun x v w w' hx ⟨n,hn,h⟩=>⟨n,hn,Row.ext hx.ext0 h⟩,
  (0,0),.slice (some ⟨(emptyG B).heap.size,0,none⟩) (xs++[0]).length (xs++[0]).length,(emptyG B).alloc (.cells ((xs++[0]).flatMap intCell).toArray 2),0,by unfold I64;omega,
  Row.mono (B:=(emptyG B).heap.size) ⟨flatMap_len (K:=1) (fun _=>rfl) (xs++[0]),.inr ⟨_,(xs++[0]).length,_,rfl,Nat.le_refl _,heap_alloc_new (emptyG B) _,Nat.le_refl _,by simpa using hm,(by rw[List.size_toArray,flatMap_len (f:=intCell) (K:=1) (fun _=>rfl) (xs++[0])]),List.take_of_length_le (Nat.le_of_eq (flatMap_len (f:=intCell) (K:=1) (fun _=>rfl) (xs++[0])))⟩⟩ (by rw[emptyG_size];exact Nat.le_refl _)⟩
theorem flat19 {w:World} {g:Nat} {n:Int} (h:w.cell? ⟨g,0,none⟩=some (.int .i64 n)) {j:Nat} {u:Value} (hu:([n].flatMap intCell)[j]?=some u):w.cell? ((⟨g,0,none⟩:Addr).add j)=some u:=by
 cases j with
 | zero=>simp[intCell] at hu;subst hu;rw[Addr.add_lit];exact h
 | succ j=>simp[intCell] at hu
theorem subL_l9 (a b:List Nat):XReg.subL a (a++b):=fun _ h=>List.mem_append_left _ h
theorem subL_r9 (a b:List Nat):XReg.subL b (a++b):=fun _ h=>List.mem_append_right _ h
set_option maxHeartbeats 3200000 in
theorem srcJob_any (g:Nat) (w:World) (cv:Value) (l:List Int) (h:SrcA w g cv l) :
  Calls Tryz.prog 92 #[.pointer (some ⟨g,0,none⟩)] w fun e w'=>∃ (j:Jb) (nv:Value),e=.returned (j.val nv)∧Chg [g] w w'∧SrcA w' g cv l∧Row w.heap.size w' 2 1 intCell nv j.nodes∧JbD j 4:=by
 have HS:=tH h
 have HG:=tH h.old
 clear h
 have H2:Hid (I64 2):=tH (by unfold I64;omega)
 have H3:Hid (I64 3):=tH (by unfold I64;omega)
 have H4:Hid (I64 4):=tH (by unfold I64;omega)
 have H5:Hid (I64 5):=tH (by unfold I64;omega)
 have H6:Hid (I64 6):=tH (by unfold I64;omega)
 have H7:Hid (I64 7):=tH (by unfold I64;omega)
 have H15:Hid (I64 15):=tH (by unfold I64;omega)
 go_enter Tryz.func92,Tryz.ntmps92
 go_wp2_with fail
 refine(srcLabel_any g _ cv l (HS.out.ext xE)).mono ?_
 rintro e w1 ⟨x,rfl,hx,hc,hs⟩
 have HC1:=tH (((Ext.refl w).alloc _ |>.chg [g]).trans hc)
 have HR1:=tH ((Blk.new (w:=w) (cs:=#[(.int .i64 0),(.int .i64 0),(.int .i64 0),(.int .i64 0),(.int .i64 0),(.int .i64 0),(.int .i64 0),(.int .i64 0),.slice none 0 0]) (ty:=48) rfl).chg hc (by have:=HG.out;simp;omega))
 have HA1:=tH hs
 have HX:=tH hx
 clear hc hs hx
 go_wp2_with fail
 refine(srcN' g 3 _ cv l (HA1.out.ext xE) H3.out).mono ?_
 rintro e w2 ⟨pp,rfl,hb,hc,hs⟩
 have hpp:pp < 3:=by omega
 have HC2:=tH (HC1.out.trans hc)
 have HR2:=tH (HR1.out.chg hc (by have:=HG.out;simp;omega))
 have HA2:=tH hs
 clear hc hs hb HC1 HR1 HA1
 go_wp2_with fail
 refine(srcN' g 3 _ cv l (HA2.out.ext xE) H3.out).mono ?_
 rintro e w3 ⟨qq,rfl,hb,hc,hs⟩
 have hqq:qq < 3:=by omega
 have HC3:=tH (HC2.out.trans hc)
 have HR3:=tH (HR2.out.chg hc (by have:=HG.out;simp;omega))
 have HA3:=tH hs
 clear hc hs hb HC2 HR2 HA2
 go_wp2_with fail
 refine(srcN' g 6 _ cv l (HA3.out.ext xE) H6.out).mono ?_
 rintro e w4 ⟨rr,rfl,hb,hc,hs⟩
 have hrr:rr < 6:=by omega
 have HC4:=tH (HC3.out.trans hc)
 have HR4:=tH (HR3.out.chg hc (by have:=HG.out;simp;omega))
 have HA4:=tH hs
 clear hc hs hb HC3 HR3 HA3
 go_wp2_with fail
 refine(srcN' g 4 _ cv l (HA4.out.ext xE) H4.out).mono ?_
 rintro e w5 ⟨ss,rfl,hb,hc,hs⟩
 have hss:ss < 4:=by omega
 have HC5:=tH (HC4.out.trans hc)
 have HR5:=tH (HR4.out.chg hc (by have:=HG.out;simp;omega))
 have HA5:=tH hs
 clear hc hs hb HC4 HR4 HA4
 go_wp2_with fail
 refine(srcN' g 4 _ cv l (HA5.out.ext xE) H4.out).mono ?_
 rintro e w6 ⟨t,rfl,hb,hc,hs⟩
 have ht:t < 4:=by omega
 have hg5:g < w5.heap.size:=HA5.out.old
 have HQ:=tH ((Blk.new (w:=w5) (cs:=#[(.int .i64 1),(.int .i64 1),(.int .i64 3),(.int .i64 4)]) (ty:=2) rfl).chg hc (by simp;omega))
 have hx5:Chg [g] w5 w6:=((Ext.refl w5).alloc _ |>.chg [g]).trans hc
 have HC6:=tH (HC5.out.trans hx5)
 have HR6:=tH (HR5.out.chg hx5 (by have:=HG.out;simp;omega))
 have HA6:=tH hs
 obtain⟨n,hni,hn⟩:∃ n:Int,I64 n∧([(.int .i64 1),(.int .i64 1),(.int .i64 3),(.int .i64 4)]:List Value)[t]?=some (.int .i64 n):=by
  have:t=0∨t=1∨t=2∨t=3:=by omega
  rcases this with rfl | rfl | rfl | rfl<;>(refine⟨_,?_,rfl⟩;unfold I64;omega)
 have hq0:w6.cell? ⟨w5.heap.size,t,none⟩=some (.int .i64 n):=by rw[HQ.out.cell t];exact hn
 have hqo:=HQ.out.old
 have HNI:=tH hni
 clear hc hs hb hn HQ HC5 HA5 HR5 hni hx5 hg5
 go_upto_region 2 with fail
 refine gen_world (fun W hW=>?_)
 have hlt:w.heap.size < w6.heap.size:=HR6.out.old
 have HJ0:=tH (show JdS w g cv l W w6.heap.size ⟨x,1+(pp:Int),1+(qq:Int),1+(rr:Int),(ss:Int),n,0,[]⟩ (.slice none 0 0) from
  ⟨by rw[hW];exact HC6.out.trans (Ext.chg xE _),by rw[hW];exact HA6.out.ext xE,by rw[hW];exact HR6.out.ext xE,by rw[hW];exact Blk.new rfl,Row.nil _ _ _ _ _,hlt⟩)
 have HD0:=tH (show JbD ⟨x,1+(pp:Int),1+(qq:Int),1+(rr:Int),(ss:Int),n,0,[]⟩ 0 from
  ⟨⟨HX.out,by unfold I64;dsimp only;omega,by unfold I64;dsimp only;omega,by unfold I64;dsimp only;omega,by unfold I64;dsimp only;omega,HNI.out,by unfold I64;dsimp only;omega⟩,(fun x hx=>by cases hx),Nat.le_refl _⟩)
 have HN0:=tH (show 1≤1+(qq:Int)∧1+(qq:Int)≤3 by omega)
 clear hW hlt HC6 HA6 HR6 hq0 hqo HNI HX
 generalize w6.heap.size=bJ at HJ0 ⊢
 obtain⟨j,hj⟩:∃ j:Jb,j=⟨x,1+(pp:Int),1+(qq:Int),1+(rr:Int),(ss:Int),n,0,[]⟩:=⟨_,rfl⟩
 have HN:Hid ((1≤j.need∧j.need≤3)∧j.nodes=[]):=tH (by rw[hj];exact⟨HN0.out,rfl⟩)
 have HJ:Hid (JdS w g cv l W bJ j (.slice none 0 0)):=tH (by rw[hj];exact HJ0.out)
 have HD:Hid (JbD j 0):=tH (by rw[hj];exact HD0.out)
 clear hj HJ0 HD0 HN0 hpp hqq hrr hss ht
 go_wp2_with fail
 refine(srcOne_any g 4 _ cv l HJ.out.s H4.out).mono ?_
 rintro e W1 ⟨b,rfl,hc,hs⟩
 have HJ1:=tH (HJ.out.src HG.out hc hs)
 clear hc hs HJ W
 have HJ:=HJ1
 clear HJ1
 go_upto_if 25 with (fail)
 go_cut [4] from 26 (fun s4 wc=>∃ (j:Jb) (nv:Value),Hid (JdS w g cv l wc bJ j nv)∧Hid (JbD j 3))
 case first =>
  cases b
  ·go_wp2_with fail
   go_meet
   exact⟨j,_,HJ,tH (HD.out.le (by omega))⟩
  ·have HNL:=tH (show j.nodes.length=0 by rw[HN.out.2];rfl)
   obtain⟨na,nc,hna⟩:∃ na nc,(Value.slice none 0 0:Value)=.slice na j.nodes.length nc:=⟨none,0,by rw[HNL.out]⟩
   rw[hna] at HJ
   clear hna
   have b0:W1.cell? ⟨bJ,0,none⟩=some (.int .i64 j.l.lv):=HJ.out.bx.cell 0
   have b1:W1.cell? ⟨bJ,1,none⟩=some (.int .i64 j.l.st):=HJ.out.bx.cell 1
   have b2:W1.cell? ⟨bJ,2,none⟩=some (.int .i64 j.id):=HJ.out.bx.cell 2
   have b3:W1.cell? ⟨bJ,3,none⟩=some (.int .i64 j.need):=HJ.out.bx.cell 3
   have b4:W1.cell? ⟨bJ,4,none⟩=some (.int .i64 j.long):=HJ.out.bx.cell 4
   have b5:W1.cell? ⟨bJ,5,none⟩=some (.int .i64 j.prio):=HJ.out.bx.cell 5
   have b6:W1.cell? ⟨bJ,6,none⟩=some (.int .i64 j.state):=HJ.out.bx.cell 6
   have b7:W1.cell? ⟨bJ,7,none⟩=some (.int .i64 j.start):=HJ.out.bx.cell 7
   have b8:W1.cell? ⟨bJ,8,none⟩=some (.slice na j.nodes.length nc):=HJ.out.bx.cell 8
   have bo:=HJ.out.bx.old
   have bf:=HJ.out.bx.fz
   go_upto_region 4 with fail
   refine gen_world (fun W2 hW=>?_)
   have HX9:∃ j2:Jb,Hid (JdS w g cv l W2 bJ j2 (.slice na j.nodes.length nc))∧Hid (JbD j2 0)∧j2.need=j.need∧j2.nodes=j.nodes:=⟨{ j with state:=2 },tH (HJ.out.store (W':=W2) (j':={ j with state:=2 }) HS.out (by rw[hW];exact set1_chg _ _ _ _) (by rw[hW];exact HJ.out.bx.set 6 (.int .i64 2)) rfl),tH (HD.out.state H2.out),rfl,rfl⟩
   clear b0 b1 b2 b3 b4 b5 b6 b7 b8 bo bf
   clear hW HJ HD
   obtain⟨j2,HJ2,HD2,e1,e2⟩:=HX9
   rw[← e2] at HJ2
   have HE9:=tH (And.intro e1 e2)
   clear e1 e2
   have HN2:=tH (show j2.need≤3 by rw[HE9.out.1];exact HN.out.1.2)
   clear HN HNL HE9 j
   obtain⟨j,hj2⟩:∃ j,j=j2:=⟨_,rfl⟩
   rw[← hj2] at HJ2 HD2 HN2
   have HJ:=HJ2
   have HD:=HD2
   clear HJ2 HD2
   clear hj2 j2
   go_wp2_with fail
   refine(srcN' g 5 _ cv l (HJ.out.s.ext xE) H5.out).mono ?_
   rintro e W3 ⟨ms,rfl,hb,hc,hs⟩
   have hms:ms < 5:=by omega
   have HJ3:=tH (HJ.out.src HG.out hc hs)
   clear hc hs hb HJ W2
   have HJ:=HJ3
   clear HJ3
   have b0:W3.cell? ⟨bJ,0,none⟩=some (.int .i64 j.l.lv):=HJ.out.bx.cell 0
   have b1:W3.cell? ⟨bJ,1,none⟩=some (.int .i64 j.l.st):=HJ.out.bx.cell 1
   have b2:W3.cell? ⟨bJ,2,none⟩=some (.int .i64 j.id):=HJ.out.bx.cell 2
   have b3:W3.cell? ⟨bJ,3,none⟩=some (.int .i64 j.need):=HJ.out.bx.cell 3
   have b4:W3.cell? ⟨bJ,4,none⟩=some (.int .i64 j.long):=HJ.out.bx.cell 4
   have b5:W3.cell? ⟨bJ,5,none⟩=some (.int .i64 j.prio):=HJ.out.bx.cell 5
   have b6:W3.cell? ⟨bJ,6,none⟩=some (.int .i64 j.state):=HJ.out.bx.cell 6
   have b7:W3.cell? ⟨bJ,7,none⟩=some (.int .i64 j.start):=HJ.out.bx.cell 7
   have b8:W3.cell? ⟨bJ,8,none⟩=some (.slice na j.nodes.length nc):=HJ.out.bx.cell 8
   have bo:=HJ.out.bx.old
   have bf:=HJ.out.bx.fz
   go_upto_region 5 with fail
   refine gen_world (fun W4 hW=>?_)
   have HX9:∃ j2:Jb,Hid (JdS w g cv l W4 bJ j2 (.slice na j.nodes.length nc))∧Hid (JbD j2 0)∧j2.need=j.need∧j2.nodes=j.nodes:=⟨{ j with start:=(ms:Int) },tH (HJ.out.store (W':=W4) (j':={ j with start:=(ms:Int) }) HS.out (by rw[hW];exact set1_chg _ _ _ _) (by rw[hW];exact HJ.out.bx.set 7 (.int .i64 (ms:Int))) rfl),tH (HD.out.start (i64_nat (Nat.le_of_lt hms) (by decide))),rfl,rfl⟩
   clear b0 b1 b2 b3 b4 b5 b6 b7 b8 bo bf
   clear hW HJ HD
   obtain⟨j2,HJ2,HD2,e1,e2⟩:=HX9
   rw[← e2] at HJ2
   have HE9:=tH (And.intro e1 e2)
   clear e1 e2
   have HN4:=tH (show j2.need≤3 by rw[HE9.out.1];exact HN2.out)
   clear HN2 HE9
   go_wp2
   go_loopw [4] (fun i wr=>∃ (k:Nat) (j:Jb) (nv:Value),k≤3∧i=Value.int .i64 k∧Hid (JdS w g cv l wr bJ j nv)∧Hid (JbD j k)∧Hid (j.need≤3)) (fun i _=>3-(intOf i).toNat)
   case atStart=>exact⟨0,j2,_,Nat.zero_le _,rfl,HJ2,HD2,HN4⟩
   case round =>
    clear HJ2 HD2 HN4
    obtain⟨k,j,nv,hk,rfl,HJ,HD,HN⟩:=hrel
    obtain⟨na,nc,rfl⟩:=HJ.out.n.shape
    have b0:wr.cell? ⟨bJ,0,none⟩=some (.int .i64 j.l.lv):=HJ.out.bx.cell 0
    have b1:wr.cell? ⟨bJ,1,none⟩=some (.int .i64 j.l.st):=HJ.out.bx.cell 1
    have b2:wr.cell? ⟨bJ,2,none⟩=some (.int .i64 j.id):=HJ.out.bx.cell 2
    have b3:wr.cell? ⟨bJ,3,none⟩=some (.int .i64 j.need):=HJ.out.bx.cell 3
    have b4:wr.cell? ⟨bJ,4,none⟩=some (.int .i64 j.long):=HJ.out.bx.cell 4
    have b5:wr.cell? ⟨bJ,5,none⟩=some (.int .i64 j.prio):=HJ.out.bx.cell 5
    have b6:wr.cell? ⟨bJ,6,none⟩=some (.int .i64 j.state):=HJ.out.bx.cell 6
    have b7:wr.cell? ⟨bJ,7,none⟩=some (.int .i64 j.start):=HJ.out.bx.cell 7
    have b8:wr.cell? ⟨bJ,8,none⟩=some (.slice na j.nodes.length nc):=HJ.out.bx.cell 8
    have bo:=HJ.out.bx.old
    have bf:=HJ.out.bx.fz
    by_cases hlt:(k:Int) < j.need
    ·have hltb:decide ((k:Int) < j.need)=true:=decide_eq_true hlt
     have hk3:k < 3:=by have:=HN.out;omega
     have HL9:=tH HD.out.ln
     have hsz:=tH HJ.out.c.size
     have HLT:=tH hlt
     clear hlt
     go_upto_region 7 with (at_builtin;go_must (refine Row.appN (f:=intCell) el_Int rfl _ _ rfl w.heap.size hsz.out _ j.nodes rfl HJ.out.n (k:Int) rfl _ ?_ rfl (fun _=>rfl) ?_ ?_ ?_ ?_);(simp);(simp[Value.oneCell']);(have:=HL9.out;unfold maxLen;omega);(have:=HL9.out;omega);intro v' w8 hR8 hc8;have HR8:=tH hR8;have HC8:=tH hc8;have HB8:=tH (HJ.out.bx.chg hc8 HJ.out.farN);have c8:w8.cell? ⟨bJ,8,none⟩=some (.slice na j.nodes.length nc):=HB8.out.cell 8;have co:=HB8.out.old;have cf:=HB8.out.fz;clear hR8 hc8;obtain⟨a8,c8v,rfl⟩:=HR8.out.shape)
     refine gen_world (fun W9 hW=>?_)
     have HJ9:=tH (HJ.out.nodes (W2:=W9) (j':={ j with nodes:=j.nodes++[(k:Int)] }) HS.out HC8.out HR8.out (by rw[hW];exact set1_chg _ _ _ _) (fun h=>by rw[hW];have h8:=h.set 8 (.slice a8 (j.nodes.length+1) c8v);rw[show (j.nodes++[(k:Int)]).length=j.nodes.length+1 from by simp];exact h8) rfl)
     have HD9:=tH (HD.out.snoc (i64_nat (Nat.le_of_lt hk3) (by decide)))
     clear hW c8 co cf HB8 HC8 HR8 hsz HL9 HLT
     clear b0 b1 b2 b3 b4 b5 b6 b7 b8 bo bf
     have hwk:wrap64 ((k:Int)+1)=(k:Int)+1:=by unfold wrap64;omega
     go_wp2
     exact⟨⟨k+1,_,_,by omega,by go_num,HJ9,HD9,HN⟩,by simp[intOf];omega⟩
    ·have hltb:decide ((k:Int) < j.need)=false:=decide_eq_false hlt
     go_wp2_with fail
     go_meet
     exact⟨j,_,HJ,tH (HD.out.le hk)⟩
 case rest =>
  clear HJ HD HN j
  obtain⟨j,nv,HJ,HD⟩:=hcut
  go_wp2_with fail
  refine(srcOne_any g 15 _ cv l HJ.out.s H15.out).mono ?_
  rintro e W2 ⟨b2,rfl,hc,hs⟩
  have HJ2:=tH (HJ.out.src HG.out hc hs)
  clear hc hs HJ
  have HJ:=HJ2
  clear HJ2
  cases b2
  ·have HD4:=tH (HD.out.le (m:=4) (by decide))
   clear HD
   have HD:=HD4
   clear HD4
   obtain⟨na,nc,rfl⟩:=HJ.out.n.shape
   have b0:W2.cell? ⟨bJ,0,none⟩=some (.int .i64 j.l.lv):=HJ.out.bx.cell 0
   have b1:W2.cell? ⟨bJ,1,none⟩=some (.int .i64 j.l.st):=HJ.out.bx.cell 1
   have b2:W2.cell? ⟨bJ,2,none⟩=some (.int .i64 j.id):=HJ.out.bx.cell 2
   have b3:W2.cell? ⟨bJ,3,none⟩=some (.int .i64 j.need):=HJ.out.bx.cell 3
   have b4:W2.cell? ⟨bJ,4,none⟩=some (.int .i64 j.long):=HJ.out.bx.cell 4
   have b5:W2.cell? ⟨bJ,5,none⟩=some (.int .i64 j.prio):=HJ.out.bx.cell 5
   have b6:W2.cell? ⟨bJ,6,none⟩=some (.int .i64 j.state):=HJ.out.bx.cell 6
   have b7:W2.cell? ⟨bJ,7,none⟩=some (.int .i64 j.start):=HJ.out.bx.cell 7
   have b8:W2.cell? ⟨bJ,8,none⟩=some (.slice na j.nodes.length nc):=HJ.out.bx.cell 8
   have bo:=HJ.out.bx.old
   have bf:=HJ.out.bx.fz
   have r0:W2.cell? ⟨w.heap.size,0,none⟩=some (.int .i64 0):=HJ.out.r.cell 0
   have r1:W2.cell? ⟨w.heap.size,1,none⟩=some (.int .i64 0):=HJ.out.r.cell 1
   have r2:W2.cell? ⟨w.heap.size,2,none⟩=some (.int .i64 0):=HJ.out.r.cell 2
   have r3:W2.cell? ⟨w.heap.size,3,none⟩=some (.int .i64 0):=HJ.out.r.cell 3
   have r4:W2.cell? ⟨w.heap.size,4,none⟩=some (.int .i64 0):=HJ.out.r.cell 4
   have r5:W2.cell? ⟨w.heap.size,5,none⟩=some (.int .i64 0):=HJ.out.r.cell 5
   have r6:W2.cell? ⟨w.heap.size,6,none⟩=some (.int .i64 0):=HJ.out.r.cell 6
   have r7:W2.cell? ⟨w.heap.size,7,none⟩=some (.int .i64 0):=HJ.out.r.cell 7
   have r8:W2.cell? ⟨w.heap.size,8,none⟩=some (.slice none 0 0):=HJ.out.r.cell 8
   have ro:=HJ.out.r.old
   have rf:=HJ.out.r.fz
   go_wp2
   exact bodyPost_ret (v:=.agg #[(.int .i64 j.l.lv),(.int .i64 j.l.st),(.int .i64 j.id),(.int .i64 j.need),(.int .i64 j.long),(.int .i64 j.prio),(.int .i64 j.state),(.int .i64 j.start),.slice na j.nodes.length nc]) (by simp[results,Tryz.results92,go_sem,r0,r1,r2,r3,r4,r5,r6,r7,r8]) rfl ⟨j,.slice na j.nodes.length nc,rfl,HJ.out.c.past (set9_chg _ _ _ _ _ _ _ _ _ _ _) (by simp),HJ.out.s.chg HS.out (set9_chg _ _ _ _ _ _ _ _ _ _ _) (by simp),row_box HJ.out.n HJ.out.r (by decide) (set9_chg _ _ _ _ _ _ _ _ _ _ _),HD.out⟩
  ·skip
   go_wp2_with fail
   refine(srcN' g 4 _ cv l (HJ.out.s.ext xE) H4.out).mono ?_
   rintro e W3 ⟨t,rfl,hb,hc,hs⟩
   have ht:t < 4:=by omega
   have HJ3:=tH (HJ.out.src HG.out hc hs)
   clear hc hs hb HJ
   have HJ:=HJ3
   clear HJ3
   obtain⟨na,nc,rfl⟩:=HJ.out.n.shape
   by_cases t0:t=0
   ·have tb0:((t:Int) == 0)=true:=by simp[t0]
    clear t0
    go_wp2_with fail
    refine(srcN' g 6 _ cv l (HJ.out.s.ext xE) H6.out).mono ?_
    rintro e W4 ⟨ms,rfl,hb,hc,hs⟩
    have hms:ms < 6:=by omega
    have HJ3:=tH (HJ.out.src HG.out hc hs)
    clear hc hs hb HJ
    have HJ:=HJ3
    clear HJ3
    have b0:W4.cell? ⟨bJ,0,none⟩=some (.int .i64 j.l.lv):=HJ.out.bx.cell 0
    have b1:W4.cell? ⟨bJ,1,none⟩=some (.int .i64 j.l.st):=HJ.out.bx.cell 1
    have b2:W4.cell? ⟨bJ,2,none⟩=some (.int .i64 j.id):=HJ.out.bx.cell 2
    have b3:W4.cell? ⟨bJ,3,none⟩=some (.int .i64 j.need):=HJ.out.bx.cell 3
    have b4:W4.cell? ⟨bJ,4,none⟩=some (.int .i64 j.long):=HJ.out.bx.cell 4
    have b5:W4.cell? ⟨bJ,5,none⟩=some (.int .i64 j.prio):=HJ.out.bx.cell 5
    have b6:W4.cell? ⟨bJ,6,none⟩=some (.int .i64 j.state):=HJ.out.bx.cell 6
    have b7:W4.cell? ⟨bJ,7,none⟩=some (.int .i64 j.start):=HJ.out.bx.cell 7
    have b8:W4.cell? ⟨bJ,8,none⟩=some (.slice na j.nodes.length nc):=HJ.out.bx.cell 8
    have bo:=HJ.out.bx.old
    have bf:=HJ.out.bx.fz
    go_upto_region 18 with fail
    refine gen_world (fun W5 hW=>?_)
    have HX9:∃ j2:Jb,Hid (JdS w g cv l W5 bJ j2 (.slice na j.nodes.length nc))∧Hid (JbD j2 4)∧j2.need=j.need∧j2.nodes=j.nodes:=⟨{ j with state:=(ms:Int) },tH (HJ.out.store (W':=W5) (j':={ j with state:=(ms:Int) }) HS.out (by rw[hW];exact set1_chg _ _ _ _) (by rw[hW];exact HJ.out.bx.set 6 (.int .i64 (ms:Int))) rfl),tH ((HD.out.state (i64_nat (Nat.le_of_lt hms) (by decide))).le (m:=4) (by decide)),rfl,rfl⟩
    clear b0 b1 b2 b3 b4 b5 b6 b7 b8 bo bf
    clear hW HJ HD
    obtain⟨j2,HJ2,HD2,e1,e2⟩:=HX9
    rw[← e2] at HJ2
    have HE9:=tH (And.intro e1 e2)
    clear e1 e2
    clear HE9 j
    obtain⟨j,hj2⟩:∃ j,j=j2:=⟨_,rfl⟩
    rw[← hj2] at HJ2 HD2
    have HJ:=HJ2
    have HD:=HD2
    clear HJ2 HD2
    clear hj2 j2
    have b0:W5.cell? ⟨bJ,0,none⟩=some (.int .i64 j.l.lv):=HJ.out.bx.cell 0
    have b1:W5.cell? ⟨bJ,1,none⟩=some (.int .i64 j.l.st):=HJ.out.bx.cell 1
    have b2:W5.cell? ⟨bJ,2,none⟩=some (.int .i64 j.id):=HJ.out.bx.cell 2
    have b3:W5.cell? ⟨bJ,3,none⟩=some (.int .i64 j.need):=HJ.out.bx.cell 3
    have b4:W5.cell? ⟨bJ,4,none⟩=some (.int .i64 j.long):=HJ.out.bx.cell 4
    have b5:W5.cell? ⟨bJ,5,none⟩=some (.int .i64 j.prio):=HJ.out.bx.cell 5
    have b6:W5.cell? ⟨bJ,6,none⟩=some (.int .i64 j.state):=HJ.out.bx.cell 6
    have b7:W5.cell? ⟨bJ,7,none⟩=some (.int .i64 j.start):=HJ.out.bx.cell 7
    have b8:W5.cell? ⟨bJ,8,none⟩=some (.slice na j.nodes.length nc):=HJ.out.bx.cell 8
    have bo:=HJ.out.bx.old
    have bf:=HJ.out.bx.fz
    have r0:W5.cell? ⟨w.heap.size,0,none⟩=some (.int .i64 0):=HJ.out.r.cell 0
    have r1:W5.cell? ⟨w.heap.size,1,none⟩=some (.int .i64 0):=HJ.out.r.cell 1
    have r2:W5.cell? ⟨w.heap.size,2,none⟩=some (.int .i64 0):=HJ.out.r.cell 2
    have r3:W5.cell? ⟨w.heap.size,3,none⟩=some (.int .i64 0):=HJ.out.r.cell 3
    have r4:W5.cell? ⟨w.heap.size,4,none⟩=some (.int .i64 0):=HJ.out.r.cell 4
    have r5:W5.cell? ⟨w.heap.size,5,none⟩=some (.int .i64 0):=HJ.out.r.cell 5
    have r6:W5.cell? ⟨w.heap.size,6,none⟩=some (.int .i64 0):=HJ.out.r.cell 6
    have r7:W5.cell? ⟨w.heap.size,7,none⟩=some (.int .i64 0):=HJ.out.r.cell 7
    have r8:W5.cell? ⟨w.heap.size,8,none⟩=some (.slice none 0 0):=HJ.out.r.cell 8
    have ro:=HJ.out.r.old
    have rf:=HJ.out.r.fz
    go_wp2
    exact bodyPost_ret (v:=.agg #[(.int .i64 j.l.lv),(.int .i64 j.l.st),(.int .i64 j.id),(.int .i64 j.need),(.int .i64 j.long),(.int .i64 j.prio),(.int .i64 j.state),(.int .i64 j.start),.slice na j.nodes.length nc]) (by simp[results,Tryz.results92,go_sem,r0,r1,r2,r3,r4,r5,r6,r7,r8]) rfl ⟨j,.slice na j.nodes.length nc,rfl,HJ.out.c.past (set9_chg _ _ _ _ _ _ _ _ _ _ _) (by simp),HJ.out.s.chg HS.out (set9_chg _ _ _ _ _ _ _ _ _ _ _) (by simp),row_box HJ.out.n HJ.out.r (by decide) (set9_chg _ _ _ _ _ _ _ _ _ _ _),HD.out⟩
   have tb0:((t:Int) == 0)=false:=by simp[t0]
   by_cases t1:t=1
   ·have tb1:((t:Int) == 1)=true:=by simp[t1]
    clear t0 t1
    go_wp2_with fail
    refine(srcN' g 3 _ cv l (HJ.out.s.ext xE) H3.out).mono ?_
    rintro e W4 ⟨t,rfl,hb,hc,hs⟩
    have ht:t < 3:=by omega
    have hg5:g < W3.heap.size:=HJ.out.s.old
    have HQ:=tH ((Blk.new (w:=W3) (cs:=#[(.int .i64 0),(.int .i64 20),(.int .i64 21)]) (ty:=2) rfl).chg hc (by simp;omega))
    have HJ3:=tH (HJ.out.src HG.out (((Ext.refl W3).alloc (.cells #[(.int .i64 0),(.int .i64 20),(.int .i64 21)] 2) |>.chg [g]).trans hc) hs)
    obtain⟨n,hni,hn⟩:∃ n:Int,I64 n∧([(.int .i64 0),(.int .i64 20),(.int .i64 21)]:List Value)[t]?=some (.int .i64 n):=by
     have:t=0∨t=1∨t=2:=by omega
     first | (rcases this with rfl | rfl | rfl<;>(refine⟨_,?_,rfl⟩;unfold I64;omega)) | (rcases this with rfl | rfl<;>(refine⟨_,?_,rfl⟩;unfold I64;omega))
    have hq0:W4.cell? ⟨W3.heap.size,t,none⟩=some (.int .i64 n):=by rw[HQ.out.cell t];exact hn
    have hqo:=HQ.out.old
    have HNI:=tH hni
    clear hc hs hb hn HQ hni hg5 HJ
    have HJ:=HJ3
    clear HJ3
    have b0:W4.cell? ⟨bJ,0,none⟩=some (.int .i64 j.l.lv):=HJ.out.bx.cell 0
    have b1:W4.cell? ⟨bJ,1,none⟩=some (.int .i64 j.l.st):=HJ.out.bx.cell 1
    have b2:W4.cell? ⟨bJ,2,none⟩=some (.int .i64 j.id):=HJ.out.bx.cell 2
    have b3:W4.cell? ⟨bJ,3,none⟩=some (.int .i64 j.need):=HJ.out.bx.cell 3
    have b4:W4.cell? ⟨bJ,4,none⟩=some (.int .i64 j.long):=HJ.out.bx.cell 4
    have b5:W4.cell? ⟨bJ,5,none⟩=some (.int .i64 j.prio):=HJ.out.bx.cell 5
    have b6:W4.cell? ⟨bJ,6,none⟩=some (.int .i64 j.state):=HJ.out.bx.cell 6
    have b7:W4.cell? ⟨bJ,7,none⟩=some (.int .i64 j.start):=HJ.out.bx.cell 7
    have b8:W4.cell? ⟨bJ,8,none⟩=some (.slice na j.nodes.length nc):=HJ.out.bx.cell 8
    have bo:=HJ.out.bx.old
    have bf:=HJ.out.bx.fz
    go_upto_region 18 with fail
    refine gen_world (fun W5 hW=>?_)
    have HX9:∃ j2:Jb,Hid (JdS w g cv l W5 bJ j2 (.slice na j.nodes.length nc))∧Hid (JbD j2 4)∧j2.need=j.need∧j2.nodes=j.nodes:=⟨{ j with long:=n },tH (HJ.out.store (W':=W5) (j':={ j with long:=n }) HS.out (by rw[hW];exact set1_chg _ _ _ _) (by rw[hW];exact HJ.out.bx.set 4 (.int .i64 n)) rfl),tH ((HD.out.long HNI.out).le (m:=4) (by decide)),rfl,rfl⟩
    clear b0 b1 b2 b3 b4 b5 b6 b7 b8 bo bf
    clear hW HJ HD
    obtain⟨j2,HJ2,HD2,e1,e2⟩:=HX9
    rw[← e2] at HJ2
    have HE9:=tH (And.intro e1 e2)
    clear e1 e2
    clear HE9 j
    obtain⟨j,hj2⟩:∃ j,j=j2:=⟨_,rfl⟩
    rw[← hj2] at HJ2 HD2
    have HJ:=HJ2
    have HD:=HD2
    clear HJ2 HD2
    clear hj2 j2
    have b0:W5.cell? ⟨bJ,0,none⟩=some (.int .i64 j.l.lv):=HJ.out.bx.cell 0
    have b1:W5.cell? ⟨bJ,1,none⟩=some (.int .i64 j.l.st):=HJ.out.bx.cell 1
    have b2:W5.cell? ⟨bJ,2,none⟩=some (.int .i64 j.id):=HJ.out.bx.cell 2
    have b3:W5.cell? ⟨bJ,3,none⟩=some (.int .i64 j.need):=HJ.out.bx.cell 3
    have b4:W5.cell? ⟨bJ,4,none⟩=some (.int .i64 j.long):=HJ.out.bx.cell 4
    have b5:W5.cell? ⟨bJ,5,none⟩=some (.int .i64 j.prio):=HJ.out.bx.cell 5
    have b6:W5.cell? ⟨bJ,6,none⟩=some (.int .i64 j.state):=HJ.out.bx.cell 6
    have b7:W5.cell? ⟨bJ,7,none⟩=some (.int .i64 j.start):=HJ.out.bx.cell 7
    have b8:W5.cell? ⟨bJ,8,none⟩=some (.slice na j.nodes.length nc):=HJ.out.bx.cell 8
    have bo:=HJ.out.bx.old
    have bf:=HJ.out.bx.fz
    have r0:W5.cell? ⟨w.heap.size,0,none⟩=some (.int .i64 0):=HJ.out.r.cell 0
    have r1:W5.cell? ⟨w.heap.size,1,none⟩=some (.int .i64 0):=HJ.out.r.cell 1
    have r2:W5.cell? ⟨w.heap.size,2,none⟩=some (.int .i64 0):=HJ.out.r.cell 2
    have r3:W5.cell? ⟨w.heap.size,3,none⟩=some (.int .i64 0):=HJ.out.r.cell 3
    have r4:W5.cell? ⟨w.heap.size,4,none⟩=some (.int .i64 0):=HJ.out.r.cell 4
    have r5:W5.cell? ⟨w.heap.size,5,none⟩=some (.int .i64 0):=HJ.out.r.cell 5
    have r6:W5.cell? ⟨w.heap.size,6,none⟩=some (.int .i64 0):=HJ.out.r.cell 6
    have r7:W5.cell? ⟨w.heap.size,7,none⟩=some (.int .i64 0):=HJ.out.r.cell 7
    have r8:W5.cell? ⟨w.heap.size,8,none⟩=some (.slice none 0 0):=HJ.out.r.cell 8
    have ro:=HJ.out.r.old
    have rf:=HJ.out.r.fz
    go_wp2
    exact bodyPost_ret (v:=.agg #[(.int .i64 j.l.lv),(.int .i64 j.l.st),(.int .i64 j.id),(.int .i64 j.need),(.int .i64 j.long),(.int .i64 j.prio),(.int .i64 j.state),(.int .i64 j.start),.slice na j.nodes.length nc]) (by simp[results,Tryz.results92,go_sem,r0,r1,r2,r3,r4,r5,r6,r7,r8]) rfl ⟨j,.slice na j.nodes.length nc,rfl,HJ.out.c.past (set9_chg _ _ _ _ _ _ _ _ _ _ _) (by simp),HJ.out.s.chg HS.out (set9_chg _ _ _ _ _ _ _ _ _ _ _) (by simp),row_box HJ.out.n HJ.out.r (by decide) (set9_chg _ _ _ _ _ _ _ _ _ _ _),HD.out⟩
   have tb1:((t:Int) == 1)=false:=by simp;omega
   by_cases t2:t=2
   ·have tb2:((t:Int) == 2)=true:=by simp[t2]
    clear t0 t1 t2
    go_wp2_with fail
    refine(srcN' g 2 _ cv l (HJ.out.s.ext xE) H2.out).mono ?_
    rintro e W4 ⟨t,rfl,hb,hc,hs⟩
    have ht:t < 2:=by omega
    have hg5:g < W3.heap.size:=HJ.out.s.old
    have HQ:=tH ((Blk.new (w:=W3) (cs:=#[(.int .i64 0),(.int .i64 4)]) (ty:=2) rfl).chg hc (by simp;omega))
    have HJ3:=tH (HJ.out.src HG.out (((Ext.refl W3).alloc (.cells #[(.int .i64 0),(.int .i64 4)] 2) |>.chg [g]).trans hc) hs)
    obtain⟨n,hni,hn⟩:∃ n:Int,I64 n∧([(.int .i64 0),(.int .i64 4)]:List Value)[t]?=some (.int .i64 n):=by
     have:t=0∨t=1:=by omega
     first | (rcases this with rfl | rfl | rfl<;>(refine⟨_,?_,rfl⟩;unfold I64;omega)) | (rcases this with rfl | rfl<;>(refine⟨_,?_,rfl⟩;unfold I64;omega))
    have hq0:W4.cell? ⟨W3.heap.size,t,none⟩=some (.int .i64 n):=by rw[HQ.out.cell t];exact hn
    have hqo:=HQ.out.old
    have HNI:=tH hni
    clear hc hs hb hn HQ hni hg5 HJ
    have HJ:=HJ3
    clear HJ3
    have b0:W4.cell? ⟨bJ,0,none⟩=some (.int .i64 j.l.lv):=HJ.out.bx.cell 0
    have b1:W4.cell? ⟨bJ,1,none⟩=some (.int .i64 j.l.st):=HJ.out.bx.cell 1
    have b2:W4.cell? ⟨bJ,2,none⟩=some (.int .i64 j.id):=HJ.out.bx.cell 2
    have b3:W4.cell? ⟨bJ,3,none⟩=some (.int .i64 j.need):=HJ.out.bx.cell 3
    have b4:W4.cell? ⟨bJ,4,none⟩=some (.int .i64 j.long):=HJ.out.bx.cell 4
    have b5:W4.cell? ⟨bJ,5,none⟩=some (.int .i64 j.prio):=HJ.out.bx.cell 5
    have b6:W4.cell? ⟨bJ,6,none⟩=some (.int .i64 j.state):=HJ.out.bx.cell 6
    have b7:W4.cell? ⟨bJ,7,none⟩=some (.int .i64 j.start):=HJ.out.bx.cell 7
    have b8:W4.cell? ⟨bJ,8,none⟩=some (.slice na j.nodes.length nc):=HJ.out.bx.cell 8
    have bo:=HJ.out.bx.old
    have bf:=HJ.out.bx.fz
    go_upto_region 18 with fail
    refine gen_world (fun W5 hW=>?_)
    have HX9:∃ j2:Jb,Hid (JdS w g cv l W5 bJ j2 (.slice na j.nodes.length nc))∧Hid (JbD j2 4)∧j2.need=j.need∧j2.nodes=j.nodes:=⟨{ j with id:=n },tH (HJ.out.store (W':=W5) (j':={ j with id:=n }) HS.out (by rw[hW];exact set1_chg _ _ _ _) (by rw[hW];exact HJ.out.bx.set 2 (.int .i64 n)) rfl),tH ((HD.out.id HNI.out).le (m:=4) (by decide)),rfl,rfl⟩
    clear b0 b1 b2 b3 b4 b5 b6 b7 b8 bo bf
    clear hW HJ HD
    obtain⟨j2,HJ2,HD2,e1,e2⟩:=HX9
    rw[← e2] at HJ2
    have HE9:=tH (And.intro e1 e2)
    clear e1 e2
    clear HE9 j
    obtain⟨j,hj2⟩:∃ j,j=j2:=⟨_,rfl⟩
    rw[← hj2] at HJ2 HD2
    have HJ:=HJ2
    have HD:=HD2
    clear HJ2 HD2
    clear hj2 j2
    have b0:W5.cell? ⟨bJ,0,none⟩=some (.int .i64 j.l.lv):=HJ.out.bx.cell 0
    have b1:W5.cell? ⟨bJ,1,none⟩=some (.int .i64 j.l.st):=HJ.out.bx.cell 1
    have b2:W5.cell? ⟨bJ,2,none⟩=some (.int .i64 j.id):=HJ.out.bx.cell 2
    have b3:W5.cell? ⟨bJ,3,none⟩=some (.int .i64 j.need):=HJ.out.bx.cell 3
    have b4:W5.cell? ⟨bJ,4,none⟩=some (.int .i64 j.long):=HJ.out.bx.cell 4
    have b5:W5.cell? ⟨bJ,5,none⟩=some (.int .i64 j.prio):=HJ.out.bx.cell 5
    have b6:W5.cell? ⟨bJ,6,none⟩=some (.int .i64 j.state):=HJ.out.bx.cell 6
    have b7:W5.cell? ⟨bJ,7,none⟩=some (.int .i64 j.start):=HJ.out.bx.cell 7
    have b8:W5.cell? ⟨bJ,8,none⟩=some (.slice na j.nodes.length nc):=HJ.out.bx.cell 8
    have bo:=HJ.out.bx.old
    have bf:=HJ.out.bx.fz
    have r0:W5.cell? ⟨w.heap.size,0,none⟩=some (.int .i64 0):=HJ.out.r.cell 0
    have r1:W5.cell? ⟨w.heap.size,1,none⟩=some (.int .i64 0):=HJ.out.r.cell 1
    have r2:W5.cell? ⟨w.heap.size,2,none⟩=some (.int .i64 0):=HJ.out.r.cell 2
    have r3:W5.cell? ⟨w.heap.size,3,none⟩=some (.int .i64 0):=HJ.out.r.cell 3
    have r4:W5.cell? ⟨w.heap.size,4,none⟩=some (.int .i64 0):=HJ.out.r.cell 4
    have r5:W5.cell? ⟨w.heap.size,5,none⟩=some (.int .i64 0):=HJ.out.r.cell 5
    have r6:W5.cell? ⟨w.heap.size,6,none⟩=some (.int .i64 0):=HJ.out.r.cell 6
    have r7:W5.cell? ⟨w.heap.size,7,none⟩=some (.int .i64 0):=HJ.out.r.cell 7
    have r8:W5.cell? ⟨w.heap.size,8,none⟩=some (.slice none 0 0):=HJ.out.r.cell 8
    have ro:=HJ.out.r.old
    have rf:=HJ.out.r.fz
    go_wp2
    exact bodyPost_ret (v:=.agg #[(.int .i64 j.l.lv),(.int .i64 j.l.st),(.int .i64 j.id),(.int .i64 j.need),(.int .i64 j.long),(.int .i64 j.prio),(.int .i64 j.state),(.int .i64 j.start),.slice na j.nodes.length nc]) (by simp[results,Tryz.results92,go_sem,r0,r1,r2,r3,r4,r5,r6,r7,r8]) rfl ⟨j,.slice na j.nodes.length nc,rfl,HJ.out.c.past (set9_chg _ _ _ _ _ _ _ _ _ _ _) (by simp),HJ.out.s.chg HS.out (set9_chg _ _ _ _ _ _ _ _ _ _ _) (by simp),row_box HJ.out.n HJ.out.r (by decide) (set9_chg _ _ _ _ _ _ _ _ _ _ _),HD.out⟩
   have tb2:((t:Int) == 2)=false:=by simp;omega
   clear t0 t1 t2
   go_upto_region 11 with fail
   have hB0:=tH (show ∀ b∈blkL (.slice na j.nodes.length nc),w.heap.size≤b∧b < W3.heap.size from fun b hb=>HJ.out.n.blk b hb)
   have hgl:=tH (show ∀ b∈[g]++blkL (.slice na j.nodes.length nc),b < W3.heap.size from fun b hb=>by
    rcases List.mem_append.1 hb with hb | hb
    ·have:=HJ.out.s.old;simp at hb;omega
    ·exact(hB0.out b hb).2)
   have hBJ:=tH (show bJ∉[g]++blkL (.slice na j.nodes.length nc) from fun hb=>by
    rcases List.mem_append.1 hb with hb | hb
    ·have:=HJ.out.lt;have:=HG.out;simp at hb;omega
    ·exact HJ.out.farN hb)
   have hLN:=tH HD.out.ln
   (refine wp_region_z ([g]++blkL (.slice na j.nodes.length nc)) [.V (.pointer (some ⟨bJ,8,none⟩)),XReg.ZOp.A (fun _ u _=>u=(.slice na j.nodes.length nc)) [] ([g]++blkL (.slice na j.nodes.length nc)) ([g]++blkL (.slice na j.nodes.length nc)),XReg.ZOp.A (fun _ u _=>u=(.pointer (some ⟨g,0,none⟩))) [] ([g]++blkL (.slice na j.nodes.length nc)) ([g]++blkL (.slice na j.nodes.length nc)),.A (kSrZ g cv l 7) [g] (blkL (.slice na j.nodes.length nc)) (blkL (.slice na j.nodes.length nc)),.A (kOneE W3.heap.size) [] ([g]++blkL (.slice na j.nodes.length nc)) ([g]++blkL (.slice na j.nodes.length nc)),.A (kRowE w.heap.size j.nodes) (blkL (.slice na j.nodes.length nc)) [g] [],.V (.pointer (some ⟨bJ,8,none⟩)),.T] [_] (by kernel_rfl) (by kernel_rfl) (by kernel_rfl) (by kernel_rfl) rfl ?_ (by repeat' (first | exact trivial | exact XReg.ZOp.good_is _ _ _ _ | exact XReg.ZOp.good_v _ | exact XReg.ZOp.good_t | (first | exact kSrZ_good HS.out (by decide) (fun b hb=>(hB0.out b hb).1) | exact kOneE_good _ hgl.out | exact kRowE_good _ (by have:=hLN.out;unfold maxLen;omega)) | refine And.intro ?_ ?_)) (by repeat' (first | exact trivial | exact XReg.subL_nil _ | exact XReg.subL_refl _ | exact subL_l9 _ _ | exact subL_r9 _ _ | exact Or.inr (XReg.subL_nil _) | exact Or.inr (XReg.subL_refl _) | exact Or.inr (subL_l9 _ _) | exact Or.inr (subL_r9 _ _) | exact Or.inl (by kernel_rfl) | refine And.intro ?_ ?_)))
   (apply ZReg.val (.pointer (some ⟨bJ,8,none⟩));(case h=>(intro w';go_wp2_with (fail);first | exact⟨rfl,rfl⟩ | exact rfl));(case hv=>kernel_rfl))
   (apply ZReg.setU (.slice na j.nodes.length nc);(case h=>(intro w' hw' hF';((have hB:=HJ.out.bx.chg hw' hBJ.out;have b8:w'.cell? ⟨bJ,8,none⟩=some (.slice na j.nodes.length nc):=hB.cell 8;have bo:=hB.old;clear hB));clear hw' hF';go_wp2;exact⟨rfl,xE⟩));(case hv=>kernel_rfl);intro _)
   (apply ZReg.setU (.pointer (some ⟨g,0,none⟩));(case h=>(intro w' hw' hF';(skip);clear hw' hF';go_wp2;exact⟨rfl,xE⟩));(case hv=>kernel_rfl);intro _)
   refine ZReg.kind (fun w' hw' hF'=>?_) (fun v2 w1 x2 hK=>?_)
   ·have HW':=tH (HJ.out.s.chg HS.out hw' (fun b hb=>(hB0.out b hb).1))
    clear hF' hw'
    go_wp2_with fail
    refine(srcN' g 7 _ cv l (HW'.out.ext xE) H7.out).mono ?_
    rintro e w8 ⟨n,rfl,hb,hc,hs⟩
    have HS8:=tH hs
    have HC8:=tH hc
    have hn:n < 7:=by omega
    clear hc hs hb
    go_wp2
    exact⟨HC8.out,n,hn,rfl,HS8.out⟩
   obtain⟨n,hn7,rfl,-⟩:=hK
   clear w1
   refine ZReg.kind (fun w' hw' hF'=>?_) (fun v3 w1 x3 hK=>?_)
   ·have hsz:=hw'.size
    clear hw' hF'
    go_wp2
    exact⟨(Ext.chg xE _),(n:Int),w'.heap.size,rfl,by simp[go_sem],i64_nat (Nat.le_of_lt hn7) (by decide),hsz⟩
   obtain⟨n9,g1,rfl,q1,q2,q3⟩:=hK
   clear q1 q2 w1 q3
   refine ZReg.kind (fun w' hw' hF'=>?_) (fun v4 w1 x4 hK=>?_)
   ·have HF':=tH hF'
    have hk:kOneE W3.heap.size x3 (.slice (some ⟨g1,0,none⟩) 1 1) w':=HF'.out.get 4 (p:=(kOneE W3.heap.size x3,.slice (some ⟨g1,0,none⟩) 1 1)) (by kernel_rfl) (by kernel_rfl)
    obtain⟨m9,g9,hv9,hc9,hm9,-⟩:=hk
    obtain rfl:g1=g9:=by simpa using hv9
    have HK:=tH hc9
    have HM9:=tH hm9
    have HR9:=tH (HJ.out.n.chg hw' (fun b hb=>by have:=(hB0.out b hb).1;have:=HG.out;simp;omega))
    have hs2:=tH (Nat.le_trans HJ.out.c.size hw'.size)
    clear hw' hF' HF' hv9 hc9 hm9
    go_wp2_with (at_builtin;go_must (refine Row.appC (f:=intCell) el_Int rfl _ _ rfl w.heap.size hs2.out _ j.nodes rfl HR9.out ⟨g1,0,none⟩ 1 1 [m9] rfl rfl (fun _=>rfl) ?_ ?_ ?_ ?_ ?_);(intro i u hj;exact flat19 HK.out hj);(intro u hu;simp[intCell] at hu;subst hu;rfl);(have:=hLN.out;unfold maxLen;simp;omega);(have:=hLN.out;simp;omega);intro v' w2 hR hC;have HR2:=tH hR;have HC2:=tH hC;clear hR hC)
    obtain⟨a9,c9,rfl⟩:=HR2.out.shape
    go_wp2
    exact⟨HC2.out,m9,HM9.out,HR2.out⟩
   obtain⟨n8,hn8,hR8⟩:=hK
   obtain⟨a8,c8,rfl⟩:∃ a c,v4=.slice a (j.nodes.length+1) c:=by have h:=hR8.shape;simpa using h
   clear hR8 w1 hn8
   (apply ZReg.val (.pointer (some ⟨bJ,8,none⟩));(case h=>(intro w';go_wp2_with (fail);first | exact⟨rfl,rfl⟩ | exact rfl));(case hv=>kernel_rfl))
   refine ZReg.T ?_
   refine ZReg.done (fun w9 hw9 hF hRR=>?_)
   obtain⟨n7,hn7',hR7⟩:=hF 5 (kRowE w.heap.size j.nodes x4,.slice a8 (j.nodes.length+1) c8) (by kernel_rfl)
   obtain⟨n6,-,-,hS6⟩:=hF 3 (kSrZ g cv l 7 x2,(.int .i64 (n:Int))) (by kernel_rfl)
   have HB9:=tH (HJ.out.bx.chg hw9 hBJ.out)
   have HR7:=tH hR7
   have HS6:=tH hS6
   have HN7:=tH hn7'
   have hfr:w.heap.size∉[g]++blkL (.slice na j.nodes.length nc):=fun hb=>by
    rcases List.mem_append.1 hb with hb | hb
    ·have:=HG.out;simp at hb;omega
    ·obtain⟨cur,hcur⟩:=HJ.out.n.type _ hb
     have hb2:=HJ.out.r
     unfold Blk at hb2
     rw[hcur] at hb2
     simp at hb2
   have HRb:=tH (HJ.out.r.chg hw9 hfr)
   have HC9:Hid (Chg [g] w w9):=tH (chg_past29 HJ.out.c hw9 (fun b hb=>(hB0.out b hb).1))
   clear hF hRR hw9 hR7 hS6 hn7' hfr
   have HJ9:Hid (∀ W',Chg [bJ] w9 W'→Blk W' bJ (({ j with nodes:=j.nodes++[n7] }:Jb).cells (.slice a8 (j.nodes++[n7]).length c8)) 48→JdS w g cv l W' bJ { j with nodes:=j.nodes++[n7] } (.slice a8 (j.nodes++[n7]).length c8)):=tH (fun W' hc hb=>by
    have hlt:=HJ.out.lt
    have hR:=HR7.out
    rw[show j.nodes.length+1=(j.nodes++[n7]).length from by simp] at hR
    exact⟨HC9.out.past hc (by simp;omega),HS6.out.chg HS.out hc (by simp;omega),HRb.out.chg hc (by simp;omega),hb,row_box hR HB9.out (by decide) hc,hlt⟩)
   have HD9:=tH (HD.out.snoc HN7.out)
   have c8':w9.cell? ⟨bJ,8,none⟩=some (.slice na j.nodes.length nc):=HB9.out.cell 8
   have co:=HB9.out.old
   have cf:=HB9.out.fz
   refine ZReg.run ?_
   go_wp2
   refine ZReg.endG (fun W5 hW=>?_)
   have HJ2:=tH (HJ9.out W5 (by rw[hW];exact set1_chg _ _ _ _) (by rw[hW];have h8:=HB9.out.set 8 (.slice a8 (j.nodes.length+1) c8);rw[show (j.nodes++[n7]).length=j.nodes.length+1 from by simp];exact h8))
   clear hW c8' co cf HB9 HJ9 HJ HD HRb HC9 HR7 HS6 HN7 hBJ hLN hB0 hgl
   have HX9:∃ (j2:Jb) (na nc:_),Hid (JdS w g cv l W5 bJ j2 (.slice na j2.nodes.length nc))∧Hid (JbD j2 4):=⟨{ j with nodes:=j.nodes++[n7] },a8,c8,HJ2,HD9⟩
   clear HJ2 HD9
   obtain⟨j,na,nc,HJ,HD⟩:=HX9
   have b0:W5.cell? ⟨bJ,0,none⟩=some (.int .i64 j.l.lv):=HJ.out.bx.cell 0
   have b1:W5.cell? ⟨bJ,1,none⟩=some (.int .i64 j.l.st):=HJ.out.bx.cell 1
   have b2:W5.cell? ⟨bJ,2,none⟩=some (.int .i64 j.id):=HJ.out.bx.cell 2
   have b3:W5.cell? ⟨bJ,3,none⟩=some (.int .i64 j.need):=HJ.out.bx.cell 3
   have b4:W5.cell? ⟨bJ,4,none⟩=some (.int .i64 j.long):=HJ.out.bx.cell 4
   have b5:W5.cell? ⟨bJ,5,none⟩=some (.int .i64 j.prio):=HJ.out.bx.cell 5
   have b6:W5.cell? ⟨bJ,6,none⟩=some (.int .i64 j.state):=HJ.out.bx.cell 6
   have b7:W5.cell? ⟨bJ,7,none⟩=some (.int .i64 j.start):=HJ.out.bx.cell 7
   have b8:W5.cell? ⟨bJ,8,none⟩=some (.slice na j.nodes.length nc):=HJ.out.bx.cell 8
   have bo:=HJ.out.bx.old
   have bf:=HJ.out.bx.fz
   have r0:W5.cell? ⟨w.heap.size,0,none⟩=some (.int .i64 0):=HJ.out.r.cell 0
   have r1:W5.cell? ⟨w.heap.size,1,none⟩=some (.int .i64 0):=HJ.out.r.cell 1
   have r2:W5.cell? ⟨w.heap.size,2,none⟩=some (.int .i64 0):=HJ.out.r.cell 2
   have r3:W5.cell? ⟨w.heap.size,3,none⟩=some (.int .i64 0):=HJ.out.r.cell 3
   have r4:W5.cell? ⟨w.heap.size,4,none⟩=some (.int .i64 0):=HJ.out.r.cell 4
   have r5:W5.cell? ⟨w.heap.size,5,none⟩=some (.int .i64 0):=HJ.out.r.cell 5
   have r6:W5.cell? ⟨w.heap.size,6,none⟩=some (.int .i64 0):=HJ.out.r.cell 6
   have r7:W5.cell? ⟨w.heap.size,7,none⟩=some (.int .i64 0):=HJ.out.r.cell 7
   have r8:W5.cell? ⟨w.heap.size,8,none⟩=some (.slice none 0 0):=HJ.out.r.cell 8
   have ro:=HJ.out.r.old
   have rf:=HJ.out.r.fz
   go_wp2
   exact bodyPost_ret (v:=.agg #[(.int .i64 j.l.lv),(.int .i64 j.l.st),(.int .i64 j.id),(.int .i64 j.need),(.int .i64 j.long),(.int .i64 j.prio),(.int .i64 j.state),(.int .i64 j.start),.slice na j.nodes.length nc]) (by simp[results,Tryz.results92,go_sem,r0,r1,r2,r3,r4,r5,r6,r7,r8]) rfl ⟨j,.slice na j.nodes.length nc,rfl,HJ.out.c.past (set9_chg _ _ _ _ _ _ _ _ _ _ _) (by simp),HJ.out.s.chg HS.out (set9_chg _ _ _ _ _ _ _ _ _ _ _) (by simp),row_box HJ.out.n HJ.out.r (by decide) (set9_chg _ _ _ _ _ _ _ _ _ _ _),HD.out⟩
end Go.Proofs.YtdoeoojjabnboaaGreat
