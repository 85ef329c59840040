/- The draw of a pool. -/
import Derived.Test.YtdoeoojjabnboaaGreatKDK
import Derived.Test.YtdoeoojjabnboaaGreatKAQ
import Derived.Test.YtdoeoojjabnboaaGreatKAG
import Derived.Deep.CutBlock
set_option maxRecDepth 100000
set_option linter.unusedVariables false
namespace Go.Proofs.YtdoeoojjabnboaaGreat
open Go.RowKit Go.Fin1
theorem ownP_box9 {B:Nat} {w:World} {fc fj:List Nat} {c j:Value} {p:Pl} (h:OwnP B w fc fj c j p) {g:Nat} {cs:List Value} {t:TypeId} (hg:Blk w g cs t) (h1:t∉[78,28]) (h2:t∉[48,2]):∀ b∈fc++fj,b∉[g]:=fun b hb hm=>by
 obtain rfl:=List.mem_singleton.1 hm
 rcases List.mem_append.1 hb with hb | hb
 ·exact oLabelSS_typed.apart h.1.1 hg h1 hb
 ·exact oJobS_typed.apart h.2.1.1 hg h2 hb
theorem info_LS9:(Tryz.prog.info? 78).map (fun i=>(i.zero,i.size,i.bytes))=some (some (.slice none 0 0),1,24):=by kernel_rfl
theorem el_LS9:ElemInfo Tryz.prog 23 78 1 24:=by
 obtain⟨i,hi,hz,hs,hb⟩:=info_parts info_LS9
 exact⟨Tryz.underlying23,⟨i,_,hi,hz,hs,hb,rfl⟩,by decide⟩
theorem row_two {α β:Type} {B B':Nat} {w w':World} {ty K ty' K':Nat} {f:α→List Value} {f':β→List Value} {v v':Value} {xs:List α} {ys:List β} (h:Row B w ty K f v xs) (k:Row B' w ty' K' f' v' ys) (ht:ty≠ty') (hx:Chg (blkL v') w w'):Row B w' ty K f v xs:=h.chg hx fun b hb hm=>by
 obtain⟨c1,h1⟩:=h.type b hb
 obtain⟨c2,h2⟩:=k.type b hm
 rw[h1] at h2
 simp at h2
 exact ht h2.2
theorem blk_row {α:Type} {B b:Nat} {w:World} {ty ty' K:Nat} {f:α→List Value} {v:Value} {xs:List α} {cs:List Value} (hb:Blk w b cs ty') (h:Row B w ty K f v xs) (ht:ty≠ty'):b∉blkL v:=fun hm=>by
 obtain⟨c1,h1⟩:=h.type b hm
 unfold Blk at hb
 rw[h1] at hb
 simp at hb
 exact ht hb.2
theorem ClsR.app {B:Nat} {W W':World} {v v':Value} {ls:List LW} {r:LW} (h:ClsR B W v ls) (hc:Chg (blkL v) W W') (hR:Row B W' 78 1 LW.cells v' (ls++[r])) (hr:(∀ x∈r.1,x.ok)∧Row B W 28 2 Lab.cells (LW.nv r) r.1):ClsR B W' v' (ls++[r]) :=
 ⟨hR,fun x hx=>by
  rcases List.mem_append.1 hx with hx | hx
  ·exact⟨(h.nd x hx).1,row_two (h.nd x hx).2 h.row (by decide) hc⟩
  ·obtain rfl:=List.mem_singleton.1 hx
   exact⟨hr.1,row_two hr.2 h.row (by decide) hc⟩⟩
theorem JbsR.app {B:Nat} {W W':World} {v v':Value} {rs:List RJ} {r:RJ} (h:JbsR B W v rs) (hc:Chg (blkL v) W W') (hR:Row B W' 48 9 RJ.cells v' (rs++[r])) (hr:r.1.fit∧Row B W 2 1 intCell (RJ.nv r) r.1.nodes):JbsR B W' v' (rs++[r]) :=
 ⟨hR,fun x hx=>by
  rcases List.mem_append.1 hx with hx | hx
  ·exact⟨(h.nd x hx).1,row_two (h.nd x hx).2 h.row (by decide) hc⟩
  ·obtain rfl:=List.mem_singleton.1 hx
   exact⟨hr.1,row_two hr.2 h.row (by decide) hc⟩⟩
theorem ClsR.jobsApp {B:Nat} {W W':World} {v u:Value} {ls:List LW} {rs:List RJ} (h:ClsR B W v ls) (k:JbsR B W u rs) (hc:Chg (blkL u) W W'):ClsR B W' v ls :=
 ⟨row_two h.row k.row (by decide) hc,fun x hx=>⟨(h.nd x hx).1,row_two (h.nd x hx).2 k.row (by decide) hc⟩⟩
theorem JbsR.clsApp {B:Nat} {W W':World} {v u:Value} {ls:List LW} {rs:List RJ} (k:JbsR B W u rs) (h:ClsR B W v ls) (hc:Chg (blkL v) W W'):JbsR B W' u rs :=
 ⟨row_two k.row h.row (by decide) hc,fun x hx=>⟨(k.nd x hx).1,row_two (k.nd x hx).2 h.row (by decide) hc⟩⟩
structure PdS (w:World) (g:Nat) (cv:Value) (l:List Int) (W:World) (b:Nat) (p:Pl) (c j:Value) (fc fj:List Nat):Prop where
 hc:Chg [g] w W
 hs:SrcA W g cv l
 hr:Blk W w.heap.size [.slice none 0 0,.slice none 0 0,(.int .i64 0)] 26
 bx:Blk W b [c,j,(.int .i64 p.now)] 26
 ho:OwnP w.heap.size W fc fj c j p
 lt:w.heap.size < b
 hz:PlZ p
theorem PdS.src {w:World} {g:Nat} {cv:Value} {l:List Int} {W W':World} {b:Nat} {p:Pl} {c j:Value} {fc fj:List Nat} (h:PdS w g cv l W b p c j fc fj) (hg:g < w.heap.size) (hc:Chg [g] W W') (hs:SrcA W' g cv l):PdS w g cv l W' b p c j fc fj :=
 ⟨h.hc.trans hc,hs,h.hr.chg hc (by simp;omega),h.bx.chg hc (by have:=h.lt;simp;omega),h.ho.chg hc (by simp;omega),h.lt,h.hz⟩
theorem PdS.store {w:World} {g:Nat} {cv:Value} {l:List Int} {W W':World} {b:Nat} {p p':Pl} {c j c' j':Value} {fc fj fc' fj':List Nat} (h:PdS w g cv l W b p c j fc fj) (h0:SrcA w g cv l) (hc:Chg [b] W W') (hb:Blk W' b [c',j',(.int .i64 p'.now)] 26) (ho:OwnP w.heap.size W fc' fj' c' j' p') (hz:PlZ p'):PdS w g cv l W' b p' c' j' fc' fj':=by
 have hlt:=h.lt
 exact⟨h.hc.past hc (by simp;omega),h.hs.chg h0 hc (by simp;omega),h.hr.chg hc (by simp;omega),hb,ho.far hc (ownP_box9 ho h.bx (by decide) (by decide)),h.lt,hz⟩
structure PeS (w:World) (g:Nat) (cv:Value) (l:List Int) (W:World) (b:Nat) (p:Pl) (c j:Value):Prop where
 hc:Chg [g] w W
 hs:SrcA W g cv l
 hr:Blk W w.heap.size [.slice none 0 0,.slice none 0 0,(.int .i64 0)] 26
 bx:Blk W b [c,j,(.int .i64 p.now)] 26
 ho:PlR w.heap.size W c j p
 lt:w.heap.size < b
 hb:PlB p
theorem PdS.e {w:World} {g:Nat} {cv:Value} {l:List Int} {W:World} {b:Nat} {p:Pl} {c j:Value} {fc fj:List Nat} (h:PdS w g cv l W b p c j fc fj):PeS w g cv l W b p c j :=
 ⟨h.hc,h.hs,h.hr,h.bx,h.ho.rows h.hz.ok,h.lt,h.hz.b⟩
theorem PlZ.nw {p:Pl} (h:PlZ p):(0≤p.now∧p.now≤999900)∧p.jobs.length≤99∧p.clear.length≤7:=by
 rcases h with h | rfl
 ·exact⟨(poolR_of h).nw,by have:=jobsR_len (poolR_of h).js;omega,by have:=(clearR_len6 (poolR_of h).cl).2;omega⟩
 ·exact⟨⟨by decide,by decide⟩,by decide,by decide⟩
theorem PeS.src {w:World} {g:Nat} {cv:Value} {l:List Int} {W W':World} {b:Nat} {p:Pl} {c j:Value} (h:PeS w g cv l W b p c j) (hg:g < w.heap.size) (hc:Chg [g] W W') (hs:SrcA W' g cv l):PeS w g cv l W' b p c j :=
 ⟨h.hc.trans hc,hs,h.hr.chg hc (by simp;omega),h.bx.chg hc (by have:=h.lt;simp;omega),h.ho.low hc hg,h.lt,h.hb⟩
theorem PeS.store {w:World} {g:Nat} {cv:Value} {l:List Int} {W W':World} {b:Nat} {p p':Pl} {c j c' j':Value} (h:PeS w g cv l W b p c j) (h0:SrcA w g cv l) (hc:Chg [b] W W') (hb:Blk W' b [c',j',(.int .i64 p'.now)] 26) (ho:PlR w.heap.size W c' j' p') (hB:PlB p'):PeS w g cv l W' b p' c' j':=by
 have hlt:=h.lt
 exact⟨h.hc.past hc (by simp;omega),h.hs.chg h0 hc (by simp;omega),h.hr.chg hc (by simp;omega),hb,ho.off hc (offP_box h.bx (by decide)),h.lt,hB⟩
theorem PlR.now {B:Nat} {w:World} {c j:Value} {p:Pl} (h:PlR B w c j p) {n:Int} (hn:I64 n):PlR B w c j { p with now:=n }:=by
 obtain⟨ls,rs,h1,h2,h3,h4,h5⟩:=h
 exact⟨ls,rs,h1,h2,h3,h4,hn⟩
theorem PlR.nil {B:Nat} {w:World} {c j:Value} {p:Pl} (h:PlR B w c j p):PlR B w (.slice none 0 0) j { p with clear:=[] }:=by
 obtain⟨ls,rs,h1,h2,h3,h4,h5⟩:=h
 exact⟨[],rs,⟨Row.nil _ _ _ _ _,fun x hx=>by cases hx⟩,h2,rfl,h4,h5⟩
theorem PlB.now {p:Pl} (h:PlB p) {n:Int}:PlB { p with now:=n }:=⟨h.c1,h.c2,h.j1,h.j2⟩
theorem PlB.nil {p:Pl} (h:PlB p):PlB { p with clear:=[] }:=⟨Nat.zero_le _,fun x hx=>(by cases hx),h.j1,h.j2⟩
theorem newR_Z (l:List (List Lab)):PlZ (newR l).1:=by
 by_cases h4:400 < l.length
 ·rw[newR_long h4];exact .inr rfl
 ·cases hc:clearR l
  ·rw[newR_no h4 hc];exact .inr rfl
  ·rw[newR_yes h4 hc];exact .inl (newP_right hc)
theorem advR_right {p:Pl} (h:(advR p).2.2=0):poolR (advR p).1=true:=by
 cases q1:poolR p
 ·rw[advR_form q1] at h;cases h
 ·by_cases q2:p.now=999900
  ·rw[advR_full q1 q2] at h;cases h
  ·rw[advR_yes q1 q2];exact advP_right q1 q2
theorem old_set9 {w:World} {g:Nat} (h:w.old g) (a:Addr) (v:Value):(w.setCell a v).old g:=by unfold World.old at h ⊢;simpa using h
theorem set5_plus9 {w:World} {X:More} {g:Nat} {a b c d e:Value} (h:w.old g):(((((w.plus X).setCell ⟨g,0,none⟩ a).setCell ⟨g,1,none⟩ b).setCell ⟨g,2,none⟩ c).setCell ⟨g,3,none⟩ d).setCell ⟨g,4,none⟩ e=(((((w.setCell ⟨g,0,none⟩ a).setCell ⟨g,1,none⟩ b).setCell ⟨g,2,none⟩ c).setCell ⟨g,3,none⟩ d).setCell ⟨g,4,none⟩ e).plus X:=by
 rw[World.setCell_plus _ _ _ _ _ h,World.setCell_plus _ _ _ _ _ (old_set9 h _ _),World.setCell_plus _ _ _ _ _ (old_set9 (old_set9 h _ _) _ _),World.setCell_plus _ _ _ _ _ (old_set9 (old_set9 (old_set9 h _ _) _ _) _ _),World.setCell_plus _ _ _ _ _ (old_set9 (old_set9 (old_set9 (old_set9 h _ _) _ _) _ _) _ _)]
theorem set5_chg9 (w:World) (g:Nat) (u0 u1 u2 u3 u4:Value):Chg [g] w (((((w.setCell ⟨g,0,none⟩ u0).setCell ⟨g,1,none⟩ u1).setCell ⟨g,2,none⟩ u2).setCell ⟨g,3,none⟩ u3).setCell ⟨g,4,none⟩ u4) :=
 (((((Chg.refl _ _).setCell (.inl (by simp)) _).setCell (.inl (by simp)) _).setCell (.inl (by simp)) _).setCell (.inl (by simp)) _).setCell (.inl (by simp)) _
theorem set3_chg9 (w:World) (g:Nat) (u0 u1 u2:Value):Chg [g] w (((w.setCell ⟨g,0,none⟩ u0).setCell ⟨g,1,none⟩ u1).setCell ⟨g,2,none⟩ u2):=(((Chg.refl _ _).setCell (.inl (by simp)) _).setCell (.inl (by simp)) _).setCell (.inl (by simp)) _
theorem set5_blk9 {w:World} {g:Nat} {t0 t1 t2 t3 t4:Value} {ty:TypeId} (h:Blk w g [t0,t1,t2,t3,t4] ty) (u0 u1 u2 u3 u4:Value):Blk (((((w.setCell ⟨g,0,none⟩ u0).setCell ⟨g,1,none⟩ u1).setCell ⟨g,2,none⟩ u2).setCell ⟨g,3,none⟩ u3).setCell ⟨g,4,none⟩ u4) g [u0,u1,u2,u3,u4] ty :=
 ((((h.set 0 u0).set 1 u1).set 2 u2).set 3 u3).set 4 u4
def kOut9 (B:Nat):XReg.Kind:=fun v u=>∃ (s:Pl) (id q:Int) (a1:Option Addr) (c1:Nat) (a2:Option Addr) (c2:Nat) (fc fj:List Nat),v=.agg #[.slice a1 s.clear.length c1,.slice a2 s.jobs.length c2,(.int .i64 s.now),(.int .i64 id),(.int .i64 q)]∧OwnP B u fc fj (.slice a1 s.clear.length c1) (.slice a2 s.jobs.length c2) s∧(q=0→poolR s=true)
theorem blk_cast {w:World} {b:Nat} {cs cs':List Value} {ty:TypeId} (h:Blk w b cs ty) (e:cs=cs'):Blk w b cs' ty:=e▸h
structure YS (B:Nat) (W:World) (b:Nat) (s:Pl) (q:Int):Prop where
 ex:∃ (id:Int) (a1:Option Addr) (c1:Nat) (a2:Option Addr) (c2:Nat) (fc fj:List Nat),Blk W b [.slice a1 s.clear.length c1,.slice a2 s.jobs.length c2,(.int .i64 s.now),(.int .i64 id),(.int .i64 q)] 32∧OwnP B W fc fj (.slice a1 s.clear.length c1) (.slice a2 s.jobs.length c2) s
 rt:q=0→poolR s=true
theorem YS.src {B g:Nat} {W W':World} {b:Nat} {s:Pl} {q:Int} (h:YS B W b s q) (hc:Chg [g] W W') (hb:b≠g) (hg:g < B):YS B W' b s q:=by
 obtain⟨⟨id,a1,c1,a2,c2,fc,fj,h1,h2⟩,h3⟩:=h
 exact⟨⟨id,a1,c1,a2,c2,fc,fj,h1.chg hc (by simpa using hb),h2.chg hc (by simp;omega)⟩,h3⟩
theorem YS.stored {B B':Nat} {W:World} {X:More} {b:Nat} {x0 x1 x2 x3 x4:Value} {s:Pl} {id q:Int} {a1:Option Addr} {c1:Nat} {a2:Option Addr} {c2:Nat} {fc fj:List Nat} (hb:Blk W b [x0,x1,x2,x3,x4] 32) (hO:OwnP B' (W.plus X) fc fj (.slice a1 s.clear.length c1) (.slice a2 s.jobs.length c2) s) (hB:B≤B') (hz:q=0→poolR s=true) :
  YS B ((((((W.setCell ⟨b,0,none⟩ (.slice a1 s.clear.length c1)).setCell ⟨b,1,none⟩ (.slice a2 s.jobs.length c2)).setCell ⟨b,2,none⟩ (.int .i64 s.now)).setCell ⟨b,3,none⟩ (.int .i64 id)).setCell ⟨b,4,none⟩ (.int .i64 q)).plus X) b s q∧Chg [b] W ((((((W.setCell ⟨b,0,none⟩ (.slice a1 s.clear.length c1)).setCell ⟨b,1,none⟩ (.slice a2 s.jobs.length c2)).setCell ⟨b,2,none⟩ (.int .i64 s.now)).setCell ⟨b,3,none⟩ (.int .i64 id)).setCell ⟨b,4,none⟩ (.int .i64 q)).plus X):=by
 refine⟨⟨⟨id,a1,c1,a2,c2,fc,fj,(set5_blk9 hb _ _ _ _ _).ext ((Ext.refl _).plus X),?_⟩,hz⟩,(set5_chg9 _ _ _ _ _ _ _).plus X⟩
 rw[← set5_plus9 hb.old]
 exact(hO.far (set5_chg9 (W.plus X) b _ _ _ _ _) (ownP_box9 hO (hb.ext ((Ext.refl _).plus X)) (by decide) (by decide))).mono hB
theorem YS.kind {B:Nat} {W W':World} {b:Nat} {x0 x1 x2 x3 x4 u0 u1 u2 u3 u4:Value} (hb:Blk W b [x0,x1,x2,x3,x4] 32) (hk:kOut9 B (.agg #[u0,u1,u2,u3,u4]) W) (hW:W'=((((W.setCell ⟨b,0,none⟩ u0).setCell ⟨b,1,none⟩ u1).setCell ⟨b,2,none⟩ u2).setCell ⟨b,3,none⟩ u3).setCell ⟨b,4,none⟩ u4):∃ s q,YS B W' b s q:=by
 obtain⟨s,id,q,a1,c1,a2,c2,fc,fj,hv,h,hz⟩:=hk
 have e:=congrArg Array.toList (Value.agg.inj hv)
 subst hW
 exact⟨s,q,⟨id,a1,c1,a2,c2,fc,fj,blk_cast (set5_blk9 hb u0 u1 u2 u3 u4) (by simpa using e),h.far (set5_chg9 _ _ _ _ _ _ _) (ownP_box9 h hb (by decide) (by decide))⟩,hz⟩
def kClV (B:Nat) (L:List (List Lab)):XReg.Kind:=fun v u=>∃ (a:Option Addr) (c:Nat) (r:List Lab),r∈L∧v=.slice a r.length c∧Row B u 28 2 Lab.cells v r
theorem kClV_good {B g:Nat} {cv:Value} {l:List Int} {L:List (List Lab)} {w0:World} {a:Option Addr} {c:Nat} {r:List Lab} (hr:r∈L) (h:Row B w0 28 2 Lab.cells (.slice a r.length c) r) (hg:g < B):XReg.GoodKL (SrcR g cv l) (kClV B L) :=
 ⟨fun _ _ _ hx ⟨a,c,r,h1,h2,h3⟩=>⟨a,c,r,h1,h2,h3.chg hx.1 (fun b hb=>by have:=(h3.blk b hb).1;simp;omega)⟩,_,w0,a,c,r,hr,rfl,h⟩
def kPtK (b n:Nat):XReg.Kind:=fun v _=>∃ k,k < n∧v=.pointer (some ⟨b,k,none⟩)
theorem kPtK_good {R:World→World→Prop} {b n:Nat} (hn:0 < n):XReg.GoodKL R (kPtK b n):=⟨fun _ _ _ _ h=>h,_,default,0,hn,rfl⟩
def kBd (lo hi:Int):XReg.Kind:=fun v _=>∃ n:Int,v=(.int .i64 n)∧(lo≤n∧n≤hi)
theorem kBd_good {R:World→World→Prop} {lo hi:Int} (h:lo≤hi):XReg.GoodKL R (kBd lo hi):=⟨fun _ _ _ _ h=>h,(.int .i64 lo),default,lo,rfl,by omega⟩
def kBox9 (B g:Nat) (cs:List Value) (ty:TypeId):XReg.Kind:=fun v u=>∃ b,v=.pointer (some ⟨b,0,none⟩)∧B≤b∧b≠g∧Blk u b cs ty
theorem kBox9_good {B g:Nat} {cv:Value} {l:List Int} {cs:List Value} {ty:TypeId}:XReg.GoodKL (SrcR g cv l) (kBox9 B g cs ty) :=
 ⟨fun _ _ _ hx ⟨b,hv,hB,hb,h⟩=>⟨b,hv,hB,hb,h.chg hx.1 (by simpa using hb)⟩,.pointer (some ⟨(emptyG (B+g+1)).heap.size,0,none⟩),_,_,rfl,by rw[emptyG_size];omega,by rw[emptyG_size];omega,Blk.new (cs:=cs.toArray) rfl⟩
theorem kOut9_good {B g:Nat} {cv:Value} {l:List Int} (hg:g < B):XReg.GoodKL (SrcR g cv l) (kOut9 B) :=
 ⟨fun _ _ _ hx ⟨s,id,q,a1,c1,a2,c2,fc,fj,hv,h,hz⟩=>⟨s,id,q,a1,c1,a2,c2,fc,fj,hv,h.chg hx.1 (by simp;omega),hz⟩,_,default,⟨[],[],0⟩,0,1,none,0,none,0,[],[],rfl,OwnP.zero B _ 0,fun h=>absurd h (by decide)⟩
theorem kOut9_of {B:Nat} {w:World} {s:Pl} {id q:Int} {yc yj:Value} {fc fj:List Nat} (h:OwnP B w fc fj yc yj s) (hz:q=0→poolR s=true):kOut9 B (poV s id q yc yj) w:=by
 obtain⟨a1,c1,rfl⟩:=h.1.shape
 obtain⟨a2,c2,rfl⟩:=h.2.1.shape
 exact⟨s,id,q,a1,c1,a2,c2,fc,fj,rfl,h,hz⟩
theorem i64_bd {n lo hi:Int} (h:lo≤n∧n≤hi) (h1:-1000≤lo) (h2:hi≤1000):I64 n:=by unfold I64;omega
def eq9 (c:Value):XReg.Kind:=fun u _=>u=c
def jb9 (B:Nat):XReg.Kind:=fun v u=>∃ r:RJ,v=.agg #[(.int .i64 r.1.l.lv),(.int .i64 r.1.l.st),(.int .i64 r.1.id),(.int .i64 r.1.need),(.int .i64 r.1.long),(.int .i64 r.1.prio),(.int .i64 r.1.state),(.int .i64 r.1.start),.slice r.2.1 r.1.nodes.length r.2.2]∧Row B u 2 1 intCell (RJ.nv r) r.1.nodes∧JbD r.1 4
def jo9 (B g:Nat):XReg.Kind:=fun v u=>∃ (r:RJ) (g1:Nat),v=.slice (some ⟨g1,0,none⟩) 1 1∧Blk u g1 (RJ.cells r) 48∧g1≠g∧Row B u 2 1 intCell (RJ.nv r) r.1.nodes∧JbD r.1 4
def lb9:XReg.Kind:=fun v _=>∃ x:Lab,v=.agg #[(.int .i64 x.lv),(.int .i64 x.st)]∧x.ok
def ls9 (B:Nat):XReg.Kind:=fun v u=>∃ (xs:List Lab) (gb:Nat),v=.slice (some ⟨gb,0,none⟩) 2 2∧xs.length=2∧(∀ x∈xs,x.ok)∧Row B u 28 2 Lab.cells v xs
def lo9 (B g:Nat):XReg.Kind:=fun v u=>∃ (r:LW) (g1:Nat),v=.slice (some ⟨g1,0,none⟩) 1 1∧Blk u g1 (LW.cells r) 78∧g1≠g∧Row B u 28 2 Lab.cells (LW.nv r) r.1∧r.1.length=2∧∀ x∈r.1,x.ok
def St9 (g:Nat) (cv:Value) (l:List Int) (K:XReg.Kind):Prop:=∀ v w w',SrcR g cv l w w'→K v w→K v w'
section
variable {g B:Nat} {cv:Value} {l:List Int}
theorem st_eq {c:Value}:St9 g cv l (eq9 c):=fun _ _ _ _ h=>h
theorem st_lb:St9 g cv l lb9:=fun _ _ _ _ h=>h
theorem row_low {α:Type} {w w':World} {ty K:Nat} {f:α→List Value} {v:Value} {xs:List α} (h:Row B w ty K f v xs) (hx:Chg [g] w w') (hg:g < B):Row B w' ty K f v xs:=h.chg hx fun b hb=>by have:=(h.blk b hb).1;simp;omega
theorem st_jb (hg:g < B):St9 g cv l (jb9 B):=fun _ _ _ hx ⟨r,h1,h2,h3⟩=>⟨r,h1,row_low h2 hx.1 hg,h3⟩
theorem st_jo (hg:g < B):St9 g cv l (jo9 B g):=fun _ _ _ hx ⟨r,g1,h1,h2,h3,h4,h5⟩=>⟨r,g1,h1,h2.chg hx.1 (by simpa using h3),h3,row_low h4 hx.1 hg,h5⟩
theorem st_ls (hg:g < B):St9 g cv l (ls9 B):=fun _ _ _ hx ⟨xs,gb,h1,h2,h3,h4⟩=>⟨xs,gb,h1,h2,h3,row_low h4 hx.1 hg⟩
theorem st_lo (hg:g < B):St9 g cv l (lo9 B g):=fun _ _ _ hx ⟨r,g1,h1,h2,h3,h4,h5⟩=>⟨r,g1,h1,h2.chg hx.1 (by simpa using h3),h3,row_low h4 hx.1 hg,h5⟩
end
theorem row_twoL {w:World} {B:Nat} {x y:Lab} (hB:B≤w.heap.size):Row B (w.alloc (.cells #[(.int .i64 x.lv),(.int .i64 x.st),(.int .i64 y.lv),(.int .i64 y.st)] 28)) 28 2 Lab.cells (.slice (some ⟨w.heap.size,0,none⟩) 2 2) [x,y] :=
 ⟨rfl,.inr ⟨w.heap.size,2,#[(.int .i64 x.lv),(.int .i64 x.st),(.int .i64 y.lv),(.int .i64 y.st)],rfl,hB,heap_alloc_new w _,Nat.le_refl _,by unfold maxLen;omega,rfl,rfl⟩⟩
structure AqP (w:World) (g:Nat) (cv:Value) (l:List Int) (u:World) (bP:Nat) (c0 j0:Value) (c j:Value) (p:Pl):Prop where
 hc:Chg [g] w u
 hs:SrcA u g cv l
 hr:Blk u w.heap.size [.slice none 0 0,.slice none 0 0,(.int .i64 0)] 26
 bx:Blk u bP [c0,j0,(.int .i64 p.now)] 26
 ho:PlR w.heap.size u c j p
 lt:w.heap.size < bP
 hb:PlB p
theorem AqP.store {w:World} {g:Nat} {cv:Value} {l:List Int} {u W':World} {bP:Nat} {c0 j0 c j:Value} {p:Pl} (h:AqP w g cv l u bP c0 j0 c j p) (h0:SrcA w g cv l) (hc:Chg [bP] u W') (hb:Blk W' bP [c,j,(.int .i64 p.now)] 26):PeS w g cv l W' bP p c j:=by
 have hlt:=h.lt
 exact⟨h.hc.past hc (by simp;omega),h.hs.chg h0 hc (by simp;omega),h.hr.chg hc (by simp;omega),hb,h.ho.off hc (offP_box h.bx (by decide)),h.lt,h.hb⟩
theorem AqP.jobs {w:World} {g:Nat} {cv:Value} {l:List Int} {W W':World} {bP:Nat} {c j v':Value} {p:Pl} (h:PeS w g cv l W bP p c j) (h0:SrcA w g cv l) {ls:List LW} {rs:List RJ} (h1:ClsR w.heap.size W c ls) (h2:JbsR w.heap.size W j rs) (h3:ls.map Prod.fst=p.clear) (h4:rs.map Prod.fst=p.jobs) (h5:I64 p.now) {r:RJ}
  (hc:Chg (blkL j) W W') (hR:Row w.heap.size W' 48 9 RJ.cells v' (rs++[r])) (hn:Row w.heap.size W 2 1 intCell (RJ.nv r) r.1.nodes) (hD:JbD r.1 4) (hl:p.jobs.length≤99):AqP w g cv l W' bP c j c v' { p with jobs:=p.jobs++[r.1] }:=by
 have hy:∀ b∈blkL j,w.heap.size≤b:=fun b hb=>(h2.row.blk b hb).1
 refine⟨h.hc.past hc hy,h.hs.chg h0 hc hy,h.hr.chg hc (blk_row h.hr h2.row (by decide)),h.bx.chg hc (blk_row h.bx h2.row (by decide)),⟨ls,rs++[r],h1.jobsApp h2 hc,h2.app hc hR ⟨hD.fit,hn⟩,h3,by rw[List.map_append,h4];rfl,h5⟩,h.lt,⟨h.hb.c1,h.hb.c2,by show (p.jobs++[r.1]).length≤100;simp;omega,fun x hx=>?_⟩⟩
 rcases List.mem_append.1 hx with hx | hx
 ·exact h.hb.j2 x hx
 ·obtain rfl:=List.mem_singleton.1 hx;have:=hD.ln;omega
theorem AqP.clear {w:World} {g:Nat} {cv:Value} {l:List Int} {W W':World} {bP:Nat} {c j v':Value} {p:Pl} (h:PeS w g cv l W bP p c j) (h0:SrcA w g cv l) {ls:List LW} {rs:List RJ} (h1:ClsR w.heap.size W c ls) (h2:JbsR w.heap.size W j rs) (h3:ls.map Prod.fst=p.clear) (h4:rs.map Prod.fst=p.jobs) (h5:I64 p.now) {r:LW}
  (hc:Chg (blkL c) W W') (hR:Row w.heap.size W' 78 1 LW.cells v' (ls++[r])) (hn:Row w.heap.size W 28 2 Lab.cells (LW.nv r) r.1) (hD:r.1.length=2∧∀ x∈r.1,x.ok) (hl:p.clear.length≤7):AqP w g cv l W' bP c j v' j { p with clear:=p.clear++[r.1] }:=by
 have hy:∀ b∈blkL c,w.heap.size≤b:=fun b hb=>(h1.row.blk b hb).1
 refine⟨h.hc.past hc hy,h.hs.chg h0 hc hy,h.hr.chg hc (blk_row h.hr h1.row (by decide)),h.bx.chg hc (blk_row h.bx h1.row (by decide)),⟨ls++[r],rs,h1.app hc hR ⟨hD.2,hn⟩,h2.clsApp h1 hc,by rw[List.map_append,h3];rfl,h4,h5⟩,h.lt,⟨by show (p.clear++[r.1]).length≤8;simp;omega,fun x hx=>?_,h.hb.j1,h.hb.j2⟩⟩
 rcases List.mem_append.1 hx with hx | hx
 ·exact h.hb.c2 x hx
 ·obtain rfl:=List.mem_singleton.1 hx;omega
def PostJ (w:World) (g:Nat) (cv:Value) (l:List Int) (bP:Nat) (c0 j0:Value) (p:Pl):Value→World→Prop:=fun v u=>∃ (r:Jb) (a:Option Addr) (n:Nat),v=.slice a (p.jobs++[r]).length n∧AqP w g cv l u bP c0 j0 c0 v { p with jobs:=p.jobs++[r] }
def PostC (w:World) (g:Nat) (cv:Value) (l:List Int) (bP:Nat) (c0 j0:Value) (p:Pl):Value→World→Prop:=fun v u=>∃ (r:List Lab) (a:Option Addr) (n:Nat),v=.slice a (p.clear++[r]).length n∧AqP w g cv l u bP c0 j0 v j0 { p with clear:=p.clear++[r] }
set_option maxHeartbeats 25600000 in
theorem srcPool_any (g:Nat) (w:World) (cv:Value) (l:List Int) (h:SrcA w g cv l) :
  Calls Tryz.prog 42 #[.pointer (some ⟨g,0,none⟩)] w fun e w'=>∃ (p:Pl) (c j:Value),e=.returned (p.val c j)∧Chg [g] w w'∧SrcA w' g cv l∧PlR w.heap.size w' c j p∧PlB p:=by
 have HS:=tH h
 have HG:=tH h.old
 clear h
 have H2:Hid (I64 2):=tH (by unfold I64;omega)
 have H3:Hid (I64 3):=tH (by unfold I64;omega)
 have H4:Hid (I64 4):=tH (by unfold I64;omega)
 have H5:Hid (I64 5):=tH (by unfold I64;omega)
 have H12:Hid (I64 12):=tH (by unfold I64;omega)
 have H15:Hid (I64 15):=tH (by unfold I64;omega)
 have hfp:∀ (a b c d e:Value) w,(Instr.field 32 (.agg #[a,b,c,d,e]) 0).run Tryz.prog w=.ok (.agg #[a,b,c]) w:=fun a b c d e w=>by kernel_rfl
 go_enter Tryz.func42,Tryz.ntmps42
 go_upto_region 2 with fail
 refine gen_world (fun W1 hW=>?_)
 have HC1:=tH (show Chg [g] w W1 by rw[hW];exact Ext.chg xE _)
 have HA1:=tH (show SrcA W1 g cv l by rw[hW];exact HS.out.ext xE)
 have HR1:=tH (show Blk W1 w.heap.size [.slice none 0 0,.slice none 0 0,(.int .i64 0)] 26 by rw[hW];exact(Blk.new (w:=w) (cs:=#[.slice none 0 0,.slice none 0 0,(.int .i64 0)]) (ty:=26) rfl).ext xE)
 have HO1:=tH (show ClsR w.heap.size W1 (.slice (some ⟨w.heap.size+1,0,none⟩) 0 0) [] by rw[hW];exact⟨Row.madeB' (by simp) (by simp),fun x hx=>by cases hx⟩)
 clear hW
 go_wp2_with fail
 refine(srcN' g 4 _ cv l HA1.out H4.out).mono ?_
 rintro e W2 ⟨k0,rfl,hb,hc,hs⟩
 have hk03:k0≤3:=by omega
 obtain⟨k1,hk1,hk4⟩:∃ k1:Nat,(1+(k0:Int))=(k1:Int)∧k1≤4:=⟨k0+1,by omega,by omega⟩
 have HC2:=tH (HC1.out.trans hc)
 have HA2:=tH hs
 have HR2:=tH (HR1.out.chg hc (by have:=HG.out;simp;omega))
 have HO2:=tH (HO1.out.off hc (offP_g HG.out))
 have HK1:=tH hk1
 clear hc hs hb HC1 HA1 HR1 HO1 W1 hk1
 go_wp2
 go_loopw [4,3] (fun i o wr=>∃ (k:Nat) (ls:List LW),k≤4∧i=Value.int .i64 k∧Hid (Chg [g] w wr)∧Hid (SrcA wr g cv l)∧Hid (Blk wr w.heap.size [.slice none 0 0,.slice none 0 0,(.int .i64 0)] 26)∧Hid (ClsR w.heap.size wr o ls)∧Hid ((∀ x∈ls,x.1.length≤4)∧ls.length+k≤4)) (fun i _ _=>(intOf i).toNat)
 case atStart=>exact⟨k1,[],hk4,(by first | rfl | exact congrArg (Value.int .i64) HK1.out),HC2,HA2,HR2,HO2,tH ⟨fun x hx=>(by cases hx),by simpa using hk4⟩⟩
 case round =>
  clear HC2 HA2 HR2 HO2
  obtain⟨k,ls,hk,rfl,HC,HA,HR,HO,HL⟩:=hrel
  obtain⟨oa,oc,rfl⟩:=HO.out.row.shape
  by_cases hk0:0 < k
  ·have hkb:decide ((0:Int) < (k:Int))=true:=decide_eq_true (by omega)
   go_wp2_with fail
   refine(srcChain_any g _ cv l HA.out).mono ?_
   rintro e W3 ⟨v',xs,rfl,hc,hs,hR,hx,hl⟩
   obtain⟨xa,xc,rfl⟩:=hR.shape
   have HC3:=tH (HC.out.trans hc)
   have HA3:=tH hs
   have HR3:=tH (HR.out.chg hc (by have:=HG.out;simp;omega))
   have HO3:=tH (HO.out.off hc (offP_g HG.out))
   have HX3:=tH (show (∀ x∈((xs,(xa,xc)):LW).1,x.ok)∧Row w.heap.size W3 28 2 Lab.cells (LW.nv (xs,(xa,xc))) xs from ⟨hx,hR.mono HC.out.size⟩)
   have HXL:=tH hl
   have hsz:=tH HC3.out.size
   clear hc hs hR hx hl HC HA HR HO
   have hw1:wrap64 ((k:Int)-1)=(k:Int)-1:=by unfold wrap64;omega
   go_wp2_with (at_builtin;go_must (refine Row.appN (f:=LW.cells) el_LS9 rfl _ _ rfl w.heap.size hsz.out _ ls rfl HO3.out.row (xs,(xa,xc)) rfl _ ?_ rfl (fun _=>rfl) ?_ ?_ ?_ ?_);(simp);(simp[Value.oneCell']);(have:=HL.out.2;unfold maxLen;omega);(have:=HL.out.2;omega);intro v' w8 hR8 hc8;have HR8:=tH hR8;have HC8:=tH hc8;clear hR8 hc8)
   exact⟨⟨k-1,ls++[(xs,(xa,xc))],by omega,by go_num,tH (HC3.out.past HC8.out (fun b hb=>(HO3.out.row.blk b hb).1)),tH (HA3.out.chg HS.out HC8.out (fun b hb=>(HO3.out.row.blk b hb).1)),tH (HR3.out.chg HC8.out (blk_row HR3.out HO3.out.row (by decide))),tH (HO3.out.app HC8.out HR8.out HX3.out),tH ⟨fun x hx=>by
    rcases List.mem_append.1 hx with hx | hx
    ·exact HL.out.1 x hx
    ·obtain rfl:=List.mem_singleton.1 hx;exact HXL.out,by have:=HL.out.2;simp;omega⟩⟩,by simp[intOf];omega⟩
  ·obtain rfl:k=0:=by omega
   have hcl:szL List.length (ls.map Prod.fst)≤1048576:=by
    have h3:((ls.map Prod.fst).map List.length).sum≤4*(ls.map Prod.fst).length:=sum_bound fun x hx=>by
     obtain⟨y,hy,rfl⟩:=List.mem_map.1 hx
     exact HL.out.1 y hy
    have:=HL.out.2
    rw[List.length_map] at h3
    unfold szL
    rw[List.length_map]
    omega
   have HCL:=tH hcl
   have HSL:=tH HO.out.labs
   clear hcl
   obtain⟨sa,sc,hsl⟩:=HSL.out.len
   rw[List.length_map] at hsl
   go_wp2_with fail
   refine(specPoolNew_any _ (ls.map Prod.fst) _ HSL.out HCL.out).mono ?_
   rintro e _ ⟨yc,yj,fc,fj,rfl,⟨X,rfl⟩,hO⟩
   obtain⟨ca,cc,rfl⟩:=hO.1.shape
   obtain⟨ja,jc,rfl⟩:=hO.2.1.shape
   unfold poV
   have HZ:=tH (newR_Z (ls.map Prod.fst))
   have HOP:=tH (hO.mono HC.out.size)
   clear hO
   generalize (newR (ls.map Prod.fst)).1=p at HZ HOP ⊢
   go_upto_region 7 with fail
   refine gen_world (fun W4 hW=>?_)
   have HP:=tH (show PdS w g cv l W4 (wr.heap.size+X.n) p (.slice ca p.clear.length cc) (.slice ja p.jobs.length jc) fc fj from
    ⟨by rw[hW];exact HC.out.trans (Ext.chg xE _),by rw[hW];exact HA.out.ext xE,by rw[hW];exact HR.out.ext xE,by rw[hW];exact Blk.new (by simp),by rw[hW];exact HOP.out.ext xE,by have:=HR.out.old;unfold World.old at this;omega,HZ.out⟩)
   clear hW HC HA HR HO HL HCL HSL HZ HOP
   generalize wr.heap.size+X.n=bP at HP ⊢
   go_wp2_with fail
   refine(srcN' g 12 _ cv l HP.out.hs H12.out).mono ?_
   rintro e W5 ⟨k0,rfl,hb,hc,hs⟩
   have hk12:k0≤12:=by omega
   have HP5:=tH (HP.out.src HG.out hc hs)
   clear hc hs hb HP
   go_upto_block 2 with fail
   go_cut [6,7,8,9] from 28 (fun s6 s7 s8 s9 wc=>∃ (p:Pl) (c j:Value),Hid (PeS w g cv l wc bP p c j)∧Hid ((0≤p.now∧p.now≤999900)∧p.jobs.length≤99∧p.clear.length≤7))
   case first =>
    go_wp2_with fail
    go_loopw [6] (fun i wr=>∃ (k:Nat) (p:Pl) (c j:Value) (fc fj:List Nat),k≤12∧i=Value.int .i64 k∧Hid (PdS w g cv l wr bP p c j fc fj)) (fun i _=>(intOf i).toNat)
    case atStart=>exact⟨k0,p,_,_,fc,fj,hk12,rfl,HP5⟩
    case round =>
     clear HP5 hk0 hk hk12
     obtain⟨k,p,c,j,fc,fj,hk,rfl,HP⟩:=hrel
     obtain⟨ca,cc,rfl⟩:=HP.out.ho.1.shape
     obtain⟨ja,jc,rfl⟩:=HP.out.ho.2.1.shape
     have p0:wr.cell? ⟨bP,0,none⟩=some (.slice ca p.clear.length cc):=HP.out.bx.cell 0
     have p1:wr.cell? ⟨bP,1,none⟩=some (.slice ja p.jobs.length jc):=HP.out.bx.cell 1
     have p2:wr.cell? ⟨bP,2,none⟩=some (.int .i64 p.now):=HP.out.bx.cell 2
     have po:=HP.out.bx.old
     have pf:=HP.out.bx.fz
     by_cases hk0:0 < k
     case neg =>
      obtain rfl:k=0:=by omega
      go_wp2_with fail
      go_meet
      exact⟨p,_,_,tH HP.out.e,tH HP.out.hz.nw⟩
     have hkb:decide ((0:Int) < (k:Int))=true:=decide_eq_true (by omega)
     by_cases hcl:0 < p.clear.length
     case neg =>
      have hcb:decide ((0:Int) < (p.clear.length:Int))=false:=decide_eq_false (by omega)
      go_wp2_with fail
      go_meet
      exact⟨p,_,_,tH HP.out.e,tH HP.out.hz.nw⟩
     have hcb:decide ((0:Int) < (p.clear.length:Int))=true:=decide_eq_true (by omega)
     have HPR:=tH (HP.out.hz.right hcl)
     obtain⟨bC,hca,hbC,xa,xc,hx0,hrow0⟩:=own_clear HP.out.ho.1 hcl
     subst hca
     have HBC:=tH (HP.out.ho.low bC (List.mem_append_left _ hbC))
     have HW0:=tH hrow0
     clear hbC hx0 hrow0
     go_upto_region 10 with fail
     clear p0 p1 p2 po pf
     have HIL:=tH (show I64 (p.clear.length:Int) from i64_nat (PlB.c1 (HP.out.hz.b)) (by decide))
     (refine wp_region_l (R:=SrcR g cv l) (SrcR.trans) 10 [(fun u _=>u=(.pointer (some ⟨bP,0,none⟩))),(fun u _=>u=(.slice (some ⟨bC,0,none⟩) p.clear.length cc)),(fun u _=>u=(.pointer (some ⟨g,0,none⟩))),(fun u _=>u=(.pointer (some ⟨bP,0,none⟩))),(fun u _=>u=(.slice (some ⟨bC,0,none⟩) p.clear.length cc)),(fun u _=>u=(.int .i64 (p.clear.length:Int))),kLt p.clear.length,kPtK bC p.clear.length,kClV w.heap.size p.clear,kClV w.heap.size p.clear] (by kernel_rfl) (by kernel_rfl) (by kernel_rfl) rfl ?_ (by repeat' (first | exact trivial | exact XReg.GoodKL.same _ _ default | exact kI64_good | exact kLt_good (by decide) | exact kArr_good | exact kPt_good (by decide) | (first | exact kLt_good hcl | exact kPtK_good hcl | exact kClV_good (List.getElem_mem hcl) HW0.out HG.out) | refine And.intro ?_ ?_)) (SrcR.ext (Ext.refl _).drew))
     (apply LReg.val (.pointer (some ⟨bP,0,none⟩));(case h=>(intro w' hw' hF';have HW':=tH hw';clear hF' hw';go_wp2_with fail;exact⟨rfl,SrcR.ext xE⟩));(case hv=>kernel_rfl))
     apply LReg.val (.slice (some ⟨bC,0,none⟩) p.clear.length cc)
     case h =>
      intro w' hw' hF'
      (have hB:=HP.out.bx.chg hw'.1 (by have:=HP.out.lt;have:=HG.out;simp;omega);have p0:w'.cell? ⟨bP,0,none⟩=some (.slice (some ⟨bC,0,none⟩) p.clear.length cc):=hB.cell 0;have po:=hB.old;clear hB)
      clear hF' hw'
      go_wp2_with fail
      exact⟨rfl,SrcR.ext xE⟩
     case hv=>kernel_rfl
     (apply LReg.val (.pointer (some ⟨g,0,none⟩));(case h=>(intro w' hw' hF';have HW':=tH hw';clear hF' hw';go_wp2_with fail;exact⟨rfl,SrcR.ext xE⟩));(case hv=>kernel_rfl))
     (apply LReg.val (.pointer (some ⟨bP,0,none⟩));(case h=>(intro w' hw' hF';have HW':=tH hw';clear hF' hw';go_wp2_with fail;exact⟨rfl,SrcR.ext xE⟩));(case hv=>kernel_rfl))
     apply LReg.val (.slice (some ⟨bC,0,none⟩) p.clear.length cc)
     case h =>
      intro w' hw' hF'
      (have hB:=HP.out.bx.chg hw'.1 (by have:=HP.out.lt;have:=HG.out;simp;omega);have p0:w'.cell? ⟨bP,0,none⟩=some (.slice (some ⟨bC,0,none⟩) p.clear.length cc):=hB.cell 0;have po:=hB.old;clear hB)
      clear hF' hw'
      go_wp2_with fail
      exact⟨rfl,SrcR.ext xE⟩
     case hv=>kernel_rfl
     (apply LReg.val (.int .i64 (p.clear.length:Int));(case h=>(intro w' hw' hF';have HW':=tH hw';clear hF' hw';go_wp2_with fail;exact⟨rfl,SrcR.ext xE⟩));(case hv=>kernel_rfl))
     have HA0:=tH HP.out.hs
     refine LReg.kind (fun w' hw' hF'=>?_) (fun v w1 hK=>?_)
     ·have HW':=tH (hw'.2 HA0.out)
      clear hF' hw'
      go_wp2_with fail
      refine(srcN' g (p.clear.length:Int) _ cv l (HW'.out.ext xE) HIL.out).mono ?_
      rintro e w8 ⟨n,rfl,hb,hc,hs⟩
      have HR8:=tH (SrcR.of (w:=w') xE hc hs)
      have hn:n < p.clear.length:=by omega
      clear hc hs hb
      go_wp2
      exact⟨HR8.out,_,rfl,hn⟩
     obtain⟨n6,rfl,hn6⟩:=hK
     clear w1
     refine LReg.kind (fun w' hw' hF'=>?_) (fun v w1 hK=>?_)
     ·clear hw' hF'
      go_wp2
      exact⟨SrcR.ext xE,n6,hn6,rfl⟩
     obtain⟨n7,hn7,rfl⟩:=hK
     clear w1
     refine LReg.kind (fun w' hw' hF'=>?_) (fun v w1 hK=>?_)
     ·obtain⟨b9,hb9,-,ya,yc,hy0,hyr⟩:=own_clear (HP.out.ho.chg hw'.1 (by have:=HG.out;simp;omega)).1 hn7
      obtain rfl:bC=b9:=by simpa using hb9
      have HYR:=tH hyr
      have hyo:=World.old_of_cell hy0
      clear hw' hF' hb9 hyr
      go_wp2
      exact⟨SrcR.ext xE,ya,yc,_,List.getElem_mem hn7,rfl,HYR.out⟩
     obtain⟨ra,rc9,r,hr,rfl,-⟩:=hK
     clear w1
     refine LReg.kind (fun w' hw' hF'=>?_) (fun v w1 hK=>?_)
     ·have hk8:=tH (hF'.get 8 (p:=(kClV w.heap.size p.clear,.slice ra r.length rc9)) (by kernel_rfl) (by kernel_rfl))
      clear hw' hF'
      go_wp2
      exact⟨SrcR.ext xE,hk8.out⟩
     obtain⟨ta,tc,q,hq,rfl,-⟩:=hK
     clear w1
     refine LReg.doneN (fun w9 hw9 hF=>?_)
     obtain⟨ta',tc',q',hq',hv',hrw⟩:=hF 9 (kClV w.heap.size p.clear,.slice ta q.length tc) (by kernel_rfl)
     obtain⟨rfl,hql,rfl⟩:ta=ta'∧q.length=q'.length∧tc=tc':=by simpa using hv'
     rw[hql] at hrw ⊢
     have HRW:=tH hrw
     have HC9:=tH hw9.1
     have HA9:=tH (hw9.2 HA0.out)
     have HQB:=tH (show (1≤q'.length∧q'.length≤8)∧∀ x∈q',x.ok from ⟨(PlB.c2 HP.out.hz.b) _ hq',(PlOk.cl HP.out.hz.ok) _ hq'⟩)
     clear hF hw9 hrw hql hv' hq hq' hr q
     have hq8:q'.length≤8:=HQB.out.1.2
     go_wp2_with fail
     refine(srcN' g (q'.length:Int) _ cv l HA9.out (i64_nat HQB.out.1.2 (by decide))).mono ?_
     rintro e W11 ⟨n8,rfl,hb,hc,hs⟩
     have hn8:n8 < q'.length:=by have:=HQB.out.1.1;omega
     have HC11:=tH (HC9.out.trans hc)
     have HA11:=tH hs
     have HR11:=tH (HRW.out.chg hc (fun b hb=>by have:=(HRW.out.blk b hb).1;have:=HG.out;simp;omega))
     clear hc hs hb HC9 HA9 HRW
     obtain⟨bR,oR,rfl⟩:=slr_some (row_lab9 HR11.out) hn8
     obtain⟨ho,g0,g1⟩:=labs_at9 (row_lab9 HR11.out) hn8
     have HX:=tH (HQB.out.2 _ (List.getElem_mem hn8))
     go_upto_region 12 with fail
     refine gen_world (fun W12 hW=>?_)
     have HC12:=tH (show Chg [g] wr W12 by rw[hW];exact HC11.out.trans (Ext.chg xE _))
     have HA12:=tH (show SrcA W12 g cv l by rw[hW];exact HA11.out.ext xE)
     have HL12:=tH (show Blk W12 W11.heap.size [(.int .i64 q'[n8].lv),(.int .i64 q'[n8].st)] 28 by rw[hW];exact Blk.new rfl)
     have HBL:=tH (show wr.heap.size≤W11.heap.size∧W11.heap.size≠g from ⟨HC11.out.size,by have:=HA11.out.old;omega⟩)
     clear hW HC11 HA11 HR11 HQB ho g0 g1
     generalize W11.heap.size=bX at HL12 HBL ⊢
     generalize q'[n8]=x at HL12 HX
     clear hn8 hq8
     have HP12:=tH (HP.out.src HG.out HC12.out HA12.out)
     have HWS:=tH (show w.heap.size < wr.heap.size from HP.out.hr.old)
     (refine wp_region_l (R:=SrcR g cv l) (SrcR.trans) 12 [(fun u _=>u=(.agg #[.slice (some ⟨bC,0,none⟩) p.clear.length cc,.slice ja p.jobs.length jc,(.int .i64 p.now)])),(fun u _=>u=(.agg #[(.int .i64 x.lv),(.int .i64 x.st)])),(fun u _=>u=(.pointer (some ⟨g,0,none⟩))),kLt 2,kBd 1 2,(fun u _=>u=(.pointer (some ⟨g,0,none⟩))),kLt 5,kBd 1 5,(fun u _=>u=(.pointer (some ⟨g,0,none⟩))),kLt 3,kOut9 w.heap.size,kBox9 W12.heap.size g [.slice none 0 0,.slice none 0 0,(.int .i64 0),(.int .i64 0),(.int .i64 0)] 32] (by kernel_rfl) (by kernel_rfl) (by kernel_rfl) rfl ?_ (by repeat' (first | exact trivial | exact XReg.GoodKL.same _ _ default | exact kI64_good | exact kLt_good (by decide) | exact kArr_good | exact kPt_good (by decide) | (first | exact kBd_good (by decide) | exact kOut9_good HG.out | exact kBox9_good) | refine And.intro ?_ ?_)) (SrcR.ext (Ext.refl _).drew))
     apply LReg.val (.agg #[.slice (some ⟨bC,0,none⟩) p.clear.length cc,.slice ja p.jobs.length jc,(.int .i64 p.now)])
     case h =>
      intro w' hw' hF'
      (have hB:=HP12.out.bx.chg hw'.1 (by have:=HP12.out.lt;have:=HG.out;simp;omega);have p0:w'.cell? ⟨bP,0,none⟩=some (.slice (some ⟨bC,0,none⟩) p.clear.length cc):=hB.cell 0;have p1:w'.cell? ⟨bP,1,none⟩=some (.slice ja p.jobs.length jc):=hB.cell 1;have p2:w'.cell? ⟨bP,2,none⟩=some (.int .i64 p.now):=hB.cell 2;have po:=hB.old;clear hB)
      clear hF' hw'
      go_wp2_with fail
      exact⟨rfl,SrcR.ext xE⟩
     case hv=>kernel_rfl
     apply LReg.val (.agg #[(.int .i64 x.lv),(.int .i64 x.st)])
     case h =>
      intro w' hw' hF'
      (have hB:=HL12.out.chg hw'.1 (by have:=HBL.out.2;simpa using this);have p0:w'.cell? ⟨bX,0,none⟩=some (.int .i64 x.lv):=hB.cell 0;have p1:w'.cell? ⟨bX,1,none⟩=some (.int .i64 x.st):=hB.cell 1;have po:=hB.old;clear hB)
      clear hF' hw'
      go_wp2_with fail
      exact⟨rfl,SrcR.ext xE⟩
     case hv=>kernel_rfl
     (apply LReg.val (.pointer (some ⟨g,0,none⟩));(case h=>(intro w' hw' hF';have HW':=tH hw';clear hF' hw';go_wp2_with fail;exact⟨rfl,SrcR.ext xE⟩));(case hv=>kernel_rfl))
     refine LReg.kind (fun w' hw' hF'=>?_) (fun v w1 hK=>?_)
     ·have HW':=tH (hw'.2 HA12.out)
      clear hF' hw'
      go_wp2_with fail
      refine(srcN' g 2 _ cv l (HW'.out.ext xE) H2.out).mono ?_
      rintro e w8 ⟨n,rfl,hb,hc,hs⟩
      have HR8:=tH (SrcR.of (w:=w') xE hc hs)
      have hn:n < 2:=by omega
      clear hc hs hb
      go_wp2
      exact⟨HR8.out,_,rfl,hn⟩
     obtain⟨m1,rfl,hm1⟩:=hK
     clear w1
     refine LReg.kind (fun w' hw' hF'=>?_) (fun v w1 hK=>?_)
     ·clear hw' hF'
      go_wp2
      exact⟨SrcR.ext xE,_,rfl,by omega⟩
     obtain⟨n1,rfl,hn1⟩:=hK
     clear w1
     (apply LReg.val (.pointer (some ⟨g,0,none⟩));(case h=>(intro w' hw' hF';have HW':=tH hw';clear hF' hw';go_wp2_with fail;exact⟨rfl,SrcR.ext xE⟩));(case hv=>kernel_rfl))
     refine LReg.kind (fun w' hw' hF'=>?_) (fun v w1 hK=>?_)
     ·have HW':=tH (hw'.2 HA12.out)
      clear hF' hw'
      go_wp2_with fail
      refine(srcN' g 5 _ cv l (HW'.out.ext xE) H5.out).mono ?_
      rintro e w8 ⟨n,rfl,hb,hc,hs⟩
      have HR8:=tH (SrcR.of (w:=w') xE hc hs)
      have hn:n < 5:=by omega
      clear hc hs hb
      go_wp2
      exact⟨HR8.out,_,rfl,hn⟩
     obtain⟨m2,rfl,hm2⟩:=hK
     clear w1
     refine LReg.kind (fun w' hw' hF'=>?_) (fun v w1 hK=>?_)
     ·clear hw' hF'
      go_wp2
      exact⟨SrcR.ext xE,_,rfl,by omega⟩
     obtain⟨n2,rfl,hn2⟩:=hK
     clear w1
     (apply LReg.val (.pointer (some ⟨g,0,none⟩));(case h=>(intro w' hw' hF';have HW':=tH hw';clear hF' hw';go_wp2_with fail;exact⟨rfl,SrcR.ext xE⟩));(case hv=>kernel_rfl))
     refine LReg.kind (fun w' hw' hF'=>?_) (fun v w1 hK=>?_)
     ·have HW':=tH (hw'.2 HA12.out)
      clear hF' hw'
      go_wp2_with fail
      refine(srcN' g 3 _ cv l (HW'.out.ext xE) H3.out).mono ?_
      rintro e w8 ⟨n,rfl,hb,hc,hs⟩
      have HR8:=tH (SrcR.of (w:=w') xE hc hs)
      have hn:n < 3:=by omega
      clear hc hs hb
      go_wp2
      exact⟨HR8.out,_,rfl,hn⟩
     obtain⟨m3,rfl,hm3⟩:=hK
     clear w1
     refine LReg.kind (fun w' hw' hF'=>?_) (fun v w1 hK=>?_)
     ·have hO:=HP12.out.ho.chg hw'.1 (by have:=HG.out;simp;omega)
      have HE:=tH (hO.e' (HP.out.hz.ok))
      have HSZ:=tH (Nat.le_trans HP12.out.hc.size hw'.1.size)
      clear hw' hF' hO
      go_wp2_with fail
      refine(specSubmit_any p _ x n1 n2 (m3:Int) _ (HE.out.ext xE) (PlB.fits HP.out.hz.b) HX.out (i64_bd hn1 (by decide) (by decide)) (i64_bd hn2 (by decide) (by decide)) (i64_nat (Nat.le_of_lt hm3) (by decide))).mono ?_
      rintro e _ ⟨yc,yj,fc9,fj9,rfl,⟨X,rfl⟩,hO⟩
      have HK9:=tH (kOut9_of (id:=(subR p x n1 n2 (m3:Int)).2.1) (q:=(subR p x n1 n2 (m3:Int)).2.2) (hO.mono HSZ.out) (fun h0=>(subR_right h0).2))
      clear hO
      go_wp2
      exact⟨SrcR.ext xE,HK9.out⟩
     obtain⟨s,id,q0,a1,c1,a2,c2,fc9,fj9,rfl,-⟩:=hK
     clear w1
     refine LReg.kind (fun w' hw' hF'=>?_) (fun v w1 hK=>?_)
     ·clear hF'
      have hgs:=(hw'.2 HA12.out).old
      unfold World.old at hgs
      have hsz:=hw'.1.size
      have H9a:=tH (show kBox9 W12.heap.size g [.slice none 0 0,.slice none 0 0,(.int .i64 0),(.int .i64 0),(.int .i64 0)] 32 (.pointer (some ⟨w'.heap.size,0,none⟩)) (w'.alloc (.cells #[.slice none 0 0,.slice none 0 0,(.int .i64 0),(.int .i64 0),(.int .i64 0)] 32)) from ⟨_,rfl,hsz,by omega,Blk.new rfl⟩)
      clear hw' hgs hsz
      go_wp2
      exact⟨SrcR.ext xE,H9a.out⟩
     obtain⟨bY,rfl,hbB,hbg,hs3⟩:=hK
     clear hs3 w1
     refine LReg.done (fun w9 hw9 hF=>?_)
     obtain⟨b',hv',-,-,hB9⟩:=hF 11 (kBox9 W12.heap.size g [.slice none 0 0,.slice none 0 0,(.int .i64 0),(.int .i64 0),(.int .i64 0)] 32,.pointer (some ⟨bY,0,none⟩)) (by kernel_rfl)
     obtain rfl:bY=b':=by simpa using hv'
     have HK9:=tH (hF 10 (kOut9 w.heap.size,.agg #[.slice a1 s.clear.length c1,.slice a2 s.jobs.length c2,(.int .i64 s.now),(.int .i64 id),(.int .i64 q0)]) (by kernel_rfl))
     have HB9:=tH hB9
     have HC9:=tH (HC12.out.trans hw9.1)
     have HA9:=tH (hw9.2 HA12.out)
     have HL9:=tH (HL12.out.chg hw9.1 (by have:=HBL.out.2;simpa using this))
     have HYB:=tH (show wr.heap.size≤bY∧bY≠g∧bX≠bY from ⟨Nat.le_trans HC12.out.size hbB,hbg,by have:=HL12.out.old;unfold World.old at this;omega⟩)
     have y0:w9.cell? ⟨bY,0,none⟩=some (.slice none 0 0):=hB9.cell 0
     have y1:w9.cell? ⟨bY,1,none⟩=some (.slice none 0 0):=hB9.cell 1
     have y2:w9.cell? ⟨bY,2,none⟩=some (.int .i64 0):=hB9.cell 2
     have y3:w9.cell? ⟨bY,3,none⟩=some (.int .i64 0):=hB9.cell 3
     have y4:w9.cell? ⟨bY,4,none⟩=some (.int .i64 0):=hB9.cell 4
     have yo:=hB9.old
     have yf:=hB9.fz
     clear hF hv' hw9 hB9 hbB hbg HC12 HA12 HL12 HP12
     go_upto_region 13 with fail
     refine gen_world (fun W13 hW=>?_)
     have hch:Chg [bY] w9 W13:=by rw[hW];exact set5_chg9 _ _ _ _ _ _ _
     have HY13:=tH (YS.kind HB9.out HK9.out hW)
     have HC13:=tH (HC9.out.past hch (by have:=HYB.out.1;simpa using this))
     have HA13:=tH (HA9.out.chg HS.out hch (by have:=HYB.out.1;have:=HWS.out;simp;omega))
     have HL13:=tH (HL9.out.chg hch (by have:=HYB.out.2.2;simpa using this))
     clear hW hch HC9 HA9 HL9 HB9 HK9 y0 y1 y2 y3 y4 yo yf
     obtain⟨s2,q2,HY2⟩:=HY13.out
     have HY:=tH HY2
     clear HY13 HY2
     go_wp2_with fail
     refine(srcN' g 4 _ cv l HA13.out H4.out).mono ?_
     rintro e W14 ⟨t,rfl,hb,hc,hs⟩
     have ht4:t < 4:=by omega
     have HC14:=tH (HC13.out.trans hc)
     have HA14:=tH hs
     have HL14:=tH (HL13.out.chg hc (by have:=HBL.out.2;simpa using this))
     have HY14:=tH (HY.out.src hc HYB.out.2.1 HG.out)
     clear hc hs hb HC13 HA13 HL13 HY
     go_upto_block 4 with fail
     go_cut [] from 67 to 90 (fun wc=>∃ (s:Pl) (q:Int),Hid (Chg [g] wr wc∧SrcA wc g cv l)∧Hid (YS w.heap.size wc bY s q))
     case first =>
      by_cases t0:t=0
      ·have tb0:((t:Int) == 0)=true:=by simp[t0]
       clear t0
       have HP14:=tH (HP.out.src HG.out HC14.out HA14.out)
       obtain⟨yid,ya1,yc1,ya2,yc2,yfc,yfj,hyb,-⟩:=HY14.out.ex
       have HB:=tH hyb
       have p0:W14.cell? ⟨bP,0,none⟩=some (.slice (some ⟨bC,0,none⟩) p.clear.length cc):=HP14.out.bx.cell 0
       have p1:W14.cell? ⟨bP,1,none⟩=some (.slice ja p.jobs.length jc):=HP14.out.bx.cell 1
       have p2:W14.cell? ⟨bP,2,none⟩=some (.int .i64 p.now):=HP14.out.bx.cell 2
       have po:=HP14.out.bx.old
       have pf:=HP14.out.bx.fz
       have y0:W14.cell? ⟨bY,0,none⟩=some (.slice ya1 s2.clear.length yc1):=hyb.cell 0
       have y1:W14.cell? ⟨bY,1,none⟩=some (.slice ya2 s2.jobs.length yc2):=hyb.cell 1
       have y2:W14.cell? ⟨bY,2,none⟩=some (.int .i64 s2.now):=hyb.cell 2
       have y3:W14.cell? ⟨bY,3,none⟩=some (.int .i64 yid):=hyb.cell 3
       have y4:W14.cell? ⟨bY,4,none⟩=some (.int .i64 q2):=hyb.cell 4
       have yo:=hyb.old
       have yf:=hyb.fz
       clear hyb
       have HE:=tH (HP14.out.ho.e' HP.out.hz.ok)
       go_wp2_with fail
       refine(specAdvance_any p _ _ (HE.out.ext xE) (PlB.fits HP.out.hz.b)).mono ?_
       rintro e _ ⟨yc,yj,fc9,fj9,rfl,⟨X,rfl⟩,hO⟩
       obtain⟨b1,d1,rfl⟩:=hO.1.shape
       obtain⟨b2,d2,rfl⟩:=hO.2.1.shape
       have HO:=tH hO
       have HZ:=tH (show (advR p).2.2=0→poolR (advR p).1=true from advR_right)
       clear hO
       unfold poV
       go_wp2_with fail
       go_meet
       have h9:=YS.stored (B:=w.heap.size) (id:=(advR p).2.1) (q:=(advR p).2.2) HB.out HO.out (HP14.out.hc.size) HZ.out
       exact⟨_,_,tH ⟨HC14.out.past h9.2 (by have:=HYB.out.1;simpa using this),HA14.out.chg HS.out h9.2 (by have:=HYB.out.1;have:=HWS.out;simp;omega)⟩,tH h9.1⟩
      have tb0:((t:Int) == 0)=false:=by simp[t0]
      by_cases t1:t=1
      case neg =>
       have tb1:((t:Int) == 1)=false:=by simp;omega
       clear t0 t1
       go_wp2_with fail
       go_meet
       exact⟨_,_,tH ⟨HC14.out,HA14.out⟩,HY14⟩
      have tb1:((t:Int) == 1)=true:=by simp[t1]
      clear t0 t1
      go_wp2_with fail
      refine(srcOne_any g 3 _ cv l HA14.out H3.out).mono ?_
      rintro e W15 ⟨b3,rfl,hc,hs⟩
      have HC15:=tH (HC14.out.trans hc)
      have HA15:=tH hs
      have HL15:=tH (HL14.out.chg hc (by have:=HBL.out.2;simpa using this))
      have HY15:=tH (HY14.out.src hc HYB.out.2.1 HG.out)
      clear hc hs HC14 HA14 HL14 HY14
      cases b3
      ·go_wp2_with fail
       go_meet
       exact⟨_,_,tH ⟨HC15.out,HA15.out⟩,HY15⟩
      ·have HP15:=tH (HP.out.src HG.out HC15.out HA15.out)
       obtain⟨yid,ya1,yc1,ya2,yc2,yfc,yfj,hyb,-⟩:=HY15.out.ex
       have HB:=tH hyb
       clear hyb
       go_upto_region 18 with fail
       (refine wp_region_l (R:=SrcR g cv l) (SrcR.trans) 11 [(fun u _=>u=(.agg #[.slice (some ⟨bC,0,none⟩) p.clear.length cc,.slice ja p.jobs.length jc,(.int .i64 p.now)])),(fun u _=>u=(.agg #[(.int .i64 x.lv),(.int .i64 x.st)])),(fun u _=>u=(.pointer (some ⟨g,0,none⟩))),kLt 3,kBd 1 3,kArr g [(.int .i64 1),(.int .i64 3),(.int .i64 4)] 3,(fun u _=>u=(.pointer (some ⟨g,0,none⟩))),kLt 3,kPt g [(.int .i64 1),(.int .i64 3),(.int .i64 4)] 3,kI64,kOut9 w.heap.size] (by kernel_rfl) (by kernel_rfl) (by kernel_rfl) rfl ?_ (by repeat' (first | exact trivial | exact XReg.GoodKL.same _ _ default | exact kI64_good | exact kLt_good (by decide) | exact kArr_good | exact kPt_good (by decide) | (first | exact kBd_good (by decide) | exact kOut9_good HG.out) | refine And.intro ?_ ?_)) (SrcR.ext (Ext.refl _).drew))
       apply LReg.val (.agg #[.slice (some ⟨bC,0,none⟩) p.clear.length cc,.slice ja p.jobs.length jc,(.int .i64 p.now)])
       case h =>
        intro w' hw' hF'
        (have hB:=HP15.out.bx.chg hw'.1 (by have:=HP15.out.lt;have:=HG.out;simp;omega);have p0:w'.cell? ⟨bP,0,none⟩=some (.slice (some ⟨bC,0,none⟩) p.clear.length cc):=hB.cell 0;have p1:w'.cell? ⟨bP,1,none⟩=some (.slice ja p.jobs.length jc):=hB.cell 1;have p2:w'.cell? ⟨bP,2,none⟩=some (.int .i64 p.now):=hB.cell 2;have po:=hB.old;clear hB)
        clear hF' hw'
        go_wp2_with fail
        exact⟨rfl,SrcR.ext xE⟩
       case hv=>kernel_rfl
       apply LReg.val (.agg #[(.int .i64 x.lv),(.int .i64 x.st)])
       case h =>
        intro w' hw' hF'
        (have hB:=HL15.out.chg hw'.1 (by have:=HBL.out.2;simpa using this);have p0:w'.cell? ⟨bX,0,none⟩=some (.int .i64 x.lv):=hB.cell 0;have p1:w'.cell? ⟨bX,1,none⟩=some (.int .i64 x.st):=hB.cell 1;have po:=hB.old;clear hB)
        clear hF' hw'
        go_wp2_with fail
        exact⟨rfl,SrcR.ext xE⟩
       case hv=>kernel_rfl
       (apply LReg.val (.pointer (some ⟨g,0,none⟩));(case h=>(intro w' hw' hF';have HW':=tH hw';clear hF' hw';go_wp2_with fail;exact⟨rfl,SrcR.ext xE⟩));(case hv=>kernel_rfl))
       refine LReg.kind (fun w' hw' hF'=>?_) (fun v w1 hK=>?_)
       ·have HW':=tH (hw'.2 HA15.out)
        clear hF' hw'
        go_wp2_with fail
        refine(srcN' g 3 _ cv l (HW'.out.ext xE) H3.out).mono ?_
        rintro e w8 ⟨n,rfl,hb,hc,hs⟩
        have HR8:=tH (SrcR.of (w:=w') xE hc hs)
        have hn:n < 3:=by omega
        clear hc hs hb
        go_wp2
        exact⟨HR8.out,_,rfl,hn⟩
       obtain⟨m1,rfl,hm1⟩:=hK
       clear w1
       refine LReg.kind (fun w' hw' hF'=>?_) (fun v w1 hK=>?_)
       ·clear hw' hF'
        go_wp2
        exact⟨SrcR.ext xE,_,rfl,by omega⟩
       obtain⟨n1,rfl,hn1⟩:=hK
       clear w1
       refine LReg.kind (fun w' hw' hF'=>?_) (fun v w1 hK=>?_)
       ·clear hF'
        have hgs:=(hw'.2 HA15.out).old
        unfold World.old at hgs
        have H9a:=tH (show kArr g [(.int .i64 1),(.int .i64 3),(.int .i64 4)] 3 (.slice (some ⟨w'.heap.size,0,none⟩) 3 3) (w'.alloc (.cells #[(.int .i64 1),(.int .i64 3),(.int .i64 4)] 2)) from ⟨_,rfl,by omega,Blk.new rfl⟩)
        clear hw' hgs
        go_wp2
        exact⟨SrcR.ext xE,H9a.out⟩
       obtain⟨bA,rfl,hbA,hs3⟩:=hK
       clear hs3 w1
       (apply LReg.val (.pointer (some ⟨g,0,none⟩));(case h=>(intro w' hw' hF';have HW':=tH hw';clear hF' hw';go_wp2_with fail;exact⟨rfl,SrcR.ext xE⟩));(case hv=>kernel_rfl))
       refine LReg.kind (fun w' hw' hF'=>?_) (fun v w1 hK=>?_)
       ·have HW':=tH (hw'.2 HA15.out)
        clear hF' hw'
        go_wp2_with fail
        refine(srcN' g 3 _ cv l (HW'.out.ext xE) H3.out).mono ?_
        rintro e w8 ⟨n,rfl,hb,hc,hs⟩
        have HR8:=tH (SrcR.of (w:=w') xE hc hs)
        have hn:n < 3:=by omega
        clear hc hs hb
        go_wp2
        exact⟨HR8.out,_,rfl,hn⟩
       obtain⟨k3,rfl,hk3⟩:=hK
       clear w1
       refine LReg.kind (fun w' hw' hF'=>?_) (fun v w1 hK=>?_)
       ·obtain⟨bB,hbv,hbB,hB⟩:=hF'.get 5 (p:=(kArr g [(.int .i64 1),(.int .i64 3),(.int .i64 4)] 3,.slice (some ⟨bA,0,none⟩) 3 3)) (by kernel_rfl) (by kernel_rfl)
        obtain rfl:bA=bB:=by simpa using hbv
        have H9a:=tH (show kPt g [(.int .i64 1),(.int .i64 3),(.int .i64 4)] 3 (.pointer (some ⟨bA,k3,none⟩)) w' from ⟨bA,k3,rfl,hk3,hbA,hB⟩)
        have hbo:=hB.old
        clear hw' hF' hB hbv
        go_wp2
        exact⟨SrcR.ext xE,H9a.out⟩
       obtain⟨bQ,kQ,rfl,hkQ,hbQ,hs3⟩:=hK
       clear hs3 w1
       refine LReg.kind (fun w' hw' hF'=>?_) (fun v w1 hK=>?_)
       ·obtain⟨bB,kB,hbv,hkB,hbB,hB⟩:=hF'.get 8 (p:=(kPt g [(.int .i64 1),(.int .i64 3),(.int .i64 4)] 3,.pointer (some ⟨bQ,kQ,none⟩))) (by kernel_rfl) (by kernel_rfl)
        obtain⟨rfl,rfl⟩:bQ=bB∧kQ=kB:=by simpa using hbv
        obtain⟨n,hni,hn⟩:∃ n:Int,I64 n∧([(.int .i64 1),(.int .i64 3),(.int .i64 4)]:List Value)[kQ]?=some (.int .i64 n):=by
         have:kQ=0∨kQ=1∨kQ=2:=by omega
         rcases this with h | h | h<;>rw[h]<;>(refine⟨_,?_,rfl⟩;unfold I64;omega)
        have hc0:w'.cell? ⟨bQ,kQ,none⟩=some (.int .i64 n):=by rw[hB.cell kQ];exact hn
        have hbo:=hB.old
        clear hw' hF' hB hbv hn
        go_wp2
        exact⟨SrcR.ext xE,_,rfl,hni⟩
       obtain⟨n9,rfl,hn9⟩:=hK
       clear w1
       refine LReg.kind (fun w' hw' hF'=>?_) (fun v w1 hK=>?_)
       ·have hO:=HP15.out.ho.chg hw'.1 (by have:=HG.out;simp;omega)
        have HE:=tH (hO.e' (HP.out.hz.ok))
        have HSZ:=tH (Nat.le_trans HP15.out.hc.size hw'.1.size)
        clear hw' hF' hO
        go_wp2_with fail
        refine(specChange_any p _ x n1 n9 _ (HE.out.ext xE) (PlB.fits HP.out.hz.b)).mono ?_
        rintro e _ ⟨yc,yj,fc9,fj9,rfl,⟨X,rfl⟩,hO⟩
        have HK9:=tH (kOut9_of (id:=(chR p x n1 n9).2.1) (q:=(chR p x n1 n9).2.2) (hO.mono HSZ.out) (fun h0=>(chR_right h0).2))
        clear hO
        go_wp2
        exact⟨SrcR.ext xE,HK9.out⟩
       obtain⟨s3,id3,q3,a1,c1,a2,c2,fc9,fj9,rfl,-⟩:=hK
       clear w1
       refine LReg.done (fun w9 hw9 hF=>?_)
       have HK9:=tH (hF 10 (kOut9 w.heap.size,.agg #[.slice a1 s3.clear.length c1,.slice a2 s3.jobs.length c2,(.int .i64 s3.now),(.int .i64 id3),(.int .i64 q3)]) (by kernel_rfl))
       have HB9:=tH (HB.out.chg hw9.1 (by have:=HYB.out.2.1;simpa using this))
       have HC9:=tH (HC15.out.trans hw9.1)
       have HA9:=tH (hw9.2 HA15.out)
       have y0:w9.cell? ⟨bY,0,none⟩=some (.slice ya1 s2.clear.length yc1):=HB9.out.cell 0
       have y1:w9.cell? ⟨bY,1,none⟩=some (.slice ya2 s2.jobs.length yc2):=HB9.out.cell 1
       have y2:w9.cell? ⟨bY,2,none⟩=some (.int .i64 s2.now):=HB9.out.cell 2
       have y3:w9.cell? ⟨bY,3,none⟩=some (.int .i64 yid):=HB9.out.cell 3
       have y4:w9.cell? ⟨bY,4,none⟩=some (.int .i64 q2):=HB9.out.cell 4
       have yo:=HB9.out.old
       have yf:=HB9.out.fz
       clear hF hw9 HB
       go_wp2_with fail
       go_meet
       obtain⟨s4,q4,hy4⟩:=YS.kind HB9.out HK9.out rfl
       exact⟨s4,q4,tH ⟨HC9.out.past (set5_chg9 _ _ _ _ _ _ _) (by have:=HYB.out.1;simpa using this),HA9.out.chg HS.out (set5_chg9 _ _ _ _ _ _ _) (by have:=HYB.out.1;have:=HWS.out;simp;omega)⟩,tH hy4⟩
     case rest =>
      obtain⟨s,q,HCA,HY⟩:=hcut
      clear HY14 HL14 HC14 HA14
      have HPc:=tH (HP.out.src HG.out HCA.out.1 HCA.out.2)
      obtain⟨yid,ya1,yc1,ya2,yc2,yfc,yfj,hyb,hyO⟩:=HY.out.ex
      have HYO:=tH hyO
      have y0:wc.cell? ⟨bY,0,none⟩=some (.slice ya1 s.clear.length yc1):=hyb.cell 0
      have y1:wc.cell? ⟨bY,1,none⟩=some (.slice ya2 s.jobs.length yc2):=hyb.cell 1
      have y2:wc.cell? ⟨bY,2,none⟩=some (.int .i64 s.now):=hyb.cell 2
      have y3:wc.cell? ⟨bY,3,none⟩=some (.int .i64 yid):=hyb.cell 3
      have y4:wc.cell? ⟨bY,4,none⟩=some (.int .i64 q):=hyb.cell 4
      have yo:=hyb.old
      clear hyb hyO
      have hw1:wrap64 ((k:Int)-1)=(k:Int)-1:=by unfold wrap64;omega
      by_cases hq:q=0
      case neg =>
       have hqb:(q == 0)=false:=by simp[hq]
       clear hq
       go_wp2
       exact⟨⟨k-1,p,_,_,fc,fj,by omega,by go_num,HPc⟩,by simp[intOf];omega⟩
      have hqb:(q == 0)=true:=by simp[hq]
      have HRT:=tH (HY.out.rt hq)
      clear hq
      have p0:wc.cell? ⟨bP,0,none⟩=some (.slice (some ⟨bC,0,none⟩) p.clear.length cc):=HPc.out.bx.cell 0
      have p1:wc.cell? ⟨bP,1,none⟩=some (.slice ja p.jobs.length jc):=HPc.out.bx.cell 1
      have p2:wc.cell? ⟨bP,2,none⟩=some (.int .i64 p.now):=HPc.out.bx.cell 2
      have po:=HPc.out.bx.old
      have pf:=HPc.out.bx.fz
      go_upto_region 9 with fail
      refine gen_world (fun W20 hW=>?_)
      have HP20:=tH (HPc.out.store (W':=W20) (p':=s) HS.out (by rw[hW];exact set3_chg9 _ _ _ _ _) (by rw[hW];exact((HPc.out.bx.set 0 _).set 1 _).set 2 _) HYO.out (.inl HRT.out))
      clear hW y0 y1 y2 y3 y4 yo p0 p1 p2 po pf
      go_wp2
      exact⟨⟨k-1,s,_,_,yfc,yfj,by omega,by go_num,HP20⟩,by simp[intOf];omega⟩
   case rest =>
    clear HP5 hk0 hk hk12
    obtain⟨p,c,j,HP,HN⟩:=hcut
    obtain⟨⟨ca,cc,rfl⟩,⟨ja,jc,rfl⟩⟩:=HP.out.ho.shape
    go_wp2_with fail
    refine(srcOne_any g 15 _ cv l HP.out.hs H15.out).mono ?_
    rintro e W30 ⟨b15,rfl,hc,hs⟩
    have HP2:=tH (HP.out.src HG.out hc hs)
    clear hc hs HP
    have HP:=HP2
    clear HP2
    cases b15
    ·skip
     have p0:W30.cell? ⟨bP,0,none⟩=some (.slice ca p.clear.length cc):=HP.out.bx.cell 0
     have p1:W30.cell? ⟨bP,1,none⟩=some (.slice ja p.jobs.length jc):=HP.out.bx.cell 1
     have p2:W30.cell? ⟨bP,2,none⟩=some (.int .i64 p.now):=HP.out.bx.cell 2
     have po:=HP.out.bx.old
     have pf:=HP.out.bx.fz
     have r0:W30.cell? ⟨w.heap.size,0,none⟩=some (.slice none 0 0):=HP.out.hr.cell 0
     have r1:W30.cell? ⟨w.heap.size,1,none⟩=some (.slice none 0 0):=HP.out.hr.cell 1
     have r2:W30.cell? ⟨w.heap.size,2,none⟩=some (.int .i64 0):=HP.out.hr.cell 2
     have ro:=HP.out.hr.old
     have rf:=HP.out.hr.fz
     go_wp2
     exact bodyPost_ret (v:=.agg #[.slice ca p.clear.length cc,.slice ja p.jobs.length jc,(.int .i64 p.now)]) (by simp[results,Tryz.results42,go_sem,r0,r1,r2]) rfl ⟨p,.slice ca p.clear.length cc,.slice ja p.jobs.length jc,rfl,HP.out.hc.past (set3_chg9 _ _ _ _ _) (by simp),HP.out.hs.chg HS.out (set3_chg9 _ _ _ _ _) (by simp),HP.out.ho.off (set3_chg9 _ _ _ _ _) (offP_box HP.out.hr (by decide)),HP.out.hb⟩
    go_wp2_with fail
    refine(srcN' g 4 _ cv l HP.out.hs H4.out).mono ?_
    rintro e W31 ⟨t,rfl,hb,hc,hs⟩
    have ht4:t < 4:=by omega
    have HP2:=tH (HP.out.src HG.out hc hs)
    clear hc hs hb HP
    have HP:=HP2
    clear HP2
    by_cases t0:t=0
    ·have tb0:((t:Int) == 0)=true:=by simp[t0]
     clear t0
     have hn0:0≤p.now:=HN.out.1.1
     have hn1:p.now≤999900:=HN.out.1.2
     go_upto_region 25 with fail
     (refine wp_region_l (R:=SrcR g cv l) (SrcR.trans) 9 [(fun u _=>u=(.pointer (some ⟨bP,2,none⟩))),(fun u _=>u=(.int .i64 p.now)),(fun u _=>u=(.int .i64 (p.now+3))),kArr g [(.int .i64 (-1)),(.int .i64 999900),(.int .i64 (p.now+3))] 3,(fun u _=>u=(.pointer (some ⟨g,0,none⟩))),kLt 3,kPt g [(.int .i64 (-1)),(.int .i64 999900),(.int .i64 (p.now+3))] 3,kI64,(fun u _=>u=(.pointer (some ⟨bP,2,none⟩)))] (by kernel_rfl) (by kernel_rfl) (by kernel_rfl) rfl ?_ (by repeat' (first | exact trivial | exact XReg.GoodKL.same _ _ default | exact kI64_good | exact kLt_good (by decide) | exact kArr_good | exact kPt_good (by decide) | fail | refine And.intro ?_ ?_)) (SrcR.ext (Ext.refl _).drew))
     (apply LReg.val (.pointer (some ⟨bP,2,none⟩));(case h=>(intro w' hw' hF';have HW':=tH hw';clear hF' hw';go_wp2_with fail;exact⟨rfl,SrcR.ext xE⟩));(case hv=>kernel_rfl))
     apply LReg.val (.int .i64 p.now)
     case h =>
      intro w' hw' hF'
      (have hB:=HP.out.bx.chg hw'.1 (by have:=HP.out.lt;have:=HG.out;simp;omega);have p2:w'.cell? ⟨bP,2,none⟩=some (.int .i64 p.now):=hB.cell 2;have po:=hB.old;clear hB)
      clear hF' hw'
      go_wp2_with fail
      exact⟨rfl,SrcR.ext xE⟩
     case hv=>kernel_rfl
     (apply LReg.val (.int .i64 (p.now+3));(case h=>(intro w' hw' hF';have HW':=tH hw';clear hF' hw';go_wp2_with fail;exact⟨rfl,SrcR.ext xE⟩));(case hv=>kernel_rfl))
     have HA0:=tH HP.out.hs
     refine LReg.kind (fun w' hw' hF'=>?_) (fun v w1 hK=>?_)
     ·clear hF'
      have hgs:=(hw'.2 HA0.out).old
      unfold World.old at hgs
      have H9a:=tH (show kArr g [(.int .i64 (-1)),(.int .i64 999900),(.int .i64 (p.now+3))] 3 (.slice (some ⟨w'.heap.size,0,none⟩) 3 3) (w'.alloc (.cells #[(.int .i64 (-1)),(.int .i64 999900),(.int .i64 (p.now+3))] 2)) from ⟨_,rfl,by omega,Blk.new rfl⟩)
      clear hw' hgs
      go_wp2
      exact⟨SrcR.ext xE,H9a.out⟩
     obtain⟨bA,rfl,hbA,hs3⟩:=hK
     clear hs3 w1
     (apply LReg.val (.pointer (some ⟨g,0,none⟩));(case h=>(intro w' hw' hF';have HW':=tH hw';clear hF' hw';go_wp2_with fail;exact⟨rfl,SrcR.ext xE⟩));(case hv=>kernel_rfl))
     refine LReg.kind (fun w' hw' hF'=>?_) (fun v w1 hK=>?_)
     ·have HW':=tH (hw'.2 HA0.out)
      clear hF' hw'
      go_wp2_with fail
      refine(srcN' g 3 _ cv l (HW'.out.ext xE) H3.out).mono ?_
      rintro e w8 ⟨n,rfl,hb,hc,hs⟩
      have HR8:=tH (SrcR.of (w:=w') xE hc hs)
      have hn:n < 3:=by omega
      clear hc hs hb
      go_wp2
      exact⟨HR8.out,_,rfl,hn⟩
     obtain⟨k3,rfl,hk3⟩:=hK
     clear w1
     refine LReg.kind (fun w' hw' hF'=>?_) (fun v w1 hK=>?_)
     ·obtain⟨bB,hbv,hbB,hB⟩:=hF'.get 3 (p:=(kArr g [(.int .i64 (-1)),(.int .i64 999900),(.int .i64 (p.now+3))] 3,.slice (some ⟨bA,0,none⟩) 3 3)) (by kernel_rfl) (by kernel_rfl)
      obtain rfl:bA=bB:=by simpa using hbv
      have H9a:=tH (show kPt g [(.int .i64 (-1)),(.int .i64 999900),(.int .i64 (p.now+3))] 3 (.pointer (some ⟨bA,k3,none⟩)) w' from ⟨bA,k3,rfl,hk3,hbA,hB⟩)
      have hbo:=hB.old
      clear hw' hF' hB hbv
      go_wp2
      exact⟨SrcR.ext xE,H9a.out⟩
     obtain⟨bQ,kQ,rfl,hkQ,hbQ,hs3⟩:=hK
     clear hs3 w1
     refine LReg.kind (fun w' hw' hF'=>?_) (fun v w1 hK=>?_)
     ·obtain⟨bB,kB,hbv,hkB,hbB,hB⟩:=hF'.get 6 (p:=(kPt g [(.int .i64 (-1)),(.int .i64 999900),(.int .i64 (p.now+3))] 3,.pointer (some ⟨bQ,kQ,none⟩))) (by kernel_rfl) (by kernel_rfl)
      obtain⟨rfl,rfl⟩:bQ=bB∧kQ=kB:=by simpa using hbv
      obtain⟨n,hni,hn⟩:∃ n:Int,I64 n∧([(.int .i64 (-1)),(.int .i64 999900),(.int .i64 (p.now+3))]:List Value)[kQ]?=some (.int .i64 n):=by
       have:kQ=0∨kQ=1∨kQ=2:=by omega
       rcases this with h | h | h<;>rw[h]<;>(refine⟨_,?_,rfl⟩;unfold I64;omega)
      have hc0:w'.cell? ⟨bQ,kQ,none⟩=some (.int .i64 n):=by rw[hB.cell kQ];exact hn
      have hbo:=hB.old
      clear hw' hF' hB hbv hn
      go_wp2
      exact⟨SrcR.ext xE,_,rfl,hni⟩
     obtain⟨n9,rfl,hn9⟩:=hK
     clear w1
     (apply LReg.val (.pointer (some ⟨bP,2,none⟩));(case h=>(intro w' hw' hF';have HW':=tH hw';clear hF' hw';go_wp2_with fail;exact⟨rfl,SrcR.ext xE⟩));(case hv=>kernel_rfl))
     refine LReg.done (fun w9 hw9 hF=>?_)
     have HP9:=tH (HP.out.src HG.out hw9.1 (hw9.2 HA0.out))
     clear hF hw9 HA0 HP
     have HN9:=tH hn9
     clear hn0 hn1 hn9
     have p0:w9.cell? ⟨bP,0,none⟩=some (.slice ca p.clear.length cc):=HP9.out.bx.cell 0
     have p1:w9.cell? ⟨bP,1,none⟩=some (.slice ja p.jobs.length jc):=HP9.out.bx.cell 1
     have p2:w9.cell? ⟨bP,2,none⟩=some (.int .i64 p.now):=HP9.out.bx.cell 2
     have po:=HP9.out.bx.old
     have pf:=HP9.out.bx.fz
     go_upto_region 30 with fail
     refine gen_world (fun W32 hW=>?_)
     have HP2:Hid (PeS w g cv l W32 bP { p with now:=n9 } (.slice ca p.clear.length cc) (.slice ja p.jobs.length jc)):=tH (HP9.out.store HS.out (by rw[hW];exact set1_chg _ _ _ _) (by rw[hW];exact HP9.out.bx.set 2 _) (HP9.out.ho.now HN9.out) HP9.out.hb.now)
     clear hW HP9
     clear p0 p1 p2 po pf
     have HX9:∃ p':Pl,Hid (PeS w g cv l W32 bP p' (.slice ca p'.clear.length cc) (.slice ja p'.jobs.length jc)):=⟨_,HP2⟩
     clear HP2
     obtain⟨p',HP⟩:=HX9
     obtain⟨p,hpp⟩:∃ p,p=p':=⟨_,rfl⟩
     rw[← hpp] at HP
     clear hpp
     have p0:W32.cell? ⟨bP,0,none⟩=some (.slice ca p.clear.length cc):=HP.out.bx.cell 0
     have p1:W32.cell? ⟨bP,1,none⟩=some (.slice ja p.jobs.length jc):=HP.out.bx.cell 1
     have p2:W32.cell? ⟨bP,2,none⟩=some (.int .i64 p.now):=HP.out.bx.cell 2
     have po:=HP.out.bx.old
     have pf:=HP.out.bx.fz
     have r0:W32.cell? ⟨w.heap.size,0,none⟩=some (.slice none 0 0):=HP.out.hr.cell 0
     have r1:W32.cell? ⟨w.heap.size,1,none⟩=some (.slice none 0 0):=HP.out.hr.cell 1
     have r2:W32.cell? ⟨w.heap.size,2,none⟩=some (.int .i64 0):=HP.out.hr.cell 2
     have ro:=HP.out.hr.old
     have rf:=HP.out.hr.fz
     go_wp2
     exact bodyPost_ret (v:=.agg #[.slice ca p.clear.length cc,.slice ja p.jobs.length jc,(.int .i64 p.now)]) (by simp[results,Tryz.results42,go_sem,r0,r1,r2]) rfl ⟨p,.slice ca p.clear.length cc,.slice ja p.jobs.length jc,rfl,HP.out.hc.past (set3_chg9 _ _ _ _ _) (by simp),HP.out.hs.chg HS.out (set3_chg9 _ _ _ _ _) (by simp),HP.out.ho.off (set3_chg9 _ _ _ _ _) (offP_box HP.out.hr (by decide)),HP.out.hb⟩
    have tb0:((t:Int) == 0)=false:=by simp[t0]
    by_cases t1:t=1
    ·have tb1:((t:Int) == 1)=true:=by simp[t1]
     clear t0 t1
     have hl9:=tH (show p.jobs.length≤99 from HN.out.2.1)
     go_upto_region 27 with fail
     have AST:=tH (show ∀ K∈[eq9 (.pointer (some ⟨bP,1,none⟩)),eq9 (.slice ja p.jobs.length jc),eq9 (.pointer (some ⟨g,0,none⟩)),jb9 w.heap.size,jo9 w.heap.size g],∀ v w w',SrcR g cv l w w'→K v w→K v w' from fun K hK=>by
      simp only[List.mem_cons,List.not_mem_nil,or_false] at hK
      rcases hK with rfl | rfl | rfl | rfl | rfl
      ·exact st_eq
      ·exact st_eq
      ·exact st_eq
      ·exact st_jb HG.out
      ·exact st_jo HG.out)
     refine wp_region_i 7 (AqI W31 (SrcR g cv l) 5 [eq9 (.pointer (some ⟨bP,1,none⟩)),eq9 (.slice ja p.jobs.length jc),eq9 (.pointer (some ⟨g,0,none⟩)),jb9 w.heap.size,jo9 w.heap.size g] (.pointer (some ⟨bP,1,none⟩)) (PostJ w g cv l bP (.slice ca p.clear.length cc) (.slice ja p.jobs.length jc) p)) (by kernel_rfl) (by kernel_rfl) (by kernel_rfl) (fun vs=>?_) (fun vs=>AqI.start (SrcR.ext (Ext.refl _).drew))
     refine IReg.step 1 rfl (fun L w' hI hL hj=>?_) ?_
     ·have hRK:=hI.pre (hI.free (by decide) hL)
      skip
      have HI:=tH hI
      have HL:=tH hL
      clear hI hL hj hRK
      go_wp2
      exact HI.out.put AST.out SrcR.trans (by decide) HL.out rfl (SrcR.ext xE) rfl
     (conv in (Act.put _ _ _)=>simp only[Act.put,List.setIfInBounds_toArray,List.set_cons_succ,List.set_cons_zero])
     refine IReg.step 2 rfl (fun L w' hI hL hj=>?_) ?_
     ·have hRK:=hI.pre (hI.free (by decide) hL)
      ((rw[show vs 0=_ from hRK.2 0 _ rfl (hj 0 (by decide) (by kernel_rfl))]);have hB:=HP.out.bx.chg hRK.1.1 (by have:=HP.out.lt;have:=HG.out;simp;omega);have p1:w'.cell? ⟨bP,1,none⟩=some (.slice ja p.jobs.length jc):=hB.cell 1;have po:=hB.old;clear hB)
      have HI:=tH hI
      have HL:=tH hL
      clear hI hL hj hRK
      go_wp2
      exact HI.out.put AST.out SrcR.trans (by decide) HL.out rfl (SrcR.ext xE) rfl
     (conv in (Act.put _ _ _)=>simp only[Act.put,List.setIfInBounds_toArray,List.set_cons_succ,List.set_cons_zero])
     refine IReg.step 3 rfl (fun L w' hI hL hj=>?_) ?_
     ·have hRK:=hI.pre (hI.free (by decide) hL)
      skip
      have HI:=tH hI
      have HL:=tH hL
      clear hI hL hj hRK
      go_wp2
      exact HI.out.put AST.out SrcR.trans (by decide) HL.out rfl (SrcR.ext xE) rfl
     (conv in (Act.put _ _ _)=>simp only[Act.put,List.setIfInBounds_toArray,List.set_cons_succ,List.set_cons_zero])
     refine IReg.step 4 rfl (fun L w' hI hL hj=>?_) ?_
     ·have hRK:=hI.pre (hI.free (by decide) hL)
      (rw[show vs 2=_ from hRK.2 2 _ rfl (hj 2 (by decide) (by kernel_rfl))])
      have HW':=tH (hRK.1.2 HP.out.hs)
      have HSZ:=tH (Nat.le_trans HP.out.hc.size hRK.1.1.size)
      have HI:=tH hI
      have HL:=tH hL
      clear hI hL hj hRK
      go_wp2_with fail
      refine(srcJob_any g _ cv l (HW'.out.ext xE)).mono ?_
      rintro e w8 ⟨jb,nv,rfl,hc,hs,hR,hD⟩
      obtain⟨na,nc,rfl⟩:=hR.shape
      have HR8:=tH (SrcR.of (w:=w') xE hc hs)
      have HK:=tH (show jb9 w.heap.size (jb.val (.slice na jb.nodes.length nc)) w8 from ⟨(jb,(na,nc)),rfl,hR.mono HSZ.out,hD⟩)
      clear hc hs hR hD
      unfold Jb.val at HK ⊢
      go_wp2
      exact HI.out.put AST.out SrcR.trans (by decide) HL.out rfl HR8.out HK.out
     (conv in (Act.put _ _ _)=>simp only[Act.put,List.setIfInBounds_toArray,List.set_cons_succ,List.set_cons_zero])
     refine IReg.step 5 rfl (fun L w' hI hL hj=>?_) ?_
     ·have hRK:=hI.pre (hI.free (by decide) hL)
      obtain⟨r,h3,h3R,h3D⟩:jb9 w.heap.size (vs 3) w':=hRK.2 3 _ rfl (hj 3 (by decide) (by kernel_rfl))
      rw[h3]
      have hgs:=(hRK.1.2 HP.out.hs).old
      have H3R:=tH h3R
      have H3D:=tH h3D
      have HI:=tH hI
      have HL:=tH hL
      have HGS:=tH hgs
      clear hI hL hj hRK h3 h3R h3D hgs
      go_wp2
      refine HI.out.put AST.out SrcR.trans (by decide) HL.out rfl (SrcR.ext xE) ⟨r,w'.heap.size,rfl,Blk.new rfl,by have:=HGS.out;omega,H3R.out.ext xE,H3D.out⟩
     (conv in (Act.put _ _ _)=>simp only[Act.put,List.setIfInBounds_toArray,List.set_cons_succ,List.set_cons_zero])
     refine IReg.step 6 rfl (fun L w' hI hL hj=>?_) ?_
     ·have hRK:=hI.pre hL
      obtain⟨r,g1,h4,h4B,h4g,h4R,h4D⟩:jo9 w.heap.size g (vs 4) w':=hRK.2 4 _ rfl (hj 4 (by decide) (by kernel_rfl))
      rw[h4]
      (rw[show vs 1=_ from hRK.2 1 _ rfl (hj 1 (by decide) (by kernel_rfl))])
      have a0:=hj 0 (by decide) (by kernel_rfl)
      have a1:=hj 1 (by decide) (by kernel_rfl)
      have a2:=hj 2 (by decide) (by kernel_rfl)
      have a3:=hj 3 (by decide) (by kernel_rfl)
      have a4:=hj 4 (by decide) (by kernel_rfl)
      have hall:∀ j,j < 5→L j=true:=fun j h5=>by
       have:j=0∨j=1∨j=2∨j=3∨j=4:=by omega
       rcases this with rfl | rfl | rfl | rfl | rfl<;>assumption
      clear a0 a1 a2 a3 a4
      have HPw:=tH (HP.out.src HG.out hRK.1.1 (hRK.1.2 HP.out.hs))
      obtain⟨ls,rs,q1,q2,q3,q4,q5⟩:=HPw.out.ho
      have Q1:=tH q1
      have Q2:=tH q2
      have Q3:=tH q3
      have Q4:=tH q4
      have Q5:=tH q5
      have H4B:=tH h4B
      have H4R:=tH h4R
      have H4D:=tH h4D
      have HI:=tH hI
      have HAL:=tH hall
      have HLR:=tH (show rs.length≤99 by have:=congrArg List.length q4;rw[List.length_map] at this;have:=hl9.out;omega)
      have hsz2:=tH HPw.out.hc.size
      clear hI hL hj hRK h4 h4B h4R h4D hall q1 q2 q3 q4 q5
      go_wp2_with (at_builtin;go_must (refine Row.appC (f:=RJ.cells) el_JobV rfl _ _ rfl w.heap.size hsz2.out _ rs rfl Q2.out.row ⟨g1,0,none⟩ 1 1 [r] rfl rfl (fun _=>rfl) ?_ ?_ ?_ ?_ ?_);(intro i u hi;rw[Addr.add_lit,Nat.zero_add,H4B.out.cell i];simpa using hi);(intro u hu;simp only[List.flatMap_cons,List.flatMap_nil,List.append_nil] at hu;exact RJ.one r u hu);(have:=HLR.out;unfold maxLen;simp;omega);(have:=HLR.out;simp;omega);intro v' w2 hR hC;have HR2:=tH hR;have HC2:=tH hC;clear hR hC)
      obtain⟨a9,c9,rfl⟩:=HR2.out.shape
      go_wp2
      exact HI.out.app HAL.out ⟨r.1,a9,c9,by rw[← Q4.out];simp,AqP.jobs HPw.out HS.out Q1.out Q2.out Q3.out Q4.out Q5.out HC2.out HR2.out H4R.out H4D.out hl9.out⟩
     (conv in (Act.put _ _ _)=>simp only[Act.put,List.setIfInBounds_toArray,List.set_cons_succ,List.set_cons_zero])
     refine IReg.step 7 rfl (fun L w' hI hL hj=>?_) ?_
     ·have HI:=tH hI
      clear hI hL hj
      go_wp2
      exact HI.out.fin (by first | exact Nat.le_refl 5 | exact Nat.le_refl 8) rfl rfl
     (conv in (Act.put _ _ _)=>simp only[Act.put,List.setIfInBounds_toArray,List.set_cons_succ,List.set_cons_zero])
     refine IReg.done (fun L w9 hL hI=>?_)
     obtain⟨r,a9,n9,h5,hAP⟩:=(hI.post (hL 5 (by decide))).1
     rw[h5,hI.fa (hL 6 (by decide))]
     rw[h5] at hAP
     have HAP:=tH hAP
     have p0:w9.cell? ⟨bP,0,none⟩=some (.slice ca p.clear.length cc):=hAP.bx.cell 0
     have p1:w9.cell? ⟨bP,1,none⟩=some (.slice ja p.jobs.length jc):=hAP.bx.cell 1
     have p2:w9.cell? ⟨bP,2,none⟩=some (.int .i64 p.now):=hAP.bx.cell 2
     have po:=hAP.bx.old
     have pf:=hAP.bx.fz
     clear hI hL h5 hAP AST hl9 HP
     go_upto_region 30 with fail
     refine gen_world (fun W32 hW=>?_)
     have HX9:∃ (p':Pl) (ja:Option Addr) (jc:Nat),Hid (PeS w g cv l W32 bP p' (.slice ca p'.clear.length cc) (.slice ja p'.jobs.length jc)):=⟨{ p with jobs:=p.jobs++[r] },a9,n9,tH (HAP.out.store HS.out (by rw[hW];exact set1_chg _ _ _ _) (by rw[hW];have h8:=HAP.out.bx.set 1 (.slice a9 (p.jobs.length+1) n9);rw[show (p.jobs++[r]).length=p.jobs.length+1 from by simp];exact h8))⟩
     clear hW HAP
     clear p0 p1 p2 po pf
     obtain⟨p',ja,jc,HP⟩:=HX9
     obtain⟨p,hpp⟩:∃ p,p=p':=⟨_,rfl⟩
     rw[← hpp] at HP
     clear hpp
     have p0:W32.cell? ⟨bP,0,none⟩=some (.slice ca p.clear.length cc):=HP.out.bx.cell 0
     have p1:W32.cell? ⟨bP,1,none⟩=some (.slice ja p.jobs.length jc):=HP.out.bx.cell 1
     have p2:W32.cell? ⟨bP,2,none⟩=some (.int .i64 p.now):=HP.out.bx.cell 2
     have po:=HP.out.bx.old
     have pf:=HP.out.bx.fz
     have r0:W32.cell? ⟨w.heap.size,0,none⟩=some (.slice none 0 0):=HP.out.hr.cell 0
     have r1:W32.cell? ⟨w.heap.size,1,none⟩=some (.slice none 0 0):=HP.out.hr.cell 1
     have r2:W32.cell? ⟨w.heap.size,2,none⟩=some (.int .i64 0):=HP.out.hr.cell 2
     have ro:=HP.out.hr.old
     have rf:=HP.out.hr.fz
     go_wp2
     exact bodyPost_ret (v:=.agg #[.slice ca p.clear.length cc,.slice ja p.jobs.length jc,(.int .i64 p.now)]) (by simp[results,Tryz.results42,go_sem,r0,r1,r2]) rfl ⟨p,.slice ca p.clear.length cc,.slice ja p.jobs.length jc,rfl,HP.out.hc.past (set3_chg9 _ _ _ _ _) (by simp),HP.out.hs.chg HS.out (set3_chg9 _ _ _ _ _) (by simp),HP.out.ho.off (set3_chg9 _ _ _ _ _) (offP_box HP.out.hr (by decide)),HP.out.hb⟩
    have tb1:((t:Int) == 1)=false:=by simp;omega
    by_cases t2:t=2
    ·have tb2:((t:Int) == 2)=true:=by simp[t2]
     clear t0 t1 t2
     have hl9:=tH (show p.clear.length≤7 from HN.out.2.2)
     go_upto_region 29 with fail
     have AST:=tH (show ∀ K∈[eq9 (.pointer (some ⟨bP,0,none⟩)),eq9 (.slice ca p.clear.length cc),eq9 (.pointer (some ⟨g,0,none⟩)),lb9,eq9 (.pointer (some ⟨g,0,none⟩)),lb9,ls9 w.heap.size,lo9 w.heap.size g],∀ v w w',SrcR g cv l w w'→K v w→K v w' from fun K hK=>by
      simp only[List.mem_cons,List.not_mem_nil,or_false] at hK
      rcases hK with rfl | rfl | rfl | rfl | rfl | rfl | rfl | rfl
      ·exact st_eq
      ·exact st_eq
      ·exact st_eq
      ·exact st_lb
      ·exact st_eq
      ·exact st_lb
      ·exact st_ls HG.out
      ·exact st_lo HG.out)
     refine wp_region_i 10 (AqI W31 (SrcR g cv l) 8 [eq9 (.pointer (some ⟨bP,0,none⟩)),eq9 (.slice ca p.clear.length cc),eq9 (.pointer (some ⟨g,0,none⟩)),lb9,eq9 (.pointer (some ⟨g,0,none⟩)),lb9,ls9 w.heap.size,lo9 w.heap.size g] (.pointer (some ⟨bP,0,none⟩)) (PostC w g cv l bP (.slice ca p.clear.length cc) (.slice ja p.jobs.length jc) p)) (by kernel_rfl) (by kernel_rfl) (by kernel_rfl) (fun vs=>?_) (fun vs=>AqI.start (SrcR.ext (Ext.refl _).drew))
     refine IReg.step 1 rfl (fun L w' hI hL hj=>?_) ?_
     ·have hRK:=hI.pre (hI.free (by decide) hL)
      skip
      have HI:=tH hI
      have HL:=tH hL
      clear hI hL hj hRK
      go_wp2
      exact HI.out.put AST.out SrcR.trans (by decide) HL.out rfl (SrcR.ext xE) rfl
     (conv in (Act.put _ _ _)=>simp only[Act.put,List.setIfInBounds_toArray,List.set_cons_succ,List.set_cons_zero])
     refine IReg.step 2 rfl (fun L w' hI hL hj=>?_) ?_
     ·have hRK:=hI.pre (hI.free (by decide) hL)
      ((rw[show vs 0=_ from hRK.2 0 _ rfl (hj 0 (by decide) (by kernel_rfl))]);have hB:=HP.out.bx.chg hRK.1.1 (by have:=HP.out.lt;have:=HG.out;simp;omega);have p0:w'.cell? ⟨bP,0,none⟩=some (.slice ca p.clear.length cc):=hB.cell 0;have po:=hB.old;clear hB)
      have HI:=tH hI
      have HL:=tH hL
      clear hI hL hj hRK
      go_wp2
      exact HI.out.put AST.out SrcR.trans (by decide) HL.out rfl (SrcR.ext xE) rfl
     (conv in (Act.put _ _ _)=>simp only[Act.put,List.setIfInBounds_toArray,List.set_cons_succ,List.set_cons_zero])
     refine IReg.step 3 rfl (fun L w' hI hL hj=>?_) ?_
     ·have hRK:=hI.pre (hI.free (by decide) hL)
      skip
      have HI:=tH hI
      have HL:=tH hL
      clear hI hL hj hRK
      go_wp2
      exact HI.out.put AST.out SrcR.trans (by decide) HL.out rfl (SrcR.ext xE) rfl
     (conv in (Act.put _ _ _)=>simp only[Act.put,List.setIfInBounds_toArray,List.set_cons_succ,List.set_cons_zero])
     refine IReg.step 4 rfl (fun L w' hI hL hj=>?_) ?_
     ·have hRK:=hI.pre (hI.free (by decide) hL)
      (rw[show vs 2=_ from hRK.2 2 _ rfl (hj 2 (by decide) (by kernel_rfl))])
      have HW':=tH (hRK.1.2 HP.out.hs)
      have HI:=tH hI
      have HL:=tH hL
      clear hI hL hj hRK
      go_wp2_with fail
      refine(srcLabel_any g _ cv l (HW'.out.ext xE)).mono ?_
      rintro e w8 ⟨x,rfl,hxo,hc,hs⟩
      have HR8:=tH (SrcR.of (w:=w') xE hc hs)
      have HXO:=tH hxo
      clear hc hs hxo
      go_wp2
      exact HI.out.put AST.out SrcR.trans (by decide) HL.out rfl HR8.out ⟨x,rfl,HXO.out⟩
     (conv in (Act.put _ _ _)=>simp only[Act.put,List.setIfInBounds_toArray,List.set_cons_succ,List.set_cons_zero])
     refine IReg.step 5 rfl (fun L w' hI hL hj=>?_) ?_
     ·have hRK:=hI.pre (hI.free (by decide) hL)
      skip
      have HI:=tH hI
      have HL:=tH hL
      clear hI hL hj hRK
      go_wp2
      exact HI.out.put AST.out SrcR.trans (by decide) HL.out rfl (SrcR.ext xE) rfl
     (conv in (Act.put _ _ _)=>simp only[Act.put,List.setIfInBounds_toArray,List.set_cons_succ,List.set_cons_zero])
     refine IReg.step 6 rfl (fun L w' hI hL hj=>?_) ?_
     ·have hRK:=hI.pre (hI.free (by decide) hL)
      (rw[show vs 4=_ from hRK.2 4 _ rfl (hj 4 (by decide) (by kernel_rfl))])
      have HW':=tH (hRK.1.2 HP.out.hs)
      have HI:=tH hI
      have HL:=tH hL
      clear hI hL hj hRK
      go_wp2_with fail
      refine(srcLabel_any g _ cv l (HW'.out.ext xE)).mono ?_
      rintro e w8 ⟨x,rfl,hxo,hc,hs⟩
      have HR8:=tH (SrcR.of (w:=w') xE hc hs)
      have HXO:=tH hxo
      clear hc hs hxo
      go_wp2
      exact HI.out.put AST.out SrcR.trans (by decide) HL.out rfl HR8.out ⟨x,rfl,HXO.out⟩
     (conv in (Act.put _ _ _)=>simp only[Act.put,List.setIfInBounds_toArray,List.set_cons_succ,List.set_cons_zero])
     refine IReg.step 7 rfl (fun L w' hI hL hj=>?_) ?_
     ·have hRK:=hI.pre (hI.free (by decide) hL)
      obtain⟨x,h3,h3o⟩:lb9 (vs 3) w':=hRK.2 3 _ rfl (hj 3 (by decide) (by kernel_rfl))
      obtain⟨y,h5,h5o⟩:lb9 (vs 5) w':=hRK.2 5 _ rfl (hj 5 (by decide) (by kernel_rfl))
      rw[h3,h5]
      have HK:=tH (show ls9 w.heap.size (.slice (some ⟨w'.heap.size,0,none⟩) 2 2) (w'.alloc (.cells #[(.int .i64 x.lv),(.int .i64 x.st),(.int .i64 y.lv),(.int .i64 y.st)] 28)) from ⟨[x,y],w'.heap.size,rfl,rfl,fun z hz=>by
       simp only[List.mem_cons,List.not_mem_nil,or_false] at hz
       rcases hz with rfl | rfl
       ·exact h3o
       ·exact h5o,row_twoL (Nat.le_trans HP.out.hc.size hRK.1.1.size)⟩)
      have HI:=tH hI
      have HL:=tH hL
      clear hI hL hj hRK h3 h3o h5 h5o
      go_wp2
      exact HI.out.put AST.out SrcR.trans (by decide) HL.out rfl (SrcR.ext xE) HK.out
     (conv in (Act.put _ _ _)=>simp only[Act.put,List.setIfInBounds_toArray,List.set_cons_succ,List.set_cons_zero])
     refine IReg.step 8 rfl (fun L w' hI hL hj=>?_) ?_
     ·have hRK:=hI.pre (hI.free (by decide) hL)
      obtain⟨xs,gb,h6,h6l,h6o,h6R⟩:ls9 w.heap.size (vs 6) w':=hRK.2 6 _ rfl (hj 6 (by decide) (by kernel_rfl))
      rw[h6] at h6R ⊢
      have hgs:=(hRK.1.2 HP.out.hs).old
      have HK:=tH (show lo9 w.heap.size g (.slice (some ⟨w'.heap.size,0,none⟩) 1 1) (w'.alloc (.cells #[.slice (some ⟨gb,0,none⟩) 2 2] 78)) from ⟨(xs,(some ⟨gb,0,none⟩,2)),w'.heap.size,rfl,by
       have:LW.cells (xs,(some ⟨gb,0,none⟩,2))=[.slice (some ⟨gb,0,none⟩) 2 2]:=by unfold LW.cells LW.nv;rw[h6l]
       rw[this];exact Blk.new rfl,by omega,by
       have:LW.nv (xs,(some ⟨gb,0,none⟩,2))=.slice (some ⟨gb,0,none⟩) 2 2:=by unfold LW.nv;rw[h6l]
       rw[this];exact h6R.ext xE,h6l,h6o⟩)
      have HI:=tH hI
      have HL:=tH hL
      clear hI hL hj hRK h6 h6l h6o h6R hgs
      go_wp2
      exact HI.out.put AST.out SrcR.trans (by decide) HL.out rfl (SrcR.ext xE) HK.out
     (conv in (Act.put _ _ _)=>simp only[Act.put,List.setIfInBounds_toArray,List.set_cons_succ,List.set_cons_zero])
     refine IReg.step 9 rfl (fun L w' hI hL hj=>?_) ?_
     ·have hRK:=hI.pre hL
      obtain⟨r,g1,h7,h7B,h7g,h7R,h7l,h7o⟩:lo9 w.heap.size g (vs 7) w':=hRK.2 7 _ rfl (hj 7 (by decide) (by kernel_rfl))
      rw[h7]
      (rw[show vs 1=_ from hRK.2 1 _ rfl (hj 1 (by decide) (by kernel_rfl))])
      have a0:=hj 0 (by decide) (by kernel_rfl)
      have a1:=hj 1 (by decide) (by kernel_rfl)
      have a2:=hj 2 (by decide) (by kernel_rfl)
      have a3:=hj 3 (by decide) (by kernel_rfl)
      have a4:=hj 4 (by decide) (by kernel_rfl)
      have a5:=hj 5 (by decide) (by kernel_rfl)
      have a6:=hj 6 (by decide) (by kernel_rfl)
      have a7:=hj 7 (by decide) (by kernel_rfl)
      have hall:∀ j,j < 8→L j=true:=fun j h5=>by
       have:j=0∨j=1∨j=2∨j=3∨j=4∨j=5∨j=6∨j=7:=by omega
       rcases this with rfl | rfl | rfl | rfl | rfl | rfl | rfl | rfl<;>assumption
      clear a0 a1 a2 a3 a4 a5 a6 a7
      have HPw:=tH (HP.out.src HG.out hRK.1.1 (hRK.1.2 HP.out.hs))
      obtain⟨ls,rs,q1,q2,q3,q4,q5⟩:=HPw.out.ho
      have Q1:=tH q1
      have Q2:=tH q2
      have Q3:=tH q3
      have Q4:=tH q4
      have Q5:=tH q5
      have H7B:=tH h7B
      have H7R:=tH h7R
      have H7D:=tH (And.intro h7l h7o)
      have HI:=tH hI
      have HAL:=tH hall
      have HLR:=tH (show ls.length≤7 by have:=congrArg List.length q3;rw[List.length_map] at this;have:=hl9.out;omega)
      have hsz2:=tH HPw.out.hc.size
      clear hI hL hj hRK h7 h7B h7R h7l h7o hall q1 q2 q3 q4 q5
      go_wp2_with (at_builtin;go_must (refine Row.appC (f:=LW.cells) el_LS9 rfl _ _ rfl w.heap.size hsz2.out _ ls rfl Q1.out.row ⟨g1,0,none⟩ 1 1 [r] rfl rfl (fun _=>rfl) ?_ ?_ ?_ ?_ ?_);(intro i u hi;rw[Addr.add_lit,Nat.zero_add,H7B.out.cell i];simpa using hi);(intro u hu;simp only[List.flatMap_cons,List.flatMap_nil,List.append_nil] at hu;obtain rfl:=List.mem_singleton.1 hu;rfl);(have:=HLR.out;unfold maxLen;simp;omega);(have:=HLR.out;simp;omega);intro v' w2 hR hC;have HR2:=tH hR;have HC2:=tH hC;clear hR hC)
      obtain⟨a9,c9,rfl⟩:=HR2.out.shape
      go_wp2
      exact HI.out.app HAL.out ⟨r.1,a9,c9,by rw[← Q3.out];simp,AqP.clear HPw.out HS.out Q1.out Q2.out Q3.out Q4.out Q5.out HC2.out HR2.out H7R.out H7D.out hl9.out⟩
     (conv in (Act.put _ _ _)=>simp only[Act.put,List.setIfInBounds_toArray,List.set_cons_succ,List.set_cons_zero])
     refine IReg.step 10 rfl (fun L w' hI hL hj=>?_) ?_
     ·have HI:=tH hI
      clear hI hL hj
      go_wp2
      exact HI.out.fin (by first | exact Nat.le_refl 5 | exact Nat.le_refl 8) rfl rfl
     (conv in (Act.put _ _ _)=>simp only[Act.put,List.setIfInBounds_toArray,List.set_cons_succ,List.set_cons_zero])
     refine IReg.done (fun L w9 hL hI=>?_)
     obtain⟨r,a9,n9,h5,hAP⟩:=(hI.post (hL 8 (by decide))).1
     rw[h5,hI.fa (hL 9 (by decide))]
     rw[h5] at hAP
     have HAP:=tH hAP
     have p0:w9.cell? ⟨bP,0,none⟩=some (.slice ca p.clear.length cc):=hAP.bx.cell 0
     have p1:w9.cell? ⟨bP,1,none⟩=some (.slice ja p.jobs.length jc):=hAP.bx.cell 1
     have p2:w9.cell? ⟨bP,2,none⟩=some (.int .i64 p.now):=hAP.bx.cell 2
     have po:=hAP.bx.old
     have pf:=hAP.bx.fz
     clear hI hL h5 hAP AST hl9 HP
     go_upto_region 30 with fail
     refine gen_world (fun W32 hW=>?_)
     have HX9:∃ (p':Pl) (ca:Option Addr) (cc:Nat),Hid (PeS w g cv l W32 bP p' (.slice ca p'.clear.length cc) (.slice ja p'.jobs.length jc)):=⟨{ p with clear:=p.clear++[r] },a9,n9,tH (HAP.out.store HS.out (by rw[hW];exact set1_chg _ _ _ _) (by rw[hW];have h8:=HAP.out.bx.set 0 (.slice a9 (p.clear.length+1) n9);rw[show (p.clear++[r]).length=p.clear.length+1 from by simp];exact h8))⟩
     clear hW HAP
     clear p0 p1 p2 po pf
     obtain⟨p',ca,cc,HP⟩:=HX9
     obtain⟨p,hpp⟩:∃ p,p=p':=⟨_,rfl⟩
     rw[← hpp] at HP
     clear hpp
     have p0:W32.cell? ⟨bP,0,none⟩=some (.slice ca p.clear.length cc):=HP.out.bx.cell 0
     have p1:W32.cell? ⟨bP,1,none⟩=some (.slice ja p.jobs.length jc):=HP.out.bx.cell 1
     have p2:W32.cell? ⟨bP,2,none⟩=some (.int .i64 p.now):=HP.out.bx.cell 2
     have po:=HP.out.bx.old
     have pf:=HP.out.bx.fz
     have r0:W32.cell? ⟨w.heap.size,0,none⟩=some (.slice none 0 0):=HP.out.hr.cell 0
     have r1:W32.cell? ⟨w.heap.size,1,none⟩=some (.slice none 0 0):=HP.out.hr.cell 1
     have r2:W32.cell? ⟨w.heap.size,2,none⟩=some (.int .i64 0):=HP.out.hr.cell 2
     have ro:=HP.out.hr.old
     have rf:=HP.out.hr.fz
     go_wp2
     exact bodyPost_ret (v:=.agg #[.slice ca p.clear.length cc,.slice ja p.jobs.length jc,(.int .i64 p.now)]) (by simp[results,Tryz.results42,go_sem,r0,r1,r2]) rfl ⟨p,.slice ca p.clear.length cc,.slice ja p.jobs.length jc,rfl,HP.out.hc.past (set3_chg9 _ _ _ _ _) (by simp),HP.out.hs.chg HS.out (set3_chg9 _ _ _ _ _) (by simp),HP.out.ho.off (set3_chg9 _ _ _ _ _) (offP_box HP.out.hr (by decide)),HP.out.hb⟩
    have tb2:((t:Int) == 2)=false:=by simp;omega
    clear t0 t1 t2
    have p0:W31.cell? ⟨bP,0,none⟩=some (.slice ca p.clear.length cc):=HP.out.bx.cell 0
    have p1:W31.cell? ⟨bP,1,none⟩=some (.slice ja p.jobs.length jc):=HP.out.bx.cell 1
    have p2:W31.cell? ⟨bP,2,none⟩=some (.int .i64 p.now):=HP.out.bx.cell 2
    have po:=HP.out.bx.old
    have pf:=HP.out.bx.fz
    go_upto_region 30 with fail
    refine gen_world (fun W32 hW=>?_)
    have HX9:∃ (p':Pl) (ca:Option Addr) (cc:Nat),Hid (PeS w g cv l W32 bP p' (.slice ca p'.clear.length cc) (.slice ja p'.jobs.length jc)):=⟨{ p with clear:=[] },none,0,tH (HP.out.store HS.out (by rw[hW];exact set1_chg _ _ _ _) (by rw[hW];exact HP.out.bx.set 0 _) HP.out.ho.nil HP.out.hb.nil)⟩
    clear hW HP
    clear p0 p1 p2 po pf
    obtain⟨p',ca,cc,HP⟩:=HX9
    obtain⟨p,hpp⟩:∃ p,p=p':=⟨_,rfl⟩
    rw[← hpp] at HP
    clear hpp
    have p0:W32.cell? ⟨bP,0,none⟩=some (.slice ca p.clear.length cc):=HP.out.bx.cell 0
    have p1:W32.cell? ⟨bP,1,none⟩=some (.slice ja p.jobs.length jc):=HP.out.bx.cell 1
    have p2:W32.cell? ⟨bP,2,none⟩=some (.int .i64 p.now):=HP.out.bx.cell 2
    have po:=HP.out.bx.old
    have pf:=HP.out.bx.fz
    have r0:W32.cell? ⟨w.heap.size,0,none⟩=some (.slice none 0 0):=HP.out.hr.cell 0
    have r1:W32.cell? ⟨w.heap.size,1,none⟩=some (.slice none 0 0):=HP.out.hr.cell 1
    have r2:W32.cell? ⟨w.heap.size,2,none⟩=some (.int .i64 0):=HP.out.hr.cell 2
    have ro:=HP.out.hr.old
    have rf:=HP.out.hr.fz
    go_wp2
    exact bodyPost_ret (v:=.agg #[.slice ca p.clear.length cc,.slice ja p.jobs.length jc,(.int .i64 p.now)]) (by simp[results,Tryz.results42,go_sem,r0,r1,r2]) rfl ⟨p,.slice ca p.clear.length cc,.slice ja p.jobs.length jc,rfl,HP.out.hc.past (set3_chg9 _ _ _ _ _) (by simp),HP.out.hs.chg HS.out (set3_chg9 _ _ _ _ _) (by simp),HP.out.ho.off (set3_chg9 _ _ _ _ _) (offP_box HP.out.hr (by decide)),HP.out.hb⟩
end Go.Proofs.YtdoeoojjabnboaaGreat
