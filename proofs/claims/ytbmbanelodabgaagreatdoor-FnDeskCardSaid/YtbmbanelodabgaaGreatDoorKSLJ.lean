/- Sorting, for every kind of elements: the comparator lays blocks and draws at most; what the sort leaves is a row of the same elements. -/
import Derived.Test.YtbmbanelodabgaaGreatDoorKCC
import Derived.Test.YtbmbanelodabgaaGreatDoorKII
import Derived.Shelf.SlSortCmp.WholeK
import Derived.Test.YtbmbanelodabgaaGreatDoorKVBC
import Derived.Test.YtbmbanelodabgaaGreatDoorProg
set_option maxRecDepth 100000
set_option linter.unusedVariables false
namespace Go.Proofs.YtbmbanelodabgaaGreatDoor
open Go.RowKit Go.Fin1 Go.Shelf Go.Sort
def ExtD (w w':World):Prop:=Ext w w'∧w.drawn≤w'.drawn
theorem ExtD.refl (w:World):ExtD w w:=⟨Ext.refl w,Nat.le_refl _⟩
theorem ExtD.trans (a b c:World) (h:ExtD a b) (k:ExtD b c):ExtD a c:=⟨h.1.trans k.1,Nat.le_trans h.2 k.2⟩
theorem ExtD.toGrow {w w':World} (h:ExtD w w'):∃ q os,w'=grow (w.drewN q) os:=by
 obtain⟨⟨X,rfl⟩,hd⟩:=h
 refine⟨X.drawn-w.drawn,X.objs,?_⟩
 have h2:w.drawn≤X.drawn:=hd
 unfold World.plus grow World.drewN
 simp
 omega
set_option maxHeartbeats 800000 in
theorem cmpOr_d (v:Value) (xs:List Int) (w:World) (h:SlR w 1 rInt v xs) :
  Calls Tryz.prog 171 #[v] w fun e w'=>e=.returned (.int .i64 (orI xs))∧ExtD w w':=by
 obtain⟨a,cap,rfl⟩:=h.len
 obtain⟨-,hlc,hcm⟩:=slr_len h
 have hlm:xs.length≤9223372036854775807:=by unfold maxLen at hcm;omega
 clear hcm hlc
 have HS:=tH h
 clear h
 go_enter Tryz.func171,Tryz.ntmps171
 go_wp2
 go_loopw [8,5] (fun i _ wr=>∃ k:Nat,k≤xs.length∧i=.int .i64 k∧Ext w wr∧Hid (w.drawn≤wr.drawn)∧Hid (∀ j (hj:j < xs.length),j < k→xs[j]=0)) (fun i _ _=>xs.length-(intOf i).toNat)
 case atStart=>exact⟨0,Nat.zero_le _,rfl,Ext.refl _,tH (Nat.le_refl _),tH (fun j _ h=>absurd h (Nat.not_lt_zero _))⟩
 case round =>
  obtain⟨k,hk,rfl,⟨X,rfl⟩,HD,HH⟩:=hrel
  by_cases hlt:k < xs.length
  ·obtain⟨b,off,rfl⟩:=slr_some HS.out hlt
   obtain⟨ho,hok,h0⟩:=int_at HS.out hlt
   cases hz:(xs[k] == 0)
   ·have hz':¬ xs[k]=0:=by simpa using hz
    have HR:=tH ((orI_skip HH.out).trans (by rw[List.drop_eq_getElem_cons hlt,orI_cons,if_neg hz']))
    go_wp2
    go_ret
    exact⟨ret_int HR.out.symm,xE,HD.out⟩
   ·have hz':xs[k]=0:=by simpa using hz
    have HZ:=tH hz'
    clear hz'
    go_wp2
    exact⟨⟨k+1,by omega,by go_num,xE,tH HD.out,tH (fun j hj hjk=>by
     by_cases e:j < k
     ·exact HH.out j hj e
     ·obtain rfl:j=k:=by omega
      exact HZ.out)⟩,by simp[intOf];omega⟩
  ·go_wp2
   go_ret
   exact⟨ret_int (by rw[orI_skip (k:=xs.length) (fun j hj _=>HH.out j hj (by omega)),List.drop_length,orI_nil]),xE,HD.out⟩
theorem kSli_goodL (xs:List Int) (h:∀ x∈xs,I64 x) (hm:xs.length≤maxLen):XReg.GoodKL ExtD (kSli xs) :=
 ⟨fun _ _ _ hx ⟨a,c,hv,h⟩=>⟨a,c,hv,h.ext rInt_stable hx.1⟩,_,_,_,_,rfl,sl_new default 0 xs h hm⟩
set_option maxHeartbeats 800000 in
theorem compareLabels_d (a b c d:Int) (w:World) :
  Calls Tryz.prog 172 #[.agg #[(.int .i64 a),(.int .i64 b)],.agg #[(.int .i64 c),(.int .i64 d)]] w fun e w'=>e=.returned (.int .i64 (cmpL ⟨a,b⟩ ⟨c,d⟩))∧ExtD w w':=by
 have hi:=tH (show ∀ x∈[cmpI a c,cmpI b d],I64 x from fun x hx=>by
  have h1:=cmpI_bd a c
  have h2:=cmpI_bd b d
  simp at hx
  rcases hx with rfl | rfl<;>(unfold I64;omega))
 have HL:Hid (cmpL ⟨a,b⟩ ⟨c,d⟩=orI [cmpI a c,cmpI b d]):=tH (by unfold cmpL;rfl)
 go_enter Tryz.func172,Tryz.ntmps172
 go_upto_region 1 with fail
 apply wp_region_l (R:=ExtD) ExtD.trans (m:=13) (Ks:=[_,_,_,_,_,_,_,_,_,_,kSli [cmpI a c,cmpI b d],_,_])
 case hm=>kernel_rfl
 case hc=>kernel_rfl
 case hd=>kernel_rfl
 case hl=>rfl
 case h0=>exact⟨(Ext.refl _).drew,Nat.le_succ _⟩
 case h =>
  iterate 10 (apply LReg.step;(case h=>(intro w' hw' hF';obtain⟨⟨X',rfl⟩,hd'⟩:=hw';clear hd';have HF':=tH hF';clear hF';go_wp2_with ((go_at_call 173;refine(cmpI_any _ _ _).mono ?_;rintro e _ ⟨rfl,rfl⟩));exact⟨rfl,xE,Nat.le_refl _⟩));(case hv=>kernel_rfl))
  refine LReg.kind (fun w' hw' hF'=>?_) (fun v w1 hK=>?_)
  ·obtain⟨⟨X',rfl⟩,hd'⟩:=hw'
   clear hF' hd'
   go_wp2_with fail
   refine⟨⟨xE,Nat.le_refl _⟩,_,_,rfl,?_⟩
   exact sl_new2 w _ _ X' _ [cmpI a c,cmpI b d] hi.out (by show 2≤maxLen;decide)
  ·obtain⟨a3,c3,rfl,hs3⟩:=hK
   clear hs3 w1
   apply LReg.val (.int .i64 (cmpL ⟨a,b⟩ ⟨c,d⟩))
   case h =>
    intro w' hw' hF'
    have HK:=tH (kSli_r (hF'.get 10 rfl (by kernel_rfl)))
    clear hw' hF'
    go_wp2_with fail
    refine(cmpOr_d _ [cmpI a c,cmpI b d] _ HK.out).mono ?_
    rintro e w2 ⟨rfl,hx⟩
    rw[← HL.out]
    have HX:=tH hx
    clear hx
    go_wp2
    exact⟨rfl,HX.out⟩
   case hv=>kernel_rfl
   apply LReg.val (.int .i64 (cmpL ⟨a,b⟩ ⟨c,d⟩))
   case h =>
    intro w' hw' hF'
    clear hw' hF'
    go_wp2
    exact⟨rfl,ExtD.refl _⟩
   case hv=>kernel_rfl
   refine LReg.doneN (fun w' hw' _=>?_)
   have HX:=tH hw'
   clear hw'
   go_wp2
   go_ret
   exact⟨rfl,ExtD.trans _ _ _ ⟨((Ext.refl w).alloc _).alloc _,Nat.le_refl _⟩ HX.out⟩
 case hg =>
  repeat' (first | exact trivial | exact XReg.GoodKL.same _ _ default | refine And.intro ?_ ?_)
  exact kSli_goodL _ hi.out (by show 2≤maxLen;decide)
theorem sortK_chg {α:Type} [Inhabited α] (enc:α→List Value) (k:Nat) (w:World) (blk off n:Nat) (d:Array α) (os:Array Obj):Chg [blk] w (sortWorldK enc k w blk off n d os):=by
 refine⟨rfl,rfl,rfl,by simp[sortWorldK,grow,putRowK,putRow,mapBlock,Sort.ahead],fun b hb hn=>?_⟩
 simp only[List.mem_singleton] at hn
 simp only[sortWorldK,grow,putRowK,putRow,mapBlock,Sort.ahead]
 rw[Array.getElem?_append_left (by simpa using hb),Array.getElem?_modify,if_neg (fun h=>hn h.symm)]
theorem flatMap_atK {α β:Type} {f:α→List β} {k:Nat} (hf:∀ x,(f x).length=k):∀ (l:List α) (q r:Nat) (hq:q < l.length),r < k→(l.flatMap f)[q*k+r]?=(f l[q])[r]?
 | [],q,r,hq,_=>absurd hq (Nat.not_lt_zero _)
 | x :: l,0,r,_,hr=>by
  rw[List.flatMap_cons,Nat.zero_mul,Nat.zero_add,List.getElem?_append_left (by rw[hf];exact hr)];rfl
 | x :: l,q+1,r,hq,hr=>by
  have e:(q+1)*k+r=(f x).length+(q*k+r):=by rw[hf,Nat.add_mul,Nat.one_mul];omega
  rw[List.flatMap_cons,e,List.getElem?_append_right (Nat.le_add_right _ _),Nat.add_sub_cancel_left,flatMap_atK hf l q r (by simpa using hq) hr];rfl
theorem flatK_flat {α:Type} [Inhabited α] (enc:α→List Value) (k:Nat) (hk:∀ x,(enc x).length=k) (h0:0 < k) (d:Array α):(flatK enc k d).toList=d.toList.flatMap enc:=by
 refine List.ext_getElem (by simp[flatMap_len hk]) fun j h1 h2=>?_
 simp at h1
 have hq:j / k < d.size:=(Nat.div_lt_iff_lt_mul h0).2 h1
 have hr:=Nat.mod_lt j h0
 have e:(d.toList.flatMap enc)[j]?=(enc d[j / k])[j % k]?:=by
  have:=flatMap_atK hk d.toList (j / k) (j % k) (by simpa using hq) hr
  rw[show j / k*k+j % k=j by rw[Nat.mul_comm];exact Nat.div_add_mod j k] at this
  simpa using this
 have h1':j < (flatK enc k d).size:=by simpa using h1
 have e2:=get_flatK enc k d j h1
 rw[getElem!_pos (flatK enc k d) j h1',getElem!_pos d (j / k) hq,getElem!_pos (enc d[j / k]) (j % k) (by rw[hk];exact hr)] at e2
 rw[List.getElem?_eq_getElem h2,List.getElem?_eq_getElem (by rw[hk];exact hr)] at e
 rw[Array.getElem_toList,e2]
 exact(Option.some.inj e).symm
theorem sortK_row {α:Type} [Inhabited α] {enc:α→List Value} {k:Nat} (hk:∀ x,(enc x).length=k) (h0:0 < k) {B:Nat} {w:World} {ty g n cap:Nat} {xs:List α} {d:Array α} {os:Array Obj} (m:Nat)
  (h:Row B w ty k enc (.slice (some ⟨g,0,none⟩) n cap) xs) (hd:d.size=xs.length):Row B (sortWorldK enc k w g 0 m d os) ty k enc (.slice (some ⟨g,0,none⟩) n cap) d.toList:=by
 obtain⟨hl,h⟩:=h
 rcases h with ⟨hv,_⟩ | ⟨g',cap',cur,hv,hb,hg,h1,h2,h3,h4⟩
 ·cases hv
 cases hv
 refine⟨by rw[flatMap_len hk],.inr ⟨g,cap,putCells id 0 (flatK enc k d) cur,by simp[hd],hb,?_,by simpa [hd] using h1,h2,by simpa [putCells] using h3,?_⟩⟩
 ·have hlt:g < w.heap.size:=(Array.getElem?_eq_some_iff.1 hg).1
  simp only[sortWorldK,grow,putRowK,putRow,mapBlock,Sort.ahead]
  rw[Array.getElem?_append_left (by simpa using hlt),Array.getElem?_modify,if_pos rfl,hg]
  rfl
 ·have hs:(flatK enc k d).size≤cur.size:=by
   rw[size_flatK,hd,h3];exact Nat.mul_le_mul_right _ h1
  rw[← flatK_flat enc k hk h0 d]
  refine List.ext_getElem (by simp[putCells];rw[size_flatK] at hs;omega) fun j h5 h6=>?_
  simp[putCells] at h5 h6 ⊢
  rw[if_pos (by omega),getElem!_pos _ _ (by simpa using h6)]
theorem holdsK_row {α:Type} [Inhabited α] {enc:α→List Value} {k:Nat} (hk:∀ x,(enc x).length=k) (h0:0 < k) {B:Nat} {w:World} {ty g n cap:Nat} {xs:List α}
  (h:Row B w ty k enc (.slice (some ⟨g,0,none⟩) n cap) xs):HoldsK enc k w g 0 xs.toArray:=by
 obtain⟨hl,h⟩:=h
 rcases h with ⟨hv,_⟩ | ⟨g',cap',cur,hv,hb,hg,h1,h2,h3,h4⟩
 ·cases hv
 cases hv
 intro j hj
 have hs:(flatK enc k xs.toArray).toList=cur.toList.take (xs.length*k):=by rw[flatK_flat enc k hk h0];exact h4.symm
 refine⟨?_,frozen_of_heap hg _⟩
 rw[cell_of_heap hg,getElem!_pos (flatK enc k xs.toArray) j hj,Nat.zero_add]
 have e:=congrArg (fun l=>l[j]?) hs
 simp only[List.getElem?_take] at e
 rw[size_flatK] at hj
 rw[if_pos (by simpa using hj),List.getElem?_eq_getElem (by simpa using hj)] at e
 simpa using e.symm
end Go.Proofs.YtbmbanelodabgaaGreatDoor
set_option maxRecDepth 100000
set_option linter.unusedVariables false
namespace Go.Proofs.YtbmbanelodabgaaGreatDoor
open Go.RowKit Go.Fin1 Go.Shelf Go.Sort
theorem swoR:SWO (ltOf cmpR) where
 irrefl x:=by unfold ltOf cmpR;exact decide_eq_false (by rw[cmpJ_lt];omega)
 trans x y z h1 h2:=by unfold ltOf cmpR at *;simp only[decide_eq_true_eq,cmpJ_lt] at *;omega
 ntrans x y z h1 h2:=by unfold ltOf cmpR at *;simp only[decide_eq_false_iff_not,cmpJ_lt] at *;omega
set_option maxHeartbeats 1600000 in
theorem compareJobs_d (a b:Jb) (na nb:Value) (w:World) :
  Calls Tryz.prog 138 #[a.val na,b.val nb] w fun e w'=>e=.returned (.int .i64 (cmpJ a b))∧ExtD w w':=by
 obtain⟨⟨lv,st⟩,id,need,long,prio,state,start,nodes⟩:=a
 obtain⟨⟨lv2,st2⟩,id2,need2,long2,prio2,state2,start2,nodes2⟩:=b
 unfold Jb.val
 simp only
 have hi:=tH (show ∀ x∈[cmpL ⟨lv,st⟩ ⟨lv2,st2⟩,cmpI prio2 prio,cmpI id id2],I64 x from fun x hx=>by
  have h1:=cmpL_bd ⟨lv,st⟩ ⟨lv2,st2⟩
  have h2:=cmpI_bd prio2 prio
  have h3:=cmpI_bd id id2
  simp at hx
  rcases hx with rfl | rfl | rfl<;>(unfold I64;omega))
 generalize hG:cmpJ _ _=G
 have HL:Hid (G=orI [cmpL ⟨lv,st⟩ ⟨lv2,st2⟩,cmpI prio2 prio,cmpI id id2]):=tH (by rw[← hG];unfold cmpJ;rfl)
 clear hG
 go_enter Tryz.func138,Tryz.ntmps138
 go_upto_region 1 with fail
 apply wp_region_l (R:=ExtD) ExtD.trans (m:=18) (Ks:=[_,_,_,_,_,_,_,_,_,_,_,_,_,_,_,kSli [cmpL ⟨lv,st⟩ ⟨lv2,st2⟩,cmpI prio2 prio,cmpI id id2],_,_])
 case hm=>kernel_rfl
 case hc=>kernel_rfl
 case hd=>kernel_rfl
 case hl=>rfl
 case h0=>exact⟨(Ext.refl _).drew,Nat.le_succ _⟩
 case h =>
  iterate 4 (apply LReg.step;(case h=>(intro w' hw' hF';obtain⟨⟨X',rfl⟩,hd'⟩:=hw';clear hd';have HF':=tH hF';clear hF';go_wp2_with (fail);exact⟨rfl,xE,Nat.le_refl _⟩));(case hv=>kernel_rfl))
  apply LReg.step
  case h =>
   intro w' hw' hF'
   clear hF'
   have HW':=tH hw'
   clear hw'
   go_wp2_with fail
   refine(compareLabels_d _ _ _ _ _).mono ?_
   rintro e w2 ⟨rfl,hx⟩
   have HX:=tH hx
   clear hx
   go_wp2
   exact⟨rfl,HX.out⟩
  case hv=>kernel_rfl
  iterate 10 (apply LReg.step;(case h=>(intro w' hw' hF';obtain⟨⟨X',rfl⟩,hd'⟩:=hw';clear hd';have HF':=tH hF';clear hF';go_wp2_with ((go_at_call 173;refine(cmpI_any _ _ _).mono ?_;rintro e _ ⟨rfl,rfl⟩));exact⟨rfl,xE,Nat.le_refl _⟩));(case hv=>kernel_rfl))
  refine LReg.kind (fun w' hw' hF'=>?_) (fun v w1 hK=>?_)
  ·obtain⟨⟨X',rfl⟩,hd'⟩:=hw'
   clear hF' hd'
   go_wp2_with fail
   refine⟨⟨xE,Nat.le_refl _⟩,_,_,rfl,?_⟩
   exact sl_new2 w _ _ X' _ [cmpL ⟨lv,st⟩ ⟨lv2,st2⟩,cmpI prio2 prio,cmpI id id2] hi.out (by show 3≤maxLen;decide)
  ·obtain⟨a3,c3,rfl,hs3⟩:=hK
   clear hs3 w1
   apply LReg.val (.int .i64 G)
   case h =>
    intro w' hw' hF'
    have HK:=tH (kSli_r (hF'.get 15 (p:=(kSli [cmpL ⟨lv,st⟩ ⟨lv2,st2⟩,cmpI prio2 prio,cmpI id id2],.slice a3 [cmpL ⟨lv,st⟩ ⟨lv2,st2⟩,cmpI prio2 prio,cmpI id id2].length c3)) (by kernel_rfl) (by kernel_rfl)))
    clear hw' hF'
    go_wp2_with fail
    refine(cmpOr_d _ [cmpL ⟨lv,st⟩ ⟨lv2,st2⟩,cmpI prio2 prio,cmpI id id2] _ HK.out).mono ?_
    rintro e w2 ⟨rfl,hx⟩
    rw[← HL.out]
    have HX:=tH hx
    clear hx
    go_wp2
    exact⟨rfl,HX.out⟩
   case hv=>kernel_rfl
   apply LReg.val (.int .i64 G)
   case h =>
    intro w' hw' hF'
    clear hw' hF'
    go_wp2
    exact⟨rfl,ExtD.refl _⟩
   case hv=>kernel_rfl
   refine LReg.doneN (fun w' hw' _=>?_)
   have HX:=tH hw'
   clear hw'
   go_wp2
   go_ret
   exact⟨rfl,ExtD.trans _ _ _ ⟨((Ext.refl w).alloc _).alloc _,Nat.le_refl _⟩ HX.out⟩
 case hg =>
  repeat' (first | exact trivial | exact XReg.GoodKL.same _ _ default | refine And.intro ?_ ?_)
  exact kSli_goodL _ hi.out (by show 3≤maxLen;decide)
end Go.Proofs.YtbmbanelodabgaaGreatDoor
namespace Go.Proofs
open Go.Shelf
def Tryz.jsort_ren:Go.Shelf.Ren:=⟨fun | 6=>137 | 15=>170 | 14=>169 | 28=>202 | 29=>189 | 20=>194 | 21=>195 | 22=>196 | 23=>197 | 24=>198 | 25=>199 | 26=>200 | 27=>201 | 46=>213 | 47=>214 | 48=>215 | 49=>216 | 50=>217 | 57=>220 | n=>n,fun | 22=>39 | 24=>92 | 25=>156 | 3=>3 | 39=>115 | 0=>0 | 53=>177 | 55=>86 | 4=>4 | 46=>213 | 45=>212 | 50=>217 | 5=>5 | 9=>9 | 66=>227 | 70=>231 | 76=>237 | 77=>238 | n=>n,fun | n=>n⟩
theorem Tryz.jsort:Go.Proofs.SlLaysF0.n6 Tryz.prog Tryz.jsort_ren:={
 mixed:=by kernel_rfl
 f6:=⟨Tryz.f137.name,by decide,Tryz.func137.trans (congrArg some (by kernel_rfl))⟩
 f14:=⟨Tryz.f169.name,by decide,Tryz.func169.trans (congrArg some (by kernel_rfl))⟩
 f15:=Tryz.func170.trans (congrArg some (by kernel_rfl))
 f20:=⟨Tryz.f194.name,by decide,Tryz.func194.trans (congrArg some (by kernel_rfl))⟩
 f21:=⟨Tryz.f195.name,by decide,Tryz.func195.trans (congrArg some (by kernel_rfl))⟩
 f22:=⟨Tryz.f196.name,by decide,Tryz.func196.trans (congrArg some (by kernel_rfl))⟩
 f23:=⟨Tryz.f197.name,by decide,Tryz.func197.trans (congrArg some (by kernel_rfl))⟩
 f24:=⟨Tryz.f198.name,by decide,Tryz.func198.trans (congrArg some (by kernel_rfl))⟩
 f25:=⟨Tryz.f199.name,by decide,Tryz.func199.trans (congrArg some (by kernel_rfl))⟩
 f26:=⟨Tryz.f200.name,by decide,Tryz.func200.trans (congrArg some (by kernel_rfl))⟩
 f27:=⟨Tryz.f201.name,by decide,Tryz.func201.trans (congrArg some (by kernel_rfl))⟩
 f28:=Tryz.func202.trans (congrArg some (by kernel_rfl))
 f29:=Tryz.func189.trans (congrArg some (by kernel_rfl))
 f46:=⟨Tryz.f213.name,by decide,Tryz.func213.trans (congrArg some (by kernel_rfl))⟩
 f47:=Tryz.func214.trans (congrArg some (by kernel_rfl))
 f48:=Tryz.func215.trans (congrArg some (by kernel_rfl))
 f49:=⟨Tryz.f216.name,by decide,Tryz.func216.trans (congrArg some (by kernel_rfl))⟩
 f50:=⟨Tryz.f217.name,by decide,Tryz.func217.trans (congrArg some (by kernel_rfl))⟩
 f57:=⟨Tryz.f220.name,by decide,Tryz.func220.trans (congrArg some (by kernel_rfl))⟩
 t0:=Tryz.underlying0
 a0:=Tryz.isAgg0
 z0:=Tryz.sizeOf0
 v0:=Tryz.zeroValue0
 t3:=Tryz.underlying3
 a3:=Tryz.isAgg3
 z3:=Tryz.sizeOf3
 v3:=Tryz.zeroValue3
 t4:=Tryz.underlying4
 a4:=Tryz.isAgg4
 z4:=Tryz.sizeOf4
 v4:=Tryz.zeroValue4
 t5:=Tryz.underlying5
 a5:=Tryz.isAgg5
 z5:=Tryz.sizeOf5
 v5:=Tryz.zeroValue5
 t9:=Tryz.underlying9
 a9:=Tryz.isAgg9
 z9:=Tryz.sizeOf9
 v9:=Tryz.zeroValue9
 t22:=Tryz.underlying39
 a22:=Tryz.isAgg39
 z22:=Tryz.sizeOf39
 v22:=Tryz.zeroValue39
 t25:=Tryz.underlying156
 a25:=Tryz.isAgg156
 z25:=Tryz.sizeOf156
 v25:=Tryz.zeroValue156
 t39:=Tryz.underlying115
 a39:=Tryz.isAgg115
 z39:=Tryz.sizeOf115
 v39:=Tryz.zeroValue115
 t45:=Tryz.underlying212
 a45:=Tryz.isAgg212
 z45:=Tryz.sizeOf212
 v45:=Tryz.zeroValue212
 t46:=Tryz.underlying213
 a46:=Tryz.isAgg213
 z46:=Tryz.sizeOf213
 v46:=Tryz.zeroValue213
 t50:=Tryz.underlying217
 a50:=Tryz.isAgg217
 z50:=Tryz.sizeOf217
 v50:=Tryz.zeroValue217
 t53:=Tryz.underlying177
 a53:=Tryz.isAgg177
 z53:=Tryz.sizeOf177
 v53:=Tryz.zeroValue177
 t55:=Tryz.underlying86
 a55:=Tryz.isAgg86
 z55:=Tryz.sizeOf86
 v55:=Tryz.zeroValue86
 t66:=Tryz.underlying227
 a66:=Tryz.isAgg227
 z66:=Tryz.sizeOf227
 v66:=Tryz.zeroValue227
 t70:=Tryz.underlying231
 a70:=Tryz.isAgg231
 z70:=Tryz.sizeOf231
 v70:=Tryz.zeroValue231
 t76:=Tryz.underlying237
 a76:=Tryz.isAgg237
 z76:=Tryz.sizeOf237
 v76:=Tryz.zeroValue237
 t77:=Tryz.underlying238
 a77:=Tryz.isAgg238
 z77:=Tryz.sizeOf238
 v77:=Tryz.zeroValue238 }
end Go.Proofs
