/- impl.placed: its callees. -/
import Derived.Test.YtbmbanelodabgaaGreatDoorKPAB
import Derived.Test.YtbmbanelodabgaaGreatDoorKPC
import Derived.Test.YtbmbanelodabgaaGreatDoorKQA1
import Derived.Test.YtbmbanelodabgaaGreatDoorKTU
import Derived.Test.YtbmbanelodabgaaGreatDoorKPA1
import Derived.Test.YtbmbanelodabgaaGreatDoorKTT
import Derived.Test.YtbmbanelodabgaaGreatDoorKII
import Derived.Test.YtbmbanelodabgaaGreatDoorKZZ1
import Derived.Test.YtbmbanelodabgaaGreatDoorKJE
set_option maxRecDepth 100000
set_option linter.unusedVariables false
namespace Go.Proofs.YtbmbanelodabgaaGreatDoor
open Go.RowKit Go.Fin1
set_option maxHeartbeats 800000 in
theorem whole_any (w:World):Calls Tryz.prog 147 #[] w fun e w'=>∃ g,e=.returned (.slice (some ⟨g,0,none⟩) 1 1)∧Ext w w'∧w.heap.size≤g∧Row 0 w' 124 2 Spn.cells (.slice (some ⟨g,0,none⟩) 1 1) wholeL:=by
 go_enter Tryz.func147,Tryz.ntmps147
 go_wp2
 go_ret
 exact⟨_,rfl,xE,Nat.le_refl _,row_one (f:=Spn.cells) (K:=2) (⟨0,1000000⟩:Spn) rfl rfl rfl⟩
set_option maxHeartbeats 800000 in
theorem cloneRows_any (v:Value) (l:List RW) (w:World) (h:RowR 0 w v l) (h0:0 < l.length) (hl:l.length≤1048576) :
  Calls Tryz.prog 146 #[v] w fun e w'=>∃ g c,e=.returned (.slice (some ⟨g,0,none⟩) l.length c)∧Ext w w'∧RowR w.heap.size w' (.slice (some ⟨g,0,none⟩) l.length c) l:=by
 obtain⟨g0,cap,rfl⟩:=row_some h.row h0
 have q22:∀ (w:World) (a:Option Addr) (n c n' c':Nat),(binOp .eql 122 (.slice a n c) (.slice none n' c')).run Tryz.prog w=.ok (.bool a.isNone) w:=fun w a n c n' c'=>Lib.run_eql_slice_nil w _ _ a n c n' c' (show Tryz.prog.underlying 122=some (.slice 129) by kernel_rfl)
 have HR:=tH h
 have HC:=tH (slr_flat (f:=RW.cells) (K:=1) (fun _=>rfl) (row_rc (f:=RW.cells) (K:=1) (fun _=>rfl) h.row))
 clear h
 go_enter Tryz.func146,Tryz.ntmps146
 go_wp2_with (at_builtin;go_must (refine Row.appS (f:=RW.cells) el_SpnSS rfl _ _ rfl w xE _ _ rfl (Row.made _ _ _ _) ⟨g0,0,none⟩ l.length cap l rfl rfl (fun _=>rfl) ?_ ?_ ?_ ?_ ?_);(exact fun j u hu=>Ext.cellA xE (HC.out j u hu));(intro u hu;obtain⟨x,_,hx⟩:=List.mem_flatMap.1 hu;exact RW.one x u hx);(unfold maxLen;simp;omega);(simp;omega);intro v' X' hown' hne;have HO':=tH hown';clear hown' hne)
 go_ret
 obtain⟨g9,c9,hv9⟩:=row_some HO'.out (by simpa using h0)
 simp only[List.nil_append] at hv9
 subst hv9
 have hr9:=HO'.out
 simp only[List.nil_append] at hr9
 exact⟨g9,c9,rfl,xE,hr9,fun r hr=>⟨(HR.out.nd r hr).1,(HR.out.nd r hr).2.ext xE⟩⟩
set_option maxHeartbeats 1600000 in
theorem placed1_any (n:Int) (b1 b2:Nat) (rv:Value) (rows:List (List Spn)) (xf xt:Int) (w:World) (h1:w.cell? ⟨b1,0,none⟩=some rv) (e0:w.cell? ⟨b2,0,none⟩=some (.int .i64 xf)) (e1:w.cell? ⟨b2,1,none⟩=some (.int .i64 xt)) (hr:SlR w 1 rSpnS rv rows) (hn:0≤n∧n < rows.length) :
  Calls Tryz.prog 143 #[(.int .i64 n),.pointer (some ⟨b1,0,none⟩),.pointer (some ⟨b2,0,none⟩)] w fun e w'=>e=.returned (.bool (!freeAt rows ⟨xf,xt⟩ n))∧Ext w w':=by
 obtain⟨q,rfl⟩:=Int.eq_ofNat_of_zero_le hn.1
 have hql:q < rows.length:=by omega
 obtain⟨ra,rcp,rfl⟩:=hr.len
 obtain⟨br,orr,rfl⟩:=slr_some hr hql
 obtain⟨hor,vx,hsx,hcr⟩:=sl_at hr hql
 obtain⟨ax,cx,rfl⟩:=hsx.len
 have HX:=tH hsx
 have HF:Hid (freeAt rows ⟨xf,xt⟩ ((q:Nat):Int)=freeL rows[q] ⟨xf,xt⟩):=tH (by unfold freeAt;simp[hql])
 have o1:=World.old_of_cell h1
 have o2:=World.old_of_cell e0
 have hn2:=hn.2
 clear hsx hr hn
 go_enter Tryz.func143,Tryz.ntmps143
 go_upto_region 1 with fail
 (refine wp_region_x 8 (by kernel_rfl) (by kernel_rfl) (by kernel_rfl) ?_;(iterate 8 (apply XReg.step;(case h=>(intro w' hw';obtain⟨X',rfl⟩:=hw';go_wp2_with ((go_at_call 144;refine(implisFree_any _ rows[q] _ _ _ (HX.out.ext rSpn_stable xE)).mono ?_;rintro e _ ⟨rfl,Y,rfl⟩));exact⟨rfl,xE⟩));(case hv=>kernel_rfl)));refine XReg.doneN (fun X=>?_))
 go_wp2
 go_ret
 exact⟨ret_bool (by rw[HF.out]),xE⟩
def inI (l:List Int) (u:Value) (x:Int):Prop:=u=(.int .i64 x)∧x∈l
set_option maxHeartbeats 800000 in
theorem indexFuncIntM_any (fn:Nat) (cap:Array Value) (p:Int→Bool) (v:Value) (l:List Int) (w:World) (h:SlR w 1 rInt v l)
  (hcf:∀ args w,(callFunc fn args).run Tryz.prog w=.ok (.enter fn args) w) (Hf:∀ W u x,Ext w W→inI l u x→Calls Tryz.prog fn (#[u]++cap) W fun e w'=>e=.returned (.bool (p x))∧Ext W w') :
  Calls Tryz.prog 176 #[v,.func (.func fn) #[] cap] w fun e w' =>
   e=.returned ((.int .i64 (findI p l)))∧Ext w w':=by
 obtain⟨a,cap',rfl⟩:=h.len
 obtain⟨_,hlc,hcm⟩:=slr_len h
 have hlm:l.length≤9223372036854775807:=by unfold maxLen at hcm;omega
 clear hcm hlc
 have HS:=tH h
 have HF:=tH Hf
 clear h Hf
 go_enter Tryz.func176,Tryz.ntmps176
 go_wp2
 go_loopw [8,5] (fun i _ wr=>∃ k:Nat,k≤l.length∧i=.int .i64 k∧Ext w wr∧Hid (∀ j (hj:j < l.length),j < k→p l[j]=false)) (fun i _ _=>l.length-(intOf i).toNat)
 case atStart =>
  exact⟨0,Nat.zero_le _,rfl,Ext.refl _,tH (fun j _ h=>absurd h (Nat.not_lt_zero _))⟩
 case round =>
  obtain⟨k,hk,rfl,⟨X,rfl⟩,HH⟩:=hrel
  by_cases hlt:k < l.length
  ·obtain⟨b,off,rfl⟩:=slr_some HS.out hlt
   obtain⟨ho,hok,h0⟩:=int_at HS.out hlt
   have HRV:Hid (inI l (.int .i64 l[k]) l[k]):=tH ⟨rfl,List.getElem_mem hlt⟩
   go_wp2_with fail
   refine(HF.out _ _ l[k] (Ext.refl w |>.plus X) HRV.out).mono ?_
   rintro e _ ⟨rfl,Y,rfl⟩
   cases hp:p l[k]
   ·go_wp2
    exact⟨⟨k+1,by omega,by go_num,xE,tH (fun j hj hjk=>by
     by_cases e:j < k
     ·exact HH.out j hj e
     ·obtain rfl:j=k:=by omega
      exact hp)⟩,by simp[intOf];omega⟩
   ·go_wp2
    go_ret
    exact⟨ret_int (findI_at hlt HH.out hp).symm,xE⟩
  ·go_wp2
   go_ret
   exact⟨ret_int (findI_none (fun j hj=>HH.out j hj (by omega))).symm,xE⟩
set_option maxHeartbeats 800000 in
theorem containsFuncIntM_any (fn:Nat) (cap:Array Value) (p:Int→Bool) (v:Value) (l:List Int) (w:World) (h:SlR w 1 rInt v l)
  (hcf:∀ args w,(callFunc fn args).run Tryz.prog w=.ok (.enter fn args) w) (Hf:∀ W u x,Ext w W→inI l u x→Calls Tryz.prog fn (#[u]++cap) W fun e w'=>e=.returned (.bool (p x))∧Ext W w') :
  Calls Tryz.prog 142 #[v,.func (.func fn) #[] cap] w fun e w' =>
   e=.returned (.bool (l.any p))∧Ext w w':=by
 have HS:=tH (indexFuncIntM_any fn cap p v l w h hcf Hf)
 clear h hcf Hf
 go_enter Tryz.func142,Tryz.ntmps142
 go_wp2_with fail
 refine(HS.out).mono ?_
 rintro e _ ⟨rfl,X,rfl⟩
 go_wp2
 go_ret
 exact⟨ret_bool (findI_nonneg p l),xE⟩
theorem firstFit_yes {rows:List (List Spn)} {need length now:Int} (q1:rowsOk rows=true) (q2:1≤need∧need≤6) (q3:1≤length∧length≤20) (q4:0≤now∧now≤999900):firstFit rows need length now=firstL rows need length now:=by
 have h2:isIn need 1 6=true:=isIn_iff.2 (by omega)
 have h3:isIn length 1 40=true:=isIn_iff.2 (by omega)
 have h4:isIn now 0 999900=true:=isIn_iff.2 (by omega)
 unfold firstFit
 rw[q1,h2,h3,h4];rfl
theorem fitNodes_yes {rows:List (List Spn)} {need:Int} {x:Spn} (q1:rowsOk rows=true) (q2:1≤need∧need≤6) (q3:spnOk x=true):fitNodes rows need x=fitNeed rows need x:=by
 have h2:isIn need 1 6=true:=isIn_iff.2 (by omega)
 unfold fitNodes
 rw[q1,h2,q3];rfl
def kNdZ (C:Nat) (xs:List Int) (_:Nat×Nat):XReg.Kind:=fun v u=>∃ a c,v=.slice a xs.length c∧Row C u 2 1 intCell (.slice a xs.length c) xs
def kAgZ (C:Nat) (s:Slt) (_:Nat×Nat):XReg.Kind:=fun v u=>∃ a c,v=s.val (.slice a s.nodes.length c)∧Row C u 2 1 intCell (.slice a s.nodes.length c) s.nodes
def kSlZ (b C:Nat) (s:Slt) (_:Nat×Nat):XReg.Kind:=fun _ u=>∃ a c,Blk u b (s.cells (.slice a s.nodes.length c)) 104∧Row C u 2 1 intCell (.slice a s.nodes.length c) s.nodes
def kBkZ (b:Nat) (cs:List Value) (ty:TypeId) (_:Nat×Nat):XReg.Kind:=fun _ u=>Blk u b cs ty
theorem row_nd {C:Nat} {xs:List Int} (hm:xs.length≤maxLen):∃ (u:World) (a:Option Addr) (c:Nat),Row C u 2 1 intCell (.slice a xs.length c) xs :=
 ⟨_,_,_,by have h:=row_newB (W:=emptyH C) (ty:=2) (f:=intCell) (K:=1) xs (fun _=>rfl) hm;rw[emptyH_size] at h;exact h⟩
theorem row_far {C:Nat} {S:List Nat} {u u':World} {v:Value} {xs:List Int} (h:Row C u 2 1 intCell v xs) (hx:Chg S u u') (hV:∀ b∈S,b < C):Row C u' 2 1 intCell v xs:=h.chg hx fun b hb hm=>by
 have h1:=(h.blk b hb).1
 have h2:=hV b hm
 omega
theorem kNdZ_good {C:Nat} {xs:List Int} {S U V:List Nat} (hm:xs.length≤maxLen) (hV:∀ b∈V,b < C):(XReg.ZOp.A (kNdZ C xs) S U V).Good:=by
 obtain⟨u,a,c,h⟩:=row_nd (C:=C) hm
 exact⟨fun _ _ _ _ hx ⟨a,c,hv,h⟩=>⟨a,c,hv,row_far h hx hV⟩,(0,0),_,u,a,c,rfl,h⟩
theorem kAgZ_good {C:Nat} {s:Slt} {S U V:List Nat} (hm:s.nodes.length≤maxLen) (hV:∀ b∈V,b < C):(XReg.ZOp.A (kAgZ C s) S U V).Good:=by
 obtain⟨u,a,c,h⟩:=row_nd (C:=C) hm
 exact⟨fun _ _ _ _ hx ⟨a,c,hv,h⟩=>⟨a,c,hv,row_far h hx hV⟩,(0,0),_,u,a,c,rfl,h⟩
theorem kBkZ_good {b:Nat} {cs:List Value} {ty:TypeId} {S U V:List Nat} (hV:b∉V):(XReg.ZOp.A (kBkZ b cs ty) S U V).Good :=
 ⟨fun _ _ _ _ hx h=>h.chg hx hV,(0,0),undef,_,Blk.new (w:=emptyH b) (cs:=cs.toArray) (emptyH_size b).symm⟩
theorem kSlZ_good {b C:Nat} {s:Slt} {S U V:List Nat} (hm:s.nodes.length≤maxLen) (hV:∀ q∈V,q < C) (hb:b∉V) (hC:C=b+2):(XReg.ZOp.A (kSlZ b C s) S U V).Good:=by
 refine⟨fun _ _ _ _ hx ⟨a,c,h1,h2⟩=>⟨a,c,h1.chg hx hb,row_far h2 hx hV⟩,(0,0),undef,?_⟩
 have h1:Blk ((emptyH b).alloc (.cells (s.cells (.slice (some ⟨b+2,0,none⟩) s.nodes.length s.nodes.length)).toArray 104)) b (s.cells (.slice (some ⟨b+2,0,none⟩) s.nodes.length s.nodes.length)) 104:=Blk.new (w:=emptyH b) (cs:=(s.cells (.slice (some ⟨b+2,0,none⟩) s.nodes.length s.nodes.length)).toArray) (emptyH_size b).symm
 have h2:=row_newB (W:=((emptyH b).alloc (.cells (s.cells (.slice (some ⟨b+2,0,none⟩) s.nodes.length s.nodes.length)).toArray 104)).alloc (.cells #[] 0)) (ty:=2) (f:=intCell) (K:=1) s.nodes (fun _=>rfl) hm
 rw[World.size_alloc,World.size_alloc,emptyH_size] at h2
 rw[hC]
 exact⟨_,_,_,(h1.ext ((Ext.refl _).alloc _)).ext ((Ext.refl _).alloc _),h2⟩
theorem own_yes {clear:List (List Lab)} {rows:List (List Spn)} {l:Lab} {k:Nat} (hk:k < rows.length) (h:hasL (clear.getD k []) l=true):(ownP clear rows l).take k++rows.drop k=(ownP clear rows l).take (k+1)++rows.drop (k+1):=by
 rw[ownP_take hk,List.drop_eq_getElem_cons hk,List.append_assoc]
 congr 1
 have:ownAt clear rows l k=rows[k]:=by unfold ownAt;rw[if_pos h];simp[hk]
 rw[this];rfl
theorem own_no {clear:List (List Lab)} {rows:List (List Spn)} {l:Lab} {k:Nat} (hk:k < rows.length) (h:hasL (clear.getD k []) l=false):((ownP clear rows l).take k++rows.drop k).set k wholeL=(ownP clear rows l).take (k+1)++rows.drop (k+1):=by
 have hl:((ownP clear rows l).take k).length=k:=by rw[List.length_take,ownP_len];omega
 rw[ownP_take hk,List.drop_eq_getElem_cons hk,List.set_append_right _ _ (by omega),hl,Nat.sub_self,List.set_cons_zero,List.append_assoc]
 congr 1
 have:ownAt clear rows l k=wholeL:=by unfold ownAt;rw[if_neg (by rw[h];simp)]
 rw[this];rfl
theorem own_end {clear:List (List Lab)} {rows:List (List Spn)} {l:Lab} {k:Nat} (hk:k=rows.length):(ownP clear rows l).take k++rows.drop k=ownP clear rows l:=by
 subst hk
 rw[List.drop_length,List.append_nil,List.take_of_length_le (by rw[ownP_len];exact Nat.le_refl _)]
end Go.Proofs.YtbmbanelodabgaaGreatDoor
set_option maxRecDepth 100000
set_option linter.unusedVariables false
namespace Go.Proofs.YtbmbanelodabgaaGreatDoor
open Go.RowKit Go.Fin1
theorem set2s_chg (w:World) (g:Nat) (u v:Value):Chg [g] w ((w.setCell ⟨g,0,none⟩ u).setCell ⟨g,1,none⟩ v):=(((Ext.refl w).chg _).setCell (.inl (by simp)) _).setCell (.inl (by simp)) _
theorem set5s_chg (w:World) (g:Nat) (a b c d e:Value):Chg [g] w (((((w.setCell ⟨g,0,none⟩ a).setCell ⟨g,1,none⟩ b).setCell ⟨g,2,none⟩ c).setCell ⟨g,3,none⟩ d).setCell ⟨g,4,none⟩ e):=((((((Ext.refl w).chg _).setCell (.inl (by simp)) _).setCell (.inl (by simp)) _).setCell (.inl (by simp)) _).setCell (.inl (by simp)) _).setCell (.inl (by simp)) _
theorem _root_.Go.Blk.set5s {w:World} {g:Nat} {x0 x1 x2 x3 x4:Value} {ty:TypeId} (h:Blk w g [x0,x1,x2,x3,x4] ty) (a b c d e:Value):Blk (((((w.setCell ⟨g,0,none⟩ a).setCell ⟨g,1,none⟩ b).setCell ⟨g,2,none⟩ c).setCell ⟨g,3,none⟩ d).setCell ⟨g,4,none⟩ e) g [a,b,c,d,e] ty:=((((h.set 0 a).set 1 b).set 2 c).set 3 d).set 4 e
def plPost (w:World) (o:Option (Slt×Spn)) (e:Ending) (w':World):Prop:=match o with
 | none=>e=.returned (.tuple #[.agg #[(.int .i64 0),(.int .i64 0),(.int .i64 0),(.int .i64 0),.slice none 0 0],.agg #[(.int .i64 0),(.int .i64 0)],.bool false])
 | some r=>∃ a c,e=.returned (.tuple #[r.1.val (.slice a r.1.nodes.length c),.agg #[(.int .i64 r.2.f),(.int .i64 r.2.t)],.bool true])∧Row w.heap.size w' 2 1 intCell (.slice a r.1.nodes.length c) r.1.nodes
set_option maxHeartbeats 3200000 in
theorem placed_any (ca:Option Addr) (cc:Nat) (clear:List (List Lab)) (jv:Value) (now:Int) (u:Value) (j:Jb) (rv:Value) (rs:List RW) (w:World) (hR:RowR 0 w rv rs) (hc:SlR w 1 rLabS (.slice ca clear.length cc) clear) (hu:SlR w 1 rInt u j.nodes) (hn:0≤now∧now≤999900) (hj:JOk now clear.length j) (hl:clear.length=rs.length) (h0:0 < rs.length) (h6:rs.length≤6) (hk:Rok (rs.map Prod.fst)) :
  Calls Tryz.prog 109 #[.agg #[.slice ca clear.length cc,jv,(.int .i64 now)],j.val u,rv] w fun e w'=>Ext w w'∧plPost w (placedP clear now (rs.map Prod.fst) j) e w':=by
 obtain⟨ua,uc,rfl⟩:=hu.len
 obtain⟨rg,rcp,rfl⟩:=row_some hR.row h0
 have HR:=tH hR
 have HC:=tH hc
 have HU:=tH hu
 have HJ:=tH hj
 have HK:=tH hk
 have HL:=tH hl
 have hn6:j.nodes.length≤6:=by have:=hj.len;omega
 obtain⟨t1,t2⟩:=hj.st
 obtain⟨t3,t4⟩:=hj.long
 obtain⟨t5,t6⟩:=hj.need
 obtain⟨n1,n2⟩:=hn
 have HN:=tH (And.intro n1 n2)
 clear hR hc hu hj hk hl
 go_enter Tryz.func109,Tryz.ntmps109
 unfold Jb.val
 go_upto_region 1 with fail
 refine gen_world (fun W1 hW1=>?_)
 have HE1:Hid (Ext w W1):=tH (by rw[hW1];exact xE)
 have HB0:Hid (Blk W1 w.heap.size [.slice ca clear.length cc,jv,(.int .i64 now)] 41):=tH (by rw[hW1];exact(Blk.new (w:=w) (cs:=#[.slice ca clear.length cc,jv,(.int .i64 now)]) rfl).ext xE)
 have HB1:Hid (Blk W1 (w.heap.size+1) (j.cells (.slice ua j.nodes.length uc)) 92):=tH (by rw[hW1];exact(Blk.new (w:=w.alloc _) (cs:=(j.cells (.slice ua j.nodes.length uc)).toArray) (by simp[go_sem])).ext xE)
 have HB2:Hid (Blk W1 (w.heap.size+1+1) [.slice (some ⟨rg,0,none⟩) rs.length rcp] 122):=tH (by rw[hW1];exact(Blk.new (w:=(w.alloc _).alloc _) (cs:=#[.slice (some ⟨rg,0,none⟩) rs.length rcp]) (by simp[go_sem])).ext xE)
 have HB3:Hid (Blk W1 (w.heap.size+1+1+1) [(.int .i64 0),(.int .i64 0),(.int .i64 0),(.int .i64 0),.slice none 0 0] 104):=tH (by rw[hW1];exact(Blk.new (w:=((w.alloc _).alloc _).alloc _) (cs:=#[(.int .i64 0),(.int .i64 0),(.int .i64 0),(.int .i64 0),.slice none 0 0]) (by simp[go_sem])).ext xE)
 have HB4:Hid (Blk W1 (w.heap.size+1+1+1+1) [(.int .i64 0),(.int .i64 0)] 124):=tH (by rw[hW1];exact(Blk.new (w:=(((w.alloc _).alloc _).alloc _).alloc _) (cs:=#[(.int .i64 0),(.int .i64 0)]) (by simp[go_sem])).ext xE)
 have HWS:Hid (W1.heap.size=w.heap.size+1+1+1+1+1):=tH (by rw[hW1];simp[go_sem])
 clear hW1
 have p2:=HB0.out.cell 2
 have po:=HB0.out.old
 have j3:=HB1.out.cell 3
 have j4:=HB1.out.cell 4
 have j5:=HB1.out.cell 6
 have j6:=HB1.out.cell 7
 have j8:=HB1.out.cell 8
 have jo:=HB1.out.old
 simp only[Jb.cells,List.getElem?_cons_zero,List.getElem?_cons_succ] at p2 j3 j4 j5 j6 j8
 cases hs:(j.state == 2)
 ·have HST:Hid (staysP now (rs.map Prod.fst) j=false):=tH (by unfold staysP;rw[hs];rfl)
  clear p2 po j3 j4 j5 j6 j8 jo
  have j5:=HB1.out.cell 6
  have jo:=HB1.out.old
  simp only[Jb.cells,List.getElem?_cons_zero,List.getElem?_cons_succ] at j5
  go_upto_region 5 with fail
  clear j5 jo hs
  refine gen_world (fun Wf hWf=>?_)
  have HEF:Hid (Ext W1 Wf):=tH (by rw[hWf];exact xE)
  clear hWf
  have HBP:=tH (HB0.out.ext HEF.out)
  have HBJ:=tH (HB1.out.ext HEF.out)
  have HBR:=tH (HB2.out.ext HEF.out)
  have r0:=HBR.out.cell 0
  have ro:=HBR.out.old
  simp only[List.getElem?_cons_zero] at r0
  go_wp2_with fail
  refine(cloneRows_any _ rs _ ((HR.out.ext (HE1.out.trans HEF.out)).ext xE) h0 (by omega)).mono ?_
  rintro e _ ⟨og,oc,rfl,⟨X5,rfl⟩,hO⟩
  clear r0 ro
  have p0:=HBP.out.cell 0
  have po:=HBP.out.old
  simp only[List.getElem?_cons_zero] at p0
  go_upto_region 7 with fail
  refine gen_world (fun Wg hWg=>?_)
  have HEg:Hid (Ext W1 Wg):=tH (by rw[hWg];exact HEF.out.trans xE)
  have HRO:Hid (RowR W1.heap.size Wg (.slice (some ⟨og,0,none⟩) rs.length oc) rs):=tH ((hO.ext (show Ext _ Wg by rw[hWg];exact xE)).mono HEF.out.below.size)
  clear hWg hO X5 p0 po HBP HBJ HBR
  go_wp2
  go_loopw [47,11,12] (fun i _ _ wr=>∃ k:Nat,∃ rsO:List RW,k≤clear.length∧i=.int .i64 k∧Hid (Ext W1 wr)∧Hid (RowR W1.heap.size wr (.slice (some ⟨og,0,none⟩) rs.length oc) rsO)∧Hid (rsO.map Prod.fst=(ownP clear (rs.map Prod.fst) j.l).take k++(rs.map Prod.fst).drop k)∧Hid (∀ r∈rsO,r∈rs∨∀ b∈blkL (RW.nv r),W1.heap.size≤b)) (fun i _ _ _=>clear.length-(intOf i).toNat)
  case atStart=>exact⟨0,rs,Nat.zero_le _,rfl,HEg,HRO,tH (by simp),tH (fun r hr=>.inl hr)⟩
  case round =>
   clear HRO HEg Wg
   obtain⟨k,rsO,hk,rfl,HE,HRO,HM,HQ⟩:=hrel
   obtain⟨wo,rfl⟩:∃ wo,wo=wr:=⟨wr,rfl⟩
   have hlo:rsO.length=rs.length:=(HRO.out.len).1.symm
   have HLO:=tH hlo
   clear hlo
   have HBJ:=tH (HB1.out.ext HE.out)
   by_cases hlt:k < clear.length
   ·have hkr:k < rs.length:=by have:=HL.out;omega
    obtain⟨bc,ob,rfl⟩:=slr_some HC.out hlt
    obtain⟨hol,vl,hsl,hcl⟩:=sl_at (HC.out.ext rLabS_stable (HE1.out.trans HE.out)) hlt
    obtain⟨al,cl,rfl⟩:=hsl.len
    have HSL:=tH hsl
    have hcg:clear.getD k []=clear[k]:=by simp[hlt]
    have HCG:=tH hcg
    have j0:=HBJ.out.cell 0
    have j1:=HBJ.out.cell 1
    have jo:=HBJ.out.old
    simp only[Jb.cells,List.getElem?_cons_zero,List.getElem?_cons_succ] at j0 j1
    clear hsl hcg
    go_wp2_with fail
    refine(containsLab_any _ clear[k] j.l _ (HSL.out.ext rLab_stable xE)).mono ?_
    rintro e _ ⟨rfl,⟨X6,rfl⟩⟩
    cases hh:hasL clear[k] j.l
    ·have HNO:=tH (own_no (clear:=clear) (rows:=rs.map Prod.fst) (l:=j.l) (k:=k) (by simpa using hkr) (by rw[HCG.out,hh]))
     clear hh j0 j1 jo hol hcl
     go_wp2_with fail
     refine(whole_any _).mono ?_
     rintro e _ ⟨gw,rfl,⟨X7,rfl⟩,hgw,hrow⟩
     have HRW:=tH hrow
     have HEZ:Hid (Ext wo ((wo.plus X6).plus X7)):=tH xE
     have HGW:Hid (W1.heap.size≤gw):=tH (by have h:=HE.out.below.size;simp only[World.size_plus] at hgw;omega)
     clear hgw hrow
     generalize (wo.plus X6).plus X7=Wz at HRW HEZ ⊢
     have hkO:k < rsO.length:=by have:=HLO.out;omega
     have hcq:=(HRO.out.ext HEZ.out).cell hkO
     obtain⟨hfz,hro,hgB⟩:=(HRO.out.ext HEZ.out).fz k
     unfold RW.nv at hcq
     go_upto_region 11 with fail
     refine gen_world (fun Z hZ=>?_)
     have hZ':Z=Wz.setCell ⟨og,k,none⟩ (.slice (some ⟨gw,0,none⟩) 1 1):=hZ
     have HRZ:Hid (RowR W1.heap.size Z (.slice (some ⟨og,0,none⟩) rs.length oc) (rsO.set k (wholeL,(some ⟨gw,0,none⟩,1)))):=tH (by rw[hZ'];exact(HRO.out.ext HEZ.out).set hkO (wholeL,(some ⟨gw,0,none⟩,1)) ⟨fun y hy=>by obtain rfl:=List.mem_singleton.1 hy;exact⟨⟨by decide,by decide⟩,by decide,by decide⟩,HRW.out⟩)
     have HCZ:Hid (Chg [og] Wz Z):=tH (by rw[hZ'];exact Chg.setCell ((Ext.refl _).chg _) (.inl (by simp)) _)
     have HEQ:Hid (Ext W1 Z):=tH (HCZ.out.ext (HE.out.trans HEZ.out) (fun b hb=>by obtain rfl:=List.mem_singleton.1 hb;exact hgB))
     clear hZ hZ' hcq hfz hro hgB HCZ
     go_wp2
     exact⟨⟨k+1,_,by omega,by go_num,HEQ,HRZ,tH (by rw[List.map_set,HM.out];exact HNO.out),tH (fun r hr=>by
      rcases List.mem_or_eq_of_mem_set hr with hr | rfl
      ·exact HQ.out r hr
      ·refine .inr fun b hb=>?_
       obtain rfl:b=gw:=by simpa [RW.nv,blkL] using hb
       exact HGW.out)⟩,by simp[intOf];omega⟩
    ·have HYE:=tH (own_yes (clear:=clear) (rows:=rs.map Prod.fst) (l:=j.l) (k:=k) (by simpa using hkr) (by rw[HCG.out,hh]))
     clear hh j0 j1 jo hol hcl
     go_wp2
     exact⟨⟨k+1,rsO,by omega,by go_num,tH (HE.out.trans xE),tH (HRO.out.ext xE),tH (by rw[HM.out];exact HYE.out),HQ⟩,by simp[intOf];omega⟩
   ·obtain rfl:k=clear.length:=by omega
    have HOE:Hid (rsO.map Prod.fst=ownP clear (rs.map Prod.fst) j.l):=tH (by rw[HM.out];exact own_end (by rw[List.length_map];exact HL.out))
    have HOK:Hid (rowsOk (ownP clear (rs.map Prod.fst) j.l)=true):=tH (rowsOk_of (by rw[ownP_len,List.length_map];exact h6) (ownP_ok HK.out))
    have HBP:=tH (HB0.out.ext HE.out)
    have p2:=HBP.out.cell 2
    have po:=HBP.out.old
    have j2:=HBJ.out.cell 3
    have j3:=HBJ.out.cell 4
    have jo:=HBJ.out.old
    simp only[Jb.cells,List.getElem?_cons_zero,List.getElem?_cons_succ] at p2 j2 j3
    have hol:(ownP clear (rs.map Prod.fst) j.l).length≤6:=by rw[ownP_len,List.length_map];exact h6
    have hsp:=HRO.out.spns
    rw[HOE.out] at hsp
    have HSP:=tH hsp
    clear hsp
    go_wp2_with fail
    refine(implFirstFit_any _ (ownP clear (rs.map Prod.fst) j.l) _ _ _ _ (HSP.out.ext rSpnS_stable xE) (by omega)).mono ?_
    rintro e _ ⟨rfl,⟨X8,rfl⟩⟩
    rw[firstFit_yes HOK.out ⟨t5,t6⟩ ⟨t3,t4⟩ HN.out]
    have hrg:=firstL_range (rows:=ownP clear (rs.map Prod.fst) j.l) (need:=j.need) (length:=j.long) (now:=now)
    generalize ht:firstL (ownP clear (rs.map Prod.fst) j.l) j.need j.long now=t at hrg
    have HT:=tH ht
    clear ht
    by_cases htn:t < 0
    ·have HPP:=tH (placed_none HST.out (by rw[HT.out];exact htn))
     clear p2 po j2 j3 jo
     go_upto_region 14 with fail
     refine gen_world (fun Wy hWy=>?_)
     have HEy:Hid (Ext W1 Wy):=tH (by rw[hWy];exact HE.out.trans xE)
     clear hWy hrg X8
     have hb3:=HB3.out.ext HEy.out
     have hb4:=HB4.out.ext HEy.out
     have a0:Wy.cell? ⟨(w.heap.size+1+1+1),0,none⟩=some (.int .i64 0):=hb3.cell 0
     have a1:Wy.cell? ⟨(w.heap.size+1+1+1),1,none⟩=some (.int .i64 0):=hb3.cell 1
     have a2:Wy.cell? ⟨(w.heap.size+1+1+1),2,none⟩=some (.int .i64 0):=hb3.cell 2
     have a3:Wy.cell? ⟨(w.heap.size+1+1+1),3,none⟩=some (.int .i64 0):=hb3.cell 3
     have a4:Wy.cell? ⟨(w.heap.size+1+1+1),4,none⟩=some (.slice none 0 0):=hb3.cell 4
     have ao:=hb3.old
     have af:=hb3.fz
     have b0:Wy.cell? ⟨(w.heap.size+1+1+1+1),0,none⟩=some (.int .i64 0):=hb4.cell 0
     have b1:Wy.cell? ⟨(w.heap.size+1+1+1+1),1,none⟩=some (.int .i64 0):=hb4.cell 1
     have bo:=hb4.old
     have bf:=hb4.fz
     have h5:=hb3.set5s (.int .i64 0) (.int .i64 0) (.int .i64 0) (.int .i64 0) (.slice none 0 0)
     have g5:=set5s_chg Wy (w.heap.size+1+1+1) (.int .i64 0) (.int .i64 0) (.int .i64 0) (.int .i64 0) (.slice none 0 0)
     have h4:=hb4.chg g5 (by simp)
     have h42:=(h4.set 0 (.int .i64 0)).set 1 (.int .i64 0)
     have g2:=set2s_chg (((((Wy.setCell ⟨(w.heap.size+1+1+1),0,none⟩ (.int .i64 0)).setCell ⟨(w.heap.size+1+1+1),1,none⟩ (.int .i64 0)).setCell ⟨(w.heap.size+1+1+1),2,none⟩ (.int .i64 0)).setCell ⟨(w.heap.size+1+1+1),3,none⟩ (.int .i64 0)).setCell ⟨(w.heap.size+1+1+1),4,none⟩ (.slice none 0 0)) (w.heap.size+1+1+1+1) (.int .i64 0) (.int .i64 0)
     have h52:=h5.chg g2 (by simp)
     have HXF:=tH (g2.ext (g5.ext (HE1.out.trans HEy.out) (by simp;omega)) (by simp;omega))
     have HY0:=tH h52
     have HZ0:=tH h42
     clear hb3 hb4 h5 g5 h4 h42 g2 h52
     go_wp2
     have y0:=HY0.out.cell 0
     have y1:=HY0.out.cell 1
     have y2:=HY0.out.cell 2
     have y3:=HY0.out.cell 3
     have y4:=HY0.out.cell 4
     have z0:=HZ0.out.cell 0
     have z1:=HZ0.out.cell 1
     simp only[List.getElem?_cons_zero,List.getElem?_cons_succ] at y0 y1 y2 y3 y4 z0 z1
     refine bodyPost_ret (v:=.tuple #[.agg #[(.int .i64 0),(.int .i64 0),(.int .i64 0),(.int .i64 0),.slice none 0 0],.agg #[(.int .i64 0),(.int .i64 0)],.bool false]) (by simp[results,Tryz.results109,go_sem,y0,y1,y2,y3,y4,z0,z1]) rfl ⟨HXF.out,?_⟩
     rw[HPP.out]
     exact rfl
    ·have hrg2:now≤t∧t≤now+40:=by omega
     obtain⟨r1,r2⟩:=hrg2
     have HPP:=tH (placed_fit HST.out HT.out htn)
     clear hrg
     go_upto_region 15 with fail
     refine gen_world (fun Wy hWy=>?_)
     have hEwy:Ext wo Wy:=by rw[hWy];exact xE
     have HEy:Hid (Ext W1 Wy):=tH (HE.out.trans hEwy)
     have HBXF:Hid (w.heap.size+1+1+1+1+1≤Wy.heap.size):=tH (by have:=HEy.out.below.size;have:=HWS.out;omega)
     have HROy:=tH (HRO.out.ext hEwy)
     clear hWy X8 p2 po j2 j3 jo hEwy
     have j3:=(HB1.out.ext HEy.out).cell 4
     have jo:=(HB1.out.ext HEy.out).old
     simp only[Jb.cells,List.getElem?_cons_zero,List.getElem?_cons_succ] at j3
     go_upto_region 16 with fail
     refine gen_world (fun Wq hWq=>?_)
     have HE2q:Hid (Ext W1 Wq):=tH (by rw[hWq];exact HEy.out.trans xE)
     have HBX:Hid (Blk Wq Wy.heap.size [(.int .i64 t),(.int .i64 (t+j.long))] 124):=tH (by rw[hWq];exact(Blk.new (w:=Wy) (cs:=#[(.int .i64 t),(.int .i64 (t+j.long))]) rfl).ext xE)
     have HBJ:=tH (HB1.out.ext HE2q.out)
     have HBS:=tH (HB3.out.ext HE2q.out)
     have HB4Q:=tH (HB4.out.ext HE2q.out)
     have HROq:=tH (HROy.out.ext (show Ext Wy Wq by rw[hWq];exact xE))
     have HSZ:Hid (w.heap.size+1+1+1+1+1≤Wq.heap.size):=tH (by have:=HE2q.out.below.size;have:=HWS.out;omega)
     have HXK:Hid (spnOk ⟨t,t+j.long⟩=true):=tH (spnOk_iff.2 ⟨by show 0≤t;omega,by show t < t+j.long;omega,by show t+j.long≤1000000;omega⟩)
     have hnl:=fitNeed_len (ownP clear (rs.map Prod.fst) j.l) j.need ⟨t,t+j.long⟩
     have HFN:=tH (fitNodes_yes HOK.out ⟨t5,t6⟩ HXK.out)
     generalize fitNeed (ownP clear (rs.map Prod.fst) j.l) j.need ⟨t,t+j.long⟩=NN at HPP hnl HFN
     obtain⟨SL,hSL⟩:∃ SL:Slt,SL=⟨j.l,j.id,t,NN⟩:=⟨_,rfl⟩
     have HSL:=tH hSL
     have hnm:NN.length≤maxLen:=by unfold maxLen;omega
     have hsn:SL.nodes.length≤maxLen:=by rw[hSL];exact hnm
     have HQS:Hid (∀ r∈rsO,∀ b∈blkL (RW.nv r),b∉[w.heap.size+1+1+1,w.heap.size+1+1+1+1]):=tH (fun r hr b hb hm=>by
      have h1:=HWS.out
      rcases HQ.out r hr with h | h
      ·have h2:=((HR.out.nd r h).2.blk b hb).2
       simp at hm;omega
      ·have h2:=h b hb
       simp at hm;omega)
     have HQV:Hid (∀ b∈blkL (.slice (some ⟨og,0,none⟩) rs.length oc),b∉[w.heap.size+1+1+1,w.heap.size+1+1+1+1]):=tH (fun b hb hm=>by
      have h1:=HWS.out
      have h2:=(HRO.out.row.blk b hb).1
      simp at hm;omega)
     clear hWq hSL j3 jo
     refine wp_region_z [w.heap.size+1+1+1,w.heap.size+1+1+1+1] [.V (.pointer (some ⟨w.heap.size+1,0,none⟩)),.A (fun _ u _=>u=(.agg #[(.int .i64 j.l.lv),(.int .i64 j.l.st)])) [] [w.heap.size+1+1+1,w.heap.size+1+1+1+1] [w.heap.size+1+1+1,w.heap.size+1+1+1+1],.V (.pointer (some ⟨w.heap.size+1,2,none⟩)),.A (fun _ u _=>u=(.int .i64 j.id)) [] [w.heap.size+1+1+1,w.heap.size+1+1+1+1] [w.heap.size+1+1+1,w.heap.size+1+1+1+1],.V (.int .i64 t),.V (.slice (some ⟨og,0,none⟩) rs.length oc),.V (.pointer (some ⟨w.heap.size+1,3,none⟩)),.A (fun _ u _=>u=(.int .i64 j.need)) [] [w.heap.size+1+1+1,w.heap.size+1+1+1+1] [w.heap.size+1+1+1,w.heap.size+1+1+1+1],.A (fun _ u _=>u=(.agg #[(.int .i64 t),(.int .i64 (t+j.long))])) [] [w.heap.size+1+1+1,w.heap.size+1+1+1+1] [w.heap.size+1+1+1,w.heap.size+1+1+1+1],.A (kNdZ ((w.heap.size+1+1+1)+2) NN) [] [w.heap.size+1+1+1,w.heap.size+1+1+1+1] [w.heap.size+1+1+1,w.heap.size+1+1+1+1],.A (kAgZ ((w.heap.size+1+1+1)+2) SL) [] [w.heap.size+1+1+1,w.heap.size+1+1+1+1] [w.heap.size+1+1+1,w.heap.size+1+1+1+1],.A (fun _ u _=>u=(.agg #[(.int .i64 t),(.int .i64 (t+j.long))])) [] [w.heap.size+1+1+1,w.heap.size+1+1+1+1] [w.heap.size+1+1+1,w.heap.size+1+1+1+1],.A (kSlZ (w.heap.size+1+1+1) ((w.heap.size+1+1+1)+2) SL) [(w.heap.size+1+1+1)] [(w.heap.size+1+1+1+1)] [(w.heap.size+1+1+1+1)],.A (kBkZ (w.heap.size+1+1+1+1) [(.int .i64 t),(.int .i64 (t+j.long))] 124) [(w.heap.size+1+1+1+1)] [(w.heap.size+1+1+1)] [(w.heap.size+1+1+1)],.V (.bool true)] [] (by kernel_rfl) (by kernel_rfl) (by kernel_rfl) (by kernel_rfl) rfl ?_ (by repeat' (first | exact trivial | exact XReg.ZOp.good_is _ _ _ _ | exact XReg.ZOp.good_v _ | exact kNdZ_good hnm (by simp) | exact kAgZ_good hsn (by simp) | exact kSlZ_good hsn (by simp) (by simp) rfl | exact kBkZ_good (by simp) | refine And.intro ?_ ?_)) (by repeat' (first | exact trivial | exact XReg.subL_nil _ | exact XReg.subL_refl _ | exact Or.inr (XReg.subL_nil _) | exact Or.inr (XReg.subL_refl _) | refine And.intro ?_ ?_ | (refine Or.inr (fun x hx=>?_);simp only[XReg.ZOp.S,List.mem_cons,List.not_mem_nil,or_false] at hx ⊢;omega) | (intro x hx;simp only[XReg.ZOp.S,List.mem_cons,List.not_mem_nil,or_false] at hx ⊢;omega) | exact Or.inl (by kernel_rfl)))
     (apply ZReg.val (.pointer (some ⟨w.heap.size+1,0,none⟩));(case h=>(intro w';go_wp2_with (fail);first | exact⟨rfl,rfl⟩ | exact rfl));(case hv=>kernel_rfl))
     apply ZReg.setU (.agg #[(.int .i64 j.l.lv),(.int .i64 j.l.st)])
     case h =>
      intro w' hw' hF'
      have hB:=HBJ.out.chg hw' (by simp)
      have j0:=hB.cell 0
      have j1:=hB.cell 1
      have j2:=hB.cell 2
      have j3:=hB.cell 3
      have j6:=hB.cell 7
      have j8:=hB.cell 8
      have jo:=hB.old
      simp only[Jb.cells,List.getElem?_cons_zero,List.getElem?_cons_succ] at j0 j1 j2 j3 j6 j8
      clear hF' hw' hB
      go_wp2_with fail
      exact⟨rfl,xE⟩
     case hv=>kernel_rfl
     intro _
     (apply ZReg.val (.pointer (some ⟨w.heap.size+1,2,none⟩));(case h=>(intro w';go_wp2_with (fail);first | exact⟨rfl,rfl⟩ | exact rfl));(case hv=>kernel_rfl))
     apply ZReg.setU (.int .i64 j.id)
     case h =>
      intro w' hw' hF'
      have hB:=HBJ.out.chg hw' (by simp)
      have j0:=hB.cell 0
      have j1:=hB.cell 1
      have j2:=hB.cell 2
      have j3:=hB.cell 3
      have j6:=hB.cell 7
      have j8:=hB.cell 8
      have jo:=hB.old
      simp only[Jb.cells,List.getElem?_cons_zero,List.getElem?_cons_succ] at j0 j1 j2 j3 j6 j8
      clear hF' hw' hB
      go_wp2_with fail
      exact⟨rfl,xE⟩
     case hv=>kernel_rfl
     intro _
     (apply ZReg.val (.int .i64 t);(case h=>(intro w';go_wp2_with (fail);first | exact⟨rfl,rfl⟩ | exact rfl));(case hv=>kernel_rfl))
     (apply ZReg.val (.slice (some ⟨og,0,none⟩) rs.length oc);(case h=>(intro w';go_wp2_with (fail);first | exact⟨rfl,rfl⟩ | exact rfl));(case hv=>kernel_rfl))
     (apply ZReg.val (.pointer (some ⟨w.heap.size+1,3,none⟩));(case h=>(intro w';go_wp2_with (fail);first | exact⟨rfl,rfl⟩ | exact rfl));(case hv=>kernel_rfl))
     apply ZReg.setU (.int .i64 j.need)
     case h =>
      intro w' hw' hF'
      have hB:=HBJ.out.chg hw' (by simp)
      have j0:=hB.cell 0
      have j1:=hB.cell 1
      have j2:=hB.cell 2
      have j3:=hB.cell 3
      have j6:=hB.cell 7
      have j8:=hB.cell 8
      have jo:=hB.old
      simp only[Jb.cells,List.getElem?_cons_zero,List.getElem?_cons_succ] at j0 j1 j2 j3 j6 j8
      clear hF' hw' hB
      go_wp2_with fail
      exact⟨rfl,xE⟩
     case hv=>kernel_rfl
     intro _
     apply ZReg.setU (.agg #[(.int .i64 t),(.int .i64 (t+j.long))])
     case h =>
      intro w' hw' hF'
      have hB:=HBX.out.chg hw' (by have:=HBXF.out;simp;omega)
      have e0:=hB.cell 0
      have e1:=hB.cell 1
      have eo:=hB.old
      simp only[List.getElem?_cons_zero,List.getElem?_cons_succ] at e0 e1
      clear hF' hw' hB
      go_wp2_with fail
      exact⟨rfl,xE⟩
     case hv=>kernel_rfl
     intro _
     refine ZReg.kind (fun w' hw' hF'=>?_) (fun v8 w8 x8 hK8=>?_)
     ·have hsp:=(HROq.out.chgB hw' HQV.out HQS.out).spns
      rw[HOE.out] at hsp
      have HSW:Hid ((w.heap.size+1+1+1)+2≤w'.heap.size):=tH (by have:=hw'.size;have:=HSZ.out;omega)
      have HSPQ:=tH hsp
      clear hF' hw' hsp
      go_wp2_with fail
      refine(implFitNodes_any _ (ownP clear (rs.map Prod.fst) j.l) _ ⟨t,t+j.long⟩ _ (HSPQ.out.ext rSpnS_stable xE) (by omega)).mono ?_
      rintro e _ ⟨v',rfl,⟨Y,rfl⟩,hO⟩
      rw[HFN.out] at hO
      have HO:=tH (hO.mono HSW.out)
      obtain⟨a',c',rfl⟩:=hO.shape
      clear hO
      go_wp2
      exact⟨Ext.chg xE _,a',c',rfl,HO.out⟩
     obtain⟨a8,c8,rfl,hq8⟩:=hK8
     clear hq8 w8
     refine ZReg.kind (fun w' hw' hF'=>?_) (fun v9 w9 x9 hK9=>?_)
     ·have hf8:=hF' 9 (kNdZ ((w.heap.size+1+1+1)+2) NN x8,.slice a8 NN.length c8) (by kernel_rfl) (by kernel_rfl)
      obtain⟨_,_,hv8,hr8⟩:=hf8
      rw[← hv8] at hr8
      have HRW:=tH hr8
      clear hF' hw' hv8 hr8
      go_wp2
      exact⟨Ext.chg xE _,a8,c8,by rw[HSL.out];rfl,by rw[HSL.out];exact HRW.out⟩
     obtain⟨a9,c9,rfl,hq9⟩:=hK9
     clear hq9 w9
     apply ZReg.setU (.agg #[(.int .i64 t),(.int .i64 (t+j.long))])
     case h =>
      intro w' hw' hF'
      have hB:=HBX.out.chg hw' (by have:=HBXF.out;simp;omega)
      have e0:=hB.cell 0
      have e1:=hB.cell 1
      have eo:=hB.old
      simp only[List.getElem?_cons_zero,List.getElem?_cons_succ] at e0 e1
      clear hF' hw' hB
      go_wp2_with fail
      exact⟨rfl,xE⟩
     case hv=>kernel_rfl
     intro _
     refine ZReg.kind (fun w' hw' hF'=>?_) (fun v11 w11 x11 hK11=>?_)
     ·have hB:=HBS.out.chg hw' (by simp)
      have hf9:=hF' 10 (kAgZ ((w.heap.size+1+1+1)+2) SL x9,SL.val (.slice a9 SL.nodes.length c9)) (by kernel_rfl) (by kernel_rfl)
      obtain⟨a7,c7,hv7,hr7⟩:=hf9
      have hv8:a9=a7∧c9=c7:=by simpa [Slt.val] using hv7
      obtain⟨rfl,rfl⟩:=hv8
      have e0:w'.cell? ⟨(w.heap.size+1+1+1),0,none⟩=some (.int .i64 0):=hB.cell 0
      have e1:w'.cell? ⟨(w.heap.size+1+1+1),1,none⟩=some (.int .i64 0):=hB.cell 1
      have e2:w'.cell? ⟨(w.heap.size+1+1+1),2,none⟩=some (.int .i64 0):=hB.cell 2
      have e3:w'.cell? ⟨(w.heap.size+1+1+1),3,none⟩=some (.int .i64 0):=hB.cell 3
      have e4:w'.cell? ⟨(w.heap.size+1+1+1),4,none⟩=some (.slice none 0 0):=hB.cell 4
      have eo:=hB.old
      have ef:=hB.fz
      have HRW:=tH hr7
      have H9:=tH (And.intro (set5s_chg w' (w.heap.size+1+1+1) (.int .i64 SL.l.lv) (.int .i64 SL.l.st) (.int .i64 SL.id) (.int .i64 SL.start) (.slice a9 SL.nodes.length c9)) (hB.set5s (.int .i64 SL.l.lv) (.int .i64 SL.l.st) (.int .i64 SL.id) (.int .i64 SL.start) (.slice a9 SL.nodes.length c9)))
      clear hF' hw' hB hv7 hr7
      unfold Slt.val
      go_wp2
      exact⟨H9.out.1,undef,a9,c9,H9.out.2,HRW.out.chg H9.out.1 (fun b hb hm=>by have:=(HRW.out.blk b hb).1;simp at hm;omega)⟩
     clear hK11 w11
     refine ZReg.kind (fun w' hw' hF'=>?_) (fun v12 w12 x12 hK12=>?_)
     ·have hB:=HB4Q.out.chg hw' (by simp)
      have e0:w'.cell? ⟨(w.heap.size+1+1+1+1),0,none⟩=some (.int .i64 0):=hB.cell 0
      have e1:w'.cell? ⟨(w.heap.size+1+1+1+1),1,none⟩=some (.int .i64 0):=hB.cell 1
      have eo:=hB.old
      have ef:=hB.fz
      have H9:=tH (show Chg [(w.heap.size+1+1+1+1)] w' ((w'.setCell ⟨(w.heap.size+1+1+1+1),0,none⟩ (.int .i64 t)).setCell ⟨(w.heap.size+1+1+1+1),1,none⟩ (.int .i64 (t+j.long)))∧Blk ((w'.setCell ⟨(w.heap.size+1+1+1+1),0,none⟩ (.int .i64 t)).setCell ⟨(w.heap.size+1+1+1+1),1,none⟩ (.int .i64 (t+j.long))) (w.heap.size+1+1+1+1) [(.int .i64 t),(.int .i64 (t+j.long))] 124 from ⟨set2s_chg _ _ _ _,(hB.set 0 _).set 1 _⟩)
      clear hF' hw' hB
      go_wp2
      exact⟨H9.out.1,undef,H9.out.2⟩
     clear hK12 w12
     (apply ZReg.val (.bool true);(case h=>(intro w';go_wp2_with (fail);first | exact⟨rfl,rfl⟩ | exact rfl));(case hv=>kernel_rfl))
     refine ZReg.done (fun w9 hw9 hF hR=>?_)
     have hS9:=hF 12 (kSlZ (w.heap.size+1+1+1) ((w.heap.size+1+1+1)+2) SL x11,v11) (by kernel_rfl)
     have hB9:Blk w9 (w.heap.size+1+1+1+1) [(.int .i64 t),(.int .i64 (t+j.long))] 124:=hF 13 (kBkZ (w.heap.size+1+1+1+1) [(.int .i64 t),(.int .i64 (t+j.long))] 124 x12,v12) (by kernel_rfl)
     have HX9:=tH (hw9.ext (HE1.out.trans HE2q.out) (by simp;omega))
     have hsl:=HSL.out
     subst hsl
     obtain⟨a5,c5,hS5,hr5⟩:=hS9
     have HR5:=tH (hr5.mono (show w.heap.size≤(w.heap.size+1+1+1)+2 by omega))
     have y0:w9.cell? ⟨(w.heap.size+1+1+1),0,none⟩=some (.int .i64 j.l.lv):=hS5.cell 0
     have y1:w9.cell? ⟨(w.heap.size+1+1+1),1,none⟩=some (.int .i64 j.l.st):=hS5.cell 1
     have y2:w9.cell? ⟨(w.heap.size+1+1+1),2,none⟩=some (.int .i64 j.id):=hS5.cell 2
     have y3:w9.cell? ⟨(w.heap.size+1+1+1),3,none⟩=some (.int .i64 t):=hS5.cell 3
     have y4:w9.cell? ⟨(w.heap.size+1+1+1),4,none⟩=some (.slice a5 (List.length NN) c5):=hS5.cell 4
     have yo:=hS5.old
     have z0:w9.cell? ⟨(w.heap.size+1+1+1+1),0,none⟩=some (.int .i64 t):=hB9.cell 0
     have z1:w9.cell? ⟨(w.heap.size+1+1+1+1),1,none⟩=some (.int .i64 (t+j.long)):=hB9.cell 1
     have zo:=hB9.old
     clear hF hR hw9 hS5 hB9 hr5
     refine ZReg.end_ ?_
     go_wp2
     refine bodyPost_ret (v:=.tuple #[.agg #[(.int .i64 j.l.lv),(.int .i64 j.l.st),(.int .i64 j.id),(.int .i64 t),.slice a5 (List.length NN) c5],.agg #[(.int .i64 t),(.int .i64 (t+j.long))],.bool true]) (by simp[results,Tryz.results109,go_sem,y0,y1,y2,y3,y4,z0,z1]) rfl ⟨HX9.out,?_⟩
     rw[HPP.out]
     exact⟨a5,c5,rfl,HR5.out⟩
 ·go_upto_region 3 with fail
  refine gen_world (fun W2 hW2=>?_)
  have HE2:Hid (Ext W1 W2):=tH (by rw[hW2];exact xE)
  have HB5:Hid (Blk W2 W1.heap.size [(.int .i64 now),(.int .i64 (j.start+j.long))] 124):=tH (by rw[hW2];exact(Blk.new (w:=W1) (cs:=#[(.int .i64 now),(.int .i64 (j.start+j.long))]) rfl).ext xE)
  clear hW2 p2 po j3 j4 j5 j6 j8 jo
  have j8:=(HB1.out.ext HE2.out).cell 8
  have jo:=(HB1.out.ext HE2.out).old
  simp only[Jb.cells,List.getElem?_cons_zero,List.getElem?_cons_succ] at j8
  have HRN:Hid (SlR W2 1 rSpnS (.slice (some ⟨rg,0,none⟩) rs.length rcp) (rs.map Prod.fst)):=tH ((HR.out.ext (HE1.out.trans HE2.out)).spns)
  go_wp2_with fail
  refine(containsFuncIntM_any 143 #[.pointer (some ⟨w.heap.size+1+1,0,none⟩),.pointer (some ⟨W1.heap.size,0,none⟩)] (fun n=>!freeAt (rs.map Prod.fst) ⟨now,j.start+j.long⟩ n) _ j.nodes _ (HU.out.ext rInt_stable ((HE1.out.trans HE2.out).trans xE)) (fun _ _=>rfl) (fun W u x hx hin=>?_)).mono ?_
  ·obtain⟨rfl,hm⟩:=hin
   have hs2:j.state=2:=by simpa using hs
   have h3:=(HJ.out.run hs2).2.2 x hm
   exact placed1_any x _ _ _ (rs.map Prod.fst) _ _ W (hx.cell (((HB2.out.ext HE2.out).cell 0))) (hx.cell (HB5.out.cell 0)) (hx.cell (HB5.out.cell 1)) (HRN.out.ext rSpnS_stable hx) (by rw[List.length_map];have:=HL.out;omega)
  rintro e _ ⟨rfl,⟨X3,rfl⟩⟩
  cases hany:j.nodes.any (fun n=>!freeAt (rs.map Prod.fst) ⟨now,j.start+j.long⟩ n)
  ·have HPP:Hid (placedP clear now (rs.map Prod.fst) j=some (⟨j.l,j.id,j.start,j.nodes⟩,⟨now,j.start+j.long⟩)):=tH (placed_stays (by
    unfold staysP
    rw[hs,Bool.true_and,List.all_eq_true]
    intro x hx
    have h1:=List.any_eq_false.1 hany x hx
    simpa using h1))
   go_upto_region 4 with fail
   refine gen_world (fun Wq hWq=>?_)
   have HE2q:Hid (Ext W1 Wq):=tH (by rw[hWq];exact HE2.out.trans xE)
   have HBX:Hid (Blk Wq W1.heap.size [(.int .i64 now),(.int .i64 (j.start+j.long))] 124):=tH (by rw[hWq];exact HB5.out.ext xE)
   have HBXF:Hid (W1.heap.size=w.heap.size+1+1+1+1+1):=HWS
   have HBJ:=tH (HB1.out.ext HE2q.out)
   have HBS:=tH (HB3.out.ext HE2q.out)
   have HB4Q:=tH (HB4.out.ext HE2q.out)
   have HUQ:=tH (HU.out.ext rInt_stable (HE1.out.trans HE2q.out))
   obtain⟨SL,hSL⟩:∃ SL:Slt,SL=⟨j.l,j.id,j.start,j.nodes⟩:=⟨_,rfl⟩
   have hsz:w.heap.size+1+1+1+1+1≤Wq.heap.size:=by have:=HE2q.out.below.size;have:=HWS.out;omega
   have HSZ:=tH hsz
   have HSL:=tH hSL
   have hsn:SL.nodes.length≤maxLen:=by rw[hSL];unfold maxLen;show j.nodes.length≤_;omega
   clear hWq X3 hany hsz j8 jo hSL
   refine wp_region_z [w.heap.size+1+1+1,w.heap.size+1+1+1+1] [.V (.pointer (some ⟨w.heap.size+1,0,none⟩)),.A (fun _ u _=>u=(.agg #[(.int .i64 j.l.lv),(.int .i64 j.l.st)])) [] [w.heap.size+1+1+1,w.heap.size+1+1+1+1] [w.heap.size+1+1+1,w.heap.size+1+1+1+1],.V (.pointer (some ⟨w.heap.size+1,2,none⟩)),.A (fun _ u _=>u=(.int .i64 j.id)) [] [w.heap.size+1+1+1,w.heap.size+1+1+1+1] [w.heap.size+1+1+1,w.heap.size+1+1+1+1],.V (.pointer (some ⟨w.heap.size+1,7,none⟩)),.A (fun _ u _=>u=(.int .i64 j.start)) [] [w.heap.size+1+1+1,w.heap.size+1+1+1+1] [w.heap.size+1+1+1,w.heap.size+1+1+1+1],.V (.pointer (some ⟨w.heap.size+1,8,none⟩)),.A (fun _ u _=>u=(.slice ua j.nodes.length uc)) [] [w.heap.size+1+1+1,w.heap.size+1+1+1+1] [w.heap.size+1+1+1,w.heap.size+1+1+1+1],.A (kNdZ ((w.heap.size+1+1+1)+2) j.nodes) [] [w.heap.size+1+1+1,w.heap.size+1+1+1+1] [w.heap.size+1+1+1,w.heap.size+1+1+1+1],.A (kAgZ ((w.heap.size+1+1+1)+2) SL) [] [w.heap.size+1+1+1,w.heap.size+1+1+1+1] [w.heap.size+1+1+1,w.heap.size+1+1+1+1],.A (fun _ u _=>u=(.agg #[(.int .i64 now),(.int .i64 (j.start+j.long))])) [] [w.heap.size+1+1+1,w.heap.size+1+1+1+1] [w.heap.size+1+1+1,w.heap.size+1+1+1+1],.A (kSlZ (w.heap.size+1+1+1) ((w.heap.size+1+1+1)+2) SL) [(w.heap.size+1+1+1)] [(w.heap.size+1+1+1+1)] [(w.heap.size+1+1+1+1)],.A (kBkZ (w.heap.size+1+1+1+1) [(.int .i64 now),(.int .i64 (j.start+j.long))] 124) [(w.heap.size+1+1+1+1)] [(w.heap.size+1+1+1)] [(w.heap.size+1+1+1)],.V (.bool true)] [] (by kernel_rfl) (by kernel_rfl) (by kernel_rfl) (by kernel_rfl) rfl ?_ (by repeat' (first | exact trivial | exact XReg.ZOp.good_is _ _ _ _ | exact XReg.ZOp.good_v _ | exact kNdZ_good (by unfold maxLen;omega) (by simp) | exact kAgZ_good hsn (by simp) | exact kSlZ_good hsn (by simp) (by simp) rfl | exact kBkZ_good (by simp) | refine And.intro ?_ ?_)) (by repeat' (first | exact trivial | exact XReg.subL_nil _ | exact XReg.subL_refl _ | exact Or.inr (XReg.subL_nil _) | exact Or.inr (XReg.subL_refl _) | refine And.intro ?_ ?_ | (refine Or.inr (fun x hx=>?_);simp only[XReg.ZOp.S,List.mem_cons,List.not_mem_nil,or_false] at hx ⊢;omega) | (intro x hx;simp only[XReg.ZOp.S,List.mem_cons,List.not_mem_nil,or_false] at hx ⊢;omega) | exact Or.inl (by kernel_rfl)))
   (apply ZReg.val (.pointer (some ⟨w.heap.size+1,0,none⟩));(case h=>(intro w';go_wp2_with (fail);first | exact⟨rfl,rfl⟩ | exact rfl));(case hv=>kernel_rfl))
   apply ZReg.setU (.agg #[(.int .i64 j.l.lv),(.int .i64 j.l.st)])
   case h =>
    intro w' hw' hF'
    have hB:=HBJ.out.chg hw' (by simp)
    have j0:=hB.cell 0
    have j1:=hB.cell 1
    have j2:=hB.cell 2
    have j3:=hB.cell 3
    have j6:=hB.cell 7
    have j8:=hB.cell 8
    have jo:=hB.old
    simp only[Jb.cells,List.getElem?_cons_zero,List.getElem?_cons_succ] at j0 j1 j2 j3 j6 j8
    clear hF' hw' hB
    go_wp2_with fail
    exact⟨rfl,xE⟩
   case hv=>kernel_rfl
   intro _
   (apply ZReg.val (.pointer (some ⟨w.heap.size+1,2,none⟩));(case h=>(intro w';go_wp2_with (fail);first | exact⟨rfl,rfl⟩ | exact rfl));(case hv=>kernel_rfl))
   apply ZReg.setU (.int .i64 j.id)
   case h =>
    intro w' hw' hF'
    have hB:=HBJ.out.chg hw' (by simp)
    have j0:=hB.cell 0
    have j1:=hB.cell 1
    have j2:=hB.cell 2
    have j3:=hB.cell 3
    have j6:=hB.cell 7
    have j8:=hB.cell 8
    have jo:=hB.old
    simp only[Jb.cells,List.getElem?_cons_zero,List.getElem?_cons_succ] at j0 j1 j2 j3 j6 j8
    clear hF' hw' hB
    go_wp2_with fail
    exact⟨rfl,xE⟩
   case hv=>kernel_rfl
   intro _
   (apply ZReg.val (.pointer (some ⟨w.heap.size+1,7,none⟩));(case h=>(intro w';go_wp2_with (fail);first | exact⟨rfl,rfl⟩ | exact rfl));(case hv=>kernel_rfl))
   apply ZReg.setU (.int .i64 j.start)
   case h =>
    intro w' hw' hF'
    have hB:=HBJ.out.chg hw' (by simp)
    have j0:=hB.cell 0
    have j1:=hB.cell 1
    have j2:=hB.cell 2
    have j3:=hB.cell 3
    have j6:=hB.cell 7
    have j8:=hB.cell 8
    have jo:=hB.old
    simp only[Jb.cells,List.getElem?_cons_zero,List.getElem?_cons_succ] at j0 j1 j2 j3 j6 j8
    clear hF' hw' hB
    go_wp2_with fail
    exact⟨rfl,xE⟩
   case hv=>kernel_rfl
   intro _
   (apply ZReg.val (.pointer (some ⟨w.heap.size+1,8,none⟩));(case h=>(intro w';go_wp2_with (fail);first | exact⟨rfl,rfl⟩ | exact rfl));(case hv=>kernel_rfl))
   apply ZReg.setU (.slice ua j.nodes.length uc)
   case h =>
    intro w' hw' hF'
    have hB:=HBJ.out.chg hw' (by simp)
    have j0:=hB.cell 0
    have j1:=hB.cell 1
    have j2:=hB.cell 2
    have j3:=hB.cell 3
    have j6:=hB.cell 7
    have j8:=hB.cell 8
    have jo:=hB.old
    simp only[Jb.cells,List.getElem?_cons_zero,List.getElem?_cons_succ] at j0 j1 j2 j3 j6 j8
    clear hF' hw' hB
    go_wp2_with fail
    exact⟨rfl,xE⟩
   case hv=>kernel_rfl
   intro _
   refine ZReg.kind (fun w' hw' hF'=>?_) (fun v8 w8 x8 hK8=>?_)
   ·have HEW:=tH (hw'.ext (HE1.out.trans HE2q.out) (by simp;omega))
    have HSW:Hid ((w.heap.size+1+1+1)+2≤w'.heap.size):=tH (by have:=hw'.size;have:=HSZ.out;omega)
    clear hF' hw'
    go_wp2_with fail
    refine(cloneInt_any _ j.nodes _ (rInt_rc ((HU.out.ext rInt_stable HEW.out).ext rInt_stable xE)) (by omega)).mono ?_
    rintro e _ ⟨v',rfl,⟨Y,rfl⟩,hO⟩
    have HO:=tH (hO.mono HSW.out)
    obtain⟨a',c',rfl⟩:=hO.shape
    clear hO
    go_wp2
    exact⟨Ext.chg xE _,a',c',rfl,HO.out⟩
   obtain⟨a8,c8,rfl,hq8⟩:=hK8
   clear hq8 w8
   refine ZReg.kind (fun w' hw' hF'=>?_) (fun v9 w9 x9 hK9=>?_)
   ·have hf8:=hF' 8 (kNdZ ((w.heap.size+1+1+1)+2) j.nodes x8,.slice a8 j.nodes.length c8) (by kernel_rfl) (by kernel_rfl)
    obtain⟨_,_,hv8,hr8⟩:=hf8
    rw[← hv8] at hr8
    have HRW:=tH hr8
    clear hF' hw' hv8 hr8
    go_wp2
    exact⟨Ext.chg xE _,a8,c8,by rw[HSL.out];rfl,by rw[HSL.out];exact HRW.out⟩
   obtain⟨a9,c9,rfl,hq9⟩:=hK9
   clear hq9 w9
   apply ZReg.setU (.agg #[(.int .i64 now),(.int .i64 (j.start+j.long))])
   case h =>
    intro w' hw' hF'
    have hB:=HBX.out.chg hw' (by have:=HBXF.out;simp;omega)
    have e0:=hB.cell 0
    have e1:=hB.cell 1
    have eo:=hB.old
    simp only[List.getElem?_cons_zero,List.getElem?_cons_succ] at e0 e1
    clear hF' hw' hB
    go_wp2_with fail
    exact⟨rfl,xE⟩
   case hv=>kernel_rfl
   intro _
   refine ZReg.kind (fun w' hw' hF'=>?_) (fun v11 w11 x11 hK11=>?_)
   ·have hB:=HBS.out.chg hw' (by simp)
    have hf9:=hF' 9 (kAgZ ((w.heap.size+1+1+1)+2) SL x9,SL.val (.slice a9 SL.nodes.length c9)) (by kernel_rfl) (by kernel_rfl)
    obtain⟨a7,c7,hv7,hr7⟩:=hf9
    have hv8:a9=a7∧c9=c7:=by simpa [Slt.val] using hv7
    obtain⟨rfl,rfl⟩:=hv8
    have e0:w'.cell? ⟨(w.heap.size+1+1+1),0,none⟩=some (.int .i64 0):=hB.cell 0
    have e1:w'.cell? ⟨(w.heap.size+1+1+1),1,none⟩=some (.int .i64 0):=hB.cell 1
    have e2:w'.cell? ⟨(w.heap.size+1+1+1),2,none⟩=some (.int .i64 0):=hB.cell 2
    have e3:w'.cell? ⟨(w.heap.size+1+1+1),3,none⟩=some (.int .i64 0):=hB.cell 3
    have e4:w'.cell? ⟨(w.heap.size+1+1+1),4,none⟩=some (.slice none 0 0):=hB.cell 4
    have eo:=hB.old
    have ef:=hB.fz
    have HRW:=tH hr7
    have H9:=tH (And.intro (set5s_chg w' (w.heap.size+1+1+1) (.int .i64 SL.l.lv) (.int .i64 SL.l.st) (.int .i64 SL.id) (.int .i64 SL.start) (.slice a9 SL.nodes.length c9)) (hB.set5s (.int .i64 SL.l.lv) (.int .i64 SL.l.st) (.int .i64 SL.id) (.int .i64 SL.start) (.slice a9 SL.nodes.length c9)))
    clear hF' hw' hB hv7 hr7
    unfold Slt.val
    go_wp2
    exact⟨H9.out.1,undef,a9,c9,H9.out.2,HRW.out.chg H9.out.1 (fun b hb hm=>by have:=(HRW.out.blk b hb).1;simp at hm;omega)⟩
   clear hK11 w11
   refine ZReg.kind (fun w' hw' hF'=>?_) (fun v12 w12 x12 hK12=>?_)
   ·have hB:=HB4Q.out.chg hw' (by simp)
    have e0:w'.cell? ⟨(w.heap.size+1+1+1+1),0,none⟩=some (.int .i64 0):=hB.cell 0
    have e1:w'.cell? ⟨(w.heap.size+1+1+1+1),1,none⟩=some (.int .i64 0):=hB.cell 1
    have eo:=hB.old
    have ef:=hB.fz
    have H9:=tH (show Chg [(w.heap.size+1+1+1+1)] w' ((w'.setCell ⟨(w.heap.size+1+1+1+1),0,none⟩ (.int .i64 now)).setCell ⟨(w.heap.size+1+1+1+1),1,none⟩ (.int .i64 (j.start+j.long)))∧Blk ((w'.setCell ⟨(w.heap.size+1+1+1+1),0,none⟩ (.int .i64 now)).setCell ⟨(w.heap.size+1+1+1+1),1,none⟩ (.int .i64 (j.start+j.long))) (w.heap.size+1+1+1+1) [(.int .i64 now),(.int .i64 (j.start+j.long))] 124 from ⟨set2s_chg _ _ _ _,(hB.set 0 _).set 1 _⟩)
    clear hF' hw' hB
    go_wp2
    exact⟨H9.out.1,undef,H9.out.2⟩
   clear hK12 w12
   (apply ZReg.val (.bool true);(case h=>(intro w';go_wp2_with (fail);first | exact⟨rfl,rfl⟩ | exact rfl));(case hv=>kernel_rfl))
   refine ZReg.done (fun w9 hw9 hF hR=>?_)
   have hS9:=hF 11 (kSlZ (w.heap.size+1+1+1) ((w.heap.size+1+1+1)+2) SL x11,v11) (by kernel_rfl)
   have hB9:Blk w9 (w.heap.size+1+1+1+1) [(.int .i64 now),(.int .i64 (j.start+j.long))] 124:=hF 12 (kBkZ (w.heap.size+1+1+1+1) [(.int .i64 now),(.int .i64 (j.start+j.long))] 124 x12,v12) (by kernel_rfl)
   have HX9:=tH (hw9.ext (HE1.out.trans HE2q.out) (by simp;omega))
   have hsl:=HSL.out
   subst hsl
   obtain⟨a5,c5,hS5,hr5⟩:=hS9
   have HR5:=tH (hr5.mono (show w.heap.size≤(w.heap.size+1+1+1)+2 by omega))
   have y0:w9.cell? ⟨(w.heap.size+1+1+1),0,none⟩=some (.int .i64 j.l.lv):=hS5.cell 0
   have y1:w9.cell? ⟨(w.heap.size+1+1+1),1,none⟩=some (.int .i64 j.l.st):=hS5.cell 1
   have y2:w9.cell? ⟨(w.heap.size+1+1+1),2,none⟩=some (.int .i64 j.id):=hS5.cell 2
   have y3:w9.cell? ⟨(w.heap.size+1+1+1),3,none⟩=some (.int .i64 j.start):=hS5.cell 3
   have y4:w9.cell? ⟨(w.heap.size+1+1+1),4,none⟩=some (.slice a5 (List.length j.nodes) c5):=hS5.cell 4
   have yo:=hS5.old
   have z0:w9.cell? ⟨(w.heap.size+1+1+1+1),0,none⟩=some (.int .i64 now):=hB9.cell 0
   have z1:w9.cell? ⟨(w.heap.size+1+1+1+1),1,none⟩=some (.int .i64 (j.start+j.long)):=hB9.cell 1
   have zo:=hB9.old
   clear hF hR hw9 hS5 hB9 hr5
   refine ZReg.end_ ?_
   go_wp2
   refine bodyPost_ret (v:=.tuple #[.agg #[(.int .i64 j.l.lv),(.int .i64 j.l.st),(.int .i64 j.id),(.int .i64 j.start),.slice a5 (List.length j.nodes) c5],.agg #[(.int .i64 now),(.int .i64 (j.start+j.long))],.bool true]) (by simp[results,Tryz.results109,go_sem,y0,y1,y2,y3,y4,z0,z1]) rfl ⟨HX9.out,?_⟩
   rw[HPP.out]
   exact⟨a5,c5,rfl,HR5.out⟩
  ·have HST:Hid (staysP now (rs.map Prod.fst) j=false):=tH (by
    unfold staysP
    rw[show j.nodes.all (freeAt (rs.map Prod.fst) ⟨now,j.start+j.long⟩)=false by
     obtain⟨x,hx,hf⟩:=List.any_eq_true.1 hany
     rw[List.all_eq_false]
     exact⟨x,hx,by simpa using hf⟩,Bool.and_false])
   go_upto_region 5 with fail
   refine gen_world (fun Wf hWf=>?_)
   have HEF:Hid (Ext W1 Wf):=tH (by rw[hWf];exact HE2.out.trans xE)
   clear hWf hany hs j8 jo X3
   have HBP:=tH (HB0.out.ext HEF.out)
   have HBJ:=tH (HB1.out.ext HEF.out)
   have HBR:=tH (HB2.out.ext HEF.out)
   have r0:=HBR.out.cell 0
   have ro:=HBR.out.old
   simp only[List.getElem?_cons_zero] at r0
   go_wp2_with fail
   refine(cloneRows_any _ rs _ ((HR.out.ext (HE1.out.trans HEF.out)).ext xE) h0 (by omega)).mono ?_
   rintro e _ ⟨og,oc,rfl,⟨X5,rfl⟩,hO⟩
   clear r0 ro
   have p0:=HBP.out.cell 0
   have po:=HBP.out.old
   simp only[List.getElem?_cons_zero] at p0
   go_upto_region 7 with fail
   refine gen_world (fun Wg hWg=>?_)
   have HEg:Hid (Ext W1 Wg):=tH (by rw[hWg];exact HEF.out.trans xE)
   have HRO:Hid (RowR W1.heap.size Wg (.slice (some ⟨og,0,none⟩) rs.length oc) rs):=tH ((hO.ext (show Ext _ Wg by rw[hWg];exact xE)).mono HEF.out.below.size)
   clear hWg hO X5 p0 po HBP HBJ HBR
   go_wp2
   go_loopw [47,11,12] (fun i _ _ wr=>∃ k:Nat,∃ rsO:List RW,k≤clear.length∧i=.int .i64 k∧Hid (Ext W1 wr)∧Hid (RowR W1.heap.size wr (.slice (some ⟨og,0,none⟩) rs.length oc) rsO)∧Hid (rsO.map Prod.fst=(ownP clear (rs.map Prod.fst) j.l).take k++(rs.map Prod.fst).drop k)∧Hid (∀ r∈rsO,r∈rs∨∀ b∈blkL (RW.nv r),W1.heap.size≤b)) (fun i _ _ _=>clear.length-(intOf i).toNat)
   case atStart=>exact⟨0,rs,Nat.zero_le _,rfl,HEg,HRO,tH (by simp),tH (fun r hr=>.inl hr)⟩
   case round =>
    clear HRO HEg Wg
    obtain⟨k,rsO,hk,rfl,HE,HRO,HM,HQ⟩:=hrel
    obtain⟨wo,rfl⟩:∃ wo,wo=wr:=⟨wr,rfl⟩
    have hlo:rsO.length=rs.length:=(HRO.out.len).1.symm
    have HLO:=tH hlo
    clear hlo
    have HBJ:=tH (HB1.out.ext HE.out)
    by_cases hlt:k < clear.length
    ·have hkr:k < rs.length:=by have:=HL.out;omega
     obtain⟨bc,ob,rfl⟩:=slr_some HC.out hlt
     obtain⟨hol,vl,hsl,hcl⟩:=sl_at (HC.out.ext rLabS_stable (HE1.out.trans HE.out)) hlt
     obtain⟨al,cl,rfl⟩:=hsl.len
     have HSL:=tH hsl
     have hcg:clear.getD k []=clear[k]:=by simp[hlt]
     have HCG:=tH hcg
     have j0:=HBJ.out.cell 0
     have j1:=HBJ.out.cell 1
     have jo:=HBJ.out.old
     simp only[Jb.cells,List.getElem?_cons_zero,List.getElem?_cons_succ] at j0 j1
     clear hsl hcg
     go_wp2_with fail
     refine(containsLab_any _ clear[k] j.l _ (HSL.out.ext rLab_stable xE)).mono ?_
     rintro e _ ⟨rfl,⟨X6,rfl⟩⟩
     cases hh:hasL clear[k] j.l
     ·have HNO:=tH (own_no (clear:=clear) (rows:=rs.map Prod.fst) (l:=j.l) (k:=k) (by simpa using hkr) (by rw[HCG.out,hh]))
      clear hh j0 j1 jo hol hcl
      go_wp2_with fail
      refine(whole_any _).mono ?_
      rintro e _ ⟨gw,rfl,⟨X7,rfl⟩,hgw,hrow⟩
      have HRW:=tH hrow
      have HEZ:Hid (Ext wo ((wo.plus X6).plus X7)):=tH xE
      have HGW:Hid (W1.heap.size≤gw):=tH (by have h:=HE.out.below.size;simp only[World.size_plus] at hgw;omega)
      clear hgw hrow
      generalize (wo.plus X6).plus X7=Wz at HRW HEZ ⊢
      have hkO:k < rsO.length:=by have:=HLO.out;omega
      have hcq:=(HRO.out.ext HEZ.out).cell hkO
      obtain⟨hfz,hro,hgB⟩:=(HRO.out.ext HEZ.out).fz k
      unfold RW.nv at hcq
      go_upto_region 11 with fail
      refine gen_world (fun Z hZ=>?_)
      have hZ':Z=Wz.setCell ⟨og,k,none⟩ (.slice (some ⟨gw,0,none⟩) 1 1):=hZ
      have HRZ:Hid (RowR W1.heap.size Z (.slice (some ⟨og,0,none⟩) rs.length oc) (rsO.set k (wholeL,(some ⟨gw,0,none⟩,1)))):=tH (by rw[hZ'];exact(HRO.out.ext HEZ.out).set hkO (wholeL,(some ⟨gw,0,none⟩,1)) ⟨fun y hy=>by obtain rfl:=List.mem_singleton.1 hy;exact⟨⟨by decide,by decide⟩,by decide,by decide⟩,HRW.out⟩)
      have HCZ:Hid (Chg [og] Wz Z):=tH (by rw[hZ'];exact Chg.setCell ((Ext.refl _).chg _) (.inl (by simp)) _)
      have HEQ:Hid (Ext W1 Z):=tH (HCZ.out.ext (HE.out.trans HEZ.out) (fun b hb=>by obtain rfl:=List.mem_singleton.1 hb;exact hgB))
      clear hZ hZ' hcq hfz hro hgB HCZ
      go_wp2
      exact⟨⟨k+1,_,by omega,by go_num,HEQ,HRZ,tH (by rw[List.map_set,HM.out];exact HNO.out),tH (fun r hr=>by
       rcases List.mem_or_eq_of_mem_set hr with hr | rfl
       ·exact HQ.out r hr
       ·refine .inr fun b hb=>?_
        obtain rfl:b=gw:=by simpa [RW.nv,blkL] using hb
        exact HGW.out)⟩,by simp[intOf];omega⟩
     ·have HYE:=tH (own_yes (clear:=clear) (rows:=rs.map Prod.fst) (l:=j.l) (k:=k) (by simpa using hkr) (by rw[HCG.out,hh]))
      clear hh j0 j1 jo hol hcl
      go_wp2
      exact⟨⟨k+1,rsO,by omega,by go_num,tH (HE.out.trans xE),tH (HRO.out.ext xE),tH (by rw[HM.out];exact HYE.out),HQ⟩,by simp[intOf];omega⟩
    ·obtain rfl:k=clear.length:=by omega
     have HOE:Hid (rsO.map Prod.fst=ownP clear (rs.map Prod.fst) j.l):=tH (by rw[HM.out];exact own_end (by rw[List.length_map];exact HL.out))
     have HOK:Hid (rowsOk (ownP clear (rs.map Prod.fst) j.l)=true):=tH (rowsOk_of (by rw[ownP_len,List.length_map];exact h6) (ownP_ok HK.out))
     have HBP:=tH (HB0.out.ext HE.out)
     have p2:=HBP.out.cell 2
     have po:=HBP.out.old
     have j2:=HBJ.out.cell 3
     have j3:=HBJ.out.cell 4
     have jo:=HBJ.out.old
     simp only[Jb.cells,List.getElem?_cons_zero,List.getElem?_cons_succ] at p2 j2 j3
     have hol:(ownP clear (rs.map Prod.fst) j.l).length≤6:=by rw[ownP_len,List.length_map];exact h6
     have hsp:=HRO.out.spns
     rw[HOE.out] at hsp
     have HSP:=tH hsp
     clear hsp
     go_wp2_with fail
     refine(implFirstFit_any _ (ownP clear (rs.map Prod.fst) j.l) _ _ _ _ (HSP.out.ext rSpnS_stable xE) (by omega)).mono ?_
     rintro e _ ⟨rfl,⟨X8,rfl⟩⟩
     rw[firstFit_yes HOK.out ⟨t5,t6⟩ ⟨t3,t4⟩ HN.out]
     have hrg:=firstL_range (rows:=ownP clear (rs.map Prod.fst) j.l) (need:=j.need) (length:=j.long) (now:=now)
     generalize ht:firstL (ownP clear (rs.map Prod.fst) j.l) j.need j.long now=t at hrg
     have HT:=tH ht
     clear ht
     by_cases htn:t < 0
     ·have HPP:=tH (placed_none HST.out (by rw[HT.out];exact htn))
      clear p2 po j2 j3 jo
      go_upto_region 14 with fail
      refine gen_world (fun Wy hWy=>?_)
      have HEy:Hid (Ext W1 Wy):=tH (by rw[hWy];exact HE.out.trans xE)
      clear hWy hrg X8
      have hb3:=HB3.out.ext HEy.out
      have hb4:=HB4.out.ext HEy.out
      have a0:Wy.cell? ⟨(w.heap.size+1+1+1),0,none⟩=some (.int .i64 0):=hb3.cell 0
      have a1:Wy.cell? ⟨(w.heap.size+1+1+1),1,none⟩=some (.int .i64 0):=hb3.cell 1
      have a2:Wy.cell? ⟨(w.heap.size+1+1+1),2,none⟩=some (.int .i64 0):=hb3.cell 2
      have a3:Wy.cell? ⟨(w.heap.size+1+1+1),3,none⟩=some (.int .i64 0):=hb3.cell 3
      have a4:Wy.cell? ⟨(w.heap.size+1+1+1),4,none⟩=some (.slice none 0 0):=hb3.cell 4
      have ao:=hb3.old
      have af:=hb3.fz
      have b0:Wy.cell? ⟨(w.heap.size+1+1+1+1),0,none⟩=some (.int .i64 0):=hb4.cell 0
      have b1:Wy.cell? ⟨(w.heap.size+1+1+1+1),1,none⟩=some (.int .i64 0):=hb4.cell 1
      have bo:=hb4.old
      have bf:=hb4.fz
      have h5:=hb3.set5s (.int .i64 0) (.int .i64 0) (.int .i64 0) (.int .i64 0) (.slice none 0 0)
      have g5:=set5s_chg Wy (w.heap.size+1+1+1) (.int .i64 0) (.int .i64 0) (.int .i64 0) (.int .i64 0) (.slice none 0 0)
      have h4:=hb4.chg g5 (by simp)
      have h42:=(h4.set 0 (.int .i64 0)).set 1 (.int .i64 0)
      have g2:=set2s_chg (((((Wy.setCell ⟨(w.heap.size+1+1+1),0,none⟩ (.int .i64 0)).setCell ⟨(w.heap.size+1+1+1),1,none⟩ (.int .i64 0)).setCell ⟨(w.heap.size+1+1+1),2,none⟩ (.int .i64 0)).setCell ⟨(w.heap.size+1+1+1),3,none⟩ (.int .i64 0)).setCell ⟨(w.heap.size+1+1+1),4,none⟩ (.slice none 0 0)) (w.heap.size+1+1+1+1) (.int .i64 0) (.int .i64 0)
      have h52:=h5.chg g2 (by simp)
      have HXF:=tH (g2.ext (g5.ext (HE1.out.trans HEy.out) (by simp;omega)) (by simp;omega))
      have HY0:=tH h52
      have HZ0:=tH h42
      clear hb3 hb4 h5 g5 h4 h42 g2 h52
      go_wp2
      have y0:=HY0.out.cell 0
      have y1:=HY0.out.cell 1
      have y2:=HY0.out.cell 2
      have y3:=HY0.out.cell 3
      have y4:=HY0.out.cell 4
      have z0:=HZ0.out.cell 0
      have z1:=HZ0.out.cell 1
      simp only[List.getElem?_cons_zero,List.getElem?_cons_succ] at y0 y1 y2 y3 y4 z0 z1
      refine bodyPost_ret (v:=.tuple #[.agg #[(.int .i64 0),(.int .i64 0),(.int .i64 0),(.int .i64 0),.slice none 0 0],.agg #[(.int .i64 0),(.int .i64 0)],.bool false]) (by simp[results,Tryz.results109,go_sem,y0,y1,y2,y3,y4,z0,z1]) rfl ⟨HXF.out,?_⟩
      rw[HPP.out]
      exact rfl
     ·have hrg2:now≤t∧t≤now+40:=by omega
      obtain⟨r1,r2⟩:=hrg2
      have HPP:=tH (placed_fit HST.out HT.out htn)
      clear hrg
      go_upto_region 15 with fail
      refine gen_world (fun Wy hWy=>?_)
      have hEwy:Ext wo Wy:=by rw[hWy];exact xE
      have HEy:Hid (Ext W1 Wy):=tH (HE.out.trans hEwy)
      have HBXF:Hid (w.heap.size+1+1+1+1+1≤Wy.heap.size):=tH (by have:=HEy.out.below.size;have:=HWS.out;omega)
      have HROy:=tH (HRO.out.ext hEwy)
      clear hWy X8 p2 po j2 j3 jo hEwy
      have j3:=(HB1.out.ext HEy.out).cell 4
      have jo:=(HB1.out.ext HEy.out).old
      simp only[Jb.cells,List.getElem?_cons_zero,List.getElem?_cons_succ] at j3
      go_upto_region 16 with fail
      refine gen_world (fun Wq hWq=>?_)
      have HE2q:Hid (Ext W1 Wq):=tH (by rw[hWq];exact HEy.out.trans xE)
      have HBX:Hid (Blk Wq Wy.heap.size [(.int .i64 t),(.int .i64 (t+j.long))] 124):=tH (by rw[hWq];exact(Blk.new (w:=Wy) (cs:=#[(.int .i64 t),(.int .i64 (t+j.long))]) rfl).ext xE)
      have HBJ:=tH (HB1.out.ext HE2q.out)
      have HBS:=tH (HB3.out.ext HE2q.out)
      have HB4Q:=tH (HB4.out.ext HE2q.out)
      have HROq:=tH (HROy.out.ext (show Ext Wy Wq by rw[hWq];exact xE))
      have HSZ:Hid (w.heap.size+1+1+1+1+1≤Wq.heap.size):=tH (by have:=HE2q.out.below.size;have:=HWS.out;omega)
      have HXK:Hid (spnOk ⟨t,t+j.long⟩=true):=tH (spnOk_iff.2 ⟨by show 0≤t;omega,by show t < t+j.long;omega,by show t+j.long≤1000000;omega⟩)
      have hnl:=fitNeed_len (ownP clear (rs.map Prod.fst) j.l) j.need ⟨t,t+j.long⟩
      have HFN:=tH (fitNodes_yes HOK.out ⟨t5,t6⟩ HXK.out)
      generalize fitNeed (ownP clear (rs.map Prod.fst) j.l) j.need ⟨t,t+j.long⟩=NN at HPP hnl HFN
      obtain⟨SL,hSL⟩:∃ SL:Slt,SL=⟨j.l,j.id,t,NN⟩:=⟨_,rfl⟩
      have HSL:=tH hSL
      have hnm:NN.length≤maxLen:=by unfold maxLen;omega
      have hsn:SL.nodes.length≤maxLen:=by rw[hSL];exact hnm
      have HQS:Hid (∀ r∈rsO,∀ b∈blkL (RW.nv r),b∉[w.heap.size+1+1+1,w.heap.size+1+1+1+1]):=tH (fun r hr b hb hm=>by
       have h1:=HWS.out
       rcases HQ.out r hr with h | h
       ·have h2:=((HR.out.nd r h).2.blk b hb).2
        simp at hm;omega
       ·have h2:=h b hb
        simp at hm;omega)
      have HQV:Hid (∀ b∈blkL (.slice (some ⟨og,0,none⟩) rs.length oc),b∉[w.heap.size+1+1+1,w.heap.size+1+1+1+1]):=tH (fun b hb hm=>by
       have h1:=HWS.out
       have h2:=(HRO.out.row.blk b hb).1
       simp at hm;omega)
      clear hWq hSL j3 jo
      refine wp_region_z [w.heap.size+1+1+1,w.heap.size+1+1+1+1] [.V (.pointer (some ⟨w.heap.size+1,0,none⟩)),.A (fun _ u _=>u=(.agg #[(.int .i64 j.l.lv),(.int .i64 j.l.st)])) [] [w.heap.size+1+1+1,w.heap.size+1+1+1+1] [w.heap.size+1+1+1,w.heap.size+1+1+1+1],.V (.pointer (some ⟨w.heap.size+1,2,none⟩)),.A (fun _ u _=>u=(.int .i64 j.id)) [] [w.heap.size+1+1+1,w.heap.size+1+1+1+1] [w.heap.size+1+1+1,w.heap.size+1+1+1+1],.V (.int .i64 t),.V (.slice (some ⟨og,0,none⟩) rs.length oc),.V (.pointer (some ⟨w.heap.size+1,3,none⟩)),.A (fun _ u _=>u=(.int .i64 j.need)) [] [w.heap.size+1+1+1,w.heap.size+1+1+1+1] [w.heap.size+1+1+1,w.heap.size+1+1+1+1],.A (fun _ u _=>u=(.agg #[(.int .i64 t),(.int .i64 (t+j.long))])) [] [w.heap.size+1+1+1,w.heap.size+1+1+1+1] [w.heap.size+1+1+1,w.heap.size+1+1+1+1],.A (kNdZ ((w.heap.size+1+1+1)+2) NN) [] [w.heap.size+1+1+1,w.heap.size+1+1+1+1] [w.heap.size+1+1+1,w.heap.size+1+1+1+1],.A (kAgZ ((w.heap.size+1+1+1)+2) SL) [] [w.heap.size+1+1+1,w.heap.size+1+1+1+1] [w.heap.size+1+1+1,w.heap.size+1+1+1+1],.A (fun _ u _=>u=(.agg #[(.int .i64 t),(.int .i64 (t+j.long))])) [] [w.heap.size+1+1+1,w.heap.size+1+1+1+1] [w.heap.size+1+1+1,w.heap.size+1+1+1+1],.A (kSlZ (w.heap.size+1+1+1) ((w.heap.size+1+1+1)+2) SL) [(w.heap.size+1+1+1)] [(w.heap.size+1+1+1+1)] [(w.heap.size+1+1+1+1)],.A (kBkZ (w.heap.size+1+1+1+1) [(.int .i64 t),(.int .i64 (t+j.long))] 124) [(w.heap.size+1+1+1+1)] [(w.heap.size+1+1+1)] [(w.heap.size+1+1+1)],.V (.bool true)] [] (by kernel_rfl) (by kernel_rfl) (by kernel_rfl) (by kernel_rfl) rfl ?_ (by repeat' (first | exact trivial | exact XReg.ZOp.good_is _ _ _ _ | exact XReg.ZOp.good_v _ | exact kNdZ_good hnm (by simp) | exact kAgZ_good hsn (by simp) | exact kSlZ_good hsn (by simp) (by simp) rfl | exact kBkZ_good (by simp) | refine And.intro ?_ ?_)) (by repeat' (first | exact trivial | exact XReg.subL_nil _ | exact XReg.subL_refl _ | exact Or.inr (XReg.subL_nil _) | exact Or.inr (XReg.subL_refl _) | refine And.intro ?_ ?_ | (refine Or.inr (fun x hx=>?_);simp only[XReg.ZOp.S,List.mem_cons,List.not_mem_nil,or_false] at hx ⊢;omega) | (intro x hx;simp only[XReg.ZOp.S,List.mem_cons,List.not_mem_nil,or_false] at hx ⊢;omega) | exact Or.inl (by kernel_rfl)))
      (apply ZReg.val (.pointer (some ⟨w.heap.size+1,0,none⟩));(case h=>(intro w';go_wp2_with (fail);first | exact⟨rfl,rfl⟩ | exact rfl));(case hv=>kernel_rfl))
      apply ZReg.setU (.agg #[(.int .i64 j.l.lv),(.int .i64 j.l.st)])
      case h =>
       intro w' hw' hF'
       have hB:=HBJ.out.chg hw' (by simp)
       have j0:=hB.cell 0
       have j1:=hB.cell 1
       have j2:=hB.cell 2
       have j3:=hB.cell 3
       have j6:=hB.cell 7
       have j8:=hB.cell 8
       have jo:=hB.old
       simp only[Jb.cells,List.getElem?_cons_zero,List.getElem?_cons_succ] at j0 j1 j2 j3 j6 j8
       clear hF' hw' hB
       go_wp2_with fail
       exact⟨rfl,xE⟩
      case hv=>kernel_rfl
      intro _
      (apply ZReg.val (.pointer (some ⟨w.heap.size+1,2,none⟩));(case h=>(intro w';go_wp2_with (fail);first | exact⟨rfl,rfl⟩ | exact rfl));(case hv=>kernel_rfl))
      apply ZReg.setU (.int .i64 j.id)
      case h =>
       intro w' hw' hF'
       have hB:=HBJ.out.chg hw' (by simp)
       have j0:=hB.cell 0
       have j1:=hB.cell 1
       have j2:=hB.cell 2
       have j3:=hB.cell 3
       have j6:=hB.cell 7
       have j8:=hB.cell 8
       have jo:=hB.old
       simp only[Jb.cells,List.getElem?_cons_zero,List.getElem?_cons_succ] at j0 j1 j2 j3 j6 j8
       clear hF' hw' hB
       go_wp2_with fail
       exact⟨rfl,xE⟩
      case hv=>kernel_rfl
      intro _
      (apply ZReg.val (.int .i64 t);(case h=>(intro w';go_wp2_with (fail);first | exact⟨rfl,rfl⟩ | exact rfl));(case hv=>kernel_rfl))
      (apply ZReg.val (.slice (some ⟨og,0,none⟩) rs.length oc);(case h=>(intro w';go_wp2_with (fail);first | exact⟨rfl,rfl⟩ | exact rfl));(case hv=>kernel_rfl))
      (apply ZReg.val (.pointer (some ⟨w.heap.size+1,3,none⟩));(case h=>(intro w';go_wp2_with (fail);first | exact⟨rfl,rfl⟩ | exact rfl));(case hv=>kernel_rfl))
      apply ZReg.setU (.int .i64 j.need)
      case h =>
       intro w' hw' hF'
       have hB:=HBJ.out.chg hw' (by simp)
       have j0:=hB.cell 0
       have j1:=hB.cell 1
       have j2:=hB.cell 2
       have j3:=hB.cell 3
       have j6:=hB.cell 7
       have j8:=hB.cell 8
       have jo:=hB.old
       simp only[Jb.cells,List.getElem?_cons_zero,List.getElem?_cons_succ] at j0 j1 j2 j3 j6 j8
       clear hF' hw' hB
       go_wp2_with fail
       exact⟨rfl,xE⟩
      case hv=>kernel_rfl
      intro _
      apply ZReg.setU (.agg #[(.int .i64 t),(.int .i64 (t+j.long))])
      case h =>
       intro w' hw' hF'
       have hB:=HBX.out.chg hw' (by have:=HBXF.out;simp;omega)
       have e0:=hB.cell 0
       have e1:=hB.cell 1
       have eo:=hB.old
       simp only[List.getElem?_cons_zero,List.getElem?_cons_succ] at e0 e1
       clear hF' hw' hB
       go_wp2_with fail
       exact⟨rfl,xE⟩
      case hv=>kernel_rfl
      intro _
      refine ZReg.kind (fun w' hw' hF'=>?_) (fun v8 w8 x8 hK8=>?_)
      ·have hsp:=(HROq.out.chgB hw' HQV.out HQS.out).spns
       rw[HOE.out] at hsp
       have HSW:Hid ((w.heap.size+1+1+1)+2≤w'.heap.size):=tH (by have:=hw'.size;have:=HSZ.out;omega)
       have HSPQ:=tH hsp
       clear hF' hw' hsp
       go_wp2_with fail
       refine(implFitNodes_any _ (ownP clear (rs.map Prod.fst) j.l) _ ⟨t,t+j.long⟩ _ (HSPQ.out.ext rSpnS_stable xE) (by omega)).mono ?_
       rintro e _ ⟨v',rfl,⟨Y,rfl⟩,hO⟩
       rw[HFN.out] at hO
       have HO:=tH (hO.mono HSW.out)
       obtain⟨a',c',rfl⟩:=hO.shape
       clear hO
       go_wp2
       exact⟨Ext.chg xE _,a',c',rfl,HO.out⟩
      obtain⟨a8,c8,rfl,hq8⟩:=hK8
      clear hq8 w8
      refine ZReg.kind (fun w' hw' hF'=>?_) (fun v9 w9 x9 hK9=>?_)
      ·have hf8:=hF' 9 (kNdZ ((w.heap.size+1+1+1)+2) NN x8,.slice a8 NN.length c8) (by kernel_rfl) (by kernel_rfl)
       obtain⟨_,_,hv8,hr8⟩:=hf8
       rw[← hv8] at hr8
       have HRW:=tH hr8
       clear hF' hw' hv8 hr8
       go_wp2
       exact⟨Ext.chg xE _,a8,c8,by rw[HSL.out];rfl,by rw[HSL.out];exact HRW.out⟩
      obtain⟨a9,c9,rfl,hq9⟩:=hK9
      clear hq9 w9
      apply ZReg.setU (.agg #[(.int .i64 t),(.int .i64 (t+j.long))])
      case h =>
       intro w' hw' hF'
       have hB:=HBX.out.chg hw' (by have:=HBXF.out;simp;omega)
       have e0:=hB.cell 0
       have e1:=hB.cell 1
       have eo:=hB.old
       simp only[List.getElem?_cons_zero,List.getElem?_cons_succ] at e0 e1
       clear hF' hw' hB
       go_wp2_with fail
       exact⟨rfl,xE⟩
      case hv=>kernel_rfl
      intro _
      refine ZReg.kind (fun w' hw' hF'=>?_) (fun v11 w11 x11 hK11=>?_)
      ·have hB:=HBS.out.chg hw' (by simp)
       have hf9:=hF' 10 (kAgZ ((w.heap.size+1+1+1)+2) SL x9,SL.val (.slice a9 SL.nodes.length c9)) (by kernel_rfl) (by kernel_rfl)
       obtain⟨a7,c7,hv7,hr7⟩:=hf9
       have hv8:a9=a7∧c9=c7:=by simpa [Slt.val] using hv7
       obtain⟨rfl,rfl⟩:=hv8
       have e0:w'.cell? ⟨(w.heap.size+1+1+1),0,none⟩=some (.int .i64 0):=hB.cell 0
       have e1:w'.cell? ⟨(w.heap.size+1+1+1),1,none⟩=some (.int .i64 0):=hB.cell 1
       have e2:w'.cell? ⟨(w.heap.size+1+1+1),2,none⟩=some (.int .i64 0):=hB.cell 2
       have e3:w'.cell? ⟨(w.heap.size+1+1+1),3,none⟩=some (.int .i64 0):=hB.cell 3
       have e4:w'.cell? ⟨(w.heap.size+1+1+1),4,none⟩=some (.slice none 0 0):=hB.cell 4
       have eo:=hB.old
       have ef:=hB.fz
       have HRW:=tH hr7
       have H9:=tH (And.intro (set5s_chg w' (w.heap.size+1+1+1) (.int .i64 SL.l.lv) (.int .i64 SL.l.st) (.int .i64 SL.id) (.int .i64 SL.start) (.slice a9 SL.nodes.length c9)) (hB.set5s (.int .i64 SL.l.lv) (.int .i64 SL.l.st) (.int .i64 SL.id) (.int .i64 SL.start) (.slice a9 SL.nodes.length c9)))
       clear hF' hw' hB hv7 hr7
       unfold Slt.val
       go_wp2
       exact⟨H9.out.1,undef,a9,c9,H9.out.2,HRW.out.chg H9.out.1 (fun b hb hm=>by have:=(HRW.out.blk b hb).1;simp at hm;omega)⟩
      clear hK11 w11
      refine ZReg.kind (fun w' hw' hF'=>?_) (fun v12 w12 x12 hK12=>?_)
      ·have hB:=HB4Q.out.chg hw' (by simp)
       have e0:w'.cell? ⟨(w.heap.size+1+1+1+1),0,none⟩=some (.int .i64 0):=hB.cell 0
       have e1:w'.cell? ⟨(w.heap.size+1+1+1+1),1,none⟩=some (.int .i64 0):=hB.cell 1
       have eo:=hB.old
       have ef:=hB.fz
       have H9:=tH (show Chg [(w.heap.size+1+1+1+1)] w' ((w'.setCell ⟨(w.heap.size+1+1+1+1),0,none⟩ (.int .i64 t)).setCell ⟨(w.heap.size+1+1+1+1),1,none⟩ (.int .i64 (t+j.long)))∧Blk ((w'.setCell ⟨(w.heap.size+1+1+1+1),0,none⟩ (.int .i64 t)).setCell ⟨(w.heap.size+1+1+1+1),1,none⟩ (.int .i64 (t+j.long))) (w.heap.size+1+1+1+1) [(.int .i64 t),(.int .i64 (t+j.long))] 124 from ⟨set2s_chg _ _ _ _,(hB.set 0 _).set 1 _⟩)
       clear hF' hw' hB
       go_wp2
       exact⟨H9.out.1,undef,H9.out.2⟩
      clear hK12 w12
      (apply ZReg.val (.bool true);(case h=>(intro w';go_wp2_with (fail);first | exact⟨rfl,rfl⟩ | exact rfl));(case hv=>kernel_rfl))
      refine ZReg.done (fun w9 hw9 hF hR=>?_)
      have hS9:=hF 12 (kSlZ (w.heap.size+1+1+1) ((w.heap.size+1+1+1)+2) SL x11,v11) (by kernel_rfl)
      have hB9:Blk w9 (w.heap.size+1+1+1+1) [(.int .i64 t),(.int .i64 (t+j.long))] 124:=hF 13 (kBkZ (w.heap.size+1+1+1+1) [(.int .i64 t),(.int .i64 (t+j.long))] 124 x12,v12) (by kernel_rfl)
      have HX9:=tH (hw9.ext (HE1.out.trans HE2q.out) (by simp;omega))
      have hsl:=HSL.out
      subst hsl
      obtain⟨a5,c5,hS5,hr5⟩:=hS9
      have HR5:=tH (hr5.mono (show w.heap.size≤(w.heap.size+1+1+1)+2 by omega))
      have y0:w9.cell? ⟨(w.heap.size+1+1+1),0,none⟩=some (.int .i64 j.l.lv):=hS5.cell 0
      have y1:w9.cell? ⟨(w.heap.size+1+1+1),1,none⟩=some (.int .i64 j.l.st):=hS5.cell 1
      have y2:w9.cell? ⟨(w.heap.size+1+1+1),2,none⟩=some (.int .i64 j.id):=hS5.cell 2
      have y3:w9.cell? ⟨(w.heap.size+1+1+1),3,none⟩=some (.int .i64 t):=hS5.cell 3
      have y4:w9.cell? ⟨(w.heap.size+1+1+1),4,none⟩=some (.slice a5 (List.length NN) c5):=hS5.cell 4
      have yo:=hS5.old
      have z0:w9.cell? ⟨(w.heap.size+1+1+1+1),0,none⟩=some (.int .i64 t):=hB9.cell 0
      have z1:w9.cell? ⟨(w.heap.size+1+1+1+1),1,none⟩=some (.int .i64 (t+j.long)):=hB9.cell 1
      have zo:=hB9.old
      clear hF hR hw9 hS5 hB9 hr5
      refine ZReg.end_ ?_
      go_wp2
      refine bodyPost_ret (v:=.tuple #[.agg #[(.int .i64 j.l.lv),(.int .i64 j.l.st),(.int .i64 j.id),(.int .i64 t),.slice a5 (List.length NN) c5],.agg #[(.int .i64 t),(.int .i64 (t+j.long))],.bool true]) (by simp[results,Tryz.results109,go_sem,y0,y1,y2,y3,y4,z0,z1]) rfl ⟨HX9.out,?_⟩
      rw[HPP.out]
      exact⟨a5,c5,rfl,HR5.out⟩
end Go.Proofs.YtbmbanelodabgaaGreatDoor
