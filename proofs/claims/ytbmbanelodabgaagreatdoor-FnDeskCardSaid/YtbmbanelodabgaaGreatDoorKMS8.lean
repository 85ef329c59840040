/- The reference's desk: a text. -/
import Derived.Test.YtbmbanelodabgaaGreatDoorKCL
import Derived.Lib.AppendStr
set_option maxRecDepth 100000
set_option linter.unusedVariables false
set_option linter.unusedSimpArgs false
namespace Go.Proofs.YtbmbanelodabgaaGreatDoor
open Go.RowKit Go.Fin1
def bCell (x:UInt8):List Value:=[.int .u8 x.toNat]
theorem flatMap_one8 {α:Type} (f:α→Value) (xs:List α):xs.flatMap (fun x=>[f x])=xs.map f:=by induction xs<;>simp_all
theorem bCells_str (s:ByteArray):Lib.strCells s=(dl s).flatMap bCell:=by
 unfold Lib.strCells dl
 generalize s.data.toList=l
 induction l with
 | nil=>rfl
 | cons a r ih=>rw[List.map_cons,List.flatMap_cons,ih];rfl
theorem info_u8D:(Tryz.prog.info? 5).map (fun i=>(i.zero,i.size,i.bytes))=some (some (.int .u8 0),1,1):=by kernel_rfl
section
variable {ops:Array Oper} {rest:List Oper} {op:Oper} {a:Act} {Q:Exit→Act→World→Prop}
theorem Row.appT {W:World} (hgd:op.guard=none) (s x:Operand)
  (ho:op.op=.call { callee:=.builtin .append,args:=#[s,x],argTypes:=#[27,9] })
  (B:Nat) (hB:B≤W.heap.size) (v:Value) (xs:Bs) (hs:a.eval s=v) (hown:Row B W 5 1 bCell v xs) (z:ByteArray) (hx:a.eval x=.string z) (h63:xs.length+z.size≤140737488355328)
  (h:∀ v' w',Row B w' 5 1 bCell v' (xs++dl z)→Chg (blkL v) W w'→wpList Tryz.prog ops Q rest (a.put op.dst v') w'):wpList Tryz.prog ops Q (op :: rest) a W:=by
 obtain⟨i,hi,hz,hsz,hby⟩:=info_parts info_u8D
 refine Lib.wpList_append_own_string W hgd s x _ _ ho B 5 i (by kernel_rfl) (by kernel_rfl) hi hz hsz hby v xs.length (xs.flatMap bCell) hs hown z hx (by unfold maxLen;omega) h63 hB ?_
 intro v' w' ho' hg hne
 refine h v' w' ?_ (grownBy_chg hg)
 unfold Row
 rw[List.length_append,List.flatMap_append,ba_len,← bCells_str]
 exact ho'
end
theorem row_string {B:Nat} {w:World} {v:Value} {xs:Bs} (h:Row B w 5 1 bCell v xs):∃ z:ByteArray,(convert 27 9 v).run Tryz.prog w=.ok (.string z) w∧dl z=xs:=by
 refine⟨strOfNums (xs.map (fun x=>(x.toNat:Int))),run_string_own (P:=Tryz.prog) (src:=27) (dst:=9) Tryz.underlying27 Tryz.underlying5 Tryz.underlying9 (w:=w) (v:=v) (n:=xs.length) (base:=B) (by
  have:=h
  unfold Row at this
  rw[show bCell=fun x:UInt8=>[Value.int .u8 x.toNat] from rfl,flatMap_one8 (fun x:UInt8=>Value.int .u8 x.toNat)] at this
  rw[List.map_map]
  exact this),?_⟩
 unfold dl strOfNums
 rw[List.toList_toArray,List.map_map]
 refine(List.map_congr_left (g:=id) fun x _=>?_).trans (List.map_id _)
 show UInt8.ofNat ((x.toNat:Int).toNat)=x
 rw[Int.toNat_natCast]
 exact UInt8.ofNat_toNat
theorem badL_more {k:Nat} {t:Bs} {r:List Bs} (h:r≠[]):badL k (t :: r)=if k=40∨okW (splitL 32 t)=false then (k:Int) else badL (k+1) r:=by
 cases r with
 | nil=>exact absurd rfl h
 | cons a r=>rfl
theorem badL_last (k:Nat) (t:Bs):badL k [t]=if t=[] then -1 else (k:Int):=rfl
theorem runL_more {p:Pl} {t:Bs} {r:List Bs} (h:r≠[]):(runL p (t :: r)).2=(runW p (splitL 32 t)).2++10 :: (runL (runW p (splitL 32 t)).1 r).2:=by
 cases r with
 | nil=>exact absurd rfl h
 | cons a r=>rfl
theorem drop_at {xs:List ByteArray} {LS:List Bs} (h:xs.map dl=LS) {i:Nat} (hi:i < xs.length):LS.drop i=dl xs[i] :: LS.drop (i+1)∧(LS.drop (i+1)≠[]↔i+1 < xs.length):=by
 subst h
 have h1:i < (xs.map dl).length:=by rw[List.length_map];exact hi
 refine⟨?_,?_⟩
 ·rw[List.drop_eq_getElem_cons h1,List.getElem_map]
 ·rw[ne_eq,List.drop_eq_nil_iff,List.length_map];omega
theorem newR_pool0:newR pool0.clear=(pool0,0):=by
 rw[newR_yes (by decide) (by decide +kernel)];rfl
theorem gen_post {P:Program} {f:Func} {post:Ending→World→Prop} {x:Exit} {a:Act} {w:World} (h:∀ W,W=w→bodyPost P f post x a W):bodyPost P f post x a w:=h w rfl
theorem set3_chgD (w:World) (g:Nat) (u0 u1 u2:Value):Chg [g] w (((w.setCell ⟨g,0,none⟩ u0).setCell ⟨g,1,none⟩ u1).setCell ⟨g,2,none⟩ u2):=(((Chg.refl _ _).setCell (.inl (by simp)) _).setCell (.inl (by simp)) _).setCell (.inl (by simp)) _
theorem DeskW.row {B:Nat} {w w':World} {b:Nat} {p:Pl} {v:Value} {xs:Bs} (h:DeskW w b p) (hr:Row B w 5 1 bCell v xs) (hx:Chg (blkL v) w w'):DeskW w' b p:=by
 obtain⟨pa,pc,pb,pd,fc,fj,h1,h2⟩:=h
 refine⟨pa,pc,pb,pd,fc,fj,blkM_row h1 hr (by decide) hx,h2.far hx fun q hq hm=>?_⟩
 obtain⟨cur,hc⟩:=hr.type q hm
 have hb:Blk w q cur.toList 5:=by unfold Blk;rw[hc]
 exact ownP_boxM h2 hb (by decide) (by decide) q hq (List.mem_singleton.2 rfl)
theorem blk_two {w:World} {b b':Nat} {cs cs':List Value} {t t':TypeId} (h:Blk w b cs t) (k:Blk w b' cs' t') (ht:t≠t'):b∉[b']:=fun hm=>by
 obtain rfl:=List.mem_singleton.1 hm
 unfold Blk at h k
 rw[h] at k
 injection k with k
 injection k with _ k
 exact ht k
theorem DeskW.blk {w:World} {b:Nat} {p:Pl} (h:DeskW w b p):∃ cs,Blk w b cs 47:=by
 obtain⟨pa,pc,pb,pd,fc,fj,h1,h2⟩:=h
 exact⟨_,h1⟩
theorem lf_size (z:ByteArray):(z++(⟨#[10]⟩:ByteArray)).size=z.size+1:=by rw[ByteArray.size_append];rfl
theorem lf_list (z:ByteArray):dl (z++(⟨#[10]⟩:ByteArray))=dl z++[10]:=by unfold dl;rw[ByteArray.data_append,Array.toList_append]
set_option maxHeartbeats 1600000 in
theorem specDeskRun_any (t:ByteArray) (w:World) :
  Calls Tryz.prog 6 #[.string t] w fun e w'=>(∃ z,e=.returned (.agg #[.string z,(.int .i64 (deskR t).2.1),(.int .i64 (deskR t).2.2)])∧dl z=(deskR t).1)∧Ext w w':=by
 by_cases hbig:8000 < t.size
 ·have hb:decide ((8000:Int) < (t.size:Int))=true:=decide_eq_true (by omega)
  have HT:=tH (show deskR t=([],0,2) by unfold deskR;rw[if_pos hbig])
  clear hbig
  go_enter Tryz.func6,Tryz.ntmps6
  go_wp2
  exact bodyPost_ret (v:=.agg #[.string ⟨#[]⟩,(.int .i64 0),(.int .i64 2)]) (by simp[results,Tryz.results6,go_sem]) rfl ⟨⟨⟨#[]⟩,by rw[HT.out],by rw[HT.out]⟩,(by repeat' (first | exact Ext.refl _ | exact Nat.le_refl _ | (dsimp only;omega) | apply Ext.setCell | apply Ext.plus | apply Ext.alloc | apply Ext.drew))⟩
 have hb:decide ((8000:Int) < (t.size:Int))=false:=decide_eq_false (by omega)
 have hts:t.size≤8000:=by omega
 clear hbig
 go_enter Tryz.func6,Tryz.ntmps6
 go_wp2_with fail
 refine(l01Split_any t 10 _ hts).mono ?_
 rintro e w2 ⟨xa,xc,xs,rfl,hx,hR,hE⟩
 have hlen:=congrArg List.length hE
 rw[List.length_map,splitL_len] at hlen
 have hcz:(dl t).count 10≤8000:=by have h1:=List.count_le_length (a:=(10:UInt8)) (l:=dl t);have h2:=ba_len t;have h3:(dl t).length=t.size:=h2;omega
 have hzx:∀ x∈xs,x.size≤8000:=fun x hx=>by
  have h1:dl x∈splitL 10 (dl t):=by rw[← hE];exact List.mem_map_of_mem hx
  have h2:=splitL_sum 10 (dl t) _ h1
  rw[ba_len,ba_len] at h2
  omega
 have h0:0 < xs.length:=by omega
 have hxl:xs.length≤8001:=by omega
 have HE:=tH hE
 have HZX:=tH hzx
 have HX2:=tH (((Ext.refl w).alloc (.cells #[.string ⟨#[]⟩,(.int .i64 0),(.int .i64 0)] 23)).trans hx)
 have HR2:=tH ((Blk.new (w:=w) (cs:=#[.string ⟨#[]⟩,(.int .i64 0),(.int .i64 0)]) (ty:=23) rfl).ext hx)
 have HW2:=tH (hR.mono (show w.heap.size≤_ by simp))
 have HWB:=tH (show w.heap.size < w2.heap.size from HR2.out.old)
 clear hx hR hE hlen hcz hzx
 have hfp:∀ (a b c d e:Value) w,(Instr.field 43 (.agg #[a,b,c,d,e]) 0).run Tryz.prog w=.ok (.agg #[a,b,c]) w:=fun a b c d e w=>by kernel_rfl
 go_wp2_with fail
 refine(specPoolNew_any _ pool0.clear _ ?_ (by unfold szL pool0;decide)).mono ?_
 ·refine slr_valB (ty:=45) (vs:=[.slice (some ⟨w2.heap.size+1+1,0,none⟩) 2 2,.slice (some ⟨w2.heap.size+1+1+1,0,none⟩) 3 3,.slice (some ⟨w2.heap.size+1+1+1+1,0,none⟩) 1 1]) (Blk.new (w:=(((((w2.alloc (.cells #[(.int .i64 0),(.int .i64 0)] 36)).alloc (.cells #[(.int .i64 1),(.int .i64 0)] 36)).alloc (.cells #[(.int .i64 0),(.int .i64 0),(.int .i64 1),(.int .i64 0)] 36)).alloc (.cells #[(.int .i64 0),(.int .i64 0),(.int .i64 1),(.int .i64 0),(.int .i64 2),(.int .i64 1)] 36)).alloc (.cells #[(.int .i64 0),(.int .i64 0)] 36))) (by simp)) rfl rfl (by decide) (fun i h1 h2=>?_)
  have hi:i=0∨i=1∨i=2:=by simp at h1;omega
  rcases hi with rfl | rfl | rfl
  ·exact⟨_,rfl,slr_labB (ty:=36) (ls:=[⟨0,0⟩,⟨1,0⟩]) ((Blk.new (w:=((w2.alloc (.cells #[(.int .i64 0),(.int .i64 0)] 36)).alloc (.cells #[(.int .i64 1),(.int .i64 0)] 36))) (cs:=#[(.int .i64 0),(.int .i64 0),(.int .i64 1),(.int .i64 0)]) (by simp)).ext (show Ext (((w2.alloc (.cells #[(.int .i64 0),(.int .i64 0)] 36)).alloc (.cells #[(.int .i64 1),(.int .i64 0)] 36)).alloc _) (((((((w2.alloc (.cells #[(.int .i64 0),(.int .i64 0)] 36)).alloc (.cells #[(.int .i64 1),(.int .i64 0)] 36)).alloc (.cells #[(.int .i64 0),(.int .i64 0),(.int .i64 1),(.int .i64 0)] 36)).alloc (.cells #[(.int .i64 0),(.int .i64 0),(.int .i64 1),(.int .i64 0),(.int .i64 2),(.int .i64 1)] 36)).alloc (.cells #[(.int .i64 0),(.int .i64 0)] 36))).alloc _) from xE)) rfl (by intro x hx;simp at hx;rcases hx with rfl | rfl<;>(unfold Lab.ok I64;decide)) (by decide)⟩
  ·exact⟨_,rfl,slr_labB (ty:=36) (ls:=[⟨0,0⟩,⟨1,0⟩,⟨2,1⟩]) ((Blk.new (w:=(((w2.alloc (.cells #[(.int .i64 0),(.int .i64 0)] 36)).alloc (.cells #[(.int .i64 1),(.int .i64 0)] 36)).alloc (.cells #[(.int .i64 0),(.int .i64 0),(.int .i64 1),(.int .i64 0)] 36))) (cs:=#[(.int .i64 0),(.int .i64 0),(.int .i64 1),(.int .i64 0),(.int .i64 2),(.int .i64 1)]) (by simp)).ext (show Ext ((((w2.alloc (.cells #[(.int .i64 0),(.int .i64 0)] 36)).alloc (.cells #[(.int .i64 1),(.int .i64 0)] 36)).alloc (.cells #[(.int .i64 0),(.int .i64 0),(.int .i64 1),(.int .i64 0)] 36)).alloc _) (((((((w2.alloc (.cells #[(.int .i64 0),(.int .i64 0)] 36)).alloc (.cells #[(.int .i64 1),(.int .i64 0)] 36)).alloc (.cells #[(.int .i64 0),(.int .i64 0),(.int .i64 1),(.int .i64 0)] 36)).alloc (.cells #[(.int .i64 0),(.int .i64 0),(.int .i64 1),(.int .i64 0),(.int .i64 2),(.int .i64 1)] 36)).alloc (.cells #[(.int .i64 0),(.int .i64 0)] 36))).alloc _) from xE)) rfl (by intro x hx;simp at hx;rcases hx with rfl | rfl | rfl<;>(unfold Lab.ok I64;decide)) (by decide)⟩
  ·exact⟨_,rfl,slr_labB (ty:=36) (ls:=[⟨0,0⟩]) ((Blk.new (w:=((((w2.alloc (.cells #[(.int .i64 0),(.int .i64 0)] 36)).alloc (.cells #[(.int .i64 1),(.int .i64 0)] 36)).alloc (.cells #[(.int .i64 0),(.int .i64 0),(.int .i64 1),(.int .i64 0)] 36)).alloc (.cells #[(.int .i64 0),(.int .i64 0),(.int .i64 1),(.int .i64 0),(.int .i64 2),(.int .i64 1)] 36))) (cs:=#[(.int .i64 0),(.int .i64 0)]) (by simp)).ext (show Ext (((((w2.alloc (.cells #[(.int .i64 0),(.int .i64 0)] 36)).alloc (.cells #[(.int .i64 1),(.int .i64 0)] 36)).alloc (.cells #[(.int .i64 0),(.int .i64 0),(.int .i64 1),(.int .i64 0)] 36)).alloc (.cells #[(.int .i64 0),(.int .i64 0),(.int .i64 1),(.int .i64 0),(.int .i64 2),(.int .i64 1)] 36)).alloc _) (((((((w2.alloc (.cells #[(.int .i64 0),(.int .i64 0)] 36)).alloc (.cells #[(.int .i64 1),(.int .i64 0)] 36)).alloc (.cells #[(.int .i64 0),(.int .i64 0),(.int .i64 1),(.int .i64 0)] 36)).alloc (.cells #[(.int .i64 0),(.int .i64 0),(.int .i64 1),(.int .i64 0),(.int .i64 2),(.int .i64 1)] 36)).alloc (.cells #[(.int .i64 0),(.int .i64 0)] 36))).alloc _) from xE)) rfl (by intro x hx;simp at hx;rcases hx with rfl;(unfold Lab.ok I64;decide)) (by decide)⟩
 rintro e _ ⟨cv9,jv9,fc9,fj9,rfl,⟨X9,rfl⟩,hO⟩
 rw[newR_pool0] at hO ⊢
 obtain⟨ca,cc,rfl⟩:=hO.1.shape
 obtain⟨ja,jc,rfl⟩:=hO.2.1.shape
 unfold poV
 have HO:=tH (hO.mono (Nat.zero_le _))
 clear hO
 go_upto_region 8 with fail
 refine gen_world (fun W3 hW=>?_)
 have HX3:=tH (show Ext w W3 by rw[hW];exact HX2.out.trans xE)
 have HR3:=tH (show Blk W3 w.heap.size [.string ⟨#[]⟩,(.int .i64 0),(.int .i64 0)] 23 by rw[hW];exact HR2.out.ext xE)
 have HW3:=tH (show Row w.heap.size W3 9 1 sCell _ xs by rw[hW];exact HW2.out.ext xE)
 have HD3:=tH (show DeskW W3 (w2.heap.size+1+1+1+1+1+1+X9.n) pool0 by
  rw[hW]
  exact⟨ca,cc,ja,jc,fc9,fj9,(Blk.new (w:=(((((((w2.alloc (.cells #[(.int .i64 0),(.int .i64 0)] 36)).alloc (.cells #[(.int .i64 1),(.int .i64 0)] 36)).alloc (.cells #[(.int .i64 0),(.int .i64 0),(.int .i64 1),(.int .i64 0)] 36)).alloc (.cells #[(.int .i64 0),(.int .i64 0),(.int .i64 1),(.int .i64 0),(.int .i64 2),(.int .i64 1)] 36)).alloc (.cells #[(.int .i64 0),(.int .i64 0)] 36))).alloc _).plus X9) (cs:=#[.slice ca pool0.clear.length cc,.slice ja pool0.jobs.length jc,(.int .i64 pool0.now)]) (by simp)).ext xE,HO.out.ext xE⟩)
 have HO3:=tH (show Row w.heap.size W3 5 1 bCell (.slice (some ⟨w2.heap.size+1+1+1+1+1+1+X9.n+1,0,none⟩) 0 0) [] by rw[hW];exact Row.madeB' (by simp) (by have:=HWB.out;simp;omega))
 have HBD:=tH (show w.heap.size≤w2.heap.size+1+1+1+1+1+1+X9.n by have:=HWB.out;omega)
 clear hW HX2 HR2 HW2 HWB HO hfp
 generalize w2.heap.size+1+1+1+1+1+1+X9.n=bD at HD3 HO3 HBD ⊢
 obtain⟨LS,hLS⟩:∃ LS,splitL 10 (dl t)=LS:=⟨_,rfl⟩
 have HLS:=tH (show xs.map dl=LS from HE.out.trans hLS)
 have HDR:=tH (show deskR t=if badL 0 LS < 0 then ((runL pool0 LS).2,0,0) else ([],badL 0 LS,3) by
  unfold deskR
  rw[if_neg (by omega)]
  show (if badL 0 (splitL 10 (dl t)) < 0 then ((runL pool0 (splitL 10 (dl t))).2,(0:Int),(0:Int)) else ([],badL 0 (splitL 10 (dl t)),3))=_
  rw[hLS])
 clear hLS HE
 go_wp2
 go_loopw [7,8] (fun o k wr=>∃ (i:Nat) (p:Pl) (out:Bs),i < xs.length∧i≤40∧k=(.int .i64 (i:Int))∧out.length≤i*10001∧Hid (badL 0 LS=badL i (LS.drop i))∧Hid ((runL pool0 LS).2=out++(runL p (LS.drop i)).2)∧Hid (poolR p=true)∧Hid (p.now≤30*i)∧Hid (DeskW wr bD p)∧Hid (Row w.heap.size wr 5 1 bCell o out)∧Hid (Row w.heap.size wr 9 1 sCell (.slice xa xs.length xc) xs)∧Hid (Blk wr w.heap.size [.string ⟨#[]⟩,(.int .i64 0),(.int .i64 0)] 23)∧Hid (Ext w wr)) (fun _ k _=>xs.length-(intOf k).toNat)
 case atStart=>exact⟨0,pool0,[],h0,Nat.zero_le _,rfl,Nat.zero_le _,tH rfl,tH rfl,tH pool0_right,tH (by decide),HD3,HO3,HW3,HR3,HX3⟩
 case round =>
  clear HX3 HR3 HW3 HD3 HO3
  obtain⟨i,p,out,hi,hi40,rfl,hol,HB,HRL,HPR,HPN,HD,HO,HW,HR,HX⟩:=hrel
  obtain⟨bL,oL,hxa⟩:=slr_some (row_rc (f:=sCell) (fun _=>rfl) HW.out) hi
  subst hxa
  obtain⟨ho,hc0⟩:=str_at (row_rc (f:=sCell) (fun _=>rfl) HW.out) hi
  obtain⟨hdr,hmore⟩:=drop_at HLS.out hi
  have HDP:=tH hdr
  have HMO:=tH hmore
  clear hdr hmore
  have hzi:=HZX.out _ (List.getElem_mem hi)
  have r0:wr.cell? ⟨w.heap.size,0,none⟩=some (.string ⟨#[]⟩):=HR.out.cell 0
  have r1:wr.cell? ⟨w.heap.size,1,none⟩=some (.int .i64 0):=HR.out.cell 1
  have r2:wr.cell? ⟨w.heap.size,2,none⟩=some (.int .i64 0):=HR.out.cell 2
  have ro:=HR.out.old
  have rf:=HR.out.fz
  generalize hxi:xs[i]=x at hc0 HDP hzi
  by_cases hlast:i+1=xs.length
  ·have hbl:((i:Int) == (xs.length:Int)-1)=true:=by simp;omega
   have HDN:=tH (show LS.drop i=[dl x] by
    rw[HDP.out]
    congr 1
    exact Classical.byContradiction fun h=>by have:=HMO.out.1 h;omega)
   by_cases hxe:dl x=[]
   ·have hbe:(x.toList == [])=true:=by rw[ByteArray.toList_eq];exact beq_iff_eq.2 hxe
    obtain⟨z,hcv,hz⟩:=row_string HO.out
    have HRE:=tH (show deskR t=(dl z,0,0) by
     rw[HDR.out,HB.out,HRL.out,HDN.out,badL_last,if_pos hxe,if_pos (by decide),hz]
     show (out++[],_,_)=_
     rw[List.append_nil])
    clear hz
    go_wp2
    refine gen_post (fun W9 hW=>?_)
    have HE9:=tH (show Ext w W9 by rw[hW];exact(set3_chgD _ _ _ _ _).ext HX.out (fun b hb=>by simp at hb;omega))
    have HB9:=tH (show Blk W9 w.heap.size [(.string z),(.int .i64 0),(.int .i64 0)] 23 by rw[hW];exact((HR.out.set 0 _).set 1 _).set 2 _)
    have y0:W9.cell? ⟨w.heap.size,0,none⟩=some (.string z):=HB9.out.cell 0
    have y1:W9.cell? ⟨w.heap.size,1,none⟩=some (.int .i64 0):=HB9.out.cell 1
    have y2:W9.cell? ⟨w.heap.size,2,none⟩=some (.int .i64 0):=HB9.out.cell 2
    refine bodyPost_ret (v:=.agg #[(.string z),(.int .i64 0),(.int .i64 0)]) (by simp[results,Tryz.results6,go_sem,y0,y1,y2]) rfl ?_
    rw[HRE.out]
    exact⟨⟨z,rfl,rfl⟩,HE9.out⟩
   ·have hbe:(x.toList == [])=false:=by rw[ByteArray.toList_eq];exact beq_eq_false_iff_ne.2 hxe
    have HRE:=tH (show deskR t=([],(i:Int),3) by
     rw[HDR.out,HB.out,HDN.out,badL_last,if_neg hxe,if_neg (by omega)])
    go_wp2_with fail
    refine(l08Read_any x _ hzi).mono ?_
    rintro e _ ⟨wd,lb,na,nc,nums,rfl,⟨X2,rfl⟩,hrd⟩
    clear hrd
    have HR8:=tH (HR.out.ext ((Ext.refl wr).plus X2))
    have HX8:=tH (HX.out.trans ((Ext.refl wr).plus X2))
    clear r0 r1 r2 ro rf HR HX HW HO HD
    have HR:=HR8
    have HX:=HX8
    clear HR8 HX8
    generalize wr.plus X2=wr at HR HX ⊢
    have r0:wr.cell? ⟨w.heap.size,0,none⟩=some (.string ⟨#[]⟩):=HR.out.cell 0
    have r1:wr.cell? ⟨w.heap.size,1,none⟩=some (.int .i64 0):=HR.out.cell 1
    have r2:wr.cell? ⟨w.heap.size,2,none⟩=some (.int .i64 0):=HR.out.cell 2
    have ro:=HR.out.old
    have rf:=HR.out.fz
    go_wp2
    refine gen_post (fun W9 hW=>?_)
    have HE9:=tH (show Ext w W9 by rw[hW];exact(set3_chgD _ _ _ _ _).ext (HX.out.alloc _) (fun b hb=>by simp at hb;omega))
    have HB9:=tH (show Blk W9 w.heap.size [(.string ⟨#[]⟩),(.int .i64 (i:Int)),(.int .i64 3)] 23 by rw[hW];exact(((HR.out.ext ((Ext.refl _).alloc _)).set 0 _).set 1 _).set 2 _)
    have y0:W9.cell? ⟨w.heap.size,0,none⟩=some (.string ⟨#[]⟩):=HB9.out.cell 0
    have y1:W9.cell? ⟨w.heap.size,1,none⟩=some (.int .i64 (i:Int)):=HB9.out.cell 1
    have y2:W9.cell? ⟨w.heap.size,2,none⟩=some (.int .i64 3):=HB9.out.cell 2
    refine bodyPost_ret (v:=.agg #[(.string ⟨#[]⟩),(.int .i64 (i:Int)),(.int .i64 3)]) (by simp[results,Tryz.results6,go_sem,y0,y1,y2]) rfl ?_
    rw[HRE.out]
    exact⟨⟨⟨#[]⟩,rfl,rfl⟩,HE9.out⟩
  ·have hbl:((i:Int) == (xs.length:Int)-1)=false:=by simp;omega
   have HMR:=tH (HMO.out.2 (by omega))
   go_wp2_with fail
   refine(l08Read_any x _ hzi).mono ?_
   rintro e _ ⟨wd,lb,na,nc,nums,rfl,⟨X2,rfl⟩,hrd⟩
   have HRD:=tH hrd
   clear hrd
   cases hok:okW (splitL 32 (dl x))
   ·have HRE:=tH (show deskR t=([],(i:Int),3) by
     rw[HDR.out,HB.out,HDP.out,badL_more HMR.out,if_pos (Or.inr hok),if_neg (by omega)])
    clear hok
    have HR8:=tH (HR.out.ext ((Ext.refl wr).plus X2))
    have HX8:=tH (HX.out.trans ((Ext.refl wr).plus X2))
    clear r0 r1 r2 ro rf HR HX HW HO HD
    have HR:=HR8
    have HX:=HX8
    clear HR8 HX8
    generalize wr.plus X2=wr at HR HX ⊢
    have r0:wr.cell? ⟨w.heap.size,0,none⟩=some (.string ⟨#[]⟩):=HR.out.cell 0
    have r1:wr.cell? ⟨w.heap.size,1,none⟩=some (.int .i64 0):=HR.out.cell 1
    have r2:wr.cell? ⟨w.heap.size,2,none⟩=some (.int .i64 0):=HR.out.cell 2
    have ro:=HR.out.old
    have rf:=HR.out.fz
    by_cases h40:i=40
    ·subst h40
     go_wp2
     refine gen_post (fun W9 hW=>?_)
     have HE9:=tH (show Ext w W9 by rw[hW];exact(set3_chgD _ _ _ _ _).ext (HX.out.alloc _) (fun b hb=>by simp at hb;omega))
     have HB9:=tH (show Blk W9 w.heap.size [(.string ⟨#[]⟩),(.int .i64 ((40:Nat):Int)),(.int .i64 3)] 23 by rw[hW];exact(((HR.out.ext ((Ext.refl _).alloc _)).set 0 _).set 1 _).set 2 _)
     have y0:W9.cell? ⟨w.heap.size,0,none⟩=some (.string ⟨#[]⟩):=HB9.out.cell 0
     have y1:W9.cell? ⟨w.heap.size,1,none⟩=some (.int .i64 ((40:Nat):Int)):=HB9.out.cell 1
     have y2:W9.cell? ⟨w.heap.size,2,none⟩=some (.int .i64 3):=HB9.out.cell 2
     refine bodyPost_ret (v:=.agg #[(.string ⟨#[]⟩),(.int .i64 ((40:Nat):Int)),(.int .i64 3)]) (by simp[results,Tryz.results6,go_sem,y0,y1,y2]) rfl ?_
     rw[HRE.out]
     exact⟨⟨⟨#[]⟩,rfl,rfl⟩,HE9.out⟩
    ·have hb40:decide ((40:Int)≤(i:Int))=false:=decide_eq_false (by omega)
     go_wp2
     refine gen_post (fun W9 hW=>?_)
     have HE9:=tH (show Ext w W9 by rw[hW];exact(set3_chgD _ _ _ _ _).ext (HX.out.alloc _) (fun b hb=>by simp at hb;omega))
     have HB9:=tH (show Blk W9 w.heap.size [(.string ⟨#[]⟩),(.int .i64 (i:Int)),(.int .i64 3)] 23 by rw[hW];exact(((HR.out.ext ((Ext.refl _).alloc _)).set 0 _).set 1 _).set 2 _)
     have y0:W9.cell? ⟨w.heap.size,0,none⟩=some (.string ⟨#[]⟩):=HB9.out.cell 0
     have y1:W9.cell? ⟨w.heap.size,1,none⟩=some (.int .i64 (i:Int)):=HB9.out.cell 1
     have y2:W9.cell? ⟨w.heap.size,2,none⟩=some (.int .i64 3):=HB9.out.cell 2
     refine bodyPost_ret (v:=.agg #[(.string ⟨#[]⟩),(.int .i64 (i:Int)),(.int .i64 3)]) (by simp[results,Tryz.results6,go_sem,y0,y1,y2]) rfl ?_
     rw[HRE.out]
     exact⟨⟨⟨#[]⟩,rfl,rfl⟩,HE9.out⟩
   ·by_cases h40:i=40
    ·subst h40
     have HRE:=tH (show deskR t=([],((40:Nat):Int),3) by
      rw[HDR.out,HB.out,HDP.out,badL_more HMR.out,if_pos (Or.inl rfl),if_neg (by omega)])
     have HR8:=tH (HR.out.ext ((Ext.refl wr).plus X2))
     have HX8:=tH (HX.out.trans ((Ext.refl wr).plus X2))
     clear r0 r1 r2 ro rf HR HX HW HO HD
     have HR:=HR8
     have HX:=HX8
     clear HR8 HX8
     generalize wr.plus X2=wr at HR HX ⊢
     have r0:wr.cell? ⟨w.heap.size,0,none⟩=some (.string ⟨#[]⟩):=HR.out.cell 0
     have r1:wr.cell? ⟨w.heap.size,1,none⟩=some (.int .i64 0):=HR.out.cell 1
     have r2:wr.cell? ⟨w.heap.size,2,none⟩=some (.int .i64 0):=HR.out.cell 2
     have ro:=HR.out.old
     have rf:=HR.out.fz
     go_wp2
     refine gen_post (fun W9 hW=>?_)
     have HE9:=tH (show Ext w W9 by rw[hW];exact(set3_chgD _ _ _ _ _).ext (HX.out.alloc _) (fun b hb=>by simp at hb;omega))
     have HB9:=tH (show Blk W9 w.heap.size [(.string ⟨#[]⟩),(.int .i64 ((40:Nat):Int)),(.int .i64 3)] 23 by rw[hW];exact(((HR.out.ext ((Ext.refl _).alloc _)).set 0 _).set 1 _).set 2 _)
     have y0:W9.cell? ⟨w.heap.size,0,none⟩=some (.string ⟨#[]⟩):=HB9.out.cell 0
     have y1:W9.cell? ⟨w.heap.size,1,none⟩=some (.int .i64 ((40:Nat):Int)):=HB9.out.cell 1
     have y2:W9.cell? ⟨w.heap.size,2,none⟩=some (.int .i64 3):=HB9.out.cell 2
     refine bodyPost_ret (v:=.agg #[(.string ⟨#[]⟩),(.int .i64 ((40:Nat):Int)),(.int .i64 3)]) (by simp[results,Tryz.results6,go_sem,y0,y1,y2]) rfl ?_
     rw[HRE.out]
     exact⟨⟨⟨#[]⟩,rfl,rfl⟩,HE9.out⟩
    ·have hb40:decide ((40:Int)≤(i:Int))=false:=decide_eq_false (by omega)
     obtain⟨hwd,hlb,hnm,hS⟩:=HRD.out hok
     have HB1:=tH (show badL 0 LS=badL (i+1) (LS.drop (i+1)) by
      rw[HB.out,HDP.out,badL_more HMR.out,if_neg (by rintro (h | h);exact h40 h;rw[hok] at h;cases h)])
     have HR1:=tH (show (runL pool0 LS).2=(out++((runW p (splitL 32 (dl x))).2++[10]))++(runL (runW p (splitL 32 (dl x))).1 (LS.drop (i+1))).2 by
      rw[HRL.out,HDP.out,runL_more HMR.out];simp)
     subst hlb hnm
     have HWD:=tH hwd
     have HOK:=tH hok
     clear hwd hok
     go_upto_region 16 with fail
     refine gen_world (fun W4 hW=>?_)
     have HX4:=tH (show Ext wr W4 by rw[hW];exact xE)
     have HA4:=tH (show Blk W4 (wr.heap.size+X2.n) [.string wd,(.int .i64 (labW (splitL 32 (dl x))).lv),(.int .i64 (labW (splitL 32 (dl x))).st),.slice na (numsW (splitL 32 (dl x))).length nc] 50 by
      rw[hW]
      have h:=Blk.new (w:=wr.plus X2) (cs:=#[.string wd,(.int .i64 (labW (splitL 32 (dl x))).lv),(.int .i64 (labW (splitL 32 (dl x))).st),.slice na (numsW (splitL 32 (dl x))).length nc]) (ty:=50) rfl
      simpa using h)
     have HS4:=tH (show SlR W4 1 rInt (.slice na (numsW (splitL 32 (dl x))).length nc) (numsW (splitL 32 (dl x))) by rw[hW];exact hS.ext rInt_stable xE)
     clear hW hS HRD
     generalize wr.heap.size+X2.n=bX at HA4 ⊢
     have a0:W4.cell? ⟨bX,0,none⟩=some (.string wd):=HA4.out.cell 0
     have a1:W4.cell? ⟨bX,1,none⟩=some (.int .i64 (labW (splitL 32 (dl x))).lv):=HA4.out.cell 1
     have a2:W4.cell? ⟨bX,2,none⟩=some (.int .i64 (labW (splitL 32 (dl x))).st):=HA4.out.cell 2
     have a3:W4.cell? ⟨bX,3,none⟩=some (.slice na (numsW (splitL 32 (dl x))).length nc):=HA4.out.cell 3
     have ao:=HA4.out.old
     have HNE:=tH (show splitL 32 (dl x)≠[] by obtain⟨h,r,e⟩:=splitL_ne 32 (dl x);rw[e];simp)
     have HRT:=tH (runW_right HPR.out (by have:=HPN.out;omega) HOK.out HNE.out)
     clear hc0 ho r0 r1 r2 ro rf hb hbl hb40
     go_wp2_with fail
     refine(line_any bD p (splitL 32 (dl x)) wd _ na nc _ W4 (HD.out.ext HX4.out) HPR.out (by have:=HPN.out;omega) HOK.out HNE.out HWD.out rfl rfl HS4.out).mono ?_
     rintro e W5 ⟨z,rfl,hz,hd,hc,hD5⟩
     obtain⟨cs9,hb9⟩:=(HD.out.ext HX4.out).blk
     have HX5:=tH (hc.ext (HX.out.trans HX4.out) (fun b hb=>by obtain rfl:=List.mem_singleton.1 hb;exact HBD.out))
     have HO5:=tH (rowM_chg (HO.out.ext HX4.out) hb9 (by decide) hc)
     have HW5:=tH (rowM_chg (HW.out.ext HX4.out) hb9 (by decide) hc)
     have HR5:=tH ((HR.out.ext HX4.out).chg hc (blk_two (HR.out.ext HX4.out) hb9 (by decide)))
     have HD5:=tH hD5
     have HDZ:=tH hd
     have HS5:=tH (show w.heap.size≤W5.heap.size from HX5.out.below.size)
     clear hc hD5 hd hb9 a0 a1 a2 a3 ao HA4 HS4 HR HX HW HO HD HX4
     generalize hzz:z++(⟨#[10]⟩:ByteArray)=zz
     have HZS:=tH (show zz.size=z.size+1 by rw[← hzz];exact lf_size z)
     have HZL:=tH (show dl zz=dl z++[10] by rw[← hzz];exact lf_list z)
     clear hzz
     go_wp2_with (at_builtin;go_must (refine Row.appT rfl _ _ rfl w.heap.size HS5.out u7 out (by kernel_rfl) HO5.out zz (by kernel_rfl) ?_ ?_);(have:=HZS.out;omega);intro v6 W6 hR6 hC6;have HR6:=tH hR6;have HC6:=tH hC6;clear hR6 hC6)
     have hb6:∀ b∈blkL u7,w.heap.size≤b:=fun b hb=>(HO5.out.blk b hb).1
     refine⟨⟨i+1,(runW p (splitL 32 (dl x))).1,out++dl zz,by omega,by omega,by push_cast;rfl,?_,HB1,?_,tH HRT.out.1,?_,tH (HD5.out.row HO5.out HC6.out),HR6,tH (rowM_two HW5.out HO5.out (by decide) HC6.out),tH (blkM_row HR5.out HO5.out (by decide) HC6.out),tH (HC6.out.ext HX5.out hb6)⟩,?_⟩
     ·rw[List.length_append,ba_len,HZS.out];omega
     ·rw[HZL.out,HDZ.out];exact HR1
     ·have h1:=HRT.out.2
      have h2:=HPN.out
      exact tH (by push_cast;omega)
     ·show xs.length-((i:Int)+1).toNat < xs.length-(i:Int).toNat
      omega
end Go.Proofs.YtbmbanelodabgaaGreatDoor
