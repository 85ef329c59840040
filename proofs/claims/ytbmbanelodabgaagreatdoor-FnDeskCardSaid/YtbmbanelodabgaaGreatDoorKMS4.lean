/- The reference's desk: take, see, plan. -/
import Derived.Test.YtbmbanelodabgaaGreatDoorKMS3
import Derived.Test.YtbmbanelodabgaaGreatDoorKPD
import Derived.Test.YtbmbanelodabgaaGreatDoorKRRC
import Derived.Test.YtbmbanelodabgaaGreatDoorKDW
set_option maxRecDepth 100000
set_option linter.unusedVariables false
namespace Go.Proofs.YtbmbanelodabgaaGreatDoor
open Go.RowKit Go.Fin1
theorem set3_chgM (w:World) (g:Nat) (a b c:Value):Chg [g] w (((w.setCell ⟨g,0,none⟩ a).setCell ⟨g,1,none⟩ b).setCell ⟨g,2,none⟩ c):=(((Chg.refl _ _).setCell (.inl (by simp)) _).setCell (.inl (by simp)) _).setCell (.inl (by simp)) _
def takeT (id code:Nat):Bs:=if code=0 then (if 0 < id then Lib.itoa id else okT) else errT code
set_option maxHeartbeats 800000 in
theorem take_any (b:Nat) (u0 u1 u2:Value) (ca:Option Addr) (cn cc:Nat) (ja:Option Addr) (jn jc:Nat) (now:Int) (id code:Nat) (w:World) (hb:Blk w b [u0,u1,u2] 47) (hi:id < 1000) (hc:code < 1000) :
  Calls Tryz.prog 34 #[.pointer (some ⟨b,0,none⟩),.agg #[.slice ca cn cc,.slice ja jn jc,(.int .i64 now),(.int .i64 (id:Int)),(.int .i64 (code:Int))]] w fun e w'=>∃ z,e=.returned (.string z)∧z.size≤2000∧dl z=takeT id code∧(code≠0→Ext w w')∧(code=0→Chg [b] w w'∧Blk w' b [.slice ca cn cc,.slice ja jn jc,(.int .i64 now)] 47):=by
 have HB:=tH hb
 have HLT:=tH hb.old
 clear hb
 by_cases hcz:code=0
 case neg =>
  have hne:((code:Int) != 0)=true:=by simp;omega
  have HT:=tH (show takeT id code=errT code by unfold takeT;rw[if_neg hcz])
  go_enter Tryz.func34,Tryz.ntmps34
  go_wp2_with fail
  refine(l08Error_any code _ hc).mono ?_
  rintro e _ ⟨⟨z,rfl,hz,hs⟩,X,rfl⟩
  go_wp2
  go_ret
  exact⟨z,rfl,hs,by rw[HT.out];exact hz,fun _=>xE,fun h=>absurd h hcz⟩
 subst hcz
 have HT:=tH (show takeT id 0=if 0 < id then Lib.itoa id else okT by unfold takeT;rw[if_pos rfl])
 clear hc
 go_enter Tryz.func34,Tryz.ntmps34
 go_upto_region 1 with fail
 refine gen_world (fun W1 hW=>?_)
 have HX1:=tH (show Ext w W1 by rw[hW];exact xE)
 have HB1:=tH (show Blk W1 b [u0,u1,u2] 47 by rw[hW];exact HB.out.ext xE)
 have HP1:=tH (show Blk W1 w.heap.size [.slice ca cn cc,.slice ja jn jc,(.int .i64 now),(.int .i64 (id:Int)),(.int .i64 ((0:Nat):Int))] 43 by rw[hW];exact Blk.new (cs:=#[.slice ca cn cc,.slice ja jn jc,(.int .i64 now),(.int .i64 (id:Int)),(.int .i64 ((0:Nat):Int))]) rfl)
 clear hW
 have p0:W1.cell? ⟨w.heap.size,0,none⟩=some (.slice ca cn cc):=HP1.out.cell 0
 have p1:W1.cell? ⟨w.heap.size,1,none⟩=some (.slice ja jn jc):=HP1.out.cell 1
 have p2:W1.cell? ⟨w.heap.size,2,none⟩=some (.int .i64 now):=HP1.out.cell 2
 have p3:W1.cell? ⟨w.heap.size,3,none⟩=some (.int .i64 (id:Int)):=HP1.out.cell 3
 have p4:W1.cell? ⟨w.heap.size,4,none⟩=some (.int .i64 0):=HP1.out.cell 4
 have po:=HP1.out.old
 have b0:W1.cell? ⟨b,0,none⟩=some u0:=HB1.out.cell 0
 have b1:W1.cell? ⟨b,1,none⟩=some u1:=HB1.out.cell 1
 have b2:W1.cell? ⟨b,2,none⟩=some u2:=HB1.out.cell 2
 have bo:=HB1.out.old
 have bf:=HB1.out.fz
 go_upto_region 4 with fail
 refine gen_world (fun W2 hW=>?_)
 have hC:Chg [b] W1 W2:=by rw[hW];exact set3_chgM _ _ _ _ _
 have HC2:=tH ((HX1.out.chg [b]).trans hC)
 have HB2:=tH (show Blk W2 b [.slice ca cn cc,.slice ja jn jc,(.int .i64 now)] 47 by rw[hW];exact((HB1.out.set 0 _).set 1 _).set 2 _)
 have HP2:=tH (HP1.out.chg hC (by have h:=HLT.out;unfold World.old at h;simp;omega))
 clear hW hC p0 p1 p2 p3 p4 po b0 b1 b2 bo bf HX1 HB1 HP1
 have p3:W2.cell? ⟨w.heap.size,3,none⟩=some (.int .i64 (id:Int)):=HP2.out.cell 3
 have po:=HP2.out.old
 by_cases hid0:0 < id
 ·have hbd:decide ((0:Int) < (id:Int))=true:=decide_eq_true (by omega)
  go_wp2_with fail
  refine(l01Dec9_any id _ (by omega)).mono ?_
  rintro e _ ⟨⟨z,rfl,hz,hs⟩,X,rfl⟩
  go_wp2
  go_ret
  exact⟨z,rfl,by omega,by rw[HT.out,if_pos hid0];exact hz,fun h=>absurd rfl h,fun _=>⟨HC2.out.plus X,HB2.out.ext xE⟩⟩
 ·have hbd:decide ((0:Int) < (id:Int))=false:=decide_eq_false (by omega)
  go_wp2
  go_ret
  exact⟨⟨#[111,107]⟩,rfl,by decide,by rw[HT.out,if_neg hid0];rfl,fun h=>absurd rfl h,fun _=>⟨HC2.out,HB2.out⟩⟩
theorem dec_len_pow:∀ (k u:Nat),u < 10 ^ (k+1)→(Lib.decDigits u).length≤k+1
 | 0,u,h=>by
  rw[Lib.decDigits_one (by simpa using h)];simp
 | k+1,u,h=>by
  by_cases h1:u < 10
  ·rw[Lib.decDigits_one h1];simp
  ·rw[Lib.decDigits,dif_neg h1]
   have:=dec_len_pow k (u / 10) (by rw[Nat.pow_succ] at h;omega)
   simp;omega
theorem lblT_len (x:Lab):(lblT x).length≤5:=by
 unfold lblT
 split
 ·have h:∀ k,(lblN x k).length≤k+2:=fun k=>by
   induction k with
   | zero=>simp[lblN]
   | succ k ih =>
    unfold lblN
    split
    ·rw[List.length_append,List.length_singleton];omega
    ·omega
  have:=h 3;omega
 ·simp
theorem lblT_pos {x:Lab} (h:labR x=true):0 < (lblT x).length:=by
 rw[lblT_yes h]
 have hp:∀ k,2≤(lblN x k).length:=fun k=>by
  induction k with
  | zero=>simp[lblN]
  | succ k ih =>
   unfold lblN
   split
   ·rw[List.length_append,List.length_singleton];omega
   ·omega
 have:=hp 3;omega
theorem planL_bd {p:Pl} (h:poolR p=true):(planL p.clear p.now p.jobs).length≤96∧∀ s∈planL p.clear p.now p.jobs,(labR s.l=true∧(1≤s.id∧s.id≤3))∧(0≤s.start∧s.start≤1000000):=by
 have hp:=poolR_of h
 obtain⟨T,rows,hI⟩:=plan_facts hp.nw hp.cl hp.js (fun j hj=>⟨jobsR_mem hp.js hj,hp.run j hj⟩)
 have hlen:=jobsR_len hp.js
 constructor
 ·rw[hI.out,List.length_map]
  have h1:=hI.js.length_le
  rw[List.length_map,(sortedJ_perm p.jobs).length_eq] at h1
  omega
 ·intro s hs
  rw[hI.out] at hs
  obtain⟨t,ht,rfl⟩:=List.mem_map.1 hs
  have h1:=hI.pf t ht
  have h2:t.1∈p.jobs:=(sortedJ_perm p.jobs).mem_iff.1 (hI.js.subset (List.mem_map_of_mem ht))
  have h3:=(jobR_parts (jobsR_mem hp.js h2)).1
  rw[h1.l,h1.id]
  exact⟨⟨h3.1,h3.2.1⟩,h1.sr⟩
def kBk1 (z:ByteArray):XReg.Kind:=fun v u=>∃ g,v=.slice (some ⟨g,0,none⟩) 1 1∧Blk u g [.string z] 9
theorem kBk1_good (z:ByteArray):XReg.GoodK (kBk1 z):=⟨fun _ _ _ hx ⟨g,hv,h⟩=>⟨g,hv,h.ext hx⟩,_,_,(default:World).heap.size,rfl,Blk.new (w:=default) (cs:=#[.string z]) rfl⟩
theorem blk_str9 {w:World} {b:Nat} {z:ByteArray} {ty:TypeId} (h:b=w.heap.size):Blk (w.alloc (.cells #[.string z] ty)) b [.string z] ty:=Blk.new (cs:=#[.string z]) h
theorem rs_at {B:Nat} {w:World} {b off n c:Nat} {ss:List RS} (h:RowS B w (.slice (some ⟨b,off,none⟩) n c) ss) {i:Nat} (hi:i < ss.length) :
  w.old b∧∀ q u,(RS.cells ss[i])[q]?=some u→w.cell? ⟨b,off+i*5+q,none⟩=some u:=by
 obtain⟨cs,_,hc,he⟩:=slr_cells (row_rc (f:=RS.cells) (fun _=>rfl) h.row) hi
 have he':cs=RS.cells ss[i]:=he
 subst he'
 exact⟨World.old_of_cell (hc 0 _ rfl),hc⟩
set_option maxHeartbeats 1600000 in
theorem planD_any (b:Nat) (p:Pl) (pa:Option Addr) (pc:Nat) (pb:Option Addr) (pd:Nat) (x:Lab) (w:World) (hb:Blk w b [.slice pa p.clear.length pc,.slice pb p.jobs.length pd,(.int .i64 p.now)] 47) (hP:ePool w (p.val (.slice pa p.clear.length pc) (.slice pb p.jobs.length pd)) p) (hR:poolR p=true) :
  Calls Tryz.prog 38 #[.pointer (some ⟨b,0,none⟩),.agg #[(.int .i64 x.lv),(.int .i64 x.st)]] w fun e w'=>(∃ z,e=.returned (.string z)∧dl z=planT p x)∧Ext w w':=by
 have HB:=tH hb
 have HP:=tH hP
 have HR:=tH hR
 clear hb hP hR
 go_enter Tryz.func38,Tryz.ntmps38
 go_upto_region 2 with fail
 refine gen_world (fun W1 hW=>?_)
 have HX1:=tH (show Ext w W1 by rw[hW];exact xE)
 have HB1:=tH (show Blk W1 b _ _ by rw[hW];exact HB.out.ext xE)
 have HP1:=tH (show ePool W1 _ p by rw[hW];exact HP.out.ext xE)
 have HL1:=tH (show Blk W1 w.heap.size [(.int .i64 x.lv),(.int .i64 x.st)] 36 by rw[hW];exact(Blk.new (w:=w) (cs:=#[(.int .i64 x.lv),(.int .i64 x.st)]) rfl).ext xE)
 have HO1:=tH (show Row w.heap.size W1 9 1 sCell (.slice (some ⟨w.heap.size+1,0,none⟩) 0 0) [] by rw[hW];exact Row.madeB' (by simp) (by simp))
 clear hW HB HP
 have b0:W1.cell? ⟨b,0,none⟩=some (.slice pa p.clear.length pc):=HB1.out.cell 0
 have b1:W1.cell? ⟨b,1,none⟩=some (.slice pb p.jobs.length pd):=HB1.out.cell 1
 have b2:W1.cell? ⟨b,2,none⟩=some (.int .i64 p.now):=HB1.out.cell 2
 have bo:=HB1.out.old
 go_wp2_with fail
 refine(l05Plan_any p _ _ (HP1.out.ext xE) (isIn_iff.1 (poolR_jobs HR.out).2) (poolR_clear HR.out).2 (jobsR_len (poolR_jobs HR.out).1) (jobsR_ne (poolR_jobs HR.out).1) (fun j hj=>(poolR_job HR.out hj).1)).mono ?_
 rintro e _ ⟨v',ss,rfl,⟨X2,rfl⟩,hS,hm⟩
 obtain⟨va,vc,rfl⟩:=hS.row.shape
 have HBD:=tH (planL_bd HR.out)
 obtain⟨PL,hPL⟩:∃ PL,planL p.clear p.now p.jobs=PL:=⟨_,rfl⟩
 rw[hPL] at hm
 have HPL:=tH hPL
 have HBD2:=tH (show PL.length≤96∧∀ s∈PL,(labR s.l=true∧(1≤s.id∧s.id≤3))∧(0≤s.start∧s.start≤1000000) by rw[← hPL];exact HBD.out)
 have HM:=tH hm
 have hsl:ss.length≤96:=by
  have h1:=congrArg List.length hm
  rw[List.length_map] at h1
  have:=HBD2.out.1
  omega
 have HS2:=tH (hS.mono HX1.out.below.size)
 have HO2:=tH (HO1.out.ext ((Ext.refl W1).plus X2))
 have HL2:=tH (HL1.out.ext ((Ext.refl W1).plus X2))
 have HX2:=tH (HX1.out.trans ((Ext.refl W1).plus X2))
 generalize W1.plus X2=W2 at HS2 HO2 HL2 HX2 ⊢
 clear hS hm hPL HBD b0 b1 b2 bo HB1 HP1 HL1 HO1 HX1
 go_wp2
 go_loopw [5,7] (fun o i wr=>∃ (n:Nat) (ws:List ByteArray),n≤ss.length∧i=(.int .i64 (n:Int))∧ws.length≤n∧Hid (Row w.heap.size wr 9 1 sCell o ws)∧Hid (ws.map dl=((PL.take n).filter (fun s=>blw s.l x)).map wordS)∧Hid (∀ y∈ws,0 < y.size∧y.size≤100)∧Hid (RowS w.heap.size wr (.slice va ss.length vc) ss)∧Hid (Blk wr w.heap.size [(.int .i64 x.lv),(.int .i64 x.st)] 36)∧Hid (Ext w wr)) (fun _ i _=>ss.length-(intOf i).toNat)
 case atStart=>exact⟨0,[],Nat.zero_le _,rfl,Nat.le_refl _,HO2,tH rfl,tH (by simp),HS2,HL2,HX2⟩
 case round =>
  clear HS2 HO2 HL2 HX2
  obtain⟨n,ws,hn,rfl,hwl,HO,HW,HZ,HS,HL,HX⟩:=hrel
  obtain⟨oa,oc,rfl⟩:=HO.out.shape
  have hsz:=tH HX.out.below.size
  by_cases hlt:n < ss.length
  ·obtain⟨bS,oS,hva⟩:=slr_some (row_rc (f:=RS.cells) (fun _=>rfl) HS.out.row) hlt
   subst hva
   obtain⟨so,hcs⟩:=rs_at HS.out hlt
   have hnP:n < PL.length:=by have:=congrArg List.length HM.out;rw[List.length_map] at this;omega
   have HTK:=tH (show PL.take (n+1)=PL.take n++[(ss[n]).1] by
    rw[List.take_succ_eq_append_getElem hnP]
    congr 2
    have h1:(ss.map Prod.fst)[n]'(by rw[List.length_map];exact hlt)=PL[n]:=by simp only[HM.out]
    rw[← h1,List.getElem_map])
   have hbd:=HBD2.out.2 (ss[n]).1 (by rw[← HM.out];exact List.mem_map_of_mem (List.getElem_mem hlt))
   clear hnP
   obtain⟨r,hr⟩:∃ r,ss[n]=r:=⟨_,rfl⟩
   rw[hr] at hcs HTK hbd
   clear hr
   obtain⟨⟨⟨lv,st⟩,id,start,nodes⟩,na,nc⟩:=r
   obtain⟨N,rfl⟩:=Int.eq_ofNat_of_zero_le (show 0≤id by have:=hbd.1.2.1;simp only at this;omega)
   obtain⟨M,rfl⟩:=Int.eq_ofNat_of_zero_le (show 0≤start from hbd.2.1)
   have HBN:=tH (show labR ⟨lv,st⟩=true∧N≤3∧M≤1000000 from ⟨hbd.1.1,by have:=hbd.1.2.2;simp only at this;omega,by have:=hbd.2.2;simp only at this;omega⟩)
   have c0:wr.cell? ⟨bS,oS+n*5,none⟩=some (.int .i64 lv):=hcs 0 _ rfl
   have c1:wr.cell? ⟨bS,oS+n*5+1,none⟩=some (.int .i64 st):=hcs 1 _ rfl
   have c2:wr.cell? ⟨bS,oS+n*5+2,none⟩=some (.int .i64 (N:Int)):=hcs 2 _ rfl
   have c3:wr.cell? ⟨bS,oS+n*5+3,none⟩=some (.int .i64 (M:Int)):=hcs 3 _ rfl
   have l0:wr.cell? ⟨w.heap.size,0,none⟩=some (.int .i64 x.lv):=HL.out.cell 0
   have l1:wr.cell? ⟨w.heap.size,1,none⟩=some (.int .i64 x.st):=HL.out.cell 1
   have lo:=HL.out.old
   clear hcs hbd
   go_upto_region 6 with fail
   (refine wp_region_x 7 (by kernel_rfl) (by kernel_rfl) (by kernel_rfl) ?_;(iterate 7 (apply XReg.step;(case h=>(intro w' hw';obtain⟨X',rfl⟩:=hw';go_wp2_with ((go_at_call 64;refine(specbelow_any _ _ _ _ _).mono ?_;rintro e _ ⟨rfl,X,rfl⟩));exact⟨rfl,xE⟩));(case hv=>kernel_rfl)));refine XReg.doneN (fun X=>?_))
   cases hbl:blw ⟨lv,st⟩ ⟨x.lv,x.st⟩
   ·have HF:=tH (show (PL.take (n+1)).filter (fun s=>blw s.l x)=(PL.take n).filter (fun s=>blw s.l x) by
     rw[HTK.out,List.filter_append,List.filter_cons,if_neg (by simp only[Bool.not_eq_true];exact hbl)];simp)
    clear hbl
    go_wp2
    exact⟨⟨n+1,ws,by omega,by go_num,by omega,tH (HO.out.ext xE),tH (by rw[HF.out];exact HW.out),HZ,tH (HS.out.ext xE),tH (HL.out.ext xE),tH (HX.out.trans xE)⟩,by simp[intOf];omega⟩
   have HF:=tH (show (PL.take (n+1)).filter (fun s=>blw s.l x)=(PL.take n).filter (fun s=>blw s.l x)++[⟨⟨lv,st⟩,(N:Int),(M:Int),nodes⟩] by
    rw[HTK.out,List.filter_append,List.filter_cons,if_pos hbl];rfl)
   clear hbl
   go_upto_region 7 with fail
   obtain⟨zL,hzL⟩:∃ z,(⟨(lblT ⟨lv,st⟩).toArray⟩:ByteArray)=z:=⟨_,rfl⟩
   obtain⟨zI,hzI⟩:∃ z,(⟨(Lib.decDigits N).toArray⟩:ByteArray)=z:=⟨_,rfl⟩
   obtain⟨zS,hzS⟩:∃ z,(⟨(Lib.decDigits M).toArray⟩:ByteArray)=z:=⟨_,rfl⟩
   have HZL:=tH hzL
   have HZI:=tH hzI
   have HZS:=tH hzS
   have hN3:N≤3:=HBN.out.2.1
   have hM6:M≤1000000:=HBN.out.2.2
   have hl5:zL.size≤5:=by rw[← hzL];show (lblT ⟨lv,st⟩).toArray.size≤5;rw[List.size_toArray];exact lblT_len _
   have hi7:zI.size≤7:=by rw[← hzI];show (Lib.decDigits N).toArray.size≤7;rw[List.size_toArray];exact dec_len_pow 6 N (by omega)
   have hs7:zS.size≤7:=by rw[← hzS];show (Lib.decDigits M).toArray.size≤7;rw[List.size_toArray];exact dec_len_pow 6 M (by omega)
   have HZ0:=tH (show 0 < zL.size by rw[← hzL];show 0 < (lblT ⟨lv,st⟩).toArray.size;rw[List.size_toArray];exact lblT_pos HBN.out.1)
   clear hzL hzI hzS
   (refine wp_region_y 24 [(fun u _=>u=(.slice oa ws.length oc)),(fun u _=>u=(.slice (some ⟨bS,oS,none⟩) ss.length vc)),(fun u _=>u=((.int .i64 (n:Int)))),(fun u _=>u=(.pointer (some ⟨bS,oS+n*5,none⟩))),(fun u _=>u=(.pointer (some ⟨bS,oS+n*5,none⟩))),(fun u _=>u=(.agg #[(.int .i64 lv),(.int .i64 st)])),(fun u _=>u=(.string zL)),(fun u _=>u=(.string (zL++⟨#[35]⟩))),(fun u _=>u=(.slice (some ⟨bS,oS,none⟩) ss.length vc)),(fun u _=>u=((.int .i64 (n:Int)))),(fun u _=>u=(.pointer (some ⟨bS,oS+n*5,none⟩))),(fun u _=>u=(.pointer (some ⟨bS,oS+n*5+2,none⟩))),(fun u _=>u=((.int .i64 (N:Int)))),(fun u _=>u=(.string zI)),(fun u _=>u=(.string (zL++⟨#[35]⟩++zI))),(fun u _=>u=(.string (zL++⟨#[35]⟩++zI++⟨#[64]⟩))),(fun u _=>u=(.slice (some ⟨bS,oS,none⟩) ss.length vc)),(fun u _=>u=((.int .i64 (n:Int)))),(fun u _=>u=(.pointer (some ⟨bS,oS+n*5,none⟩))),(fun u _=>u=(.pointer (some ⟨bS,oS+n*5+3,none⟩))),(fun u _=>u=((.int .i64 (M:Int)))),(fun u _=>u=(.string zS)),(fun u _=>u=(.string (zL++⟨#[35]⟩++zI++⟨#[64]⟩++zS))),kBk1 (zL++⟨#[35]⟩++zI++⟨#[64]⟩++zS)] (by kernel_rfl) (by kernel_rfl) (by kernel_rfl) rfl ?_ (by (repeat' (first | exact trivial | exact XReg.GoodK.same _ default | refine And.intro ?_ ?_));all_goals exact kBk1_good _))
   refine YReg.va (.slice oa ws.length oc) ?_
   refine YReg.va (.slice (some ⟨bS,oS,none⟩) ss.length vc) ?_
   refine YReg.va ((.int .i64 (n:Int))) ?_
   refine YReg.va (.pointer (some ⟨bS,oS+n*5,none⟩)) ?_
   refine YReg.va (.pointer (some ⟨bS,oS+n*5,none⟩)) ?_
   refine YReg.va (.agg #[(.int .i64 lv),(.int .i64 st)]) ?_
   (apply YReg.val (.string zL);(case h=>(intro w' hw' hF';obtain⟨X',rfl⟩:=hw';have HF':=tH hF';clear hF';go_wp2_with ((go_at_call 56;refine(specLabelText_any ⟨lv,st⟩ _).mono ?_;rintro e _ ⟨rfl,Y,rfl⟩;rw[HZL.out]));exact⟨rfl,xE⟩));(case hv=>kernel_rfl))
   (apply YReg.val (.string (zL++⟨#[35]⟩));(case h=>(intro w' hw' hF';obtain⟨X',rfl⟩:=hw';have HF':=tH hF';clear hF';go_wp2_with (fail);exact⟨rfl,xE⟩));(case hv=>kernel_rfl))
   refine YReg.va (.slice (some ⟨bS,oS,none⟩) ss.length vc) ?_
   refine YReg.va ((.int .i64 (n:Int))) ?_
   refine YReg.va (.pointer (some ⟨bS,oS+n*5,none⟩)) ?_
   refine YReg.va (.pointer (some ⟨bS,oS+n*5+2,none⟩)) ?_
   refine YReg.va ((.int .i64 (N:Int))) ?_
   (apply YReg.val (.string zI);(case h=>(intro w' hw' hF';obtain⟨X',rfl⟩:=hw';have HF':=tH hF';clear hF';go_wp2_with ((go_at_call 40;refine(l01DecN_any N _ (by omega)).mono ?_;rintro e _ ⟨rfl,Y,rfl⟩;rw[HZI.out]));exact⟨rfl,xE⟩));(case hv=>kernel_rfl))
   (apply YReg.val (.string (zL++⟨#[35]⟩++zI));(case h=>(intro w' hw' hF';obtain⟨X',rfl⟩:=hw';have HF':=tH hF';clear hF';go_wp2_with (fail);exact⟨rfl,xE⟩));(case hv=>kernel_rfl))
   (apply YReg.val (.string (zL++⟨#[35]⟩++zI++⟨#[64]⟩));(case h=>(intro w' hw' hF';obtain⟨X',rfl⟩:=hw';have HF':=tH hF';clear hF';go_wp2_with (fail);exact⟨rfl,xE⟩));(case hv=>kernel_rfl))
   refine YReg.va (.slice (some ⟨bS,oS,none⟩) ss.length vc) ?_
   refine YReg.va ((.int .i64 (n:Int))) ?_
   refine YReg.va (.pointer (some ⟨bS,oS+n*5,none⟩)) ?_
   refine YReg.va (.pointer (some ⟨bS,oS+n*5+3,none⟩)) ?_
   refine YReg.va ((.int .i64 (M:Int))) ?_
   (apply YReg.val (.string zS);(case h=>(intro w' hw' hF';obtain⟨X',rfl⟩:=hw';have HF':=tH hF';clear hF';go_wp2_with ((go_at_call 40;refine(l01DecN_any M _ (by omega)).mono ?_;rintro e _ ⟨rfl,Y,rfl⟩;rw[HZS.out]));exact⟨rfl,xE⟩));(case hv=>kernel_rfl))
   (apply YReg.val (.string (zL++⟨#[35]⟩++zI++⟨#[64]⟩++zS));(case h=>(intro w' hw' hF';obtain⟨X',rfl⟩:=hw';have HF':=tH hF';clear hF';go_wp2_with (fail);exact⟨rfl,xE⟩));(case hv=>kernel_rfl))
   refine YReg.kind (fun w' hw' hF'=>?_) (fun v w1 hK=>?_)
   ·obtain⟨X',rfl⟩:=hw'
    clear hF'
    go_wp2
    exact⟨xE,_,rfl,blk_str9 (by simp)⟩
   obtain⟨g1,rfl,-⟩:=hK
   clear w1
   refine YReg.done (fun X9 hF=>?_)
   obtain⟨g2,hv,hB9⟩:=hF 23 (kBk1 (zL++⟨#[35]⟩++zI++⟨#[64]⟩++zS),.slice (some ⟨g1,0,none⟩) 1 1) (by kernel_rfl)
   obtain rfl:g1=g2:=by simpa using hv
   have HB9:=tH hB9
   have HOx:=tH (HO.out.ext (((Ext.refl wr).plus X).plus X9))
   have HSx:=tH (HS.out.ext (((Ext.refl wr).plus X).plus X9))
   have HLx:=tH (HL.out.ext (((Ext.refl wr).plus X).plus X9))
   have HXx:=tH (HX.out.trans (((Ext.refl wr).plus X).plus X9))
   have hzz:=tH HXx.out.below.size
   obtain⟨z,hz⟩:∃ z,(zL++⟨#[35]⟩++zI++⟨#[64]⟩++zS)=z:=⟨_,rfl⟩
   have HDL:=tH (show dl z=wordS ⟨⟨lv,st⟩,(N:Int),(M:Int),nodes⟩ by
    rw[← hz]
    unfold wordS
    rw[Lib.itoa_nonneg,Lib.itoa_nonneg]
    show ((zL++⟨#[35]⟩++zI++⟨#[64]⟩++zS)).data.toList=_
    rw[← HZL.out,← HZI.out,← HZS.out]
    simp)
   have HSZ:=tH (show 0 < z.size∧z.size≤100 by
    rw[← hz]
    have h1:(⟨#[35]⟩:ByteArray).size=1:=rfl
    have h2:(⟨#[64]⟩:ByteArray).size=1:=rfl
    simp only[ByteArray.size_append,h1,h2]
    have:=HZ0.out
    omega)
   rw[hz] at HB9
   clear hF hv hB9 hz hl5 hi7 hs7 hN3 hM6 HZL HZI HZS HZ0 c0 c1 c2 c3 l0 l1 lo so HO HS HL HX
   generalize (wr.plus X).plus X9=W9 at HB9 HOx HSx HLx HXx hzz ⊢
   simp only[List.drop_succ_cons,List.drop_zero]
   go_wp2_with (at_builtin;go_must (refine Row.appC (f:=sCell) el_Str9 rfl _ _ rfl w.heap.size hzz.out _ ws rfl HOx.out ⟨g1,0,none⟩ 1 1 [z] rfl rfl (fun _=>rfl) ?_ ?_ ?_ ?_ ?_);(intro i u hi;rw[Addr.add_lit,Nat.zero_add,HB9.out.cell i];simpa [sCell] using hi);(intro u hu;simp only[sCell,List.flatMap_cons,List.flatMap_nil,List.append_nil] at hu;obtain rfl:=List.mem_singleton.1 hu;rfl);(unfold maxLen;simp;omega);(simp;omega);intro v' w2 hR hC;have HR2:=tH hR;have HC2:=tH hC;clear hR hC)
   exact⟨⟨n+1,ws++[z],by omega,by go_num,by simp;omega,HR2,tH (by rw[List.map_append,HW.out,HF.out,List.map_append,List.map_cons,List.map_nil,HDL.out];rfl),tH (fun y hy=>by
    rcases List.mem_append.1 hy with hy | hy
    ·exact HZ.out y hy
    ·obtain rfl:=List.mem_singleton.1 hy;exact HSZ.out),tH (HSx.out.chgT HC2.out (other_row HOx.out (by decide)) (other_row HOx.out (by decide))),tH (blkM_row HLx.out HOx.out (by decide) HC2.out),tH (HC2.out.ext HXx.out (fun b hb=>(HOx.out.blk b hb).1))⟩,by simp[intOf];omega⟩
  ·obtain rfl:n=ss.length:=by omega
   have HPT:=tH (show joinW (ws.map dl)=planT p x by
    unfold planT
    rw[HW.out,HPL.out]
    rw[List.take_of_length_le (by have h1:=congrArg List.length HM.out;rw[List.length_map] at h1;omega)])
   clear hlt hn
   go_wp2_with fail
   refine(l08Words_any _ ws _ (row_rc (fun _=>rfl) (HO.out.ext xE)) (by omega) HZ.out).mono ?_
   rintro e _ ⟨⟨z,rfl,hz⟩,X9,rfl⟩
   go_wp2
   go_ret
   exact⟨⟨z,rfl,by rw[hz,HPT.out]⟩,HX.out.trans xE⟩
end Go.Proofs.YtbmbanelodabgaaGreatDoor
