/- The reference's lists of words: l01Split, l08Words, l08Error, l08Many. -/
import Derived.Test.YtbmbanelodabgaaGreatDoorKDW
import Derived.Test.YtbmbanelodabgaaGreatDoorKVBC
import Derived.Test.YtbmbanelodabgaaGreatDoorKVD
import Derived.Test.YtbmbanelodabgaaGreatDoorKDSH
set_option maxRecDepth 100000
set_option linter.unusedVariables false
namespace Go.Proofs.YtbmbanelodabgaaGreatDoor
open Go.RowKit Go.Fin1
theorem info_Str9:(Tryz.prog.info? 9).map (fun i=>(i.zero,i.size,i.bytes))=some (some (.string ⟨#[]⟩),1,16):=by kernel_rfl
theorem el_Str9:ElemInfo Tryz.prog 29 9 1 16:=by
 obtain⟨i,hi,hz,hs,hb⟩:=info_parts info_Str9
 exact⟨Tryz.underlying29,⟨i,_,hi,hz,hs,hb,rfl⟩,by decide⟩
abbrev dl (t:ByteArray):Bs:=t.data.toList
theorem dl_extract (t:ByteArray) (i j:Nat):dl (t.extract i j)=((dl t).drop i).take (j-i):=by
 show (t.extract i j).data.toList=_
 simp[ByteArray.data_extract]
theorem drop_parts (t:ByteArray) {i j:Nat} (h:i≤j) (hj:j < t.size):(dl t).drop i=((dl t).drop i).take (j-i)++t[j] :: (dl t).drop (j+1):=by
 have h1:=List.take_append_drop (j-i) ((dl t).drop i)
 rw[List.drop_drop,show i+(j-i)=j by omega,ba_get t hj] at h1
 exact h1.symm
theorem take_parts (t:ByteArray) {i j:Nat} (h:i≤j) (hj:j < t.size):((dl t).drop i).take (j+1-i)=((dl t).drop i).take (j-i)++[t[j]]:=by
 have hl:(((dl t).drop i).take (j-i)).length=j-i:=by rw[List.length_take,List.length_drop,ba_len];omega
 rw[drop_parts t h hj,List.take_append,hl,List.take_of_length_le (by rw[hl];omega),show j+1-i-(j-i)=1 by omega]
 congr 1
 rw[← drop_parts t h hj]
set_option maxHeartbeats 800000 in
theorem l01Split_any (t:ByteArray) (c:UInt8) (w:World) (ht:t.size≤8000) :
  Calls Tryz.prog 15 #[.string t,.int .u8 (c.toNat:Int)] w fun e w'=>∃ (a:Option Addr) (cp:Nat) (xs:List ByteArray),e=.returned (.slice a xs.length cp)∧Ext w w'∧Row w.heap.size w' 9 1 sCell (.slice a xs.length cp) xs∧xs.map dl=splitL c (dl t):=by
 go_enter Tryz.func15,Tryz.ntmps15
 go_wp2
 go_loopw [5,6,7] (fun o f i wr=>∃ (xs:List ByteArray) (fr j:Nat),j≤t.size∧fr≤j∧xs.length≤j∧f=(.int .i64 (fr:Int))∧i=(.int .i64 (j:Int))∧Hid (Row w.heap.size wr 9 1 sCell o xs)∧Hid (xs.map dl++splitL c ((dl t).drop fr)=splitL c (dl t))∧Hid (∀ b∈((dl t).drop fr).take (j-fr),b≠c)∧Hid (Ext w wr)) (fun _ _ i _=>t.size-(intOf i).toNat)
 case atStart=>exact⟨[],0,0,Nat.zero_le _,Nat.le_refl _,Nat.le_refl _,rfl,rfl,tH (Row.madeB' (by simp) (by simp)),tH rfl,tH (by simp),tH xE⟩
 case round =>
  obtain⟨xs,fr,j,hj,hfr,hxl,rfl,rfl,HR,HM,HB,HX⟩:=hrel
  obtain⟨oa,oc,rfl⟩:=HR.out.shape
  have hsz:=tH HX.out.below.size
  by_cases hlt:j < t.size
  ·have HD:=tH (drop_parts t hfr hlt)
   have HT:=tH (take_parts t hfr hlt)
   by_cases hc:t[j]=c
   ·have hcb:(((t[j]).toNat:Int) == (c.toNat:Int))=true:=by rw[hc];simp
    have HC:=tH hc
    clear hc
    go_wp2_with (at_builtin;go_must (refine Row.appN (f:=sCell) el_Str9 rfl _ _ rfl w.heap.size (by simpa using hsz.out) _ xs rfl HR.out (t.extract fr j) rfl _ ?_ rfl (fun _=>rfl) ?_ ?_ ?_ ?_);(simp);(simp[Value.oneCell']);(unfold maxLen;omega);(omega);intro v' w8 hR8 hc8;have HR8:=tH hR8;have HC8:=tH hc8;clear hR8 hc8)
    exact⟨⟨xs++[t.extract fr j],j+1,j+1,by omega,Nat.le_refl _,by simp;omega,by go_num,by go_num,HR8,tH (by
     rw[← HM.out,HD.out,HC.out,splitL_pre HB.out,List.map_append,List.map_cons,List.map_nil,dl_extract,List.append_assoc];rfl),tH (by simp),tH (HC8.out.ext HX.out (fun b hb=>(HR.out.blk b hb).1))⟩,by simp[intOf];omega⟩
   ·have hcb:(((t[j]).toNat:Int) == (c.toNat:Int))=false:=by
     rw[beq_eq_false_iff_ne]
     intro e
     exact hc (UInt8.toNat_inj.1 (by omega))
    have HN:=tH (show ∀ b∈((dl t).drop fr).take (j+1-fr),b≠c from fun b hb=>by
     rw[HT.out] at hb
     rcases List.mem_append.1 hb with hb | hb
     ·exact HB.out b hb
     ·obtain rfl:=List.mem_singleton.1 hb;exact hc)
    clear hc
    go_wp2
    exact⟨⟨xs,fr,j+1,by omega,by omega,by omega,rfl,by go_num,HR,HM,HN,HX⟩,by simp[intOf];omega⟩
  ·obtain rfl:j=t.size:=by omega
   have HE:=tH (show xs.map dl++[dl (t.extract fr t.size)]=splitL c (dl t) by
    rw[← HM.out,dl_extract]
    have h1:=HB.out
    rw[List.take_of_length_le (by rw[List.length_drop,ba_len];exact Nat.le_refl _)] at h1 ⊢
    rw[splitL_none h1])
   clear hj hlt
   go_wp2_with (at_builtin;go_must (refine Row.appN (f:=sCell) el_Str9 rfl _ _ rfl w.heap.size (by simpa using hsz.out) _ xs rfl HR.out (t.extract fr t.size) rfl _ ?_ rfl (fun _=>rfl) ?_ ?_ ?_ ?_);(simp);(simp[Value.oneCell']);(unfold maxLen;omega);(omega);intro v' w8 hR8 hc8;have HR8:=tH hR8;have HC8:=tH hc8;clear hR8 hc8)
   obtain⟨ra,rcp,rfl⟩:=HR8.out.shape
   go_ret
   exact⟨ra,rcp,xs++[t.extract fr t.size],rfl,HC8.out.ext HX.out (fun b hb=>(HR.out.blk b hb).1),HR8.out,by rw[List.map_append,← HE.out];rfl⟩
theorem inter_one (b:Bs):[32].intercalate [b]=b:=by simp[List.intercalate]
theorem inter_snoc (b:Bs):∀ a:List Bs,a≠[]→[32].intercalate (a++[b])=[32].intercalate a++32 :: b
 | [],h=>absurd rfl h
 | [x],_=>by simp[List.intercalate]
 | x :: y :: r,_=>by
  have ih:=inter_snoc b (y :: r) (by simp)
  simp only[List.intercalate,List.cons_append,List.intersperse_cons_cons,List.flatten_cons,List.append_assoc] at ih ⊢
  rw[ih]
set_option maxHeartbeats 800000 in
theorem l08Words_any (v:Value) (xs:List ByteArray) (w:World) (h:SlR w 1 (rc sCell) v xs) (hl:xs.length≤1000) (hz:∀ x∈xs,0 < x.size∧x.size≤100) :
  Calls Tryz.prog 65 #[v] w fun e w'=>(∃ z,e=.returned (.string z)∧dl z=joinW (xs.map dl))∧Ext w w':=by
 obtain⟨a,cp,rfl⟩:=h.len
 have HS:=tH h
 have HZ:=tH hz
 clear h hz
 go_enter Tryz.func65,Tryz.ntmps65
 go_wp2
 go_loopw [3,4] (fun u i wr=>∃ (n:Nat) (t:ByteArray),n≤xs.length∧i=(.int .i64 (n:Int))∧u=.string t∧t.size≤n*101∧Hid (dl t=[32].intercalate ((xs.take n).map dl))∧Hid (0 < n→0 < t.size)∧Ext w wr) (fun _ i _=>xs.length-(intOf i).toNat)
 case atStart=>exact⟨0,⟨#[]⟩,Nat.zero_le _,rfl,rfl,by simp[ByteArray.size],tH rfl,tH (fun h=>absurd h (Nat.lt_irrefl 0)),xE⟩
 case round =>
  obtain⟨n,t,hn,rfl,rfl,ht,HM,HP,⟨X,rfl⟩⟩:=hrel
  by_cases hlt:n < xs.length
  ·obtain⟨b,off,rfl⟩:=slr_some HS.out hlt
   obtain⟨ho,hc⟩:=str_at HS.out hlt
   have hx:=HZ.out _ (List.getElem_mem hlt)
   have hxs:xs[n].size≤100:=hx.2
   have HX:=tH hx.1
   clear hx
   have HT:=tH (show (xs.take (n+1)).map dl=(xs.take n).map dl++[dl xs[n]] by rw[List.take_succ_eq_append_getElem hlt,List.map_append];rfl)
   by_cases hn0:0 < n
   ·have hb:decide ((0:Int) < (n:Int))=true:=decide_eq_true (by omega)
    go_wp2
    exact⟨⟨n+1,_,by omega,by go_num,rfl,by have h32:(⟨#[32]⟩:ByteArray).size=1:=rfl;simp only[ByteArray.size_append,h32];omega,tH (by
     rw[HT.out,inter_snoc _ _ (by intro e;have:=congrArg List.length e;rw[List.length_map,List.length_take,List.length_nil] at this;omega),← HM.out]
     show (t++⟨#[32]⟩++xs[n]).data.toList=_
     simp),tH (fun _=>by simp only[ByteArray.size_append];have:=HX.out;omega),xE⟩,by simp[intOf];omega⟩
   ·obtain rfl:n=0:=by omega
    rw[Nat.add_zero] at hc
    clear HP hn0
    go_wp2
    exact⟨⟨1,_,by omega,by go_num,rfl,by simp only[ByteArray.size_append];omega,tH (by
     rw[HT.out]
     simp only[List.take_zero,List.map_nil,List.nil_append]
     rw[inter_one]
     have h0:dl t=[]:=HM.out
     show (t++xs[0]).data.toList=_
     rw[ByteArray.data_append,Array.toList_append]
     show dl t++dl xs[0]=_
     rw[h0];rfl),tH (fun _=>by simp only[ByteArray.size_append];have:=HX.out;omega),xE⟩,by simp[intOf];omega⟩
  ·obtain rfl:n=xs.length:=by omega
   have hM:=HM.out
   rw[List.take_length] at hM
   by_cases h0:xs.length=0
   ·have hx0:xs=[]:=List.length_eq_zero_iff.1 h0
    subst hx0
    have ht0:t=⟨#[]⟩:=by
     have h1:t.data.toList=[]:=hM
     exact ByteArray.ext (Array.ext' h1)
    subst ht0
    clear hlt hn HM HP hM h0
    go_wp2
    go_ret
    exact⟨⟨_,rfl,rfl⟩,xE⟩
   ·have hne:t.toList.isEmpty=false:=by
     have h1:=HP.out (by omega)
     rw[ByteArray.toList_eq]
     cases hq:t.data.toList with
     | nil=>exfalso;have h2:=ba_len t;rw[hq] at h2;simp at h2;omega
     | cons x y=>rfl
    have HJ:=tH (show dl t=joinW (xs.map dl) by
     unfold joinW
     rw[if_neg (by intro e;exact h0 (by have:=congrArg List.length e;simpa using this))]
     exact hM)
    clear hlt hn HM HP hM h0
    go_wp2
    go_ret
    exact⟨⟨_,rfl,HJ.out⟩,xE⟩
theorem dec_len_le (u:Nat):(Lib.decDigits u).length≤u+1:=by
 induction u using Nat.strongRecOn with
 | _ u ih =>
  by_cases h:u < 10
  ·rw[Lib.decDigits_one h];simp
  ·rw[Lib.decDigits,dif_neg h]
   have:=ih (u / 10) (by omega)
   simp;omega
theorem l01Dec9_any (N:Nat) (w:World) (hN:N < 1000000000000000000) :
  Calls Tryz.prog 40 #[(.int .i64 (N:Int))] w fun e w'=>(∃ z,e=.returned (.string z)∧dl z=Lib.itoa N∧z.size≤N+1)∧Ext w w':=by
 refine(l01DecN_any N w hN).mono ?_
 rintro e w' ⟨rfl,hx⟩
 exact⟨⟨_,rfl,by rw[Lib.itoa_nonneg],by
  show (Lib.decDigits N).toArray.size≤N+1
  rw[List.size_toArray];exact dec_len_le N⟩,hx⟩
set_option maxHeartbeats 800000 in
theorem l08Error_any (c:Nat) (w:World) (hc:c < 1000) :
  Calls Tryz.prog 57 #[(.int .i64 (c:Int))] w fun e w'=>(∃ z,e=.returned (.string z)∧dl z=errT c∧z.size≤2000)∧Ext w w':=by
 go_enter Tryz.func57,Tryz.ntmps57
 go_wp2_with fail
 refine(l01Dec9_any c _ (by omega)).mono ?_
 rintro e _ ⟨⟨z,rfl,hz,hs⟩,X,rfl⟩
 have HZ:=tH hz
 have hs2:z.size≤1000:=by omega
 clear hz hs
 go_wp2
 go_ret
 exact⟨⟨_,rfl,by
  unfold errT
  rw[← HZ.out]
  show (_++z).data.toList=_
  rw[ByteArray.data_append,Array.toList_append],by
  have h6:(⟨#[101,114,114,111,114,32]⟩:ByteArray).size=6:=rfl
  rw[ByteArray.size_append,h6];omega⟩,xE⟩
def many8 (w:Bs):Int:=if w=kSubmit then 3 else if w=kDone∨w=kHold∨w=kWait∨w=kTick then 1 else if w=kSee∨w=kPlan then 0 else -1
theorem ba_of {t:ByteArray} {l:Bs} (h:dl t=l):t=⟨l.toArray⟩:=ByteArray.ext (Array.ext' (by rw[List.toList_toArray];exact h))
theorem ba_ne {t:ByteArray} {l:Bs} (h:¬ dl t=l):(t.toList == l)=false:=by
 rw[beq_eq_false_iff_ne,ByteArray.toList_eq];exact h
set_option maxHeartbeats 800000 in
theorem l08Many_any (t:ByteArray) (w:World) :
  Calls Tryz.prog 31 #[.string t] w fun e w'=>e=.returned (.int .i64 (many8 (dl t)))∧Ext w w':=by
 obtain⟨m,hm⟩:∃ m,many8 (dl t)=m:=⟨_,rfl⟩
 rw[hm]
 have HM:=tH hm
 clear hm
 by_cases h1:dl t=kSubmit
 ·obtain rfl:=ba_of h1
  have hm:m=3:=by rw[← HM.out];unfold many8;rw[if_pos h1]
  subst hm
  unfold kSubmit
  clear HM h1
  go_enter Tryz.func31,Tryz.ntmps31
  go_wp2
  go_ret
  exact⟨rfl,xE⟩
 by_cases h2:dl t=kDone
 ·obtain rfl:=ba_of h2
  have hm:m=1:=by rw[← HM.out];unfold many8;rw[if_neg h1,if_pos (by simp[h2])]
  subst hm
  unfold kDone
  clear HM h1 h2
  go_enter Tryz.func31,Tryz.ntmps31
  go_wp2
  go_ret
  exact⟨rfl,xE⟩
 by_cases h3:dl t=kHold
 ·obtain rfl:=ba_of h3
  have hm:m=1:=by rw[← HM.out];unfold many8;rw[if_neg h1,if_pos (by simp[h3])]
  subst hm
  unfold kHold
  clear HM h1 h2 h3
  go_enter Tryz.func31,Tryz.ntmps31
  go_wp2
  go_ret
  exact⟨rfl,xE⟩
 by_cases h4:dl t=kWait
 ·obtain rfl:=ba_of h4
  have hm:m=1:=by rw[← HM.out];unfold many8;rw[if_neg h1,if_pos (by simp[h4])]
  subst hm
  unfold kWait
  clear HM h1 h2 h3 h4
  go_enter Tryz.func31,Tryz.ntmps31
  go_wp2
  go_ret
  exact⟨rfl,xE⟩
 by_cases h5:dl t=kTick
 ·obtain rfl:=ba_of h5
  have hm:m=1:=by rw[← HM.out];unfold many8;rw[if_neg h1,if_pos (by simp[h5])]
  subst hm
  unfold kTick
  clear HM h1 h2 h3 h4 h5
  go_enter Tryz.func31,Tryz.ntmps31
  go_wp2
  go_ret
  exact⟨rfl,xE⟩
 by_cases h6:dl t=kSee
 ·obtain rfl:=ba_of h6
  have hm:m=0:=by rw[← HM.out];unfold many8;rw[if_neg h1,if_neg (by simp only[h2,h3,h4,h5,or_self,not_false_eq_true]),if_pos (by simp[h6])]
  subst hm
  unfold kSee
  clear HM h1 h2 h3 h4 h5 h6
  go_enter Tryz.func31,Tryz.ntmps31
  go_wp2
  go_ret
  exact⟨rfl,xE⟩
 by_cases h7:dl t=kPlan
 ·obtain rfl:=ba_of h7
  have hm:m=0:=by rw[← HM.out];unfold many8;rw[if_neg h1,if_neg (by simp only[h2,h3,h4,h5,or_self,not_false_eq_true]),if_pos (by simp[h7])]
  subst hm
  unfold kPlan
  clear HM h1 h2 h3 h4 h5 h6 h7
  go_enter Tryz.func31,Tryz.ntmps31
  go_wp2
  go_ret
  exact⟨rfl,xE⟩
 have hm:m=-1:=by rw[← HM.out];unfold many8;rw[if_neg h1,if_neg (by simp only[h2,h3,h4,h5,or_self,not_false_eq_true]),if_neg (by simp only[h6,h7,or_self,not_false_eq_true])]
 subst hm
 have e1:=ba_ne h1
 have e2:=ba_ne h2
 have e3:=ba_ne h3
 have e4:=ba_ne h4
 have e5:=ba_ne h5
 have e6:=ba_ne h6
 have e7:=ba_ne h7
 unfold kSubmit at e1
 unfold kDone at e2
 unfold kHold at e3
 unfold kWait at e4
 unfold kTick at e5
 unfold kSee at e6
 unfold kPlan at e7
 clear HM h1 h2 h3 h4 h5 h6 h7
 go_enter Tryz.func31,Tryz.ntmps31
 go_wp2
 go_ret
 exact⟨rfl,xE⟩
end Go.Proofs.YtbmbanelodabgaaGreatDoor
set_option maxRecDepth 100000
set_option linter.unusedVariables false
set_option linter.unusedSimpArgs false
namespace Go.Proofs.YtbmbanelodabgaaGreatDoor
open Go.RowKit Go.Fin1
structure LibW (w:World):Prop where
 m:∃ m,w.cell? ⟨Tryz.dcut_ren.g 1,0,none⟩=some (.int .i64 m)
 tab:Lib.TabIs Tryz.prog w "internal/strconv.uint64pow10" .u64 Lib.pow10Tab
 es:∃ tp p,w.var? Tryz.prog "strconv.ErrSyntax"=some #[.iface tp p]
 er:∃ tp p,w.var? Tryz.prog "strconv.ErrRange"=some #[.iface tp p]
theorem var_ext {w w':World} (h:Ext w w') {n:String} {cs:Array Value} (hv:w.var? Tryz.prog n=some cs):w'.var? Tryz.prog n=some cs:=by
 unfold World.var? at hv ⊢
 cases hg:Tryz.prog.globalNamed n with
 | none=>rw[hg] at hv;cases hv
 | some g =>
  rw[hg] at hv
  simp only[Option.bind_some] at hv ⊢
  have hlt:g < w.heap.size:=by
   by_cases hlt:g < w.heap.size
   ·exact hlt
   ·rw[Array.getElem?_eq_none (by omega)] at hv;cases hv
  rw[h.below.block g hlt];exact hv
theorem LibW.ext {w w':World} (h:LibW w) (hx:Ext w w'):LibW w':=by
 obtain⟨⟨m,h1⟩,h2,⟨a,b,h3⟩,⟨c,d,h4⟩⟩:=h
 exact⟨⟨m,hx.cellA h1⟩,var_ext hx h2,⟨a,b,var_ext hx h3⟩,⟨c,d,var_ext hx h4⟩⟩
theorem ext_grow (w:World) (k:Nat) (os:Array Obj):Ext w (Go.Sort.grow (w.drewN k) os):=Ext.of_below ⟨rfl,rfl,rfl,by simp[Go.Sort.grow],fun i hi=>by
 show ((w.drewN k).heap++os)[i]?=_
 rw[Array.getElem?_append_left (by exact hi)];rfl⟩
set_option maxHeartbeats 1600000 in
theorem decimal_any (n:Int) (w:World) (h0:-9223372036854775808≤n) (h1:n≤9223372036854775807) (hL:LibW w) :
  Calls Tryz.prog 49 #[(.int .i64 n)] w fun e w'=>e=.returned (.string ⟨(Lib.itoa n).toArray⟩)∧Ext w w':=by
 have HL:=tH hL
 clear hL
 go_enter Tryz.func49,Tryz.ntmps49
 go_wp2_with (go_at_call 81;refine(Any.strconv_FormatInt_10 Tryz.dfmt _ h0 h1 _ HL.out.tab).mono ?_;rintro e w' ⟨rfl,k,os,hw⟩;have hx:Ext w w':=(by rw[hw];exact ext_grow w k os);clear hw;obtain⟨X,rfl⟩:=hx)
 go_ret
 exact⟨rfl,xE⟩
theorem ext_bytes (w:World) (e:TypeId) (s:ByteArray):Ext w (Lib.bytesWorld w e s):=Ext.of_below (Lib.bytesWorld_below w e s)
theorem parse_any (s:ByteArray) (w:World) (hs:s.size≤100000) (hL:LibW w) :
  Calls Tryz.prog 69 #[.string s,.int .i64 10,.int .i64 64] w fun e w'=>(∃ v err,e=.returned (.tuple #[.int .i64 v,err])∧((err=.nilIface∧Lib.parseIntB 64 (dl s)=.ok v)∨(∃ tp p,err=.iface tp p)∧∀ u,Lib.parseIntB 64 (dl s)≠.ok u))∧Ext w w':=by
 obtain⟨a,b,h3⟩:=hL.es
 obtain⟨c,d,h4⟩:=hL.er
 rcases h:Lib.parseIntB 64 (dl s) with v |-| -
 ·refine(Any.strconv_ParseInt_10_at64_ok Tryz.dpar s (by omega) v h w).mono ?_
  rintro e w' ⟨rfl,hw⟩
  refine⟨⟨v,_,rfl,.inl ⟨rfl,rfl⟩⟩,?_⟩
  rcases hw with rfl | ⟨t,rfl⟩
  ·exact Ext.refl _
  ·exact ext_bytes _ _ _
 ·refine(Any.strconv_ParseInt_10_at64_syntax_var Tryz.dpar s (by omega) h a b w h3).mono ?_
  rintro e w' ⟨N,rfl,-,-,hw⟩
  exact⟨⟨_,_,rfl,.inr ⟨⟨_,_,rfl⟩,fun u hu=>by cases hu⟩⟩,Ext.of_below hw⟩
 ·refine(Any.strconv_ParseInt_10_at64_range_var Tryz.dpar s (by omega) h c d w h4).mono ?_
  rintro e w' ⟨N,rfl,-,-,hw⟩
  exact⟨⟨_,_,rfl,.inr ⟨⟨_,_,rfl⟩,fun u hu=>by cases hu⟩⟩,Ext.of_below hw⟩
theorem numW_no {t:List UInt8} (h:∀ u,Lib.parseIntB 64 t≠.ok u):¬ 0≤numW t:=fun e=>h _ (parse_of_numW e).1
set_option maxHeartbeats 1600000 in
theorem isNumber_any (s:ByteArray) (w:World) (hs:s.size≤100000) (hL:LibW w) :
  Calls Tryz.prog 43 #[.string s] w fun e w'=>e=.returned (.bool (decide (0≤numW (dl s))))∧Ext w w':=by
 have HL:=tH hL
 clear hL
 go_enter Tryz.func43,Tryz.ntmps43
 go_upto_region 1 with fail
 go_wp2_with fail
 refine(parse_any s _ hs HL.out).mono ?_
 rintro e _ ⟨⟨v,err,rfl,hv⟩,X,rfl⟩
 rcases hv with ⟨rfl,hp⟩ | ⟨⟨tp,p,rfl⟩,hp⟩
 rotate_left
 ·have HP:=tH (decide_eq_false (numW_no hp))
  clear hp
  go_wp2
  go_ret
  exact⟨by rw[HP.out];rfl,xE⟩
 have HPP:=tH hp
 clear hp
 by_cases h0:0≤v
 rotate_left
 ·have hb0:decide ((0:Int)≤v)=false:=decide_eq_false h0
  have HP:=tH (show decide (0≤numW (dl s))=false from decide_eq_false (fun e=>by
   have h1:=(parse_of_numW e).1
   rw[HPP.out] at h1
   injection h1 with h1
   omega))
  clear h0
  go_wp2
  go_ret
  exact⟨by rw[HP.out];rfl,xE⟩
 have hb0:decide ((0:Int)≤v)=true:=decide_eq_true h0
 have hbd:=Lib.parseIntB_bounds (B:=64) HPP.out
 have hv63:v≤9223372036854775807:=by simp at hbd;omega
 clear hbd
 have hd:s.size=(dl s).length:=(ba_len s).symm
 by_cases h9:s.size≤9
 rotate_left
 ·have hb9:decide ((s.size:Int)≤9)=false:=decide_eq_false (by omega)
  have HP:=tH (show decide (0≤numW (dl s))=false from decide_eq_false (fun e=>by
   have h1:=(parse_of_numW e).2.1
   omega))
  clear h0 h9 hd
  go_wp2
  go_ret
  exact⟨by rw[HP.out];rfl,xE⟩
 have hb9:decide ((s.size:Int)≤9)=true:=decide_eq_true (by omega)
 have HP:=tH (show decide (0≤numW (dl s))=(Lib.itoa v == dl s) by
  by_cases he:Lib.itoa v=dl s
  ·rw[beq_iff_eq.2 he,numW_of_parse h0 (by omega) he];exact decide_eq_true h0
  ·rw[beq_eq_false_iff_ne.2 he]
   refine decide_eq_false (fun e=>he ?_)
   have h1:=parse_of_numW e
   rw[HPP.out] at h1
   injection h1.1 with h2
   rw[h2];exact h1.2.2)
 have HM:=tH (show -9223372036854775808≤v by omega)
 clear h0 h9 hd
 go_wp2_with (go_at_call 49;refine(decimal_any v _ HM.out hv63 (HL.out.ext xE)).mono ?_;rintro e _ ⟨rfl,X2,rfl⟩)
 go_ret
 exact⟨by rw[HP.out];show Ending.returned (.bool (Lib.itoa v == s.toList))=_;rw[ByteArray.toList_eq],xE⟩
set_option maxHeartbeats 1600000 in
theorem number_any (s:ByteArray) (w:World) (hs:s.size≤100000) (hn:0≤numW (dl s)) (hL:LibW w) :
  Calls Tryz.prog 44 #[.string s] w fun e w'=>e=.returned (((.int .i64 (numW (dl s)))))∧Ext w w':=by
 have HL:=tH hL
 have HN:=tH (parse_of_numW hn).1
 clear hL hn
 go_enter Tryz.func44,Tryz.ntmps44
 go_wp2_with fail
 refine(parse_any s _ hs HL.out).mono ?_
 rintro e _ ⟨⟨v,err,rfl,hv⟩,X,rfl⟩
 rcases hv with ⟨rfl,hp⟩ | ⟨-,hp⟩
 rotate_left
 ·exact absurd HN.out (hp _)
 ·rw[HN.out] at hp
  injection hp with hp
  subst hp
  go_wp2
  go_ret
  exact⟨rfl,xE⟩
end Go.Proofs.YtbmbanelodabgaaGreatDoor
