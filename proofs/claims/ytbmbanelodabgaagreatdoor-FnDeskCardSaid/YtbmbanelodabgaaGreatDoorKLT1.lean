/- The texts of labels. -/
import Derived.Test.YtbmbanelodabgaaGreatDoorKBA
import Derived.Test.YtbmbanelodabgaaGreatDoorKFI
import Derived.Laws.RangeAny
import Derived.Laws.RangeString
set_option maxRecDepth 100000
set_option linter.unusedVariables false
namespace Go.Proofs.YtbmbanelodabgaaGreatDoor
open Go.RowKit Go.Fin1
def lblN (x:Lab):Nat→List UInt8
 | 0=>[UInt8.ofNat (48+x.lv.toNat),58]
 | k+1=>if x.st.toNat / 2 ^ k % 2=1 then lblN x k++[UInt8.ofNat (97+k)] else lblN x k
@[irreducible] def lblT (x:Lab):List UInt8:=if labR x=true then lblN x 3 else []
theorem lblT_no {x:Lab} (h:labR x=false):lblT x=[]:=by unfold lblT;rw[h];rfl
theorem lblT_yes {x:Lab} (h:labR x=true):lblT x=lblN x 3:=by unfold lblT;rw[if_pos h]
theorem labR_at {x:Lab} (h:labR x=true):∃ n m:Nat,x=⟨n,m⟩∧n < 4∧m < 8:=by
 unfold labR at h
 rw[Bool.and_eq_true,isIn_iff,isIn_iff] at h
 obtain⟨a,b⟩:=x
 simp only at h
 refine⟨a.toNat,b.toNat,?_,by omega,by omega⟩
 rw[Int.toNat_of_nonneg h.1.1,Int.toNat_of_nonneg h.2.1]
@[irreducible] def digB (i:Nat):ByteArray:=⟨#[UInt8.ofNat (48+i)]⟩
theorem digB_size (i:Nat):(digB i).size=1:=by unfold digB;rfl
theorem fmtInt_any (i:Nat) (hi:i < 4) (w:World) :
  Calls Tryz.prog 81 #[(.int .i64 i),(.int .i64 10)] w fun e w'=>e=.returned (.string (digB i))∧w'=w:=by
 refine(Any.strconv_FormatInt_10_small Tryz.lfmt i (by omega) w).mono ?_
 rintro e w' ⟨rfl,rfl⟩
 refine⟨?_,rfl⟩
 unfold digB
 have:i=0∨i=1∨i=2∨i=3:=by omega
 rcases this with rfl | rfl | rfl | rfl<;>(first | rfl | kernel_rfl | (simp[Lib.decDigits];done))
theorem ownsOne9 (w:World) (a:Int):(w.alloc (.cells #[.int .u8 a] 5)).ownsRow w.heap.size 5 1 (.slice (some ⟨w.heap.size,0,none⟩) 1 1) 1 ([a].map (Value.int .u8)) :=
 ⟨rfl,.inr ⟨w.heap.size,1,#[.int .u8 a],rfl,Nat.le_refl _,Array.getElem?_push_size,by decide,by decide,rfl,rfl⟩⟩
set_option maxHeartbeats 800000 in
theorem l01Dec_any (i:Nat) (hi:i < 4) (w:World) :
  Calls Tryz.prog 40 #[(.int .i64 i)] w fun e w'=>e=.returned (.string (digB i))∧Ext w w':=by
 have:i=0∨i=1∨i=2∨i=3:=by omega
 rcases this with rfl | rfl | rfl | rfl
 ·go_enter Tryz.func40,Tryz.ntmps40
  go_wp2
  go_ret
  exact⟨by unfold digB;rfl,(by repeat (first | exact Ext.refl _ | apply Ext.plus | apply Ext.alloc | apply Ext.drew))⟩
 ·go_enter Tryz.func40,Tryz.ntmps40
  go_wp2
  go_loopw [0,4] (fun n o wr=>((n=(.int .i64 1)∧o=Value.string ⟨#[]⟩)∨(n=(.int .i64 0)∧o=Value.string ⟨#[49]⟩))∧Ext w wr) (fun n _ _=>(intOf n).toNat)
  case atStart=>exact⟨.inl ⟨rfl,rfl⟩,(by repeat (first | exact Ext.refl _ | apply Ext.plus | apply Ext.alloc | apply Ext.drew))⟩
  case round =>
   obtain⟨h | h,X,rfl⟩:=hrel
   ·obtain⟨rfl,rfl⟩:=h
    have hs:=run_string_own (P:=Tryz.prog) (src:=27) (dst:=9) Tryz.underlying27 Tryz.underlying5 Tryz.underlying9 (ownsOne9 (w.plus X) 49)
    simp only[World.size_plus] at hs
    rw[show strOfNums [49]=⟨#[49]⟩ by rfl] at hs
    go_wp2
    exact⟨⟨.inr ⟨rfl,rfl⟩,(by repeat (first | exact Ext.refl _ | apply Ext.plus | apply Ext.alloc | apply Ext.drew))⟩,by simp[intOf]⟩
   ·obtain⟨rfl,rfl⟩:=h
    go_wp2
    go_ret
    exact⟨by unfold digB;rfl,(by repeat (first | exact Ext.refl _ | apply Ext.plus | apply Ext.alloc | apply Ext.drew))⟩
 ·go_enter Tryz.func40,Tryz.ntmps40
  go_wp2
  go_loopw [0,4] (fun n o wr=>((n=(.int .i64 2)∧o=Value.string ⟨#[]⟩)∨(n=(.int .i64 0)∧o=Value.string ⟨#[50]⟩))∧Ext w wr) (fun n _ _=>(intOf n).toNat)
  case atStart=>exact⟨.inl ⟨rfl,rfl⟩,(by repeat (first | exact Ext.refl _ | apply Ext.plus | apply Ext.alloc | apply Ext.drew))⟩
  case round =>
   obtain⟨h | h,X,rfl⟩:=hrel
   ·obtain⟨rfl,rfl⟩:=h
    have hs:=run_string_own (P:=Tryz.prog) (src:=27) (dst:=9) Tryz.underlying27 Tryz.underlying5 Tryz.underlying9 (ownsOne9 (w.plus X) 50)
    simp only[World.size_plus] at hs
    rw[show strOfNums [50]=⟨#[50]⟩ by rfl] at hs
    go_wp2
    exact⟨⟨.inr ⟨rfl,rfl⟩,(by repeat (first | exact Ext.refl _ | apply Ext.plus | apply Ext.alloc | apply Ext.drew))⟩,by simp[intOf]⟩
   ·obtain⟨rfl,rfl⟩:=h
    go_wp2
    go_ret
    exact⟨by unfold digB;rfl,(by repeat (first | exact Ext.refl _ | apply Ext.plus | apply Ext.alloc | apply Ext.drew))⟩
 ·go_enter Tryz.func40,Tryz.ntmps40
  go_wp2
  go_loopw [0,4] (fun n o wr=>((n=(.int .i64 3)∧o=Value.string ⟨#[]⟩)∨(n=(.int .i64 0)∧o=Value.string ⟨#[51]⟩))∧Ext w wr) (fun n _ _=>(intOf n).toNat)
  case atStart=>exact⟨.inl ⟨rfl,rfl⟩,(by repeat (first | exact Ext.refl _ | apply Ext.plus | apply Ext.alloc | apply Ext.drew))⟩
  case round =>
   obtain⟨h | h,X,rfl⟩:=hrel
   ·obtain⟨rfl,rfl⟩:=h
    have hs:=run_string_own (P:=Tryz.prog) (src:=27) (dst:=9) Tryz.underlying27 Tryz.underlying5 Tryz.underlying9 (ownsOne9 (w.plus X) 51)
    simp only[World.size_plus] at hs
    rw[show strOfNums [51]=⟨#[51]⟩ by rfl] at hs
    go_wp2
    exact⟨⟨.inr ⟨rfl,rfl⟩,(by repeat (first | exact Ext.refl _ | apply Ext.plus | apply Ext.alloc | apply Ext.drew))⟩,by simp[intOf]⟩
   ·obtain⟨rfl,rfl⟩:=h
    go_wp2
    go_ret
    exact⟨by unfold digB;rfl,(by repeat (first | exact Ext.refl _ | apply Ext.plus | apply Ext.alloc | apply Ext.drew))⟩
abbrev abcB:ByteArray:=⟨#[97,98,99]⟩
theorem digB_0 (n m:Nat):digB n++⟨#[58]⟩=⟨(lblN ⟨n,m⟩ 0).toArray⟩:=by
 unfold digB
 exact ByteArray.mk_append_mk [UInt8.ofNat (48+n)] [58]
theorem lblN_yes {x:Lab} {k:Nat} {c:UInt8} (h:x.st.toNat / 2 ^ k % 2=1) (hc:c=UInt8.ofNat (97+k)) {t:ByteArray} (ht:t=⟨(lblN x k).toArray⟩):t++⟨#[c]⟩=⟨(lblN x (k+1)).toArray⟩:=by
 subst ht hc
 rw[show lblN x (k+1)=lblN x k++[UInt8.ofNat (97+k)] by rw[lblN,if_pos h]]
 exact ByteArray.mk_append_mk _ [UInt8.ofNat (97+k)]
theorem lblN_no {x:Lab} {k:Nat} (h:¬ x.st.toNat / 2 ^ k % 2=1):lblN x (k+1)=lblN x k:=by rw[lblN,if_neg h]
theorem decAbc0:Utf8.decode abcB 0=(97,1):=by first | rfl | kernel_rfl
theorem decAbc1:Utf8.decode abcB 1=(98,1):=by first | rfl | kernel_rfl
theorem decAbc2:Utf8.decode abcB 2=(99,1):=by first | rfl | kernel_rfl
theorem m8 {m:Nat} (hm:m < 8):m=0∨m=1∨m=2∨m=3∨m=4∨m=5∨m=6∨m=7:=by omega
theorem bit0_at {m:Nat} (hm:m < 8):(bits .and .i64 (m:Int) 1 == 1)=decide (m / 2 ^ 0 % 2=1):=by
 rcases m8 hm with rfl | rfl | rfl | rfl | rfl | rfl | rfl | rfl<;>decide
theorem bit1_at {m:Nat} (hm:m < 8):(bits .and .i64 ((m:Int) / 2) 1 == 1)=decide (m / 2 ^ 1 % 2=1):=by
 rcases m8 hm with rfl | rfl | rfl | rfl | rfl | rfl | rfl | rfl<;>decide
theorem bit2_at {m:Nat} (hm:m < 8):(bits .and .i64 ((m:Int) / 4) 1 == 1)=decide (m / 2 ^ 2 % 2=1):=by
 rcases m8 hm with rfl | rfl | rfl | rfl | rfl | rfl | rfl | rfl<;>decide
set_option maxHeartbeats 3200000 in
theorem implLabelText_any (x:Lab) (w:World) :
  Calls Tryz.prog 71 #[.agg #[(.int .i64 x.lv),(.int .i64 x.st)]] w fun e w'=>e=.returned (.string ⟨(lblT x).toArray⟩)∧Ext w w':=by
 cases r:labR x
 ·have HN:=Lib.hid (lblT_no r)
  go_enter Tryz.func71,Tryz.ntmps71
  go_wp2_with (go_at_call 104;refine(implLabelRight_any _ _ _).mono ?_;rintro e _ ⟨rfl,X,rfl⟩;rw[show labR ⟨x.lv,x.st⟩=labR x from rfl,r])
  go_ret
  exact⟨by rw[HN.out];rfl,(by repeat (first | exact Ext.refl _ | apply Ext.plus | apply Ext.alloc | apply Ext.drew))⟩
 obtain⟨n,m,rfl,hn,hm⟩:=labR_at r
 have HN:=Lib.hid (lblT_yes r)
 go_enter Tryz.func71,Tryz.ntmps71
 go_upto_region 3 with (go_at_call 104;refine(implLabelRight_any _ _ _).mono ?_;rintro e _ ⟨rfl,X,rfl⟩;rw[r])
 go_wp2_with fail
 have hds:=digB_size n
 refine(fmtInt_any n hn _).mono ?_
 rintro e _ ⟨rfl,rfl⟩
 go_wp2
 go_loopw [3] (fun o wr=>∃ (k:Nat) (t:ByteArray),k≤3∧wr=((w.alloc (.cells #[(.int .i64 n),(.int .i64 m)] 36)).plus X).iter abcB k∧o=Value.string t∧t.size≤2+k∧Hid (t=⟨(lblN ⟨n,m⟩ k).toArray⟩)) (fun _ wr=>3-wr.iterPos (w.heap.size+1+X.n))
 case atStart=>exact⟨0,_,Nat.zero_le _,rfl,rfl,by rw[ByteArray.size_append,hds];exact Nat.le_refl 2,Lib.hid (digB_0 n m)⟩
 case round =>
  obtain⟨k,t,hk,rfl,rfl,hts,HT⟩:=hrel
  have hz:((w.alloc (.cells #[(.int .i64 n),(.int .i64 m)] 36)).plus X).heap.size=w.heap.size+1+X.n:=by simp
  have hk4:k=3∨k=0∨k=1∨k=2:=by omega
  rcases hk4 with rfl | hk4
  ·have hnx:∀ ty,(Instr.next (.pointer (some ⟨w.heap.size+1+X.n,0,none⟩)) true ty).run Tryz.prog (((w.alloc (.cells #[(.int .i64 n),(.int .i64 m)] 36)).plus X).iter abcB 3)=.ok (.tuple #[.bool false]) (((w.alloc (.cells #[(.int .i64 n),(.int .i64 m)] 36)).plus X).iter abcB 3):=fun ty=>by
    have:=run_next_end (P:=Tryz.prog) ((w.alloc (.cells #[(.int .i64 n),(.int .i64 m)] 36)).plus X) abcB 3 ty (by decide)
    rw[hz] at this;exact this
   go_wp2
   go_ret
   exact⟨ret_str (by rw[HN.out,HT.out]),by unfold World.iter;exact(by repeat (first | exact Ext.refl _ | apply Ext.plus | apply Ext.alloc | apply Ext.drew))⟩
  rcases hk4 with rfl | rfl | rfl
  ·have hnx:∀ ty,(Instr.next (.pointer (some ⟨w.heap.size+1+X.n,0,none⟩)) true ty).run Tryz.prog (((w.alloc (.cells #[(.int .i64 n),(.int .i64 m)] 36)).plus X).iter abcB 0)=.ok (.tuple #[.bool true,(.int .i64 0),.int .i32 97]) (((w.alloc (.cells #[(.int .i64 n),(.int .i64 m)] 36)).plus X).iter abcB 1):=fun ty=>by
    have h:=run_next_any (P:=Tryz.prog) ((w.alloc (.cells #[(.int .i64 n),(.int .i64 m)] 36)).plus X) abcB 0 ty (by decide)
    rw[hz,decAbc0] at h;exact h
   have hc1:(((w.alloc (.cells #[(.int .i64 n),(.int .i64 m)] 36)).plus X).iter abcB 1).cell? ⟨w.heap.size,1,none⟩=some (.int .i64 m):=by
    have h0:(w.alloc (.cells #[(.int .i64 n),(.int .i64 m)] 36)).cell? ⟨w.heap.size,1,none⟩=some (.int .i64 m):=by simp[go_sem]
    have hx:Ext (w.alloc (.cells #[(.int .i64 n),(.int .i64 m)] 36)) (((w.alloc (.cells #[(.int .i64 n),(.int .i64 m)] 36)).plus X).iter abcB 1):=by unfold World.iter;exact(by repeat (first | exact Ext.refl _ | apply Ext.plus | apply Ext.alloc | apply Ext.drew))
    exact hx.cell h0
   have ho1:=World.old_of_cell hc1
   have hnz:¬ 9223372036854775807 < t.size+(Utf8.encode 97).size:=by rw[show (Utf8.encode 97).size=1 from rfl];omega
   by_cases hb:m / 2 ^ 0 % 2=1
   ·have hbb:(bits .and .i64 (m:Int) 1 == 1)=true:=by rw[bit0_at hm];exact decide_eq_true hb
    go_wp2
    exact⟨⟨1,_,by omega,rfl,rfl,by rw[ByteArray.size_append];exact Nat.add_le_add_right hts 1,Lib.hid (lblN_yes hb rfl HT.out)⟩,by rw[← hz,World.iterPos_iter,World.iterPos_iter];decide⟩
   ·have hbb:(bits .and .i64 (m:Int) 1 == 1)=false:=by rw[bit0_at hm];exact decide_eq_false hb
    go_wp2
    exact⟨⟨1,_,by omega,rfl,rfl,by omega,Lib.hid (by rw[show lblN ⟨n,m⟩ 1=lblN ⟨n,m⟩ 0 from lblN_no hb];exact HT.out)⟩,by rw[← hz,World.iterPos_iter,World.iterPos_iter];decide⟩
  ·have hnx:∀ ty,(Instr.next (.pointer (some ⟨w.heap.size+1+X.n,0,none⟩)) true ty).run Tryz.prog (((w.alloc (.cells #[(.int .i64 n),(.int .i64 m)] 36)).plus X).iter abcB 1)=.ok (.tuple #[.bool true,(.int .i64 1),.int .i32 98]) (((w.alloc (.cells #[(.int .i64 n),(.int .i64 m)] 36)).plus X).iter abcB 2):=fun ty=>by
    have h:=run_next_any (P:=Tryz.prog) ((w.alloc (.cells #[(.int .i64 n),(.int .i64 m)] 36)).plus X) abcB 1 ty (by decide)
    rw[hz,decAbc1] at h;exact h
   have hc1:(((w.alloc (.cells #[(.int .i64 n),(.int .i64 m)] 36)).plus X).iter abcB 2).cell? ⟨w.heap.size,1,none⟩=some (.int .i64 m):=by
    have h0:(w.alloc (.cells #[(.int .i64 n),(.int .i64 m)] 36)).cell? ⟨w.heap.size,1,none⟩=some (.int .i64 m):=by simp[go_sem]
    have hx:Ext (w.alloc (.cells #[(.int .i64 n),(.int .i64 m)] 36)) (((w.alloc (.cells #[(.int .i64 n),(.int .i64 m)] 36)).plus X).iter abcB 2):=by unfold World.iter;exact(by repeat (first | exact Ext.refl _ | apply Ext.plus | apply Ext.alloc | apply Ext.drew))
    exact hx.cell h0
   have ho1:=World.old_of_cell hc1
   have hnz:¬ 9223372036854775807 < t.size+(Utf8.encode 98).size:=by rw[show (Utf8.encode 98).size=1 from rfl];omega
   by_cases hb:m / 2 ^ 1 % 2=1
   ·have hbb:(bits .and .i64 ((m:Int) / 2) 1 == 1)=true:=by rw[bit1_at hm];exact decide_eq_true hb
    go_wp2
    exact⟨⟨2,_,by omega,rfl,rfl,by rw[ByteArray.size_append];exact Nat.add_le_add_right hts 1,Lib.hid (lblN_yes hb rfl HT.out)⟩,by rw[← hz,World.iterPos_iter,World.iterPos_iter];decide⟩
   ·have hbb:(bits .and .i64 ((m:Int) / 2) 1 == 1)=false:=by rw[bit1_at hm];exact decide_eq_false hb
    go_wp2
    exact⟨⟨2,_,by omega,rfl,rfl,by omega,Lib.hid (by rw[show lblN ⟨n,m⟩ 2=lblN ⟨n,m⟩ 1 from lblN_no hb];exact HT.out)⟩,by rw[← hz,World.iterPos_iter,World.iterPos_iter];decide⟩
  ·have hnx:∀ ty,(Instr.next (.pointer (some ⟨w.heap.size+1+X.n,0,none⟩)) true ty).run Tryz.prog (((w.alloc (.cells #[(.int .i64 n),(.int .i64 m)] 36)).plus X).iter abcB 2)=.ok (.tuple #[.bool true,(.int .i64 2),.int .i32 99]) (((w.alloc (.cells #[(.int .i64 n),(.int .i64 m)] 36)).plus X).iter abcB 3):=fun ty=>by
    have h:=run_next_any (P:=Tryz.prog) ((w.alloc (.cells #[(.int .i64 n),(.int .i64 m)] 36)).plus X) abcB 2 ty (by decide)
    rw[hz,decAbc2] at h;exact h
   have hc1:(((w.alloc (.cells #[(.int .i64 n),(.int .i64 m)] 36)).plus X).iter abcB 3).cell? ⟨w.heap.size,1,none⟩=some (.int .i64 m):=by
    have h0:(w.alloc (.cells #[(.int .i64 n),(.int .i64 m)] 36)).cell? ⟨w.heap.size,1,none⟩=some (.int .i64 m):=by simp[go_sem]
    have hx:Ext (w.alloc (.cells #[(.int .i64 n),(.int .i64 m)] 36)) (((w.alloc (.cells #[(.int .i64 n),(.int .i64 m)] 36)).plus X).iter abcB 3):=by unfold World.iter;exact(by repeat (first | exact Ext.refl _ | apply Ext.plus | apply Ext.alloc | apply Ext.drew))
    exact hx.cell h0
   have ho1:=World.old_of_cell hc1
   have hnz:¬ 9223372036854775807 < t.size+(Utf8.encode 99).size:=by rw[show (Utf8.encode 99).size=1 from rfl];omega
   by_cases hb:m / 2 ^ 2 % 2=1
   ·have hbb:(bits .and .i64 ((m:Int) / 4) 1 == 1)=true:=by rw[bit2_at hm];exact decide_eq_true hb
    go_wp2
    exact⟨⟨3,_,by omega,rfl,rfl,by rw[ByteArray.size_append];exact Nat.add_le_add_right hts 1,Lib.hid (lblN_yes hb rfl HT.out)⟩,by rw[← hz,World.iterPos_iter,World.iterPos_iter];decide⟩
   ·have hbb:(bits .and .i64 ((m:Int) / 4) 1 == 1)=false:=by rw[bit2_at hm];exact decide_eq_false hb
    go_wp2
    exact⟨⟨3,_,by omega,rfl,rfl,by omega,Lib.hid (by rw[show lblN ⟨n,m⟩ 3=lblN ⟨n,m⟩ 2 from lblN_no hb];exact HT.out)⟩,by rw[← hz,World.iterPos_iter,World.iterPos_iter];decide⟩
set_option maxHeartbeats 3200000 in
theorem specLabelText_any (x:Lab) (w:World) :
  Calls Tryz.prog 56 #[.agg #[(.int .i64 x.lv),(.int .i64 x.st)]] w fun e w'=>e=.returned (.string ⟨(lblT x).toArray⟩)∧Ext w w':=by
 cases r:labR x
 ·have HN:=Lib.hid (lblT_no r)
  go_enter Tryz.func56,Tryz.ntmps56
  go_wp2_with (go_at_call 86;refine(specLabelRight_any _ _ _).mono ?_;rintro e _ ⟨rfl,X,rfl⟩;rw[show labR ⟨x.lv,x.st⟩=labR x from rfl,r])
  go_ret
  exact⟨by rw[HN.out];rfl,(by repeat (first | exact Ext.refl _ | apply Ext.plus | apply Ext.alloc | apply Ext.drew))⟩
 obtain⟨n,m,rfl,hn,hm⟩:=labR_at r
 have HN:=Lib.hid (lblT_yes r)
 go_enter Tryz.func56,Tryz.ntmps56
 go_upto_region 3 with (go_at_call 86;refine(specLabelRight_any _ _ _).mono ?_;rintro e _ ⟨rfl,X,rfl⟩;rw[r])
 go_wp2_with fail
 have hds:=digB_size n
 refine(l01Dec_any n hn _).mono ?_
 rintro e _ ⟨rfl,X2,rfl⟩
 go_wp2
 go_loopw [3,5] (fun o i wr=>∃ (k:Nat) (t:ByteArray),k≤3∧i=Value.int .i64 k∧o=Value.string t∧t.size≤2+k∧Hid (t=⟨(lblN ⟨n,m⟩ k).toArray⟩)∧Ext (w.alloc (.cells #[(.int .i64 n),(.int .i64 m)] 36)) wr) (fun _ i _=>3-(intOf i).toNat)
 case atStart=>exact⟨0,_,Nat.zero_le _,rfl,rfl,by rw[ByteArray.size_append,hds];exact Nat.le_refl 2,Lib.hid (digB_0 n m),(by repeat (first | exact Ext.refl _ | apply Ext.plus | apply Ext.alloc | apply Ext.drew))⟩
 case round =>
  clear X X2
  obtain⟨k,t,hk,rfl,rfl,hts,HT,⟨X,rfl⟩⟩:=hrel
  have hk4:k=3∨k=0∨k=1∨k=2:=by omega
  rcases hk4 with rfl | rfl | rfl | rfl
  ·go_wp2
   go_ret
   exact⟨ret_str (by rw[HN.out,HT.out]),(by repeat (first | exact Ext.refl _ | apply Ext.plus | apply Ext.alloc | apply Ext.drew))⟩
  ·have hnz:¬ 9223372036854775807 < t.size+1:=by omega
   by_cases hb:m / 2 ^ 0 % 2=1
   ·have hbb:(bits .and .i64 (m:Int) 1 == 1)=true:=by rw[bit0_at hm];exact decide_eq_true hb
    go_wp2
    exact⟨⟨1,_,by omega,rfl,rfl,by rw[ByteArray.size_append];exact Nat.add_le_add_right hts 1,Lib.hid (lblN_yes hb rfl HT.out),(by repeat (first | exact Ext.refl _ | apply Ext.plus | apply Ext.alloc | apply Ext.drew))⟩,by simp[intOf]⟩
   ·have hbb:(bits .and .i64 (m:Int) 1 == 1)=false:=by rw[bit0_at hm];exact decide_eq_false hb
    go_wp2
    exact⟨⟨1,_,by omega,rfl,rfl,by omega,Lib.hid (by rw[show lblN ⟨n,m⟩ 1=lblN ⟨n,m⟩ 0 from lblN_no hb];exact HT.out),(by repeat (first | exact Ext.refl _ | apply Ext.plus | apply Ext.alloc | apply Ext.drew))⟩,by simp[intOf]⟩
  ·have hnz:¬ 9223372036854775807 < t.size+1:=by omega
   by_cases hb:m / 2 ^ 1 % 2=1
   ·have hbb:(bits .and .i64 ((m:Int) / 2) 1 == 1)=true:=by rw[bit1_at hm];exact decide_eq_true hb
    go_wp2
    exact⟨⟨2,_,by omega,rfl,rfl,by rw[ByteArray.size_append];exact Nat.add_le_add_right hts 1,Lib.hid (lblN_yes hb rfl HT.out),(by repeat (first | exact Ext.refl _ | apply Ext.plus | apply Ext.alloc | apply Ext.drew))⟩,by simp[intOf]⟩
   ·have hbb:(bits .and .i64 ((m:Int) / 2) 1 == 1)=false:=by rw[bit1_at hm];exact decide_eq_false hb
    go_wp2
    exact⟨⟨2,_,by omega,rfl,rfl,by omega,Lib.hid (by rw[show lblN ⟨n,m⟩ 2=lblN ⟨n,m⟩ 1 from lblN_no hb];exact HT.out),(by repeat (first | exact Ext.refl _ | apply Ext.plus | apply Ext.alloc | apply Ext.drew))⟩,by simp[intOf]⟩
  ·have hnz:¬ 9223372036854775807 < t.size+1:=by omega
   by_cases hb:m / 2 ^ 2 % 2=1
   ·have hbb:(bits .and .i64 ((m:Int) / 4) 1 == 1)=true:=by rw[bit2_at hm];exact decide_eq_true hb
    go_wp2
    exact⟨⟨3,_,by omega,rfl,rfl,by rw[ByteArray.size_append];exact Nat.add_le_add_right hts 1,Lib.hid (lblN_yes hb rfl HT.out),(by repeat (first | exact Ext.refl _ | apply Ext.plus | apply Ext.alloc | apply Ext.drew))⟩,by simp[intOf]⟩
   ·have hbb:(bits .and .i64 ((m:Int) / 4) 1 == 1)=false:=by rw[bit2_at hm];exact decide_eq_false hb
    go_wp2
    exact⟨⟨3,_,by omega,rfl,rfl,by omega,Lib.hid (by rw[show lblN ⟨n,m⟩ 3=lblN ⟨n,m⟩ 2 from lblN_no hb];exact HT.out),(by repeat (first | exact Ext.refl _ | apply Ext.plus | apply Ext.alloc | apply Ext.drew))⟩,by simp[intOf]⟩
end Go.Proofs.YtbmbanelodabgaaGreatDoor
