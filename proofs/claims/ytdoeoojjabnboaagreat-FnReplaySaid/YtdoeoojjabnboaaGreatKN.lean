/- The draws' small steps: one, bytes, edge, l01Any. -/
import Derived.Test.YtdoeoojjabnboaaGreatKCC
import Derived.Test.YtdoeoojjabnboaaGreatKBG
import Derived.Test.YtdoeoojjabnboaaGreatKVBC
import Derived.Test.YtdoeoojjabnboaaGreatKPA1
import Derived.Test.YtdoeoojjabnboaaGreatKBA
set_option maxRecDepth 100000
set_option linter.unusedVariables false
namespace Go.Proofs.YtdoeoojjabnboaaGreat
open Go.RowKit Go.Fin1
theorem Src.ext {w w':World} {g:Nat} {cv:Value} {l:List Int} (h:Src w g cv l) (hx:Ext w w'):Src w' g cv l:=by
 obtain⟨⟨k,hk,h1⟩,h0,⟨m,m0,m1,h2⟩,hf⟩:=h
 have ho:=World.old_of_cell h0
 refine⟨⟨k,hk,hx.cell h1⟩,hx.cell h0,⟨m,m0,m1,hx.cell h2⟩,fun j=>?_⟩
 obtain⟨X,rfl⟩:=hx
 rw[World.frozen?_plus _ _ _ _ ho];exact hf j
theorem u8s_chg {S:List Nat} {w w':World} {v:Value} {l:List Int} (h:SlR w 1 rU8 v l) (hx:Chg S w w') (hb:0 < l.length→∀ a n c,v=.slice (some a) n c→a.block∉S):SlR w' 1 rU8 v l:=by
 obtain⟨a,cap,rfl,h1,h2,h3⟩:=h
 refine⟨a,cap,rfl,h1,h2,fun i hi=>?_⟩
 obtain⟨b,off,cs,rfl,hk,hc,hr⟩:=h3 i hi
 refine⟨b,off,cs,rfl,hk,fun j u hu=>?_,hr⟩
 have hq:=hc j u hu
 have hlt:=World.block_lt_of_cell? w _ hq
 simp only[World.cell?,hx.block b hlt (hb (Nat.lt_of_le_of_lt (Nat.zero_le _) hi) _ _ _ rfl)] at hq ⊢
 exact hq
theorem u8s_past {S:List Nat} {w w':World} {v:Value} {l:List Int} (h:SlR w 1 rU8 v l) (hx:Chg S w w') (hS:∀ b∈S,w.heap.size≤b):SlR w' 1 rU8 v l :=
 u8s_chg h hx fun h0 a n c e hb=>by
  subst e
  obtain⟨b,off,he⟩:=slr_some h h0
  simp at he
  subst he
  have h1:=(u8_at h h0).1
  have h2:=hS _ hb
  unfold World.old at h1
  simp at h2
  omega
structure SrcA (w:World) (g:Nat) (cv:Value) (l:List Int):Prop where
 src:Src w g cv l
 code:SlR w 1 rU8 cv l
 far:0 < l.length→∀ a n c,cv=.slice (some a) n c→a.block≠g
theorem SrcA.ext {w w':World} {g:Nat} {cv:Value} {l:List Int} (h:SrcA w g cv l) (hx:Ext w w'):SrcA w' g cv l:=⟨h.src.ext hx,h.code.ext rU8_stable hx,h.far⟩
theorem SrcA.old {w:World} {g:Nat} {cv:Value} {l:List Int} (h:SrcA w g cv l):g < w.heap.size:=World.old_of_cell h.src.code
theorem SrcA.chg {S:List Nat} {w0 w w':World} {g:Nat} {cv:Value} {l:List Int} (h:SrcA w g cv l) (h0:SrcA w0 g cv l) (hx:Chg S w w') (hS:∀ b∈S,w0.heap.size≤b):SrcA w' g cv l:=by
 have hg:g∉S:=fun hb=>by have:=hS _ hb;have:=h0.old;omega
 have hl:=h.old
 have hc:∀ j u,w.cell? ⟨g,j,none⟩=some u→w'.cell? ⟨g,j,none⟩=some u:=fun j u hu=>by
  simp only[World.cell?,hx.block g hl hg] at hu ⊢;exact hu
 refine⟨?_,?_,h.far⟩
 ·obtain⟨⟨k,hk,q1⟩,q0,⟨m,m0,m1,q2⟩,hf⟩:=h.src
  refine⟨⟨k,hk,hc _ _ q1⟩,hc _ _ q0,⟨m,m0,m1,hc _ _ q2⟩,fun j=>?_⟩
  have:=hf j
  simp only[World.frozen?,hx.block g hl hg] at this ⊢;exact this
 ·obtain⟨a,cap,rfl,h1,h2,h3⟩:=h.code
  refine⟨a,cap,rfl,h1,h2,fun i hi=>?_⟩
  obtain⟨b,off,cs,rfl,hk,hcc,hr⟩:=h3 i hi
  have hb0:b < w0.heap.size:=(u8_at h0.code hi).1
  refine⟨b,off,cs,rfl,hk,fun j u hu=>?_,hr⟩
  have hq:=hcc j u hu
  have hlt:=World.block_lt_of_cell? w _ hq
  simp only[World.cell?,hx.block b hlt (fun hb=>by have:=hS _ hb;omega)] at hq ⊢
  exact hq
theorem srcN' (g:Nat) (most:Int) (w:World) (cv:Value) (l:List Int) (h:SrcA w g cv l) (hm:I64 most) :
  Calls Tryz.prog 45 #[.pointer (some ⟨g,0,none⟩),(.int .i64 most)] w fun e w'=>∃ v:Nat,e=.returned (.int .i64 (v:Int))∧((v:Int) < most∨v=0)∧Chg [g] w w'∧SrcA w' g cv l:=by
 obtain⟨h1,h2,h3⟩:=h
 refine(srcN_any g cv l most w h1 h2 h3 hm).mono ?_
 rintro e w' ⟨v,rfl,h0,hlt,hc,hs⟩
 refine⟨v.toNat,by rw[Int.toNat_of_nonneg h0],by omega,hc,hs,u8s_chg h2 hc (fun h0 a n c e hb=>h3 h0 a n c e (by simpa using hb)),h3⟩
set_option maxHeartbeats 400000 in
theorem srcOne_any (g:Nat) (most:Int) (w:World) (cv:Value) (l:List Int) (h:SrcA w g cv l) (hm:I64 most) :
  Calls Tryz.prog 44 #[.pointer (some ⟨g,0,none⟩),(.int .i64 most)] w fun e w'=>∃ b:Bool,e=.returned (.bool b)∧Chg [g] w w'∧SrcA w' g cv l:=by
 have HS:=tH h
 have HM:=tH hm
 clear h hm
 go_enter Tryz.func44,Tryz.ntmps44
 go_wp2_with fail
 refine(srcN' g most _ cv l HS.out HM.out).mono ?_
 rintro e w2 ⟨v,rfl,hb,hc,hs⟩
 have HC:=tH hc
 have HS2:=tH hs
 clear hc hs hb
 go_wp2
 go_ret
 exact⟨_,rfl,HC.out,HS2.out⟩
end Go.Proofs.YtdoeoojjabnboaaGreat
set_option maxRecDepth 100000
namespace Go.Proofs.YtdoeoojjabnboaaGreat
open Go.RowKit Go.Fin1
theorem info_u8:(Tryz.prog.info? 5).map (fun i=>(i.zero,i.size,i.bytes))=some (some (.int .u8 0),1,1):=by kernel_rfl
theorem el_u8:ElemInfo Tryz.prog 22 5 1 1:=by
 obtain⟨i,hi,hz,hs,hb⟩:=info_parts info_u8
 exact⟨Tryz.underlying22,⟨i,_,hi,hz,hs,hb,rfl⟩,by decide⟩
set_option maxHeartbeats 400000 in
theorem l01Fold_any (n:Int) (h:I64 n) (w:World) :
  Calls Tryz.prog 120 #[.int .i64 n] w fun e w'=>e=.returned (.int .u64 (zig n))∧w=w':=by
 obtain⟨h1,h2⟩:=h
 go_enter Tryz.func120,Tryz.ntmps120
 go_wp2
 all_goals go_ret
 all_goals exact⟨ret_int (by unfold zig;first | rw[if_pos (by omega)] | rw[if_neg (by omega)]),rfl⟩
set_option maxHeartbeats 400000 in
theorem implPutNum_any (n:Int) (h:I64 n) (w:World) :
  Calls Tryz.prog 65 #[.int .i64 n] w fun e w'=>e=.returned (.string (putNum n))∧Ext w w':=by
 have hz:=zig_bits h
 have hbd:=zig_bd h
 have h':=h
 obtain⟨h1,h2⟩:=h'
 go_enter Tryz.func65,Tryz.ntmps65
 go_wp2
 have Hb:=tH hbd
 have h64:zig n < lim 9:=by rw[lim9];omega
 clear hz hbd
 go_loopw [3,4] (fun v r wr=>∃ (X:More) (f:Nat) (u:Int) (pre:List Int),wr=w.plus X∧(w.plus X).ownsRow w.heap.size 5 1 v pre.length (pre.map (Value.int .u8))∧r=.int .u64 u∧0≤u∧u < lim f∧u≤18446744073709551615∧pre.length+f=9∧Hid (pre++putU f u=putNumL n)) (fun _ r _=>(intOf r).toNat)
 case atStart =>
  obtain⟨X,hX⟩:=(Ext.refl w).alloc (.cells #[] 5)
  refine⟨X,9,zig n,[],hX,?_,rfl,Hb.out.1,h64,Hb.out.2,rfl,tH (by unfold putNumL;rfl)⟩
  rw[← hX]
  exact World.ownsRow_made (base:=w.heap.size) w #[] 0 (Nat.le_refl _) (by decide) rfl
 case round =>
  obtain⟨X,f,u,pre,rfl,hown,rfl,hu0,hul,hu64,hlen,hpre⟩:=hrel
  by_cases hu:u < 128
  ·have hb:=byteSmall hu0 hu
   go_wp2_with (at_builtin;go_must (refine app_one el_u8 rfl _ _ rfl w ⟨X,rfl⟩ _ pre.length _ rfl hown _ ?_ rfl rfl ?_ ?_ ?_ ?_);(simp only[World.size_plus]);(simp[Value.oneCell']);(unfold maxLen;omega);omega;intro v' X' hown' hne;have hs:=run_string_own (P:=Tryz.prog) (src:=22) (dst:=9) (xs:=pre++[u]) Tryz.underlying22 Tryz.underlying5 Tryz.underlying9 (by simpa using hown');clear hown')
   go_ret
   exact⟨ret_str (by unfold putNum;rw[← hpre.out,putU_small hu]),X',rfl⟩
  ·have ho:=or128' u
   go_wp2_with (at_builtin;go_must (refine app_one el_u8 rfl _ _ rfl w ⟨X,rfl⟩ _ pre.length _ rfl hown _ ?_ rfl rfl ?_ ?_ ?_ ?_);(simp only[World.size_plus]);(simp[Value.oneCell']);(unfold maxLen;omega);omega;intro v' X' hown' hne)
   have hf:f≠0:=by intro e;subst e;simp[lim] at hul;omega
   obtain⟨g,rfl⟩:∃ g,f=g+1:=⟨f-1,by omega⟩
   refine⟨⟨X',g,u / 128,pre++[u % 128+128],rfl,by simpa using hown',rfl,by omega,by simp only[lim] at hul;omega,by omega,by simp;omega,tH ?_⟩,by simp[intOf];omega⟩
   rw[← hpre.out,putU_big hu];simp
set_option maxHeartbeats 400000 in
theorem specPutNum_any (n:Int) (h:I64 n) (w:World) :
  Calls Tryz.prog 69 #[.int .i64 n] w fun e w'=>e=.returned (.string (putNum n))∧Ext w w':=by
 have hbd:=zig_bd h
 have h64:zig n < lim 9:=by rw[lim9];omega
 have Hb:=tH hbd
 go_enter Tryz.func69,Tryz.ntmps69
 go_wp2_with (go_at_call 120;refine(l01Fold_any n h _).mono ?_;rintro e _ ⟨rfl,rfl⟩)
 clear hbd
 go_loopw [4,3] (fun v r wr=>∃ (X:More) (f:Nat) (u:Int) (pre:List Int),wr=w.plus X∧(w.plus X).ownsRow w.heap.size 5 1 v pre.length (pre.map (Value.int .u8))∧r=.int .u64 u∧0≤u∧u < lim f∧u≤18446744073709551615∧pre.length+f=9∧Hid (pre++putU f u=putNumL n)) (fun _ r _=>(intOf r).toNat)
 case atStart =>
  obtain⟨X,hX⟩:=(Ext.refl w).alloc (.cells #[] 5)
  refine⟨X,9,zig n,[],hX,?_,rfl,Hb.out.1,h64,Hb.out.2,rfl,tH (by unfold putNumL;rfl)⟩
  rw[← hX]
  exact World.ownsRow_made (base:=w.heap.size) w #[] 0 (Nat.le_refl _) (by decide) rfl
 case round =>
  obtain⟨X,f,u,pre,rfl,hown,rfl,hu0,hul,hu64,hlen,hpre⟩:=hrel
  by_cases hu:u < 128
  ·have hb:=byteSmall hu0 hu
   go_wp2_with (at_builtin;refine app_one el_u8 rfl _ _ rfl w ⟨X,rfl⟩ _ pre.length _ rfl hown _ ?_ rfl rfl ?_ ?_ ?_ ?_;(simp only[World.size_plus]);(simp[Value.oneCell']);(unfold maxLen;omega);omega;intro v' X' hown' hne;have hs:=run_string_own (P:=Tryz.prog) (src:=22) (dst:=9) (xs:=pre++[u]) Tryz.underlying22 Tryz.underlying5 Tryz.underlying9 (by simpa using hown');clear hown')
   go_ret
   exact⟨ret_str (by unfold putNum;rw[← hpre.out,putU_small hu]),X',rfl⟩
  ·have ho:=byte128 u
   go_wp2_with (at_builtin;refine app_one el_u8 rfl _ _ rfl w ⟨X,rfl⟩ _ pre.length _ rfl hown _ ?_ rfl rfl ?_ ?_ ?_ ?_;(simp only[World.size_plus]);(simp[Value.oneCell']);(unfold maxLen;omega);omega;intro v' X' hown' hne)
   have hf:f≠0:=by intro e;subst e;simp[lim] at hul;omega
   obtain⟨g,rfl⟩:∃ g,f=g+1:=⟨f-1,by omega⟩
   refine⟨⟨X',g,u / 128,pre++[u % 128+128],rfl,by simpa using hown',rfl,by omega,by simp only[lim] at hul;omega,by omega,by simp;omega,tH ?_⟩,by simp[intOf];omega⟩
   rw[← hpre.out,putU_big hu];simp
end Go.Proofs.YtdoeoojjabnboaaGreat
set_option maxRecDepth 100000
namespace Go.Proofs.YtdoeoojjabnboaaGreat
open Go.RowKit Go.Fin1
theorem putNum_size (n:Int):(putNum n).size≤10:=by
 unfold putNum putNumL;rw[strOfNums_size];exact putU_len 9 _
def numsS (l:List Int):ByteArray:=l.foldl (fun t n=>t++putNum n) ⟨#[]⟩
theorem numsS_snoc (l:List Int) (n:Int):numsS (l++[n])=numsS l++putNum n:=by simp[numsS]
theorem numsS_take {l:List Int} {k:Nat} (h:k < l.length):numsS (l.take (k+1))=numsS (l.take k)++putNum l[k]:=by
 rw[List.take_succ_eq_append_getElem h,numsS_snoc]
theorem numsS_size:∀ (l:List Int) (k:Nat),k≤l.length→(numsS (l.take k)).size≤10*k
 | _,0,_=>by show (ByteArray.mk #[]).size≤0;decide
 | l,k+1,h=>by
  rw[numsS_take (by omega),ByteArray.size_append]
  have:=numsS_size l k (by omega)
  have:=putNum_size l[k]
  omega
set_option maxHeartbeats 800000 in
theorem putNums_any (v:Value) (l:List Int) (w:World) (h:SlR w 1 rInt v l) (hl:l.length≤1048576) :
  Calls Tryz.prog 67 #[v] w fun e w'=>e=.returned (.string (numsS l))∧Ext w w':=by
 obtain⟨a,cap,rfl⟩:=h.len
 have HS:=tH h
 clear h
 go_enter Tryz.func67,Tryz.ntmps67
 go_wp2
 go_loopw [8,3,5] (fun i t _ wr=>∃ k:Nat,k≤l.length∧i=.int .i64 k∧t=.string (numsS (l.take k))∧Ext w wr) (fun i _ _ _=>l.length-(intOf i).toNat)
 case atStart=>exact⟨0,Nat.zero_le _,rfl,rfl,xE⟩
 case round =>
  obtain⟨k,hk,rfl,rfl,⟨X,rfl⟩⟩:=hrel
  by_cases hlt:k < l.length
  ·obtain⟨b,off,rfl⟩:=slr_some HS.out hlt
   obtain⟨ho,hok,h0⟩:=int_at HS.out hlt
   have hz1:=numsS_size l k hk
   have hz2:=putNum_size l[k]
   have hn:=numsS_take hlt
   go_wp2_with ((go_at_call 65;refine(implPutNum_any _ hok _).mono ?_;rintro e _ ⟨rfl,X,rfl⟩))
   exact⟨⟨k+1,by omega,by go_num,by rw[hn],xE⟩,by simp[intOf];omega⟩
  ·go_wp2
   go_ret
   exact⟨ret_str (by rw[show k=l.length by omega,List.take_length]),xE⟩
end Go.Proofs.YtdoeoojjabnboaaGreat
set_option maxRecDepth 100000
namespace Go.Proofs.YtdoeoojjabnboaaGreat
open Go.RowKit Go.Fin1
theorem nm_cases (d:Int):(97≤d∧d≤122∧decide (d≤122)=true)∨(48≤d∧d≤57∧decide (d≤57)=true)∨(95≤d∧d≤95∧decide (d≤57)=false∧(d == 95)=true) ∨
  (d < 48∧(d == 95)=false)∨(57 < d∧d < 97∧d≠95∧decide (d≤57)=false∧(d == 95)=false)∨(122 < d∧decide (d≤122)=false∧decide (d≤57)=false∧(d == 95)=false):=by
 simp only[decide_eq_true_eq,decide_eq_false_iff_not,beq_iff_eq,beq_eq_false_iff_ne];omega
@[irreducible] def putText (s:ByteArray):ByteArray:=if s.size≤8000 then putNum s.size++s else ⟨#[]⟩
set_option maxHeartbeats 400000 in
theorem isLongText_any (s:ByteArray) (w:World) :
  Calls Tryz.prog 79 #[.string s] w fun e w'=>e=.returned (.bool (decide (8000 < (s.size:Int))))∧w=w':=by
 go_enter Tryz.func79,Tryz.ntmps79
 go_wp2
 go_ret
 exact⟨rfl,rfl⟩
set_option maxHeartbeats 400000 in
theorem specPutText_any (s:ByteArray) (w:World) (hs:s.size≤maxLen) :
  Calls Tryz.prog 40 #[.string s] w fun e w'=>e=.returned (.string (putText s))∧Ext w w':=by
 have h64:I64 (s.size:Int):=by unfold maxLen at hs;unfold I64;omega
 have hz:=putNum_size s.size
 clear hs
 by_cases h:s.size≤8000
 ·go_enter Tryz.func40,Tryz.ntmps40
  go_wp2_with (first | (go_at_call 69;refine(specPutNum_any _ h64 _).mono ?_;rintro e _ ⟨rfl,X,rfl⟩))
  go_ret
  exact⟨ret_str (by rw[putText,if_pos h]),xE⟩
 ·go_enter Tryz.func40,Tryz.ntmps40
  go_wp2_with (first | (go_at_call 69;refine(specPutNum_any _ h64 _).mono ?_;rintro e _ ⟨rfl,X,rfl⟩))
  go_ret
  exact⟨ret_str (by rw[putText,if_neg h]),xE⟩
end Go.Proofs.YtdoeoojjabnboaaGreat
set_option maxRecDepth 100000
namespace Go.Proofs.YtdoeoojjabnboaaGreat
open Go.RowKit Go.Fin1
def crcBit (r:Int):Int:=if r % 2=1 then bits .xor .u32 (r / 2) 3988292384 else r / 2
def crcBits:Nat→Int→Int
 | 0,r=>r
 | n+1,r=>crcBits n (crcBit r)
def crcByte (r:Int) (c:UInt8):Int:=crcBits 8 (bits .xor .u32 r c.toNat)
def crcAll (r:Int) (l:List UInt8):Int:=l.foldl crcByte r
@[irreducible] def crcOf (crc:Int) (s:ByteArray):Int:=bits .xor .u32 (crcAll (bits .xor .u32 (crc % 4294967296) 4294967295) s.data.toList) 4294967295
theorem u32_bits_bd (op:BinOp) (x y:Int):0≤bits op .u32 x y∧bits op .u32 x y≤4294967295:=by
 unfold bits;rw[IntKind.wrap_u32];omega
theorem xor_comm32 (x y:Int):bits .xor .u32 x y=bits .xor .u32 y x:=by
 unfold bits;simp only[BitVec.xor_comm]
theorem xor_max (x:Int):bits .xor .u32 IntKind.u32.max x=bits .xor .u32 x 4294967295:=by
 rw[xor_comm32];rfl
theorem and_one32 (x:Int) (h0:0≤x) (h1:x≤4294967295):bits .and .u32 x 1=x % 2:=by
 rw[u32_and x 1 h0 (by omega) (by decide) (by decide)]
 simp only[show (1:Int).toNat=1 from rfl,Nat.and_one_is_mod];omega
theorem take_snoc (s:ByteArray) (k:Nat) (h:k < s.size):s.data.toList.take (k+1)=s.data.toList.take k++[s[k]]:=by
 rw[List.take_succ_eq_append_getElem (by simpa using h)];rfl
theorem crcAll_snoc (r:Int) (s:ByteArray) (k:Nat) (h:k < s.size):crcAll r (s.data.toList.take (k+1))=crcByte (crcAll r (s.data.toList.take k)) s[k]:=by
 rw[take_snoc s k h];simp[crcAll]
theorem crcAll_full (r:Int) (s:ByteArray) (k:Nat) (h:¬ k < s.size):crcAll r (s.data.toList.take k)=crcAll r s.data.toList:=by
 rw[List.take_of_length_le (by simp;omega)]
set_option maxHeartbeats 800000 in
theorem sumMore_any (n:Int) (s:ByteArray) (w:World) (hs:s.size≤1048576) :
  Calls Tryz.prog 148 #[.int .i64 n,.string s] w fun e w'=>e=.returned (.int .i64 (crcOf n s))∧w=w':=by
 have hb:=u32_bits_bd .xor (n % 4294967296) 4294967295
 have H0:=tH (xor_max (n % 4294967296))
 go_enter Tryz.func148,Tryz.ntmps148
 go_wp2
 rw[H0.out]
 generalize hr:bits .xor .u32 (n % 4294967296) 4294967295=r0 at hb
 have Hr:=tH hr
 clear hr H0
 obtain⟨hb0,hb1⟩:=hb
 go_loop [5,13] (fun r i=>∃ k:Nat,k≤s.size∧i=.int .i64 k∧∃ x:Int,r=.int .u32 x∧0≤x∧x≤4294967295∧Hid (x=crcAll r0 (s.data.toList.take k))) (fun _ i=>s.size-(intOf i).toNat)
 case atStart=>exact⟨0,Nat.zero_le _,rfl,r0,rfl,hb0,hb1,tH (by simp[crcAll])⟩
 case round =>
  obtain⟨k,hk,rfl,x,rfl,hx0,hx1,hx⟩:=hrel
  by_cases hlt:k < s.size
  ·have hcb:=u32_bits_bd .xor x s[k].toNat
   have hc:((s[k].toNat:Int) % 4294967296)=s[k].toNat:=by have:=s[k].toNat_lt;omega
   go_wp2
   generalize hy:bits .xor .u32 x s[k].toNat=y at hcb
   have Hy:=tH hy
   clear hy hc
   obtain⟨hy0,hy1⟩:=hcb
   go_loop [5,7,22] (fun r _ i=>∃ j:Nat,j≤8∧i=.int .i64 j∧∃ z:Int,r=.int .u32 z∧0≤z∧z≤4294967295∧Hid (crcBits (8-j) z=crcBits 8 y)) (fun _ _ i=>8-(intOf i).toNat)
   case atStart=>exact⟨0,by omega,rfl,y,rfl,hy0,hy1,tH rfl⟩
   case round =>
    obtain⟨j,hj,rfl,z,rfl,hz0,hz1,hz⟩:=hrel
    by_cases hj8:j < 8
    ·have ha:=and_one32 z hz0 hz1
     by_cases hodd:z % 2=1
     ·have hb2:=u32_bits_bd .xor (z / 2) 3988292384
      have hB:(z % 2 == 1)=true:=by simpa using hodd
      go_wp2
      exact⟨⟨j+1,by omega,by go_num,_,rfl,hb2.1,hb2.2,tH (by
       rw[← hz.out,show 8-j=(8-(j+1))+1 from by omega,crcBits,crcBit,if_pos hodd])⟩,by simp[intOf];omega⟩
     ·have hB:(z % 2 == 1)=false:=by simpa using hodd
      go_wp2
      exact⟨⟨j+1,by omega,by go_num,_,rfl,by omega,by omega,tH (by
       rw[← hz.out,show 8-j=(8-(j+1))+1 from by omega,crcBits,crcBit,if_neg hodd])⟩,by simp[intOf];omega⟩
    ·have h8:j=8:=by omega
     have Hz:Hid (z=crcBits 8 y):=tH (by have:=hz.out;rw[h8] at this;exact this)
     go_wp2
     exact⟨⟨k+1,by omega,by go_num,z,rfl,hz0,hz1,tH (by rw[crcAll_snoc r0 s k hlt,← hx.out,crcByte,Hy.out];exact Hz.out)⟩,by simp[intOf];omega⟩
  ·have hm:=u32_bits_bd .xor IntKind.u32.max x
   go_wp2
   go_ret
   exact⟨ret_int (by rw[xor_max,hx.out,crcAll_full r0 s k hlt,← Hr.out,crcOf]),rfl⟩
set_option maxHeartbeats 800000 in
theorem l01Crc_any (n:Int) (s:ByteArray) (w:World) (hs:s.size≤1048576) :
  Calls Tryz.prog 126 #[.int .i64 n,.string s] w fun e w'=>e=.returned (.int .i64 (crcOf n s))∧w=w':=by
 have hb:=u32_bits_bd .xor (n % 4294967296) 4294967295
 go_enter Tryz.func126,Tryz.ntmps126
 go_wp2
 generalize hr:bits .xor .u32 (n % 4294967296) 4294967295=r0 at hb
 have Hr:=tH hr
 clear hr
 obtain⟨hb0,hb1⟩:=hb
 go_loop [5,6,7] (fun r i _=>∃ k:Nat,k≤s.size∧i=.int .i64 k∧∃ x:Int,r=.int .u32 x∧0≤x∧x≤4294967295∧Hid (x=crcAll r0 (s.data.toList.take k))) (fun _ i _=>s.size-(intOf i).toNat)
 case atStart=>exact⟨0,Nat.zero_le _,rfl,r0,rfl,hb0,hb1,tH (by simp[crcAll])⟩
 case round =>
  obtain⟨k,hk,rfl,x,rfl,hx0,hx1,hx⟩:=hrel
  by_cases hlt:k < s.size
  ·have hcb:=u32_bits_bd .xor x s[k].toNat
   have hc:((s[k].toNat:Int) % 4294967296)=s[k].toNat:=by have:=s[k].toNat_lt;omega
   go_wp2
   generalize hy:bits .xor .u32 x s[k].toNat=y at hcb
   have Hy:=tH hy
   clear hy hc
   obtain⟨hy0,hy1⟩:=hcb
   go_loop [5,7] (fun r i=>∃ j:Nat,j≤8∧i=.int .i64 j∧∃ z:Int,r=.int .u32 z∧0≤z∧z≤4294967295∧Hid (crcBits (8-j) z=crcBits 8 y)) (fun _ i=>8-(intOf i).toNat)
   case atStart=>exact⟨0,by omega,rfl,y,rfl,hy0,hy1,tH rfl⟩
   case round =>
    obtain⟨j,hj,rfl,z,rfl,hz0,hz1,hz⟩:=hrel
    by_cases hj8:j < 8
    ·have ha:=and_one32 z hz0 hz1
     by_cases hodd:z % 2=1
     ·have hb2:=u32_bits_bd .xor (z / 2) 3988292384
      have hB:(z % 2 == 1)=true:=by simpa using hodd
      go_wp2
      exact⟨⟨j+1,by omega,by go_num,_,rfl,hb2.1,hb2.2,tH (by
       rw[← hz.out,show 8-j=(8-(j+1))+1 from by omega,crcBits,crcBit,if_pos hodd])⟩,by simp[intOf];omega⟩
     ·have hB:(z % 2 == 1)=false:=by simpa using hodd
      go_wp2
      exact⟨⟨j+1,by omega,by go_num,_,rfl,by omega,by omega,tH (by
       rw[← hz.out,show 8-j=(8-(j+1))+1 from by omega,crcBits,crcBit,if_neg hodd])⟩,by simp[intOf];omega⟩
    ·have h8:j=8:=by omega
     have Hz:Hid (z=crcBits 8 y):=tH (by have:=hz.out;rw[h8] at this;exact this)
     go_wp2
     exact⟨⟨k+1,by omega,by go_num,z,rfl,hz0,hz1,tH (by rw[crcAll_snoc r0 s k hlt,← hx.out,crcByte,Hy.out];exact Hz.out)⟩,by simp[intOf];omega⟩
  ·have hm:=u32_bits_bd .xor x 4294967295
   go_wp2
   go_ret
   exact⟨ret_int (by rw[hx.out,crcAll_full r0 s k hlt,← Hr.out,crcOf]),rfl⟩
end Go.Proofs.YtdoeoojjabnboaaGreat
set_option maxRecDepth 100000
namespace Go.Proofs.YtdoeoojjabnboaaGreat
open Go.RowKit
def byteAt (s:ByteArray) (i:Nat):Int:=if h:i < s.size then (s[i].toNat:Int) else 0
theorem byteAt_eq {s:ByteArray} {i:Nat} (h:i < s.size):byteAt s i=(s[i].toNat:Int):=by simp[byteAt,h]
theorem byteAt_bd (s:ByteArray) (i:Nat):0≤byteAt s i∧byteAt s i≤255:=by
 unfold byteAt;split
 ·have:=s[i].toNat_lt;omega
 ·omega
def unzig (u:Int):Int:=if u % 2=1 then -(u / 2)-1 else u / 2
structure NumO where
 n:Int
 at_:Int
 c:Int
def gn (s:ByteArray) (a:Nat):Nat→Nat→Int→NumO
 | 0,_,_=>⟨0,0,3⟩
 | f+1,k,u =>
  if s.size≤a+k then ⟨0,0,4⟩
  else if k=9∧1 < byteAt s (a+k) then ⟨0,0,3⟩
  else if 128≤byteAt s (a+k) then gn s a f (k+1) (u+byteAt s (a+k) % 128*2 ^ (7*k))
  else if byteAt s (a+k)=0∧0 < k then ⟨0,0,3⟩
  else ⟨unzig (u+byteAt s (a+k) % 128*2 ^ (7*k)),(a+k+1:Nat),0⟩
@[irreducible] def getNumG (s:ByteArray) (a:Nat):NumO:=gn s a 10 0 0
@[irreducible] def getNum (s:ByteArray) (at_:Int):NumO :=
 if 8000 < s.size then ⟨0,0,2⟩ else if at_ < 0 then ⟨0,0,1⟩ else if (s.size:Int)≤at_ then ⟨0,0,4⟩ else getNumG s at_.toNat
theorem pow7 (k:Nat) (h:k≤9):(0:Int) < 2 ^ (7*k)∧(2:Int) ^ (7*k)≤9223372036854775808:=by
 have:k=0∨k=1∨k=2∨k=3∨k=4∨k=5∨k=6∨k=7∨k=8∨k=9:=by omega
 rcases this with rfl | rfl | rfl | rfl | rfl | rfl | rfl | rfl | rfl | rfl<;>decide
theorem pow7s (k:Nat):(2:Int) ^ (7*(k+1))=128*2 ^ (7*k):=by
 rw[show 7*(k+1)=7*k+7 from by omega,Int.pow_add];omega
theorem pow7n (k:Nat) (h:k≤8):(2:Int) ^ (7*k)≤72057594037927936:=by
 have:k=0∨k=1∨k=2∨k=3∨k=4∨k=5∨k=6∨k=7∨k=8:=by omega
 rcases this with rfl | rfl | rfl | rfl | rfl | rfl | rfl | rfl | rfl<;>decide
theorem or_join {u d:Int} {k:Nat} (hk:k≤9) (h0:0≤u) (h1:u < 2 ^ (7*k)) (d0:0≤d) (d1:d≤127) (d9:k=9→d≤1) :
  bits .or .u64 u (d*2 ^ (7*k))=u+d*2 ^ (7*k)∧0≤d*2 ^ (7*k)∧u+d*2 ^ (7*k)≤18446744073709551615∧d*2 ^ (7*k)≤18446744073709551615:=by
 have hp:=pow7 k hk
 have hd:0≤d*2 ^ (7*k):=Int.mul_nonneg d0 (by omega)
 have hle:u+d*2 ^ (7*k)≤18446744073709551615:=by
  by_cases e:k=9
  ·have:=d9 e
   subst e
   have:d=0∨d=1:=by omega
   rcases this with rfl | rfl
   ·simp at h1 ⊢;omega
   ·simp at h1 ⊢;omega
  ·have h8:=pow7n k (by omega)
   have:d*2 ^ (7*k)≤127*2 ^ (7*k):=Int.mul_le_mul_of_nonneg_right d1 (by omega)
   omega
 refine⟨?_,hd,hle,by omega⟩
 rw[u64_or _ _ h0 (by omega) hd (by omega),Nat.or_comm]
 obtain⟨x,hx⟩:∃ x:Nat,d=x:=⟨d.toNat,by omega⟩
 obtain⟨y,hy⟩:∃ y:Nat,u=y:=⟨u.toNat,by omega⟩
 subst hx hy
 have e1:((x:Int)*2 ^ (7*k)).toNat=x*2 ^ (7*k):=by
  rw[show ((x:Int)*2 ^ (7*k))=((x*2 ^ (7*k):Nat):Int) from by push_cast;rfl];exact Int.toNat_natCast _
 rw[e1,Int.toNat_natCast,nat_join (7*k) _ _ (Nat.mul_mod_left _ _) (by exact_mod_cast h1)]
 push_cast;omega
theorem sum_lt {u d:Int} {k:Nat} (hk:k≤8) (h1:u < 2 ^ (7*k)) (d1:d≤127):u+d*2 ^ (7*k) < 2 ^ (7*(k+1)):=by
 rw[pow7s k]
 have hp:=pow7 k (by omega)
 have:d*2 ^ (7*k)≤127*2 ^ (7*k):=Int.mul_le_mul_of_nonneg_right d1 (by omega)
 omega
theorem unzig_not {n:Int} (h0:0≤n) (h1:n≤9223372036854775807):bits .xor .i64 (-1) n=-n-1:=by
 unfold bits
 change IntKind.i64.wrap (((BitVec.ofInt 64 (-1) ^^^ BitVec.ofInt 64 n:BitVec 64).toNat:Nat):Int)=_
 rw[show BitVec.ofInt 64 (-1)=BitVec.allOnes 64 from by decide,BitVec.xor_comm,BitVec.xor_allOnes,BitVec.toNat_not]
 have:(BitVec.ofInt 64 n).toNat=n.toNat:=by rw[BitVec.toNat_ofInt];omega
 rw[this,IntKind.wrap_i64]
 omega
end Go.Proofs.YtdoeoojjabnboaaGreat
