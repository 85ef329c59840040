/- The draws' small steps: one, bytes, edge, l01Any. -/
import Derived.Test.YtdoeoojjabnboaaGreatKDR1
import Derived.Test.YtdoeoojjabnboaaGreatKBG
import Derived.Test.YtdoeoojjabnboaaGreatKVBC
import Derived.Test.YtdoeoojjabnboaaGreatKPA1
import Derived.Test.YtdoeoojjabnboaaGreatKBA
set_option maxRecDepth 100000
set_option linter.unusedVariables false
namespace Go.Proofs.YtdoeoojjabnboaaGreat
open Go.RowKit Go.Fin1
theorem Src.ext {w w':World} {g:Nat} {cv:Value} {l:List Int} (h:Src w g cv l) (hx:Ext w w'):Src w' g cv l:=by
 obtain⟨⟨k,hk,h1⟩,h0,⟨m,m0,m1,h2⟩,hf⟩:=h
 have ho:=World.old_of_cell h0
 refine⟨⟨k,hk,hx.cell h1⟩,hx.cell h0,⟨m,m0,m1,hx.cell h2⟩,fun j=>?_⟩
 obtain⟨X,rfl⟩:=hx
 rw[World.frozen?_plus _ _ _ _ ho];exact hf j
theorem u8s_chg {S:List Nat} {w w':World} {v:Value} {l:List Int} (h:SlR w 1 rU8 v l) (hx:Chg S w w') (hb:0 < l.length→∀ a n c,v=.slice (some a) n c→a.block∉S):SlR w' 1 rU8 v l:=by
 obtain⟨a,cap,rfl,h1,h2,h3⟩:=h
 refine⟨a,cap,rfl,h1,h2,fun i hi=>?_⟩
 obtain⟨b,off,cs,rfl,hk,hc,hr⟩:=h3 i hi
 refine⟨b,off,cs,rfl,hk,fun j u hu=>?_,hr⟩
 have hq:=hc j u hu
 have hlt:=World.block_lt_of_cell? w _ hq
 simp only[World.cell?,hx.block b hlt (hb (Nat.lt_of_le_of_lt (Nat.zero_le _) hi) _ _ _ rfl)] at hq ⊢
 exact hq
theorem u8s_past {S:List Nat} {w w':World} {v:Value} {l:List Int} (h:SlR w 1 rU8 v l) (hx:Chg S w w') (hS:∀ b∈S,w.heap.size≤b):SlR w' 1 rU8 v l :=
 u8s_chg h hx fun h0 a n c e hb=>by
  subst e
  obtain⟨b,off,he⟩:=slr_some h h0
  simp at he
  subst he
  have h1:=(u8_at h h0).1
  have h2:=hS _ hb
  unfold World.old at h1
  simp at h2
  omega
structure SrcA (w:World) (g:Nat) (cv:Value) (l:List Int):Prop where
 src:Src w g cv l
 code:SlR w 1 rU8 cv l
 far:0 < l.length→∀ a n c,cv=.slice (some a) n c→a.block≠g
theorem SrcA.ext {w w':World} {g:Nat} {cv:Value} {l:List Int} (h:SrcA w g cv l) (hx:Ext w w'):SrcA w' g cv l:=⟨h.src.ext hx,h.code.ext rU8_stable hx,h.far⟩
theorem SrcA.old {w:World} {g:Nat} {cv:Value} {l:List Int} (h:SrcA w g cv l):g < w.heap.size:=World.old_of_cell h.src.code
theorem SrcA.chg {S:List Nat} {w0 w w':World} {g:Nat} {cv:Value} {l:List Int} (h:SrcA w g cv l) (h0:SrcA w0 g cv l) (hx:Chg S w w') (hS:∀ b∈S,w0.heap.size≤b):SrcA w' g cv l:=by
 have hg:g∉S:=fun hb=>by have:=hS _ hb;have:=h0.old;omega
 have hl:=h.old
 have hc:∀ j u,w.cell? ⟨g,j,none⟩=some u→w'.cell? ⟨g,j,none⟩=some u:=fun j u hu=>by
  simp only[World.cell?,hx.block g hl hg] at hu ⊢;exact hu
 refine⟨?_,?_,h.far⟩
 ·obtain⟨⟨k,hk,q1⟩,q0,⟨m,m0,m1,q2⟩,hf⟩:=h.src
  refine⟨⟨k,hk,hc _ _ q1⟩,hc _ _ q0,⟨m,m0,m1,hc _ _ q2⟩,fun j=>?_⟩
  have:=hf j
  simp only[World.frozen?,hx.block g hl hg] at this ⊢;exact this
 ·obtain⟨a,cap,rfl,h1,h2,h3⟩:=h.code
  refine⟨a,cap,rfl,h1,h2,fun i hi=>?_⟩
  obtain⟨b,off,cs,rfl,hk,hcc,hr⟩:=h3 i hi
  have hb0:b < w0.heap.size:=(u8_at h0.code hi).1
  refine⟨b,off,cs,rfl,hk,fun j u hu=>?_,hr⟩
  have hq:=hcc j u hu
  have hlt:=World.block_lt_of_cell? w _ hq
  simp only[World.cell?,hx.block b hlt (fun hb=>by have:=hS _ hb;omega)] at hq ⊢
  exact hq
theorem srcN' (g:Nat) (most:Int) (w:World) (cv:Value) (l:List Int) (h:SrcA w g cv l) (hm:I64 most) :
  Calls Tryz.prog 45 #[.pointer (some ⟨g,0,none⟩),(.int .i64 most)] w fun e w'=>∃ v:Nat,e=.returned (.int .i64 (v:Int))∧((v:Int) < most∨v=0)∧Chg [g] w w'∧SrcA w' g cv l:=by
 obtain⟨h1,h2,h3⟩:=h
 refine(srcN_any g cv l most w h1 h2 h3 hm).mono ?_
 rintro e w' ⟨v,rfl,h0,hlt,hc,hs⟩
 refine⟨v.toNat,by rw[Int.toNat_of_nonneg h0],by omega,hc,hs,u8s_chg h2 hc (fun h0 a n c e hb=>h3 h0 a n c e (by simpa using hb)),h3⟩
set_option maxHeartbeats 400000 in
theorem srcOne_any (g:Nat) (most:Int) (w:World) (cv:Value) (l:List Int) (h:SrcA w g cv l) (hm:I64 most) :
  Calls Tryz.prog 44 #[.pointer (some ⟨g,0,none⟩),(.int .i64 most)] w fun e w'=>∃ b:Bool,e=.returned (.bool b)∧Chg [g] w w'∧SrcA w' g cv l:=by
 have HS:=tH h
 have HM:=tH hm
 clear h hm
 go_enter Tryz.func44,Tryz.ntmps44
 go_wp2_with fail
 refine(srcN' g most _ cv l HS.out HM.out).mono ?_
 rintro e w2 ⟨v,rfl,hb,hc,hs⟩
 have HC:=tH hc
 have HS2:=tH hs
 clear hc hs hb
 go_wp2
 go_ret
 exact⟨_,rfl,HC.out,HS2.out⟩
end Go.Proofs.YtdoeoojjabnboaaGreat
set_option maxRecDepth 100000
namespace Go.Proofs.YtdoeoojjabnboaaGreat
open Go.RowKit Go.Fin1
theorem info_u8:(Tryz.prog.info? 5).map (fun i=>(i.zero,i.size,i.bytes))=some (some (.int .u8 0),1,1):=by kernel_rfl
theorem el_u8:ElemInfo Tryz.prog 22 5 1 1:=by
 obtain⟨i,hi,hz,hs,hb⟩:=info_parts info_u8
 exact⟨Tryz.underlying22,⟨i,_,hi,hz,hs,hb,rfl⟩,by decide⟩
set_option maxHeartbeats 400000 in
theorem l01Fold_any (n:Int) (h:I64 n) (w:World) :
  Calls Tryz.prog 120 #[.int .i64 n] w fun e w'=>e=.returned (.int .u64 (zig n))∧w=w':=by
 obtain⟨h1,h2⟩:=h
 go_enter Tryz.func120,Tryz.ntmps120
 go_wp2
 all_goals go_ret
 all_goals exact⟨ret_int (by unfold zig;first | rw[if_pos (by omega)] | rw[if_neg (by omega)]),rfl⟩
set_option maxHeartbeats 400000 in
theorem implPutNum_any (n:Int) (h:I64 n) (w:World) :
  Calls Tryz.prog 65 #[.int .i64 n] w fun e w'=>e=.returned (.string (putNum n))∧Ext w w':=by
 have hz:=zig_bits h
 have hbd:=zig_bd h
 have h':=h
 obtain⟨h1,h2⟩:=h'
 go_enter Tryz.func65,Tryz.ntmps65
 go_wp2
 have Hb:=tH hbd
 have h64:zig n < lim 9:=by rw[lim9];omega
 clear hz hbd
 go_loopw [3,4] (fun v r wr=>∃ (X:More) (f:Nat) (u:Int) (pre:List Int),wr=w.plus X∧(w.plus X).ownsRow w.heap.size 5 1 v pre.length (pre.map (Value.int .u8))∧r=.int .u64 u∧0≤u∧u < lim f∧u≤18446744073709551615∧pre.length+f=9∧Hid (pre++putU f u=putNumL n)) (fun _ r _=>(intOf r).toNat)
 case atStart =>
  obtain⟨X,hX⟩:=(Ext.refl w).alloc (.cells #[] 5)
  refine⟨X,9,zig n,[],hX,?_,rfl,Hb.out.1,h64,Hb.out.2,rfl,tH (by unfold putNumL;rfl)⟩
  rw[← hX]
  exact World.ownsRow_made (base:=w.heap.size) w #[] 0 (Nat.le_refl _) (by decide) rfl
 case round =>
  obtain⟨X,f,u,pre,rfl,hown,rfl,hu0,hul,hu64,hlen,hpre⟩:=hrel
  by_cases hu:u < 128
  ·have hb:=byteSmall hu0 hu
   go_wp2_with (at_builtin;go_must (refine app_one el_u8 rfl _ _ rfl w ⟨X,rfl⟩ _ pre.length _ rfl hown _ ?_ rfl rfl ?_ ?_ ?_ ?_);(simp only[World.size_plus]);(simp[Value.oneCell']);(unfold maxLen;omega);omega;intro v' X' hown' hne;have hs:=run_string_own (P:=Tryz.prog) (src:=22) (dst:=9) (xs:=pre++[u]) Tryz.underlying22 Tryz.underlying5 Tryz.underlying9 (by simpa using hown');clear hown')
   go_ret
   exact⟨ret_str (by unfold putNum;rw[← hpre.out,putU_small hu]),X',rfl⟩
  ·have ho:=or128' u
   go_wp2_with (at_builtin;go_must (refine app_one el_u8 rfl _ _ rfl w ⟨X,rfl⟩ _ pre.length _ rfl hown _ ?_ rfl rfl ?_ ?_ ?_ ?_);(simp only[World.size_plus]);(simp[Value.oneCell']);(unfold maxLen;omega);omega;intro v' X' hown' hne)
   have hf:f≠0:=by intro e;subst e;simp[lim] at hul;omega
   obtain⟨g,rfl⟩:∃ g,f=g+1:=⟨f-1,by omega⟩
   refine⟨⟨X',g,u / 128,pre++[u % 128+128],rfl,by simpa using hown',rfl,by omega,by simp only[lim] at hul;omega,by omega,by simp;omega,tH ?_⟩,by simp[intOf];omega⟩
   rw[← hpre.out,putU_big hu];simp
set_option maxHeartbeats 400000 in
theorem specPutNum_any (n:Int) (h:I64 n) (w:World) :
  Calls Tryz.prog 69 #[.int .i64 n] w fun e w'=>e=.returned (.string (putNum n))∧Ext w w':=by
 have hbd:=zig_bd h
 have h64:zig n < lim 9:=by rw[lim9];omega
 have Hb:=tH hbd
 go_enter Tryz.func69,Tryz.ntmps69
 go_wp2_with (go_at_call 120;refine(l01Fold_any n h _).mono ?_;rintro e _ ⟨rfl,rfl⟩)
 clear hbd
 go_loopw [4,3] (fun v r wr=>∃ (X:More) (f:Nat) (u:Int) (pre:List Int),wr=w.plus X∧(w.plus X).ownsRow w.heap.size 5 1 v pre.length (pre.map (Value.int .u8))∧r=.int .u64 u∧0≤u∧u < lim f∧u≤18446744073709551615∧pre.length+f=9∧Hid (pre++putU f u=putNumL n)) (fun _ r _=>(intOf r).toNat)
 case atStart =>
  obtain⟨X,hX⟩:=(Ext.refl w).alloc (.cells #[] 5)
  refine⟨X,9,zig n,[],hX,?_,rfl,Hb.out.1,h64,Hb.out.2,rfl,tH (by unfold putNumL;rfl)⟩
  rw[← hX]
  exact World.ownsRow_made (base:=w.heap.size) w #[] 0 (Nat.le_refl _) (by decide) rfl
 case round =>
  obtain⟨X,f,u,pre,rfl,hown,rfl,hu0,hul,hu64,hlen,hpre⟩:=hrel
  by_cases hu:u < 128
  ·have hb:=byteSmall hu0 hu
   go_wp2_with (at_builtin;refine app_one el_u8 rfl _ _ rfl w ⟨X,rfl⟩ _ pre.length _ rfl hown _ ?_ rfl rfl ?_ ?_ ?_ ?_;(simp only[World.size_plus]);(simp[Value.oneCell']);(unfold maxLen;omega);omega;intro v' X' hown' hne;have hs:=run_string_own (P:=Tryz.prog) (src:=22) (dst:=9) (xs:=pre++[u]) Tryz.underlying22 Tryz.underlying5 Tryz.underlying9 (by simpa using hown');clear hown')
   go_ret
   exact⟨ret_str (by unfold putNum;rw[← hpre.out,putU_small hu]),X',rfl⟩
  ·have ho:=byte128 u
   go_wp2_with (at_builtin;refine app_one el_u8 rfl _ _ rfl w ⟨X,rfl⟩ _ pre.length _ rfl hown _ ?_ rfl rfl ?_ ?_ ?_ ?_;(simp only[World.size_plus]);(simp[Value.oneCell']);(unfold maxLen;omega);omega;intro v' X' hown' hne)
   have hf:f≠0:=by intro e;subst e;simp[lim] at hul;omega
   obtain⟨g,rfl⟩:∃ g,f=g+1:=⟨f-1,by omega⟩
   refine⟨⟨X',g,u / 128,pre++[u % 128+128],rfl,by simpa using hown',rfl,by omega,by simp only[lim] at hul;omega,by omega,by simp;omega,tH ?_⟩,by simp[intOf];omega⟩
   rw[← hpre.out,putU_big hu];simp
end Go.Proofs.YtdoeoojjabnboaaGreat
