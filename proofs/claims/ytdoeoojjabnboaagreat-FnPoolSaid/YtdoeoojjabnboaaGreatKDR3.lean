/- putNums: numbers behind one another. -/
import Derived.Test.YtdoeoojjabnboaaGreatKW1
import Derived.Test.YtdoeoojjabnboaaGreatKBA
import Derived.Test.YtdoeoojjabnboaaGreatKBG
import Derived.Deep.Cut
set_option maxRecDepth 100000
namespace Go.Proofs.YtdoeoojjabnboaaGreat
open Go.RowKit Go.Fin1
theorem putNum_size (n:Int):(putNum n).size≤10:=by
 unfold putNum putNumL;rw[strOfNums_size];exact putU_len 9 _
def numsS (l:List Int):ByteArray:=l.foldl (fun t n=>t++putNum n) ⟨#[]⟩
theorem numsS_snoc (l:List Int) (n:Int):numsS (l++[n])=numsS l++putNum n:=by simp[numsS]
theorem numsS_take {l:List Int} {k:Nat} (h:k < l.length):numsS (l.take (k+1))=numsS (l.take k)++putNum l[k]:=by
 rw[List.take_succ_eq_append_getElem h,numsS_snoc]
theorem numsS_size:∀ (l:List Int) (k:Nat),k≤l.length→(numsS (l.take k)).size≤10*k
 | _,0,_=>by show (ByteArray.mk #[]).size≤0;decide
 | l,k+1,h=>by
  rw[numsS_take (by omega),ByteArray.size_append]
  have:=numsS_size l k (by omega)
  have:=putNum_size l[k]
  omega
set_option maxHeartbeats 800000 in
theorem putNums_any (v:Value) (l:List Int) (w:World) (h:SlR w 1 rInt v l) (hl:l.length≤1048576) :
  Calls Tryz.prog 67 #[v] w fun e w'=>e=.returned (.string (numsS l))∧Ext w w':=by
 obtain⟨a,cap,rfl⟩:=h.len
 have HS:=tH h
 clear h
 go_enter Tryz.func67,Tryz.ntmps67
 go_wp2
 go_loopw [8,3,5] (fun i t _ wr=>∃ k:Nat,k≤l.length∧i=.int .i64 k∧t=.string (numsS (l.take k))∧Ext w wr) (fun i _ _ _=>l.length-(intOf i).toNat)
 case atStart=>exact⟨0,Nat.zero_le _,rfl,rfl,xE⟩
 case round =>
  obtain⟨k,hk,rfl,rfl,⟨X,rfl⟩⟩:=hrel
  by_cases hlt:k < l.length
  ·obtain⟨b,off,rfl⟩:=slr_some HS.out hlt
   obtain⟨ho,hok,h0⟩:=int_at HS.out hlt
   have hz1:=numsS_size l k hk
   have hz2:=putNum_size l[k]
   have hn:=numsS_take hlt
   go_wp2_with ((go_at_call 65;refine(implPutNum_any _ hok _).mono ?_;rintro e _ ⟨rfl,X,rfl⟩))
   exact⟨⟨k+1,by omega,by go_num,by rw[hn],xE⟩,by simp[intOf];omega⟩
  ·go_wp2
   go_ret
   exact⟨ret_str (by rw[show k=l.length by omega,List.take_length]),xE⟩
end Go.Proofs.YtdoeoojjabnboaaGreat
set_option maxRecDepth 100000
namespace Go.Proofs.YtdoeoojjabnboaaGreat
open Go.RowKit Go.Fin1
end Go.Proofs.YtdoeoojjabnboaaGreat
set_option maxRecDepth 100000
namespace Go.Proofs.YtdoeoojjabnboaaGreat
open Go.RowKit Go.Fin1
end Go.Proofs.YtdoeoojjabnboaaGreat
set_option maxRecDepth 100000
namespace Go.Proofs.YtdoeoojjabnboaaGreat
open Go.RowKit
structure NumO where
 n:Int
 at_:Int
 c:Int
end Go.Proofs.YtdoeoojjabnboaaGreat
set_option maxRecDepth 100000
namespace Go.Proofs.YtdoeoojjabnboaaGreat
open Go.RowKit Go.Fin1
end Go.Proofs.YtdoeoojjabnboaaGreat
set_option maxRecDepth 100000
namespace Go.Proofs.YtdoeoojjabnboaaGreat
open Go.RowKit Go.Fin1
structure TextO where
 t:ByteArray
 at_:Int
 c:Int
end Go.Proofs.YtdoeoojjabnboaaGreat
set_option maxRecDepth 100000
namespace Go.Proofs.YtdoeoojjabnboaaGreat
open Go.RowKit Go.Fin1
end Go.Proofs.YtdoeoojjabnboaaGreat
set_option maxRecDepth 100000
set_option linter.unusedVariables false
namespace Go
open Go.RowKit
section
variable {P:Program} {ops:Array Oper} {rest:List Oper} {op:Oper} {a:Act} {Q:Exit→Act→World→Prop}
end
end Go
namespace Go.Proofs.YtdoeoojjabnboaaGreat
open Go.RowKit Go.Fin1
theorem u64_wrap_bd (x:Int):0≤IntKind.u64.wrap x∧IntKind.u64.wrap x≤18446744073709551615:=by
 have hw:IntKind.u64.wrap x=x % 18446744073709551616:=by simp[IntKind.wrap,IntKind.bits,IntKind.signed]
 rw[hw];omega
theorem SrcM.set3 {w W:World} {g:Nat} {cv:Value} {k m:Int} (h:SrcM w W g cv k m) (u:Value):SrcM w (W.setCell ⟨g,3,none⟩ u) g cv k m :=
 ⟨by rw[World.old_setCell];exact h.old,by rw[World.cell?_setCell_other _ _ _ _ (by simp)];exact h.c0,by rw[World.cell?_setCell_other _ _ _ _ (by simp)];exact h.c1,by rw[World.cell?_setCell_other _ _ _ _ (by simp)];exact h.c2,fun j=>by rw[World.frozen?_setCell];exact h.fz j,h.chg.setCell (.inl (by simp)) _⟩
theorem SrcM.fin {w W:World} {cv:Value} {m:Int} {l:List Int} (h:SrcM w W w.heap.size cv 0 m) (h0:0≤m) (h1:m≤18446744073709551615) (hs:SlR w 1 rU8 cv l):Ext w W∧SrcA W w.heap.size cv l :=
 ⟨h.chg.ext (Ext.refl _) (by simp),SrcM.src (k:=0) h (Nat.zero_le _) h0 h1,u8s_past hs h.chg (by simp),fun hl a n c e=>by
  subst e
  obtain⟨b,off,he⟩:=slr_some hs hl
  simp at he
  subst he
  have:=(u8_at hs hl).1
  unfold World.old at this
  simp;omega⟩
set_option maxHeartbeats 1600000 in
theorem l01Source_any (v:Value) (l:List Int) (w:World) (h:SlR w 1 rU8 v l) (hl:l.length≤1048576) :
  Calls Tryz.prog 41 #[v] w fun e w'=>∃ g,e=.returned (.pointer (some ⟨g,0,none⟩))∧w.heap.size≤g∧Ext w w'∧SrcA w' g v l:=by
 obtain⟨a,cap,rfl⟩:=h.len
 have HS:=tH h
 clear h
 go_enter Tryz.func41,Tryz.ntmps41
 go_wp2
 go_loopw [4] (fun i wr=>∃ k:Nat,∃ m:Int,k≤l.length∧i=.int .i64 k∧0≤m∧m≤18446744073709551615∧Hid (SrcM w wr w.heap.size (.slice a l.length cap) 0 m)∧Hid (wr.cell? ⟨w.heap.size,3,none⟩=some (.int .i64 0))) (fun i _=>l.length-(intOf i).toNat)
 case atStart=>exact⟨0,88172645463325252,Nat.zero_le _,rfl,by omega,by omega,tH ⟨by simp[World.old],by simp,by simp,by simp,fun j=>by simp,(Chg.refl _ _).alloc _⟩,tH (by simp)⟩
 case round =>
  obtain⟨k,m,hk,rfl,hm0,hm1,HM,H3⟩:=hrel
  obtain⟨ho,c0,c1,c2,hfz,hch⟩:=HM.out
  have c3:=H3.out
  have HS1:=tH (u8s_past HS.out hch (by simp))
  clear hch
  by_cases hlt:k < l.length
  ·by_cases h64:k < 64
   ·have hb64:decide ((k:Int) < 64)=true:=decide_eq_true (by omega)
    obtain⟨b,off,rfl⟩:=slr_some HS1.out hlt
    obtain⟨hob,b0,b1,hcb⟩:=u8_at HS1.out hlt
    have hbw:b≠w.heap.size:=by have:=(u8_at HS.out hlt).1;unfold World.old at this;omega
    clear c3
    go_upto_region 5 with fail
    (refine wp_region_x 14 (by kernel_rfl) (by kernel_rfl) (by kernel_rfl) ?_;(iterate 14 (apply XReg.step;(case h=>(intro w' hw';obtain⟨X',rfl⟩:=hw';go_wp2_with (fail);exact⟨rfl,xE⟩));(case hv=>kernel_rfl)));refine XReg.done1 (fun X=>?_))
    go_upto_region 4 with fail
    refine gen_world (fun W2 hW=>?_)
    obtain⟨m2,hn0,hn1,hn⟩:∃ n:Int,0≤n∧n≤18446744073709551615∧SrcM w W2 w.heap.size _ 0 n:=⟨_,(u64_wrap_bd _).1,(u64_wrap_bd _).2,by rw[hW];exact(HM.out.set2 _).plus _⟩
    have H33:Hid (W2.cell? ⟨w.heap.size,3,none⟩=some (.int .i64 0)):=tH (by
     rw[hW]
     refine((Ext.refl _).plus _).cell ?_
     rw[World.cell?_setCell_other _ _ _ _ (by simp)]
     exact H3.out)
    have HN:=tH hn
    clear hn hW c0 c1 c2 hfz ho hcb hob
    go_wp2
    exact⟨⟨k+1,m2,by omega,by go_num,hn0,hn1,HN,H33⟩,by simp[intOf];omega⟩
   ·have hb64:decide ((k:Int) < 64)=false:=decide_eq_false (by omega)
    go_wp2
    all_goals go_ret
    all_goals (refine⟨w.heap.size,rfl,Nat.le_refl _,?_⟩;exact SrcM.fin (by first | exact HM.out.set3 _ | exact(HM.out.set3 _).set3 _) hm0 hm1 HS.out)
  ·have hkk:decide ((k:Int) < (l.length:Int))=false:=decide_eq_false (by omega)
   go_wp2
   all_goals go_ret
   all_goals (refine⟨w.heap.size,rfl,Nat.le_refl _,?_⟩;exact SrcM.fin (by first | exact HM.out.set3 _ | exact(HM.out.set3 _).set3 _) hm0 hm1 HS.out)
end Go.Proofs.YtdoeoojjabnboaaGreat
