/- Small words for the walks of this seat: a world that has grown ('plus'), what is old in it, a few closing lemmas. No statement is proved here. -/
import Derived.Test.YtbmbanelodabgaaGreatDoorRows
import Derived.WalkKit
import Derived.WalkSpells
import Derived.WalkLawsBesides
import Derived.Lib.Hide
import Derived.ProofKit
import Derived.OpenShut
import Derived.ShutString
import Derived.ChangeOld
import Derived.Lib.MinMax
import Derived.Deep.RegionHeld3
import Derived.Deep.DeepCutAuto
import Derived.Laws.OwnMore
set_option maxRecDepth 100000
namespace Go
structure More where
 objs:Array Obj
 drawn:Nat
def More.n (X:More):Nat:=X.objs.size
def World.plus (w:World) (X:More):World:={ w with heap:=w.heap++X.objs,drawn:=X.drawn }
def World.old (w:World) (b:Nat):Prop:=b < w.heap.size
theorem World.old_of_cell {w:World} {b o:Nat} {v:Value} (h:w.cell? ⟨b,o,none⟩=some v):w.old b:=World.block_lt_of_cell? w _ h
def More.has (X:More) (w:World) (b:Nat):Prop:=w.heap.size≤b∧b < w.heap.size+X.n
@[go_sem,simp] theorem World.size_plus (w:World) (X:More):(w.plus X).heap.size=w.heap.size+X.n:=by simp[World.plus,More.n]
@[go_sem,simp] theorem World.tape_plus (w:World) (X:More):(w.plus X).tape=w.tape:=rfl
@[go_sem low] theorem World.old_alloc (w:World) (o:Obj) (b:Nat):(w.alloc o).old b=(b=w.heap.size∨w.old b):=by
 simp only[World.old,World.size_alloc,eq_iff_iff];omega
@[go_sem low] theorem World.old_plus (w:World) (X:More) (b:Nat):(w.plus X).old b=(X.has w b∨w.old b):=by
 simp only[World.old,World.size_plus,More.has,eq_iff_iff];omega
@[go_sem] theorem World.old_drew (w:World) (b:Nat):w.drew.old b=w.old b:=rfl
@[go_sem] theorem World.old_setCell (w:World) (a:Addr) (v:Value) (b:Nat):(w.setCell a v).old b=w.old b:=by simp[World.old]
@[go_sem] theorem World.cell?_alloc_was (w:World) (o:Obj) (b i:Nat) (h:w.old b):(w.alloc o).cell? ⟨b,i,none⟩=w.cell? ⟨b,i,none⟩:=World.cell?_alloc_lt w o _ h
@[go_sem] theorem World.frozen?_alloc_was (w:World) (o:Obj) (b i:Nat) (h:w.old b):(w.alloc o).frozen? ⟨b,i,none⟩=w.frozen? ⟨b,i,none⟩:=World.frozen?_alloc_old w o _ (Nat.ne_of_lt h)
theorem World.heap_plus (w:World) (X:More) (b:Nat) (h:w.old b):(w.plus X).heap[b]?=w.heap[b]?:=by
 simp only[World.plus];exact Array.getElem?_append_left h
@[go_sem] theorem World.cell?_plus (w:World) (X:More) (b i:Nat) (h:w.old b):(w.plus X).cell? ⟨b,i,none⟩=w.cell? ⟨b,i,none⟩:=by
 simp only[World.cell?,World.heap_plus w X b h]
@[go_sem] theorem World.frozen?_plus (w:World) (X:More) (b i:Nat) (h:w.old b):(w.plus X).frozen? ⟨b,i,none⟩=w.frozen? ⟨b,i,none⟩:=by
 simp only[World.frozen?,World.heap_plus w X b h]
@[go_sem] theorem World.setCell_plus (w:World) (X:More) (b i:Nat) (v:Value) (h:w.old b):(w.plus X).setCell ⟨b,i,none⟩ v=(w.setCell ⟨b,i,none⟩ v).plus X:=by
 simp only[World.setCell,World.plus,World.mk.injEq,and_true]
 refine Array.ext_getElem? fun k=>?_
 simp only[Array.getElem?_modify,Array.getElem?_append,Array.size_modify]
 by_cases hk:k < w.heap.size
 ·simp only[hk,if_true]
 ·have hb:b < w.heap.size:=h
  have:b≠k:=by omega
  simp only[hk,if_false,this]
@[go_sem] theorem World.plus_drew (w:World) (X:More):(w.plus X).drew=w.plus ⟨X.objs,X.drawn+1⟩:=rfl
@[go_sem] theorem World.drew_plus (w:World) (X:More):w.drew.plus X=w.plus X:=rfl
def Ext (w w':World):Prop:=∃ X:More,w'=w.plus X
theorem Ext.refl (w:World):Ext w w:=⟨⟨#[],w.drawn⟩,by simp[World.plus]⟩
theorem Ext.trans {a b c:World} (h:Ext a b) (k:Ext b c):Ext a c:=by
 obtain⟨X,rfl⟩:=h;obtain⟨Y,rfl⟩:=k
 exact⟨⟨X.objs++Y.objs,Y.drawn⟩,by simp[World.plus,Array.append_assoc]⟩
theorem Ext.alloc {a b:World} (h:Ext a b) (o:Obj):Ext a (b.alloc o) :=
 h.trans ⟨⟨#[o],b.drawn⟩,by simp only[World.plus,World.alloc,Array.push_eq_append]⟩
theorem Ext.plus {a b:World} (h:Ext a b) (X:More):Ext a (b.plus X):=h.trans ⟨X,rfl⟩
theorem Ext.drew {a b:World} (h:Ext a b):Ext a b.drew:=h.trans ⟨⟨#[],b.drawn+1⟩,by simp only[World.plus,World.drew,Array.append_empty]⟩
theorem Ext.below {w w':World} (h:Ext w w'):RowKit.Below w.heap.size w w':=by
 obtain⟨X,rfl⟩:=h
 exact⟨rfl,rfl,rfl,by simp,fun k hk=>World.heap_plus w X k hk⟩
theorem Ext.of_below {w w':World} (h:RowKit.Below w.heap.size w w'):Ext w w':=by
 refine⟨⟨w'.heap.extract w.heap.size w'.heap.size,w'.drawn⟩,?_⟩
 have e:w'.heap=w.heap++w'.heap.extract w.heap.size w'.heap.size:=by
  refine Array.ext_getElem? fun k=>?_
  rw[Array.getElem?_append]
  by_cases hk:k < w.heap.size
  ·rw[if_pos hk,h.block k hk]
  ·rw[if_neg hk,Array.getElem?_extract]
   have:=h.size
   by_cases hk':k < w'.heap.size
   ·rw[if_pos (by omega)];congr 1;omega
   ·rw[if_neg (by omega),Array.getElem?_eq_none (by omega)]
 cases w;cases w'
 simp only[World.plus,World.mk.injEq] at *
 exact⟨e,h.tape,trivial,h.os,h.output⟩
theorem Ext.grown {w a w':World} {row:Option Nat} (h:Ext w a) (hg:a.grownBy w' row) (hr:∀ k,row=some k→w.heap.size≤k):Ext w w' :=
 Ext.of_below (h.below.grown hg h.below.size hr)
theorem Ext.setCell {w a:World} (h:Ext w a) {p:Addr} (hp:w.heap.size≤p.block) (u:Value):Ext w (a.setCell p u) :=
 Ext.of_below (h.below.setCell hp u)
namespace Fin1
theorem ret_bool {a b:Bool} (h:a=b):Ending.returned (.bool a)=.returned (.bool b):=by rw[h]
theorem ret_int {k:IntKind} {a b:Int} (h:a=b):Ending.returned (.int k a)=.returned (.int k b):=by rw[h]
theorem ret_str {a b:ByteArray} (h:a=b):Ending.returned (.string a)=.returned (.string b):=by rw[h]
end Fin1
end Go
set_option maxRecDepth 100000
namespace Go.Proofs.YtbmbanelodabgaaGreatDoor
open Go.ChangeShapes Go.WideShapes Go.ChangeAt Go.RowKit
open Go.ChangeMaps (open_string shut_string)
theorem own:ownKnob Tryz.prog.godebug=none:=by kernel_rfl
theorem laidOut:laidOutB Tryz.prog=true:=by kernel_rfl
def I64 (n:Int):Prop:=-9223372036854775808≤n∧n≤9223372036854775807
structure Lab where
 lv:Int
 st:Int
def Lab.ok (a:Lab):Prop:=I64 a.lv∧I64 a.st
def Lab.cells (a:Lab):List Value:=[.int .i64 a.lv,.int .i64 a.st]
def Lab.val (a:Lab):Value:=.agg #[.int .i64 a.lv,.int .i64 a.st]
structure Ent where
 k:Int
 l:Lab
 a:Int
 b:Int
 c:Int
section
variable {H:Type} {enc:TypeId×Value→H} {w:World} {base:Nat} {spare:Nat→Bool} {held:Bool} {fuel:Nat} {cs:List Value} {x:DataW H×List MemPlace}
end
section
variable {H:Type} {enc:TypeId×Value→H} {w:World} {base:Nat} {spare:Nat→Bool} {held:Bool} {r:Reach} {b0:Nat} {v:Value} {d:DataW H} {ps:List MemPlace}
end
end Go.Proofs.YtbmbanelodabgaaGreatDoor
set_option maxRecDepth 100000
namespace Go.Proofs.YtbmbanelodabgaaGreatDoor
open Go.RowKit
theorem wrap_toInt (v:BitVec 64):IntKind.i64.wrap (v.toNat:Int)=v.toInt:=by
 rw[IntKind.wrap_i64,BitVec.toInt_eq_toNat_cond]
 have:=v.isLt
 split<;>omega
theorem ofInt_toInt {n:Int} (h:I64 n):(BitVec.ofInt 64 n).toInt=n:=by
 unfold I64 at h
 rw[BitVec.toInt_ofInt]
 simp only[Int.bmod_def];split<;>omega
theorem bits_and64 (x y:Int):bits .and .i64 x y=(BitVec.ofInt 64 x &&& BitVec.ofInt 64 y).toInt:=wrap_toInt _
theorem bits_andNot64 (x y:Int):bits .andNot .i64 x y=(BitVec.ofInt 64 x &&& ~~~ BitVec.ofInt 64 y).toInt:=wrap_toInt _
theorem bv_below (x y:BitVec 64):x &&& ~~~ y=0#64↔x &&& y=x:=by
 constructor
 ·intro h
  refine BitVec.eq_of_getLsbD_eq fun i hi=>?_
  have:=congrArg (fun v=>v.getLsbD i) h
  simp[hi] at this
  simp only[BitVec.getLsbD_and]
  cases hx:x.getLsbD i<;>cases hy:y.getLsbD i<;>simp_all
 ·intro h
  refine BitVec.eq_of_getLsbD_eq fun i hi=>?_
  have:=congrArg (fun v=>v.getLsbD i) h
  simp at this
  simp only[BitVec.getLsbD_and,BitVec.getLsbD_not]
  cases hx:x.getLsbD i<;>cases hy:y.getLsbD i<;>simp_all
theorem andNot_and {b:Int} (d:Int) (h:I64 b):(bits .andNot .i64 b d == 0)=(bits .and .i64 b d == b):=by
 rw[bits_and64,bits_andNot64,Bool.eq_iff_iff,beq_iff_eq,beq_iff_eq]
 have e0:∀ v:BitVec 64,v.toInt=0↔v=0#64:=fun v=>⟨fun h=>BitVec.eq_of_toInt_eq (by simpa using h),fun h=>by subst h;rfl⟩
 rw[e0,bv_below]
 constructor
 ·intro e;rw[e];exact ofInt_toInt h
 ·intro e;exact BitVec.eq_of_toInt_eq (by rw[e,ofInt_toInt h])
def blw (a b:Lab):Bool:=decide (a.lv≤b.lv)&&(bits .and .i64 a.st b.st == a.st)
def isIn (a b c:Int):Bool:=decide (b≤a)&&decide (a≤c)
theorem isIn_iff {a b c:Int}:isIn a b c=true↔b≤a∧a≤c:=by simp[isIn]
def labR (a:Lab):Bool:=isIn a.lv 0 3&&isIn a.st 0 7
end Go.Proofs.YtbmbanelodabgaaGreatDoor
set_option maxRecDepth 100000
namespace Go.Proofs.YtbmbanelodabgaaGreatDoor
open Go.RowKit Go.Fin1
set_option maxHeartbeats 400000 in
theorem within_any (a b c:Int) (w:World) :
  Calls Tryz.prog 114 #[.int .i64 a,.int .i64 b,.int .i64 c] w fun e w'=>e=.returned (.bool (isIn a b c))∧w=w':=by
 go_enter Tryz.func114,Tryz.ntmps114
 go_wp2
 all_goals go_ret
 all_goals exact⟨ret_bool (by simp[isIn]<;>omega),rfl⟩
set_option maxHeartbeats 400000 in
theorem l02Is_any (a b c:Int) (w:World) :
  Calls Tryz.prog 89 #[.int .i64 a,.int .i64 b,.int .i64 c] w fun e w'=>e=.returned (.bool (isIn a b c))∧w=w':=by
 go_enter Tryz.func89,Tryz.ntmps89
 go_wp2
 all_goals go_ret
 all_goals exact⟨ret_bool (by simp[isIn]<;>omega),rfl⟩
set_option maxHeartbeats 400000 in
theorem implLabelRight_any (a b:Int) (w:World) :
  Calls Tryz.prog 104 #[.agg #[.int .i64 a,.int .i64 b]] w fun e w'=>e=.returned (.bool (labR ⟨a,b⟩))∧Ext w w':=by
 go_enter Tryz.func104,Tryz.ntmps104
 go_wp2_with (go_at_call 114;refine(within_any _ _ _ _).mono ?_;rintro e w' ⟨rfl,rfl⟩)
 all_goals go_ret
 all_goals exact⟨ret_bool (by simp[labR, *]),(Ext.refl _).alloc _⟩
set_option maxHeartbeats 400000 in
theorem specLabelRight_any (a b:Int) (w:World) :
  Calls Tryz.prog 86 #[.agg #[.int .i64 a,.int .i64 b]] w fun e w'=>e=.returned (.bool (labR ⟨a,b⟩))∧Ext w w':=by
 go_enter Tryz.func86,Tryz.ntmps86
 go_wp2_with (go_at_call 89;refine(l02Is_any _ _ _ _).mono ?_;rintro e w' ⟨rfl,rfl⟩)
 all_goals go_ret
 all_goals exact⟨ret_bool (by simp[labR, *]),(Ext.refl _).alloc _⟩
set_option maxHeartbeats 400000 in
theorem implbelow_any (a b c d:Int) (w:World) (h:I64 b) :
  Calls Tryz.prog 75 #[.agg #[.int .i64 a,.int .i64 b],.agg #[.int .i64 c,.int .i64 d]] w fun e w'=>e=.returned (.bool (blw ⟨a,b⟩ ⟨c,d⟩))∧Ext w w':=by
 have H:=Lib.hid (andNot_and d h)
 go_enter Tryz.func75,Tryz.ntmps75
 go_wp2
 all_goals go_ret
 all_goals exact⟨ret_bool (by unfold blw;simp only[← H.out];simp;try omega),((Ext.refl _).alloc _).alloc _⟩
set_option maxHeartbeats 400000 in
theorem specbelow_any (a b c d:Int) (w:World) :
  Calls Tryz.prog 64 #[.agg #[.int .i64 a,.int .i64 b],.agg #[.int .i64 c,.int .i64 d]] w fun e w'=>e=.returned (.bool (blw ⟨a,b⟩ ⟨c,d⟩))∧Ext w w':=by
 go_enter Tryz.func64,Tryz.ntmps64
 go_wp2
 all_goals go_ret
 all_goals exact⟨ret_bool (by unfold blw;simp;try omega),((Ext.refl _).alloc _).alloc _⟩
end Go.Proofs.YtbmbanelodabgaaGreatDoor
set_option maxRecDepth 100000
namespace Go
open Go.RowKit
section
variable {P:Program} {ops:Array Oper} {rest:List Oper} {o:Oper} {a:Act} {Q:Exit→Act→World→Prop}
structure ElemInfo (P:Program) (t e:TypeId) (size bytes:Nat):Prop where
 und:P.underlying t=some (.slice e)
 info:∃ i z,P.info? e=some i∧i.zero=some z∧i.size=size∧i.bytes=bytes∧z.cells.size=size
 pos:0 < size
theorem World.ownsRow.plus {w:World} {base:Nat} {e:TypeId} {size:Nat} {v:Value} {n:Nat} {xs:List Value} (h:w.ownsRow base e size v n xs) (X:More):(w.plus X).ownsRow base e size v n xs:=by
 refine h.kept (row:=none) ⟨rfl,rfl,rfl,by simp,fun k hk _=>World.heap_plus w X k hk⟩ ?_
 cases v.ownBlock<;>simp
theorem World.ownsRow.mono {w:World} {base base':Nat} {e:TypeId} {size:Nat} {v:Value} {n:Nat} {xs:List Value} (h:w.ownsRow base e size v n xs) (hb:base'≤base):w.ownsRow base' e size v n xs:=by
 refine⟨h.1,?_⟩
 rcases h.2 with h2 | ⟨g,cap,cur,hv,hg,hh⟩
 ·exact .inl h2
 ·exact .inr ⟨g,cap,cur,hv,by omega,hh⟩
theorem app_many {t e:TypeId} {size bytes:Nat} {W:World} (E:ElemInfo P t e size bytes) (hgd:o.guard=none) (s x:Operand)
  (ho:o.op=.call { callee:=.builtin .append,args:=#[s,x],argTypes:=#[t,t] })
  (w0:World) (hext:Ext w0 W) (v:Value) (n:Nat) (xs:List Value) (hs:a.eval s=v) (hown:W.ownsRow w0.heap.size e size v n xs)
  (ad:Addr) (m c:Nat) (news:List Value) (hx:a.eval x=.slice (some ad) m c) (hl:news.length=m*size) (hnews:∀ j u,news[j]?=some u→W.cell? (ad.add j)=some u) (h1:∀ u∈news,u.oneCell'=true)
  (h63:n+m≤maxLen) (hbytes:(n+m)*bytes≤140737488355328)
  (h:∀ v' X,(w0.plus X).ownsRow w0.heap.size e size v' (n+m) (xs++news)→(v'=.slice none 0 0↔v=.slice none 0 0∧m=0)→wpList P ops Q rest (a.put o.dst v') (w0.plus X)):wpList P ops Q (o :: rest) a W:=by
 obtain⟨i,z,hi,hz,hsize,hby,hzs⟩:=E.info
 refine wpList_append_own W hgd s x t ho w0.heap.size e i z size bytes E.und hi hz hsize hby hzs E.pos v n xs hs hown ad m c news hx hl hnews h1 h63 hbytes hext.below.size ?_
 intro v' w' hown' hg hnil
 obtain⟨Y,rfl⟩:=hext.grown hg (fun k hk=>(hown.lt k hk).1)
 exact h v' Y hown' hnil
theorem app_one {t e:TypeId} {size bytes:Nat} {w1:World} {cs:Array Value} (E:ElemInfo P t e size bytes) (hgd:o.guard=none) (s x:Operand)
  (ho:o.op=.call { callee:=.builtin .append,args:=#[s,x],argTypes:=#[t,t] })
  (w0:World) (hext:Ext w0 w1) (v:Value) (n:Nat) (xs:List Value) (hs:a.eval s=v) (hown:w1.ownsRow w0.heap.size e size v n xs)
  (b0:Nat) (hb0:b0=w1.heap.size) (hx:a.eval x=.slice (some ⟨b0,0,none⟩) 1 1) (hl:cs.size=size) (h1:∀ u∈cs.toList,u.oneCell'=true)
  (h63:n+1≤maxLen) (hbytes:(n+1)*bytes≤140737488355328)
  (h:∀ v' X,(w0.plus X).ownsRow w0.heap.size e size v' (n+1) (xs++cs.toList)→v'≠.slice none 0 0→wpList P ops Q rest (a.put o.dst v') (w0.plus X)):wpList P ops Q (o :: rest) a (w1.alloc (.cells cs e)):=by
 subst hb0
 refine app_many E hgd s x ho w0 (hext.alloc _) v n xs hs (hown.alloc _) ⟨w1.heap.size,0,none⟩ 1 1 cs.toList hx (by simpa using hl) ?_ h1 h63 hbytes ?_
 ·intro j u hu
  have hadd:(⟨w1.heap.size,0,none⟩:Addr).add j=⟨w1.heap.size,j,none⟩:=by unfold Addr.add;split<;>simp_all
  rw[hadd,World.cell?_alloc_new]
  simpa using hu
 ·intro v' X hown' hnil
  exact h v' X hown' (fun e=>by simp[hnil] at e)
theorem run_string_own {e src dst:TypeId} {w:World} {base:Nat} {v:Value} {n:Nat} {xs:List Int} (hs:P.underlying src=some (.slice e)) (he:P.underlying e=some (.int .u8)) (hd:P.underlying dst=some .string)
  (h:w.ownsRow base e 1 v n (xs.map (Value.int .u8))):(convert src dst v).run P w=.ok (.string (strOfNums xs)) w:=by
 have hlen:xs.length=n:=by have:=h.1;simpa using this
 have h2:=h.2
 rcases h2 with ⟨rfl,rfl⟩ | ⟨g,cap,cur,rfl,hb,hg,hn,hm,hsz,htake⟩
 ·have:xs=[]:=List.eq_nil_of_length_eq_zero hlen
  subst this
  exact run_convert_bytes_nil w src e hs he 0 0 dst hd
 ·refine run_convert_bytes_arg w src e hs he g 0 n cap xs hlen ?_ dst hd
  intro i hi
  have:=h.cells (g:=g) rfl i (.int .u8 (xs.getD i 0)) (by simp[List.getD,List.getElem?_eq_getElem (show i < xs.length by omega)])
  have hadd:(⟨g,0,none⟩:Addr).add i=⟨g,i,none⟩:=by unfold Addr.add;split<;>simp_all
  rw[hadd] at this
  simpa using this
end
end Go
set_option maxRecDepth 100000
namespace Go
open Go.RowKit
section
variable {α:Type}
def SlR (w:World) (k:Nat) (r:World→List Value→α→Prop) (v:Value) (xs:List α):Prop :=
 ∃ a cap,v=.slice a xs.length cap∧xs.length≤cap∧cap≤maxLen ∧
  ∀ (i:Nat) (h:i < xs.length),∃ b off cs,a=some ⟨b,off,none⟩∧cs.length=k∧(∀ j u,cs[j]?=some u→w.cell? ⟨b,off+i*k+j,none⟩=some u)∧r w cs xs[i]
def Stable (r:World→List Value→α→Prop):Prop:=∀ w w' cs x,Ext w w'→r w cs x→r w' cs x
theorem Ext.cell {w w':World} (h:Ext w w') {b o:Nat} {u:Value} (hc:w.cell? ⟨b,o,none⟩=some u):w'.cell? ⟨b,o,none⟩=some u:=by
 obtain⟨X,rfl⟩:=h
 rw[World.cell?_plus _ _ _ _ (World.old_of_cell hc)];exact hc
theorem SlR.ext {w w':World} {k:Nat} {r:World→List Value→α→Prop} (hr:Stable r) (hx:Ext w w') {v:Value} {xs:List α} (h:SlR w k r v xs):SlR w' k r v xs:=by
 obtain⟨a,cap,hv,hl,hm,h⟩:=h
 refine⟨a,cap,hv,hl,hm,fun i hi=>?_⟩
 obtain⟨b,off,cs,ha,hk,hc,hr'⟩:=h i hi
 exact⟨b,off,cs,ha,hk,fun j u hu=>hx.cell (hc j u hu),hr _ _ _ _ hx hr'⟩
theorem SlR.len {w:World} {k:Nat} {r:World→List Value→α→Prop} {v:Value} {xs:List α} (h:SlR w k r v xs):∃ a cap,v=.slice a xs.length cap:=by
 obtain⟨a,cap,hv,_⟩:=h
 exact⟨a,cap,hv⟩
variable {P:Program} {H:Type} {enc:TypeId×Value→H} {w:World} {base:Nat} {spare:Nat→Bool} {held:Bool}
theorem cells_of {b off k base:Nat} {cs:List Value} (h:w.cells? base ⟨b,off,none⟩ k=some cs):cs.length=k∧∀ j u,cs[j]?=some u→w.cell? ⟨b,off+j,none⟩=some u:=by
 have:=World.cells?_some h
 obtain⟨_,hl,hc⟩:=this
 refine⟨hl,fun j u hu=>?_⟩
 have hj:j < k:=by
  rw[← hl];exact(List.getElem?_eq_some_iff.1 hu).1
 have:=hc j hj
 rw[Addr.add_lit] at this
 rw[this];exact hu
theorem exists_list {p:Nat→α→Prop}:∀ n,(∀ i,i < n→∃ x,p i x)→∃ l:List α,l.length=n∧∀ (i:Nat) (h:i < l.length),p i l[i]
 | 0,_=>⟨[],rfl,fun i h=>absurd h (Nat.not_lt_zero _)⟩
 | n+1,h=>by
  obtain⟨l,hl,hp⟩:=exists_list n fun i hi=>h i (by omega)
  obtain⟨x,hx⟩:=h n (by omega)
  refine⟨l++[x],by simp[hl],fun i hi=>?_⟩
  by_cases e:i < l.length
  ·rw[List.getElem_append_left e];exact hp i e
  ·have:i=l.length:=by simp at hi;omega
   subst this
   simp[hl,hx]
theorem b_slice {t e k:Nat} {r:World→List Value→α→Prop} (ht:P.underlying t=some (.slice e)) (hk:P.cellsOf e=k) (hpos:0 < k)
  (he:∀ fuel cs x,DataW.trod enc P w base spare held fuel e cs=some x→∃ a:α,r w cs a) {fuel:Nat} {cs:List Value} {x:DataW H×List MemPlace}
  (h:DataW.trod enc P w base spare held fuel t cs=some x):∃ v xs,cs=[v]∧SlR w k r v xs:=by
 rcases DataW.trod_slice ht h with ⟨hcs,_⟩ | ⟨a,len,cap,elems,rest,n,_,hcs,_,_,hlc,hm,hel,hi,_,_⟩
 ·exact⟨_,[],hcs,none,0,rfl,Nat.le_refl _,Nat.zero_le _,fun i hi=>absurd hi (Nat.not_lt_zero _)⟩
 ·subst hk
  have one:∀ i,i < len→∃ cs x,w.cells? base (a.add (i*P.cellsOf e)) (P.cellsOf e)=some cs∧r w cs x:=fun i hlt=>by
   have h1:=hi i hlt
   rw[List.getElem?_eq_getElem (show i < elems.length by omega)] at h1
   cases hc:w.cells? base (a.add (i*P.cellsOf e)) (P.cellsOf e) with
   | none=>rw[hc] at h1;simp at h1
   | some cs =>
    rw[hc,Option.bind_some] at h1
    obtain⟨y,hy⟩:=he n cs _ h1
    exact⟨cs,y,rfl,hy⟩
  rcases Nat.eq_zero_or_pos len with h0 | h0
  ·subst h0
   exact⟨_,[],hcs,some a,cap,rfl,Nat.zero_le _,hm,fun i hi=>absurd hi (Nat.not_lt_zero _)⟩
  ·have hsp:∃ b off,a=⟨b,off,none⟩:=by
    obtain⟨cs0,_,hc0,_⟩:=one 0 h0
    rw[Nat.zero_mul,Addr.add_zero'] at hc0
    obtain⟨_,hl,hc⟩:=World.cells?_some hc0
    have h2:=hc 0 hpos
    rw[Addr.add_zero',List.getElem?_eq_getElem (by omega)] at h2
    have:=World.cell?_spot h2
    obtain⟨b,off,sp⟩:=a
    simp at this
    subst this
    exact⟨b,off,rfl⟩
   obtain⟨b,off,rfl⟩:=hsp
   obtain⟨xs,hxl,hxs⟩:=exists_list (p:=fun i x=>∃ cs,w.cells? base ((⟨b,off,none⟩:Addr).add (i*P.cellsOf e)) (P.cellsOf e)=some cs∧r w cs x) len fun i hi=>by
    obtain⟨cs,x,h1,h2⟩:=one i hi
    exact⟨x,cs,h1,h2⟩
   refine⟨_,xs,hcs,some ⟨b,off,none⟩,cap,by rw[hxl],by omega,hm,fun i hi=>?_⟩
   obtain⟨cs',h1,h2⟩:=hxs i hi
   rw[Addr.add_lit] at h1
   obtain⟨hcl,hcc⟩:=cells_of h1
   exact⟨b,off,cs',rfl,hcl,hcc,h2⟩
end
end Go
namespace Go.Proofs.YtbmbanelodabgaaGreatDoor
open Go.ChangeShapes Go.WideShapes Go.ChangeAt Go.RowKit
structure Spn where
 f:Int
 t:Int
def Spn.ok (a:Spn):Prop:=I64 a.f∧I64 a.t
def Spn.cells (a:Spn):List Value:=[.int .i64 a.f,.int .i64 a.t]
def rLab:World→List Value→Lab→Prop:=fun _ cs a=>cs=a.cells∧a.ok
def rSpn:World→List Value→Spn→Prop:=fun _ cs a=>cs=a.cells∧a.ok
def rInt:World→List Value→Int→Prop:=fun _ cs a=>cs=[.int .i64 a]∧I64 a
theorem rLab_stable:Stable rLab:=fun _ _ _ _ _ h=>h
theorem rSpn_stable:Stable rSpn:=fun _ _ _ _ _ h=>h
theorem rInt_stable:Stable rInt:=fun _ _ _ _ _ h=>h
def rSl {α:Type} (k:Nat) (r:World→List Value→α→Prop):World→List Value→List α→Prop:=fun w cs xs=>∃ v,cs=[v]∧SlR w k r v xs
theorem rSl_stable {α:Type} {k:Nat} {r:World→List Value→α→Prop} (hr:Stable r):Stable (rSl k r):=fun _ _ _ _ hx ⟨v,hv,h⟩=>⟨v,hv,h.ext hr hx⟩
theorem slr_some {α:Type} {w:World} {k n cap:Nat} {r:World→List Value→α→Prop} {a:Option Addr} {xs:List α} (h:SlR w k r (.slice a n cap) xs) {i:Nat} (hi:i < xs.length):∃ b off,a=some ⟨b,off,none⟩:=by
 obtain⟨a',cap',hv,_,_,h⟩:=h
 obtain⟨rfl,_,_⟩:a=a'∧n=xs.length∧cap=cap':=by simpa using hv
 obtain⟨b,off,cs,ha,_⟩:=h i hi
 exact⟨b,off,ha⟩
theorem slr_len {α:Type} {w:World} {k n cap:Nat} {r:World→List Value→α→Prop} {a:Option Addr} {xs:List α} (h:SlR w k r (.slice a n cap) xs):n=xs.length∧xs.length≤cap∧cap≤maxLen:=by
 obtain⟨a',cap',hv,h1,h2,_⟩:=h
 obtain⟨_,h3,h4⟩:a=a'∧n=xs.length∧cap=cap':=by simpa using hv
 subst h4
 exact⟨h3,h1,h2⟩
theorem slr_cells {α:Type} {w:World} {b off k n cap:Nat} {r:World→List Value→α→Prop} {xs:List α} (h:SlR w k r (.slice (some ⟨b,off,none⟩) n cap) xs) {i:Nat} (hi:i < xs.length) :
  ∃ cs,cs.length=k∧(∀ j u,cs[j]?=some u→w.cell? ⟨b,off+i*k+j,none⟩=some u)∧r w cs xs[i]:=by
 obtain⟨a',cap',hv,_,_,h⟩:=h
 obtain⟨rfl,_,_⟩:some (⟨b,off,none⟩:Addr)=a'∧n=xs.length∧cap=cap':=by simpa using hv
 obtain⟨b',off',cs,ha,h1,h2,h3⟩:=h i hi
 simp at ha
 obtain⟨rfl,rfl⟩:=ha
 exact⟨cs,h1,h2,h3⟩
theorem spn_at {w:World} {b off n cap:Nat} {xs:List Spn} (h:SlR w 2 rSpn (.slice (some ⟨b,off,none⟩) n cap) xs) {i:Nat} (hi:i < xs.length) :
  w.old b∧xs[i].ok∧w.cell? ⟨b,off+i*2,none⟩=some (.int .i64 xs[i].f)∧w.cell? ⟨b,off+i*2+1,none⟩=some (.int .i64 xs[i].t):=by
 obtain⟨cs,_,hc,rfl,hok⟩:=slr_cells h hi
 have h0:=hc 0 _ rfl
 exact⟨World.old_of_cell h0,hok,h0,hc 1 _ rfl⟩
theorem lab_at {w:World} {b off n cap:Nat} {xs:List Lab} (h:SlR w 2 rLab (.slice (some ⟨b,off,none⟩) n cap) xs) {i:Nat} (hi:i < xs.length) :
  w.old b∧xs[i].ok∧w.cell? ⟨b,off+i*2,none⟩=some (.int .i64 xs[i].lv)∧w.cell? ⟨b,off+i*2+1,none⟩=some (.int .i64 xs[i].st):=by
 obtain⟨cs,_,hc,rfl,hok⟩:=slr_cells h hi
 have h0:=hc 0 _ rfl
 exact⟨World.old_of_cell h0,hok,h0,hc 1 _ rfl⟩
theorem int_at {w:World} {b off n cap:Nat} {xs:List Int} (h:SlR w 1 rInt (.slice (some ⟨b,off,none⟩) n cap) xs) {i:Nat} (hi:i < xs.length) :
  w.old b∧I64 xs[i]∧w.cell? ⟨b,off+i,none⟩=some (.int .i64 xs[i]):=by
 obtain⟨cs,_,hc,rfl,hok⟩:=slr_cells h hi
 have h0:=hc 0 _ rfl
 rw[Nat.mul_one] at h0
 exact⟨World.old_of_cell h0,hok,h0⟩
theorem sl_at {α:Type} {w:World} {b off n cap k:Nat} {r:World→List Value→α→Prop} {xs:List (List α)} (h:SlR w 1 (rSl k r) (.slice (some ⟨b,off,none⟩) n cap) xs) {i:Nat} (hi:i < xs.length) :
  w.old b∧∃ v,SlR w k r v xs[i]∧w.cell? ⟨b,off+i,none⟩=some v:=by
 obtain⟨cs,_,hc,v,rfl,hr⟩:=slr_cells h hi
 have h0:=hc 0 _ rfl
 rw[Nat.mul_one] at h0
 exact⟨World.old_of_cell h0,v,hr,h0⟩
structure Arg (α:Type) where
 v:Value
 x:α
section
variable {H:Type} {enc:TypeId×Value→H} {w:World} {base:Nat} {spare:Nat→Bool} {held:Bool} {fuel:Nat} {cs:List Value} {x:DataW H×List MemPlace}
end
section
variable {H:Type} {enc:TypeId×Value→H} {w:World} {base:Nat} {spare:Nat→Bool} {held:Bool} {r:Reach} {b0:Nat} {v:Value} {d:DataW H} {ps:List MemPlace}
theorem slice_arg {α:Type} {k:Nat} {rd:World→List Value→α→Prop} {t:TypeId} {e:TypeId} (ht:Tryz.prog.underlying t=some (.slice e)) (hv:Value.okWide Tryz.prog w r b0 t v)
  (hb:∀ fuel cs x,DataW.trod enc Tryz.prog w base spare held fuel t cs=some x→∃ v xs,cs=[v]∧SlR w k rd v xs) (h:DataW.Trod enc Tryz.prog w base spare held t v d ps):∃ a:Arg (List α),v=a.v∧SlR w k rd a.v a.x:=by
 obtain⟨a,l,c,rfl⟩:=okWide_slice ht hv
 obtain⟨m,hm⟩:=h
 obtain⟨v,xs,h1,h2⟩:=hb _ _ _ hm
 simp[Value.cells] at h1
 subst h1
 exact⟨⟨_,xs⟩,rfl,h2⟩
end
end Go.Proofs.YtbmbanelodabgaaGreatDoor
set_option maxRecDepth 100000
namespace Go
open Go.RowKit
structure Chg (S:List Nat) (w w':World):Prop where
 os:w'.os=w.os
 tape:w'.tape=w.tape
 output:w'.output=w.output
 size:w.heap.size≤w'.heap.size
 block:∀ k,k < w.heap.size→k∉S→w'.heap[k]?=w.heap[k]?
theorem Chg.refl (S:List Nat) (w:World):Chg S w w:=⟨rfl,rfl,rfl,Nat.le_refl _,fun _ _ _=>rfl⟩
theorem Chg.trans {S:List Nat} {a b c:World} (h:Chg S a b) (k:Chg S b c):Chg S a c :=
 ⟨k.os.trans h.os,k.tape.trans h.tape,k.output.trans h.output,Nat.le_trans h.size k.size,fun i hi hs=>(k.block i (Nat.lt_of_lt_of_le hi h.size) hs).trans (h.block i hi hs)⟩
theorem Chg.mono {S S':List Nat} {w w':World} (h:Chg S w w') (hs:∀ b∈S,b∈S'):Chg S' w w' :=
 ⟨h.os,h.tape,h.output,h.size,fun k hk hn=>h.block k hk fun hb=>hn (hs k hb)⟩
theorem Ext.chg {w w':World} (h:Ext w w') (S:List Nat):Chg S w w':=by
 have b:=h.below
 exact⟨b.os,b.tape,b.output,b.size,fun k hk _=>b.block k hk⟩
theorem Chg.setCell {S:List Nat} {w a:World} (h:Chg S w a) {p:Addr} (hp:p.block∈S∨w.heap.size≤p.block) (u:Value):Chg S w (a.setCell p u):=by
 refine⟨h.os,h.tape,h.output,by simpa [World.setCell] using h.size,fun k hk hn=>?_⟩
 rw[Below.heap_setCell _ _ _ _ (fun e=>by
  subst e
  rcases hp with hp | hp
  ·exact hn hp
  ·omega)]
 exact h.block k hk hn
theorem Chg.ext {S:List Nat} {w0 w w':World} (h0:Ext w0 w) (h:Chg S w w') (hs:∀ b∈S,w0.heap.size≤b):Ext w0 w':=by
 have b:=h0.below
 refine Ext.of_below ⟨h.os.trans b.os,h.tape.trans b.tape,h.output.trans b.output,Nat.le_trans b.size h.size,fun k hk=>?_⟩
 exact(h.block k (Nat.lt_of_lt_of_le hk b.size) fun hb=>by have:=hs k hb;omega).trans (b.block k hk)
section
variable {α β:Type}
abbrev Ow (α:Type):=World→List Nat→List Value→α→Prop
def oFlat (f:α→List Value):Ow α:=fun _ fp cs x=>fp=[]∧cs=f x
def oSl (ty k:Nat) (o:Ow α):Ow (List α):=fun w fp cs xs=>∃ v,cs=[v]∧((v=.slice none 0 0∧xs=[]∧fp=[]) ∨
 ∃ (g cap:Nat) (cur:Array Value) (fps:List (List Nat)),v=.slice (some ⟨g,0,none⟩) xs.length cap∧w.heap[g]?=some (.cells cur ty (0,0))∧cur.size=cap*k∧xs.length≤cap∧cap≤maxLen ∧
  fps.length=xs.length∧fp=g :: fps.flatten∧∀ (i:Nat) (h:i < xs.length) (fi:List Nat),fps[i]?=some fi→o w fi ((cur.toList.drop (i*k)).take k) xs[i])
def Local (o:Ow α):Prop:=∀ w w' fp cs x,(∀ b∈fp,w'.heap[b]?=w.heap[b]?)→o w fp cs x→o w' fp cs x
def Held (o:Ow α):Prop:=∀ w fp cs x,o w fp cs x→∀ b∈fp,b < w.heap.size
theorem oFlat_local (f:α→List Value):Local (oFlat f):=fun _ _ _ _ _ _ h=>h
theorem oFlat_held (f:α→List Value):Held (oFlat f):=fun _ fp _ _ h b hb=>by rw[h.1] at hb;cases hb
theorem oSl_local {ty k:Nat} {o:Ow α} (ho:Local o):Local (oSl ty k o):=by
 rintro w w' fp cs xs hb ⟨v,hcs,h⟩
 refine⟨v,hcs,?_⟩
 rcases h with h | ⟨g,cap,cur,fps,hv,hg,hsz,hl,hm,hf,rfl,h⟩
 ·exact .inl h
 ·refine .inr ⟨g,cap,cur,fps,hv,by rw[hb g (by simp)];exact hg,hsz,hl,hm,hf,rfl,fun i hi fi hfi=>?_⟩
  exact ho w w' fi _ _ (fun b hbf=>hb b (List.mem_cons_of_mem _ (List.mem_flatten.2 ⟨fi,List.mem_of_getElem? hfi,hbf⟩))) (h i hi fi hfi)
theorem oSl_held {ty k:Nat} {o:Ow α} (ho:Held o):Held (oSl ty k o):=by
 rintro w fp cs xs ⟨v,hcs,h⟩ b hb
 rcases h with ⟨_,_,rfl⟩ | ⟨g,cap,cur,fps,hv,hg,hsz,hl,hm,hf,rfl,h⟩
 ·cases hb
 ·rcases List.mem_cons.1 hb with rfl | hb
  ·exact(Array.getElem?_eq_some_iff.1 hg).1
  ·obtain⟨fi,hfi,hbf⟩:=List.mem_flatten.1 hb
   obtain⟨i,hi,rfl⟩:=List.getElem_of_mem hfi
   exact ho w _ _ _ (h i (by omega) _ (List.getElem?_eq_getElem hi)) b hbf
theorem Local.ext {o:Ow α} (ho:Local o) (hh:Held o) {w w':World} (hx:Ext w w') {fp:List Nat} {cs:List Value} {x:α} (h:o w fp cs x):o w' fp cs x :=
 ho w w' fp cs x (fun b hb=>by obtain⟨X,rfl⟩:=hx;exact World.heap_plus w X b (hh w fp cs x h b hb)) h
theorem Local.chg {o:Ow α} (ho:Local o) (hh:Held o) {S:List Nat} {w w':World} (hx:Chg S w w') {fp:List Nat} {cs:List Value} {x:α} (hd:∀ b∈fp,b∉S) (h:o w fp cs x):o w' fp cs x :=
 ho w w' fp cs x (fun b hb=>hx.block b (hh w fp cs x h b hb) (hd b hb)) h
def Reads (o:Ow α) (r:World→List Value→α→Prop) (k:Nat):Prop:=∀ w fp cs x,o w fp cs x→cs.length=k∧r w cs x
theorem cell_of_heap {w:World} {g:Nat} {cur:Array Value} {ty:TypeId} (hg:w.heap[g]?=some (.cells cur ty (0,0))) (j:Nat):w.cell? ⟨g,j,none⟩=cur[j]?:=by
 simp[World.cell?,hg]
theorem frozen_of_heap {w:World} {g:Nat} {cur:Array Value} {ty:TypeId} (hg:w.heap[g]?=some (.cells cur ty (0,0))) (j:Nat):w.frozen? ⟨g,j,none⟩=false:=by
 simp[World.frozen?,hg]
theorem drop_take_get {cur:Array Value} {i k j:Nat} {u:Value} (h:((cur.toList.drop (i*k)).take k)[j]?=some u):cur[i*k+j]?=some u:=by
 rw[List.getElem?_take] at h
 split at h
 ·rw[List.getElem?_drop] at h;simpa using h
 ·cases h
theorem oSl_reads {ty k:Nat} {o:Ow α} {r:World→List Value→α→Prop} (ho:Reads o r k) {w:World} {fp:List Nat} {cs:List Value} {xs:List α} (h:oSl ty k o w fp cs xs):∃ v,cs=[v]∧SlR w k r v xs:=by
 obtain⟨v,hcs,h⟩:=h
 refine⟨v,hcs,?_⟩
 rcases h with ⟨rfl,rfl,_⟩ | ⟨g,cap,cur,fps,rfl,hg,hsz,hl,hm,hf,rfl,h⟩
 ·exact⟨none,0,rfl,Nat.le_refl _,Nat.zero_le _,fun i hi=>absurd hi (Nat.not_lt_zero _)⟩
 ·refine⟨_,cap,rfl,hl,hm,fun i hi=>?_⟩
  obtain⟨hk,hr⟩:=ho w _ _ _ (h i hi _ (List.getElem?_eq_getElem (by omega)))
  refine⟨g,0,_,rfl,hk,fun j u hu=>?_,hr⟩
  rw[cell_of_heap hg,show 0+i*k+j=i*k+j from by omega]
  exact drop_take_get hu
end
end Go
set_option maxRecDepth 100000
namespace Go
open Go.RowKit
section
variable {P:Program} {ops:Array Oper} {rest:List Oper} {op:Oper} {a:Act} {Q:Exit→Act→World→Prop}
end
def World.layCells (w:World) (g:Nat):Nat→List Value→World
 | _,[]=>w
 | i,v :: vs=>(w.setCell ⟨g,i,none⟩ v).layCells g (i+1) vs
def spl (cur:Array Value):Nat→List Value→Array Value
 | _,[]=>cur
 | i,v :: vs=>spl (cur.setIfInBounds i v) (i+1) vs
theorem spl_size:∀ (vs:List Value) (cur:Array Value) (i:Nat),(spl cur i vs).size=cur.size
 | [],_,_=>rfl
 | v :: vs,cur,i=>by unfold spl;rw[spl_size vs];simp
theorem spl_get:∀ (vs:List Value) (cur:Array Value) (i j:Nat),i+vs.length≤cur.size→(spl cur i vs)[j]?=if i≤j∧j < i+vs.length then vs[j-i]? else cur[j]?
 | [],cur,i,j,_=>by unfold spl;rw[if_neg (by rintro ⟨h1,h2⟩;simp at h2;omega)]
 | v :: vs,cur,i,j,h=>by
  unfold spl
  rw[spl_get vs _ _ _ (by simp at h ⊢;omega)]
  simp only[List.length_cons] at h ⊢
  by_cases e:j=i
  ·subst e
   rw[if_neg (by omega),if_pos (by omega),Nat.sub_self,Array.getElem?_setIfInBounds_self,if_pos (by omega)];rfl
  ·by_cases e':i+1≤j∧j < i+1+vs.length
   ·rw[if_pos e',if_pos (by omega),show j-i=(j-(i+1))+1 from by omega];rfl
   ·rw[if_neg e',if_neg (by omega),Array.getElem?_setIfInBounds_ne (Ne.symm e)]
theorem setCell_heap {w:World} {g:Nat} {cur:Array Value} {ty:TypeId} {fr:Nat×Nat} (hg:w.heap[g]?=some (.cells cur ty fr)) (i:Nat) (v:Value):(w.setCell ⟨g,i,none⟩ v).heap[g]?=some (.cells (cur.setIfInBounds i v) ty fr):=by
 simp[World.setCell,Array.getElem?_modify,hg]
theorem layCells_heap:∀ (vs:List Value) {w:World} {g:Nat} {cur:Array Value} {ty:TypeId} {fr:Nat×Nat} (i:Nat),w.heap[g]?=some (.cells cur ty fr)→(w.layCells g i vs).heap[g]?=some (.cells (spl cur i vs) ty fr)
 | [],_,_,_,_,_,_,hg=>hg
 | v :: vs,_,_,_,_,_,i,hg=>by unfold World.layCells spl;exact layCells_heap vs (i+1) (setCell_heap hg i v)
theorem layCells_chg:∀ (vs:List Value) (w:World) (g i:Nat),Chg [g] w (w.layCells g i vs)
 | [],w,g,_=>Chg.refl _ _
 | v :: vs,w,g,i=>by unfold World.layCells;exact((Chg.refl [g] w).setCell (.inl (by simp)) v).trans (layCells_chg vs _ g (i+1))
section
variable {α:Type}
def Own (B:Nat) (w:World) (o:Ow α) (fp:List Nat) (cs:List Value) (x:α):Prop:=o w fp cs x∧fp.Nodup∧∀ b∈fp,B≤b
theorem Own.ext {B:Nat} {w w':World} {o:Ow α} (hl:Local o) (hh:Held o) (hx:Ext w w') {fp:List Nat} {cs:List Value} {x:α} (h:Own B w o fp cs x):Own B w' o fp cs x:=⟨hl.ext hh hx h.1,h.2⟩
end
end Go
set_option maxRecDepth 100000
namespace Go
open Go.RowKit
section
variable {α:Type}
theorem Own.mono {B B':Nat} {w:World} {o:Ow α} {fp:List Nat} {cs:List Value} {x:α} (h:Own B w o fp cs x) (hb:B'≤B):Own B' w o fp cs x:=⟨h.1,h.2.1,fun b hbm=>Nat.le_trans hb (h.2.2 b hbm)⟩
theorem Own.chg {B:Nat} {w w':World} {o:Ow α} (hl:Local o) (hh:Held o) {S:List Nat} (hx:Chg S w w') {fp:List Nat} {cs:List Value} {x:α} (hd:∀ b∈S,b < B) (h:Own B w o fp cs x):Own B w' o fp cs x :=
 ⟨hl.chg hh hx (fun b hb hs=>by have:=hd b hs;have:=h.2.2 b hb;omega) h.1,h.2⟩
theorem Own.set {B:Nat} {w:World} {o:Ow α} (hl:Local o) (hh:Held o) {fp:List Nat} {cs:List Value} {x:α} {a:Addr} (ha:a.block < B) (v:Value) (h:Own B w o fp cs x):Own B (w.setCell a v) o fp cs x :=
 h.chg hl hh (S:=[a.block]) ((Chg.refl _ _).setCell (.inl (by simp)) v) (fun b hb=>by simp at hb;omega)
theorem Own.plus {B:Nat} {w:World} {o:Ow α} (hl:Local o) (hh:Held o) {fp:List Nat} {cs:List Value} {x:α} (h:Own B w o fp cs x) (X:More):Own B (w.plus X) o fp cs x:=h.ext hl hh ((Ext.refl _).plus X)
theorem Own.swap {B:Nat} {A A':World} {X:More} {o:Ow α} (hl:Local o) {fp:List Nat} {cs:List Value} {x:α} (h:Own B (A.plus X) o fp cs x) (hb:A.heap.size≤B) (hs:A'.heap.size=A.heap.size):Own B (A'.plus X) o fp cs x:=by
 refine⟨hl _ _ _ _ _ (fun b hbm=>?_) h.1,h.2⟩
 have:=h.2.2 b hbm
 simp only[World.plus]
 rw[Array.getElem?_append_right (by omega),Array.getElem?_append_right (by omega),hs]
theorem Own.shape {B:Nat} {w:World} {ty k:Nat} {o:Ow α} {fp:List Nat} {v:Value} {xs:List α} (h:Own B w (oSl ty k o) fp [v] xs):∃ a cap,v=.slice a xs.length cap:=by
 obtain⟨v',hv,h⟩:=h.1
 obtain rfl:v=v':=by simpa using hv
 rcases h with ⟨rfl,rfl,_⟩ | ⟨g,cap,_,_,rfl,_⟩
 ·exact⟨none,0,rfl⟩
 ·exact⟨_,cap,rfl⟩
theorem Own.blk {B:Nat} {w:World} {ty k:Nat} {o:Ow α} {fp:List Nat} {v:Value} {xs:List α} (h:Own B w (oSl ty k o) fp [v] xs) :
  (v=.slice none 0 0∧xs=[]∧fp=[])∨∃ g cap cur,v=.slice (some ⟨g,0,none⟩) xs.length cap∧w.heap[g]?=some (.cells cur ty (0,0))∧cur.size=cap*k∧xs.length≤cap∧cap≤maxLen∧B≤g∧g∈fp:=by
 obtain⟨⟨v',hv,h⟩,hn,hb⟩:=h
 obtain rfl:v=v':=by simpa using hv
 rcases h with h | ⟨g,cap,cur,fps,hv,hg,hsz,hl,hm,hf,rfl,h⟩
 ·exact .inl h
 ·exact .inr ⟨g,cap,cur,hv,hg,hsz,hl,hm,hb g (by simp),by simp⟩
theorem oSl_at {w:World} {ty k:Nat} {o:Ow α} (ho:Local o) (hh:Held o) {fp:List Nat} {g n cap:Nat} {xs:List α} (h:oSl ty k o w fp [.slice (some ⟨g,0,none⟩) n cap] xs) (hn:fp.Nodup) {i:Nat} (hi:i < xs.length) :
  ∃ fi cs,w.old g∧(∀ j,w.frozen? ⟨g,j,none⟩=false)∧cs.length=k∧(∀ j u,cs[j]?=some u→w.cell? ⟨g,i*k+j,none⟩=some u)∧o w fi cs xs[i]∧fi.Nodup∧g∉fi∧(∀ b∈fi,b∈fp)∧g∈fp ∧
   (∀ w' x',Chg fi w w'→o w' fi cs x'→oSl ty k o w' fp [.slice (some ⟨g,0,none⟩) n cap] (xs.set i x')) ∧
   ∀ vs x',vs.length≤k→o (w.layCells g (i*k) vs) fi (vs++cs.drop vs.length) x'→oSl ty k o (w.layCells g (i*k) vs) fp [.slice (some ⟨g,0,none⟩) n cap] (xs.set i x'):=by
 obtain⟨v',hv,h⟩:=h
 rcases h with ⟨rfl,_,_⟩ | ⟨g',cap',cur,fps,rfl,hg,hsz,hl,hm,hf,rfl,h⟩
 ·simp at hv
 ·obtain⟨rfl,rfl,rfl⟩:g=g'∧n=xs.length∧cap=cap':=by simpa using hv
  obtain⟨hgn,hnd⟩:=List.nodup_cons.1 hn
  have hif:i < fps.length:=by omega
  have hmem:fps[i]∈fps:=List.getElem_mem hif
  have hki:(i+1)*k≤cur.size:=by rw[hsz];exact Nat.mul_le_mul_right _ (by omega)
  rw[Nat.add_mul,Nat.one_mul] at hki
  have hcl:((cur.toList.drop (i*k)).take k).length=k:=by simp;omega
  have hother:∀ j (hj:j < fps.length),j≠i→∀ b∈fps[j],b∉fps[i]:=by
   intro j hj hne b hbj hbi
   have hp:=List.pairwise_iff_getElem.1 (List.pairwise_flatten.1 hnd).2
   rcases Nat.lt_or_gt_of_ne hne with h1 | h1
   ·exact hp j i hj hif h1 b hbj b hbi rfl
   ·exact hp i j hif hj h1 b hbi b hbj rfl
  refine⟨fps[i],(cur.toList.drop (i*k)).take k,(Array.getElem?_eq_some_iff.1 hg).1,frozen_of_heap hg,hcl,fun j u hu=>by rw[cell_of_heap hg];exact drop_take_get hu,h i hi _ (List.getElem?_eq_getElem hif),(List.pairwise_flatten.1 hnd).1 _ hmem,fun hb=>hgn (List.mem_flatten.2 ⟨_,hmem,hb⟩),fun b hb=>List.mem_cons_of_mem _ (List.mem_flatten.2 ⟨_,hmem,hb⟩),by simp,?_,?_⟩
  ·intro w' x' hx ho'
   refine⟨_,rfl,.inr ⟨g,cap,cur,fps,by simp,?_,hsz,by simpa using hl,hm,by simpa using hf,rfl,fun j hj fj hfj=>?_⟩⟩
   ·rw[hx.block g (Array.getElem?_eq_some_iff.1 hg).1 (fun hb=>hgn (List.mem_flatten.2 ⟨_,hmem,hb⟩))];exact hg
   ·have hj':j < xs.length:=by simpa using hj
    have hjf:j < fps.length:=by omega
    by_cases e:j=i
    ·subst e
     rw[List.getElem?_eq_getElem hjf] at hfj
     cases hfj
     simpa using ho'
    ·rw[List.getElem_set_ne (Ne.symm e)]
     rw[List.getElem?_eq_getElem hjf] at hfj
     cases hfj
     exact ho.chg hh hx (hother j hjf e) (h j hj' _ (List.getElem?_eq_getElem hjf))
  ·intro vs x' hvs ho'
   have hx:=layCells_chg vs w g (i*k)
   refine⟨_,rfl,.inr ⟨g,cap,spl cur (i*k) vs,fps,by simp,layCells_heap vs _ hg,by rw[spl_size];exact hsz,by simpa using hl,hm,by simpa using hf,rfl,fun j hj fj hfj=>?_⟩⟩
   have hj':j < xs.length:=by simpa using hj
   have hjf:j < fps.length:=by omega
   rw[List.getElem?_eq_getElem hjf] at hfj
   cases hfj
   have hjk:(j+1)*k≤cur.size:=by rw[hsz];exact Nat.mul_le_mul_right _ (by omega)
   rw[Nat.add_mul,Nat.one_mul] at hjk
   by_cases e:j=i
   ·subst e
    have hcs:((spl cur (j*k) vs).toList.drop (j*k)).take k=vs++((cur.toList.drop (j*k)).take k).drop vs.length:=by
     refine List.ext_getElem? fun q=>?_
     rw[List.getElem?_take,List.getElem?_drop,Array.getElem?_toList,spl_get vs cur _ _ (by omega)]
     by_cases hq:q < k
     ·rw[if_pos hq]
      by_cases hqv:q < vs.length
      ·rw[if_pos (by omega),List.getElem?_append_left hqv,show j*k+q-j*k=q from by omega]
      ·rw[if_neg (by omega),List.getElem?_append_right (by omega),List.getElem?_drop,List.getElem?_take,if_pos (by omega),List.getElem?_drop,Array.getElem?_toList]
       congr 1;omega
     ·rw[if_neg hq,List.getElem?_eq_none]
      simp;omega
    rw[hcs]
    simpa using ho'
   ·rw[List.getElem_set_ne (Ne.symm e)]
    have hsame:((spl cur (i*k) vs).toList.drop (j*k)).take k=(cur.toList.drop (j*k)).take k:=by
     refine List.ext_getElem? fun q=>?_
     rw[List.getElem?_take,List.getElem?_take]
     by_cases hq:q < k
     ·rw[if_pos hq,if_pos hq,List.getElem?_drop,List.getElem?_drop,Array.getElem?_toList,Array.getElem?_toList,spl_get vs cur _ _ (by omega),if_neg]
      rintro ⟨h1,h2⟩
      rcases Nat.lt_or_gt_of_ne e with h | h
      ·have:(j+1)*k≤i*k:=Nat.mul_le_mul_right _ h
       rw[Nat.add_mul,Nat.one_mul] at this
       omega
      ·have:(i+1)*k≤j*k:=Nat.mul_le_mul_right _ h
       rw[Nat.add_mul,Nat.one_mul] at this
       omega
     ·rw[if_neg hq,if_neg hq]
    rw[hsame]
    refine ho.chg hh hx (fun b hb hbg=>?_) (h j hj' _ (List.getElem?_eq_getElem hjf))
    simp at hbg
    subst hbg
    exact hgn (List.mem_flatten.2 ⟨_,List.getElem_mem hjf,hb⟩)
end
end Go
set_option maxRecDepth 100000
set_option linter.unusedVariables false
namespace Go
open Go.RowKit
section
variable {α:Type} {P:Program} {ops:Array Oper} {rest:List Oper} {op:Oper} {a:Act} {Q:Exit→Act→World→Prop}
def Row (B:Nat) (w:World) (ty K:Nat) (f:α→List Value) (v:Value) (xs:List α):Prop:=w.ownsRow B ty K v xs.length (xs.flatMap f)
theorem Row.plus {B:Nat} {w:World} {ty K:Nat} {f:α→List Value} {v:Value} {xs:List α} (h:Row B w ty K f v xs) (X:More):Row B (w.plus X) ty K f v xs:=World.ownsRow.plus h X
theorem Row.ext {B:Nat} {w w':World} {ty K:Nat} {f:α→List Value} {v:Value} {xs:List α} (hx:Ext w w') (h:Row B w ty K f v xs):Row B w' ty K f v xs:=by obtain⟨X,rfl⟩:=hx;exact h.plus X
theorem Row.made (w:World) (ty K:Nat) (f:α→List Value):Row w.heap.size (w.alloc (.cells #[] ty)) ty K f (.slice (some ⟨w.heap.size,0,none⟩) 0 0) [] :=
 World.ownsRow_made (base:=w.heap.size) w #[] 0 (Nat.le_refl _) (by decide) (by simp)
theorem Row.mono {B B':Nat} {w:World} {ty K:Nat} {f:α→List Value} {v:Value} {xs:List α} (h:Row B w ty K f v xs) (hb:B'≤B):Row B' w ty K f v xs:=World.ownsRow.mono h hb
theorem Row.made1 (w:World) (o:Obj) (ty K:Nat) (f:α→List Value):Row (w.alloc o).heap.size ((w.alloc o).alloc (.cells #[] ty)) ty K f (.slice (some ⟨w.heap.size+1,0,none⟩) 0 0) []:=by
 have h:=Row.made (w.alloc o) ty K f
 rw[World.size_alloc] at h ⊢
 exact h
theorem Row.made2 (w:World) (o:Obj) (X:More) (ty K:Nat) (f:α→List Value):Row w.heap.size (((w.alloc o).plus X).alloc (.cells #[] ty)) ty K f (.slice (some ⟨w.heap.size+1+X.n,0,none⟩) 0 0) []:=by
 have h:=Row.made ((w.alloc o).plus X) ty K f
 rw[World.size_plus,World.size_alloc] at h
 exact h.mono (by omega)
theorem Row.madeA (w:World) (o1 o2:Obj) (ty K:Nat) (f:α→List Value):Row ((w.alloc o1).alloc o2).heap.size (((w.alloc o1).alloc o2).alloc (.cells #[] ty)) ty K f (.slice (some ⟨w.heap.size+1+1,0,none⟩) 0 0) []:=by
 have h:=Row.made ((w.alloc o1).alloc o2) ty K f
 rw[World.size_alloc,World.size_alloc] at h ⊢
 exact h
theorem Row.nil (w:World) (B ty K:Nat) (f:α→List Value):Row B w ty K f (.slice none 0 0) ([]:List α):=⟨by simp,.inl ⟨rfl,rfl⟩⟩
theorem Row.shape {B:Nat} {w:World} {ty K:Nat} {f:α→List Value} {v:Value} {xs:List α} (h:Row B w ty K f v xs):∃ a cap,v=.slice a xs.length cap:=by
 rcases h.2 with ⟨rfl,h0⟩ | ⟨g,cap,cur,rfl,_⟩
 ·exact⟨none,0,by rw[h0]⟩
 ·exact⟨_,cap,rfl⟩
theorem flatMap_len {f:α→List Value} {K:Nat} (hf:∀ x,(f x).length=K):∀ xs:List α,(xs.flatMap f).length=xs.length*K
 | []=>by simp
 | x :: xs=>by simp only[List.flatMap_cons,List.length_append,hf,flatMap_len hf xs,List.length_cons,Nat.add_mul,Nat.one_mul];omega
theorem flatMap_at {f:α→List Value} {K:Nat} (hf:∀ x,(f x).length=K):∀ (xs:List α) (i:Nat) (hi:i < xs.length),((xs.flatMap f).drop (i*K)).take K=f xs[i]
 | x :: xs,0,_=>by simp[← hf x]
 | x :: xs,i+1,hi=>by
  have ih:=flatMap_at hf xs i (by simpa using hi)
  rw[List.flatMap_cons,Nat.add_mul,Nat.one_mul,Nat.add_comm,← List.drop_drop]
  rw[show (f x++xs.flatMap f).drop K=xs.flatMap f from by rw[← hf x];simp]
  simpa using ih
theorem Row.own {B:Nat} {w:World} {ty K:Nat} {f:α→List Value} {v:Value} {xs:List α} (hf:∀ x,(f x).length=K) (h:Row B w ty K f v xs):∃ fp,Own B w (oSl ty K (oFlat f)) fp [v] xs:=by
 rcases h.2 with ⟨rfl,h0⟩ | ⟨g,cap,cur,rfl,hb,hg,hn,hm,hsz,ht⟩
 ·have:xs=[]:=List.eq_nil_of_length_eq_zero h0
  subst this
  exact⟨[],⟨_,rfl,.inl ⟨rfl,rfl,rfl⟩⟩,List.nodup_nil,by simp⟩
 ·refine⟨g :: (List.replicate xs.length []).flatten,⟨_,rfl,.inr ⟨g,cap,cur,List.replicate xs.length [],rfl,hg,hsz,hn,hm,by simp,rfl,fun i hi fi hfi=>?_⟩⟩,?_,?_⟩
  ·have hfi':fi=[]:=by
    rw[List.getElem?_replicate,if_pos hi] at hfi
    exact(Option.some.inj hfi).symm
   refine⟨hfi',?_⟩
   have:=flatMap_at hf xs i hi
   rw[← ht] at this
   rw[← this,List.drop_take,List.take_take]
   congr 1
   have:(i+1)*K≤xs.length*K:=Nat.mul_le_mul_right _ hi
   rw[Nat.add_mul,Nat.one_mul] at this
   omega
  ·have:(List.replicate xs.length ([]:List Nat)).flatten=[]:=by simp
   rw[this];simp
  ·have:(List.replicate xs.length ([]:List Nat)).flatten=[]:=by simp
   rw[this];simpa using hb
theorem flatMap_take {f:α→List Value} {K:Nat} (hf:∀ x,(f x).length=K):∀ (xs:List α) (k:Nat),(xs.take k).flatMap f=(xs.flatMap f).take (k*K)
 | [],k=>by simp
 | x :: xs,0=>by simp
 | x :: xs,k+1=>by
  rw[List.take_succ_cons,List.flatMap_cons,List.flatMap_cons,flatMap_take hf xs k,Nat.add_mul,Nat.one_mul,Nat.add_comm,show K+k*K=(f x).length+k*K by rw[hf x],List.take_length_add_append]
theorem Row.take {B:Nat} {w:World} {ty K n cap k:Nat} {f:α→List Value} {ad:Option Addr} {xs:List α} (hf:∀ x,(f x).length=K) (h:Row B w ty K f (.slice ad n cap) xs) (hk:k≤xs.length) (h0:0 < k):Row B w ty K f (.slice ad k cap) (xs.take k):=by
 have hlen:(xs.take k).length=k:=by simp;omega
 rcases h.2 with ⟨h1,h2⟩ | ⟨g,cap',cur,hv,hb,hg,hn,hm,hs,ht⟩
 ·omega
 ·obtain⟨rfl,rfl,rfl⟩:ad=some ⟨g,0,none⟩∧n=xs.length∧cap=cap':=by simpa using hv
  have hk2:k*K≤xs.length*K:=Nat.mul_le_mul_right _ hk
  have e:=flatMap_take hf xs k
  refine⟨by rw[flatMap_len hf,hlen],.inr ⟨g,cap,cur,by rw[hlen],hb,hg,by rw[hlen];omega,hm,hs,?_⟩⟩
  rw[hlen,e,← ht,List.take_take,Nat.min_eq_left hk2]
theorem Row.cap {B:Nat} {w:World} {ty K n cap:Nat} {f:α→List Value} {ad:Option Addr} {xs:List α} (h:Row B w ty K f (.slice ad n cap) xs):n≤cap:=by
 rcases h.2 with ⟨h1,h2⟩ | ⟨g,cap',cur,hv,hb,hg,hn,hm,hs,ht⟩
 ·obtain⟨_,rfl,rfl⟩:ad=none∧n=0∧cap=0:=by simpa using h1
  exact Nat.le_refl _
 ·obtain⟨_,h3,h4⟩:ad=some ⟨g,0,none⟩∧n=xs.length∧cap=cap':=by simpa using hv
  omega
theorem slr_flat {f:α→List Value} {K:Nat} (hf:∀ x,(f x).length=K) {w:World} {ad:Addr} {n cap:Nat} {xs:List α} (h:SlR w K (fun _ cs x=>cs=f x) (.slice (some ad) n cap) xs):∀ j u,(xs.flatMap f)[j]?=some u→w.cell? (ad.add j)=some u:=by
 intro j u hu
 obtain⟨a',cap',hv,h1,h2,h3⟩:=h
 have hj:j < xs.length*K:=by rw[← flatMap_len hf];exact(List.getElem?_eq_some_iff.1 hu).1
 have hK:0 < K:=by
  rcases Nat.eq_zero_or_pos K with h0 | h0
  ·rw[h0] at hj;omega
  ·exact h0
 have hi:j / K < xs.length:=by rw[Nat.div_lt_iff_lt_mul hK];exact hj
 obtain⟨b,off,cs,ha,hk,hc,hcs⟩:=h3 (j / K) hi
 obtain⟨rfl⟩:ad=⟨b,off,none⟩:=by
  have:some ad=a':=by simpa using (congrArg (fun v=>match v with | Value.slice a _ _=>a | _=>none) hv)
  rw[ha] at this;simpa using this
 have hm:j % K < K:=Nat.mod_lt _ hK
 have e:j / K*K+j % K=j:=by rw[Nat.mul_comm];exact Nat.div_add_mod j K
 have hat:=flatMap_at hf xs (j / K) hi
 have hq:cs[j % K]?=some u:=by
  rw[hcs,← hat,List.getElem?_take,if_pos hm,List.getElem?_drop,e];exact hu
 have:=hc _ _ hq
 rw[Nat.add_assoc,e] at this
 rw[Addr.add_lit];exact this
theorem Ext.cellA {w w':World} (h:Ext w w') {a:Addr} {u:Value} (hc:w.cell? a=some u):w'.cell? a=some u:=by
 obtain⟨b,off,sp⟩:=a
 have:=World.cell?_spot hc
 simp at this
 subst this
 exact h.cell hc
theorem Row.appS {t e:TypeId} {size bytes:Nat} {w1:World} {f:α→List Value} (E:ElemInfo P t e size bytes) (hgd:op.guard=none) (s x:Operand)
  (ho:op.op=.call { callee:=.builtin .append,args:=#[s,x],argTypes:=#[t,t] })
  (w0:World) (hext:Ext w0 w1) (v:Value) (xs:List α) (hs:a.eval s=v) (hown:Row w0.heap.size w1 e size f v xs)
  (ad:Addr) (m c:Nat) (ys:List α) (hx:a.eval x=.slice (some ad) m c) (hm:m=ys.length) (hf:∀ x,(f x).length=size) (hnews:∀ j u,(ys.flatMap f)[j]?=some u→w1.cell? (ad.add j)=some u) (h1:∀ u∈ys.flatMap f,u.oneCell'=true)
  (h63:xs.length+ys.length≤maxLen) (hbytes:(xs.length+ys.length)*bytes≤140737488355328)
  (h:∀ v' X,Row w0.heap.size (w0.plus X) e size f v' (xs++ys)→(v'=.slice none 0 0↔v=.slice none 0 0∧ys.length=0)→wpList P ops Q rest (a.put op.dst v') (w0.plus X)):wpList P ops Q (op :: rest) a w1:=by
 subst hm
 refine app_many E hgd s x ho w0 hext v xs.length (xs.flatMap f) hs hown ad ys.length c (ys.flatMap f) hx (flatMap_len hf ys) hnews h1 h63 hbytes fun v' X ho' hne=>h v' X ?_ hne
 unfold Row
 rw[List.length_append,List.flatMap_append]
 exact ho'
theorem app_none {t e:TypeId} {size bytes base:Nat} {W:World} (E:ElemInfo P t e size bytes) (hgd:op.guard=none) (s x:Operand)
  (ho:op.op=.call { callee:=.builtin .append,args:=#[s,x],argTypes:=#[t,t] })
  (v:Value) (n:Nat) (xs:List Value) (hs:a.eval s=v) (hown:W.ownsRow base e size v n xs) (c:Nat) (hx:a.eval x=.slice none 0 c)
  (h:wpList P ops Q rest (a.put op.dst v) W):wpList P ops Q (op :: rest) a W:=by
 obtain⟨i,z,hi,hz,hsize,hby,hzs⟩:=E.info
 refine wpList_plain hgd fun K hK=>?_
 have hrun:(Builtin.append_ #[t,t] op.type #[v,.slice none 0 c]).run P W=.ok v W:=by
  rcases hown.2 with ⟨rfl,rfl⟩ | ⟨g,cap,cur,rfl,_,_,hnc,_⟩
  ·simp[Builtin.append_,run_underlying E.und,sizeOf,typeInfo,hi,Builtin.lenOf,Builtin.firstCells]
  ·simp[Builtin.append_,run_underlying E.und,sizeOf,typeInfo,hi,Builtin.lenOf,Builtin.firstCells,hnc,storeCells]
 unfold Oper.wp
 simp[execOp,ho,resolve,invoke,builtin,hs,hx,hrun,Result.andThen]
 exact hK _ _ h
theorem Row.appV {t e:TypeId} {size bytes:Nat} {w1:World} {f:α→List Value} (E:ElemInfo P t e size bytes) (hgd:op.guard=none) (s x:Operand)
  (ho:op.op=.call { callee:=.builtin .append,args:=#[s,x],argTypes:=#[t,t] })
  (w0:World) (hext:Ext w0 w1) (v:Value) (xs:List α) (hs:a.eval s=v) (hown:Row w0.heap.size w1 e size f v xs)
  (sv:Value) (ys:List α) (hx:a.eval x=sv) (hf:∀ x,(f x).length=size) (hr:SlR w1 size (fun _ cs x=>cs=f x) sv ys) (h1:∀ x,∀ u∈f x,u.oneCell'=true)
  (h63:xs.length+ys.length≤maxLen) (hbytes:(xs.length+ys.length)*bytes≤140737488355328)
  (h:∀ v' X,Row w0.heap.size (w0.plus X) e size f v' (xs++ys)→wpList P ops Q rest (a.put op.dst v') (w0.plus X)):wpList P ops Q (op :: rest) a w1:=by
 obtain⟨ad,cap,rfl⟩:=hr.len
 cases ad with
 | none =>
  have h0:ys=[]:=by
   cases ys with
   | nil=>rfl
   | cons y ys =>
    obtain⟨a',cap',hv,_,_,h3⟩:=hr
    obtain⟨b,off,cs,ha,_⟩:=h3 0 (Nat.zero_lt_succ _)
    rw[ha] at hv;simp at hv
  subst h0
  obtain⟨X,rfl⟩:=hext
  exact app_none E hgd s x ho v xs.length (xs.flatMap f) hs hown cap hx (h v X (by simpa using hown))
 | some ad =>
  exact Row.appS E hgd s x ho w0 hext v xs hs hown ad ys.length cap ys hx rfl hf (slr_flat hf hr) (fun u hu=>by obtain⟨y,_,hy⟩:=List.mem_flatMap.1 hu;exact h1 y u hy) h63 hbytes fun v' X ho' _=>h v' X ho'
theorem Row.app {t e:TypeId} {size bytes:Nat} {w1:World} {cs:Array Value} {f:α→List Value} (E:ElemInfo P t e size bytes) (hgd:op.guard=none) (s x:Operand)
  (ho:op.op=.call { callee:=.builtin .append,args:=#[s,x],argTypes:=#[t,t] })
  (w0:World) (hext:Ext w0 w1) (v:Value) (xs:List α) (hs:a.eval s=v) (hown:Row w0.heap.size w1 e size f v xs) (y:α) (hy:cs.toList=f y)
  (b0:Nat) (hb0:b0=w1.heap.size) (hx:a.eval x=.slice (some ⟨b0,0,none⟩) 1 1) (hl:cs.size=size) (h1:∀ u∈cs.toList,u.oneCell'=true)
  (h63:xs.length+1≤maxLen) (hbytes:(xs.length+1)*bytes≤140737488355328)
  (h:∀ v' X,Row w0.heap.size (w0.plus X) e size f v' (xs++[y])→v'≠.slice none 0 0→wpList P ops Q rest (a.put op.dst v') (w0.plus X)):wpList P ops Q (op :: rest) a (w1.alloc (.cells cs e)):=by
 refine app_one E hgd s x ho w0 hext v xs.length (xs.flatMap f) hs hown b0 hb0 hx hl h1 h63 hbytes fun v' X ho' hne=>h v' X ?_ hne
 unfold Row
 simpa [hy] using ho'
end
end Go
set_option maxRecDepth 100000
set_option linter.unusedVariables false
namespace Go
open Go.RowKit
section
variable {α:Type}
def wL (w:α→Nat) (l:List α):Nat:=(l.map w).sum
theorem wL_cons (w:α→Nat) (x:α) (l:List α):wL w (x :: l)=w x+wL w l:=by simp[wL]
def rc (f:α→List Value):World→List Value→α→Prop:=fun _ cs x=>cs=f x
theorem rc_stable (f:α→List Value):Stable (rc f):=fun _ _ _ _ _ h=>h
theorem oFl_reads {ty K:Nat} {f:α→List Value} (hf:∀ x,(f x).length=K) {w:World} {fp:List Nat} {v:Value} {xs:List α} (h:oSl ty K (oFlat f) w fp [v] xs):SlR w K (rc f) v xs:=by
 obtain⟨v',hv,hs⟩:=oSl_reads (r:=rc f) (k:=K) (fun _ _ _ _ ⟨_,hc⟩=>⟨by rw[hc];exact hf _,hc⟩) h
 obtain rfl:v=v':=by simpa using hv
 exact hs
theorem oFl_at {ty K:Nat} {f:α→List Value} (hf:∀ x,(f x).length=K) {w:World} {fp:List Nat} {g n cap:Nat} {xs:List α} (h:oSl ty K (oFlat f) w fp [.slice (some ⟨g,0,none⟩) n cap] xs) (hn:fp.Nodup) {i:Nat} (hi:i < xs.length) :
  w.old g∧(∀ j,w.frozen? ⟨g,j,none⟩=false)∧(∀ j u,(f xs[i])[j]?=some u→w.cell? ⟨g,i*K+j,none⟩=some u)∧g∈fp ∧
   ∀ x',oSl ty K (oFlat f) (w.layCells g (i*K) (f x')) fp [.slice (some ⟨g,0,none⟩) n cap] (xs.set i x'):=by
 obtain⟨fi,cs,h1,h2,h3,h4,⟨h5,rfl⟩,h6,h7,h8,h9,h10,h11⟩:=oSl_at (oFlat_local f) (oFlat_held f) h hn hi
 refine⟨h1,h2,h4,h9,fun x'=>h11 (f x') x' (by rw[hf];exact Nat.le_refl _) ⟨h5,?_⟩⟩
 rw[hf,List.drop_of_length_le (by rw[hf];exact Nat.le_refl _),List.append_nil]
theorem oSl_slice {ty K:Nat} {o:Ow α} {w:World} {fp:List Nat} {v:Value} {xs:List α} (h:oSl ty K o w fp [v] xs) {i:Nat} (hi:i < xs.length):∃ g cap,v=.slice (some ⟨g,0,none⟩) xs.length cap:=by
 obtain⟨v',hv,h⟩:=h
 obtain rfl:v=v':=by simpa using hv
 rcases h with ⟨_,rfl,_⟩ | ⟨g,cap,_,_,rfl,_⟩
 ·exact absurd hi (Nat.not_lt_zero _)
 ·exact⟨g,cap,rfl⟩
theorem oSl_shape {ty K:Nat} {o:Ow α} {w:World} {fp:List Nat} {v:Value} {xs:List α} (h:oSl ty K o w fp [v] xs):∃ a cap,v=.slice a xs.length cap∧cap≤maxLen∧xs.length≤cap:=by
 obtain⟨v',hv,h⟩:=h
 obtain rfl:v=v':=by simpa using hv
 rcases h with ⟨rfl,rfl,_⟩ | ⟨g,cap,_,_,rfl,_,_,h1,h2,_⟩
 ·exact⟨none,0,rfl,Nat.zero_le _,Nat.le_refl _⟩
 ·exact⟨_,cap,rfl,h2,h1⟩
theorem Chg.plus {S:List Nat} {a b:World} (h:Chg S a b) (X:More):Chg S a (b.plus X):=h.trans ((Ext.refl _).plus X |>.chg S)
theorem Chg.alloc {S:List Nat} {a b:World} (h:Chg S a b) (o:Obj):Chg S a (b.alloc o):=h.trans ((Ext.refl _).alloc o |>.chg S)
end
end Go
namespace Go
theorem xE {w w':World} (h:Ext w w':=by repeat (first | exact Ext.refl _ | apply Ext.plus | apply Ext.alloc | apply Ext.drew)):Ext w w':=h
theorem xF {w w':World} (h:Ext w w':=by repeat' (first | (with_reducible exact Ext.refl _) | (with_reducible refine Ext.plus ?_ _) | (with_reducible refine Ext.alloc ?_ _) | (with_reducible refine Ext.setCell ?_ ?_ _) | (with_reducible refine Ext.drew ?_) | (with_reducible exact Nat.le_refl _) | (dsimp only;omega))):Ext w w':=h
theorem tH {p:Prop} (h:p):RowKit.Hid p:=h
end Go
