/- Kinds of owned lists and of boxed elements, for regions that draw their order. -/
import Derived.Test.YtbmbanelodabgaaGreatDoorKBG
import Derived.ArgAppend
set_option maxRecDepth 100000
set_option linter.unusedVariables false
namespace Go
open Go.RowKit
def emptyH (B:Nat):World:={ (default:World) with heap:=Array.replicate B (.cells #[] 0) }
theorem emptyH_size (B:Nat):(emptyH B).heap.size=B:=by simp[emptyH]
theorem cell_chg {S:List Nat} {w w':World} {b i:Nat} {u:Value} (hx:Chg S w w') (h:w.cell? ⟨b,i,none⟩=some u) (hb:b∉S):w'.cell? ⟨b,i,none⟩=some u:=by
 have hlt:=World.block_lt_of_cell? w _ h
 simp only[World.cell?,hx.block b hlt hb] at h ⊢
 exact h
section
variable {α:Type}
def CanO (K:Nat) (o:Ow α) (y:α):Prop:=∀ w,∃ w' fy cs,Ext w w'∧Own w.heap.size w' o fy cs y∧cs.length=K
theorem canO_flat {f:α→List Value} {K:Nat} (hf:∀ x,(f x).length=K) (y:α):CanO K (oFlat f) y:=fun w=>⟨w,[],f y,Ext.refl w,⟨⟨rfl,rfl⟩,List.nodup_nil,fun b hb=>by cases hb⟩,hf y⟩
theorem build_own {K:Nat} {o:Ow α} (hlo:Local o) (hhe:Held o):∀ (xs:List α),(∀ y∈xs,CanO K o y)→∀ w0:World,∃ (w:World) (fps:List (List Nat)) (raw:List Value),Ext w0 w∧fps.length=xs.length∧raw.length=xs.length*K ∧
  (∀ i (hi:i < xs.length) fi,fps[i]?=some fi→o w fi ((raw.drop (i*K)).take K) xs[i])∧fps.flatten.Nodup∧∀ b∈fps.flatten,w0.heap.size≤b∧b < w.heap.size
 | [],_,w0=>⟨w0,[],[],Ext.refl w0,rfl,by simp,(fun i hi=>by simp at hi),by simp,by simp⟩
 | x :: xs,h,w0=>by
  obtain⟨w1,fx,cs,hx1,hO,hcs⟩:=h x (by simp) w0
  obtain⟨w2,fps,raw,hx2,h1,h2,h3,h4,h5⟩:=build_own hlo hhe xs (fun y hy=>h y (List.mem_cons_of_mem _ hy)) w1
  have hlt:=hhe _ _ _ _ hO.1
  have hs1:=hx1.below.size
  have hs2:=hx2.below.size
  refine⟨w2,fx :: fps,cs++raw,hx1.trans hx2,by simp[h1],by rw[List.length_append,hcs,h2,List.length_cons,Nat.add_mul,Nat.one_mul,Nat.add_comm],fun i hi fi hfi=>?_,?_,fun b hb=>?_⟩
  ·cases i with
   | zero =>
    simp at hfi
    subst hfi
    have e:(List.drop (0*K) (cs++raw)).take K=cs:=by rw[Nat.zero_mul,List.drop_zero,← hcs];simp
    rw[e]
    exact hlo.ext hhe hx2 hO.1
   | succ i =>
    have e:(List.drop ((i+1)*K) (cs++raw)).take K=(raw.drop (i*K)).take K:=by
     rw[Nat.add_mul,Nat.one_mul,Nat.add_comm,← List.drop_drop,show (cs++raw).drop K=raw from by rw[← hcs];simp]
    rw[e]
    exact h3 i (by simpa using hi) fi (by simpa using hfi)
  ·rw[List.flatten_cons]
   refine List.nodup_append.2 ⟨hO.2.1,h4,fun b hb c hc hbc=>?_⟩
   subst hbc
   have:=hlt b hb
   have:=(h5 b hc).1
   omega
  ·rw[List.flatten_cons] at hb
   rcases List.mem_append.1 hb with hb | hb
   ·have:=hO.2.2 b hb;have:=hlt b hb;omega
   ·have:=h5 b hb;omega
theorem own_can {ty K:Nat} {o:Ow α} (hlo:Local o) (hhe:Held o) {xs:List α} (h:∀ y∈xs,CanO K o y) (hm:xs.length≤maxLen) (w0:World):∃ w a c fp,Ext w0 w∧Own w0.heap.size w (oSl ty K o) fp [.slice a xs.length c] xs:=by
 obtain⟨w,fps,raw,hx,h1,h2,h3,h4,h5⟩:=build_own hlo hhe xs h w0
 have hsz:=hx.below.size
 have hx2:Ext w (w.alloc (.cells raw.toArray ty)):=(Ext.refl _).alloc _
 have hR:RowO w0.heap.size (w.alloc (.cells raw.toArray ty)) ty K o raw fps (.slice (some ⟨w.heap.size,0,none⟩) xs.length xs.length) xs:=by
  refine⟨⟨h2,.inr ⟨w.heap.size,xs.length,raw.toArray,rfl,hsz,heap_alloc_new w _,Nat.le_refl _,hm,by simpa using h2,?_⟩⟩,h1,fun i hi fi hfi=>hlo.ext hhe hx2 (h3 i hi fi hfi),?_,fun b hb=>(h5 b hb).1⟩
  ·show raw.take (xs.length*K)=raw
   rw[List.take_of_length_le (Nat.le_of_eq h2)]
  ·refine List.nodup_append.2 ⟨by simp[blkL],h4,fun b hb c hc hbc=>?_⟩
   subst hbc
   simp[blkL] at hb
   have:=(h5 b hc).2
   omega
 exact⟨_,_,_,_,hx.alloc _,hR.own⟩
theorem canO_sl {ty K:Nat} {o:Ow α} (hlo:Local o) (hhe:Held o) {xs:List α} (h:∀ y∈xs,CanO K o y) (hm:xs.length≤maxLen):CanO 1 (oSl ty K o) xs:=fun w=>by
 obtain⟨w',a,c,fp,hx,hO⟩:=own_can (ty:=ty) hlo hhe h hm w
 exact⟨w',fp,_,hx,hO,rfl⟩
def kOwnX (ty K:Nat) (o:Ow α) (B:Nat) (xs:List α) (_:Nat×Nat):XReg.Kind:=fun v w=>∃ a c fp,v=.slice a xs.length c∧Own B w (oSl ty K o) fp [.slice a xs.length c] xs
theorem kOwnX_good {ty K:Nat} {o:Ow α} (hlo:Local o) (hhe:Held o) {B:Nat} {xs:List α} {S U V:List Nat} (hV:∀ b∈V,b < B) (h:∀ y∈xs,CanO K o y) (hm:xs.length≤maxLen):(XReg.ZOp.A (kOwnX ty K o B xs) S U V).Good :=
 ⟨fun x v w w' hx ⟨a,c,fp,hv,hO⟩=>⟨a,c,fp,hv,hO.chg (oSl_local hlo) (oSl_held hhe) hx hV⟩,by
  obtain⟨w',a,c,fp,_,hO⟩:=own_can (ty:=ty) hlo hhe h hm (emptyH B)
  rw[emptyH_size] at hO
  exact⟨(0,0),_,w',a,c,fp,rfl,hO⟩⟩
theorem kOwnX_in {ty K:Nat} {o:Ow α} {B:Nat} {xs:List α} {x:Nat×Nat} {w:World} {v:Value} {fp:List Nat} (h:Own B w (oSl ty K o) fp [v] xs):kOwnX ty K o B xs x v w:=by
 obtain⟨a,c,rfl⟩:=h.shape
 exact⟨a,c,fp,rfl,h⟩
theorem kOwnX_out {ty K:Nat} {o:Ow α} {B:Nat} {xs:List α} {x:Nat×Nat} {w:World} {v:Value} (h:kOwnX ty K o B xs x v w):∃ fp,Own B w (oSl ty K o) fp [v] xs:=by
 obtain⟨a,c,fp,rfl,h⟩:=h;exact⟨fp,h⟩
def kEmpX (ty K:Nat) (f:α→List Value) (B:Nat) (_:Nat×Nat):XReg.Kind:=fun v w=>∃ g,v=.slice (some ⟨g,0,none⟩) 0 0∧B≤g∧Row B w ty K f v []
theorem kEmpX_in {W:World} {g B ty K:Nat} {f:α→List Value} {x:Nat×Nat} (hg:g=W.heap.size) (hB:B≤W.heap.size):kEmpX ty K f B x (.slice (some ⟨g,0,none⟩) 0 0) (W.alloc (.cells #[] ty)):=⟨g,rfl,by omega,Row.madeB' hg hB⟩
theorem kEmpX_good {ty K:Nat} {f:α→List Value} {B:Nat} {S U V:List Nat} (hV:∀ b∈V,b < B):(XReg.ZOp.A (kEmpX ty K f B) S U V).Good :=
 ⟨fun x v w w' hx ⟨g,hv,hB,h⟩=>⟨g,hv,hB,h.chg hx (fun b hb hbV=>by subst hv;simp[blkL] at hb;subst hb;have:=hV _ hbV;omega)⟩,
  (0,0),_,_,kEmpX_in (W:=emptyH B) rfl (by rw[emptyH_size];exact Nat.le_refl _)⟩
theorem kEmpX_r {ty K:Nat} {f:α→List Value} {B:Nat} {x:Nat×Nat} {v:Value} {w:World} (h:kEmpX ty K f B x v w):Row B w ty K f v []:=by obtain⟨_,_,_,h⟩:=h;exact h
def kElt (K:Nat) (o:Ow α) (B:Nat) (y:α) (_:Nat×Nat):XReg.Kind:=fun v w=>∃ g cs fy,v=.slice (some ⟨g,0,none⟩) 1 1∧B≤g∧(∀ j u,cs[j]?=some u→w.cell? ⟨g,j,none⟩=some u)∧cs.length=K∧Own B w o fy cs y
theorem kElt_good {K:Nat} {o:Ow α} (hlo:Local o) (hhe:Held o) {B:Nat} {y:α} {S U V:List Nat} (hV:∀ b∈V,b < B) (h:CanO K o y):(XReg.ZOp.A (kElt K o B y) S U V).Good :=
 ⟨fun x v w w' hx ⟨g,cs,fy,hv,hB,hc,hl,hO⟩=>⟨g,cs,fy,hv,hB,(fun j u hu=>cell_chg hx (hc j u hu) (fun hb=>by have:=hV _ hb;omega)),hl,hO.chg hlo hhe hx hV⟩,by
  obtain⟨w',fy,cs,hx,hO,hl⟩:=h (emptyH B)
  rw[emptyH_size] at hO
  have hsz:=hx.below.size
  rw[emptyH_size] at hsz
  exact⟨(0,0),_,w'.alloc (.cells cs.toArray 0),w'.heap.size,cs,fy,rfl,hsz,(fun j u hu=>by rw[World.cell?_alloc_new];simpa using hu),hl,hO.ext hlo hhe ((Ext.refl _).alloc _)⟩⟩
theorem kElt_in {K:Nat} {o:Ow α} (hlo:Local o) (hhe:Held o) {B:Nat} {y:α} {x:Nat×Nat} {w:World} {g:Nat} {ty:TypeId} {cs:Array Value} {fy:List Nat} (h:Own B w o fy cs.toList y) (hl:cs.size=K) (hg:g=w.heap.size) (hB:B≤w.heap.size):kElt K o B y x (.slice (some ⟨g,0,none⟩) 1 1) (w.alloc (.cells cs ty)):=by
 subst hg
 exact⟨w.heap.size,cs.toList,fy,rfl,hB,(fun j u hu=>by rw[World.cell?_alloc_new];simpa using hu),by simpa using hl,h.ext hlo hhe ((Ext.refl _).alloc _)⟩
theorem kElt_out {K:Nat} {o:Ow α} {B:Nat} {y:α} {x:Nat×Nat} {w:World} {g:Nat} (h:kElt K o B y x (.slice (some ⟨g,0,none⟩) 1 1) w):∃ cs fy,(∀ j u,cs[j]?=some u→w.cell? ((⟨g,0,none⟩:Addr).add j)=some u)∧cs.length=K∧Own B w o fy cs y:=by
 obtain⟨g',cs,fy,hv,hB,hc,hl,hO⟩:=h
 obtain rfl:g=g':=by simpa using hv
 exact⟨cs,fy,(fun j u hu=>by rw[Addr.add_lit,Nat.zero_add];exact hc j u hu),hl,hO⟩
end
theorem Own.far {α:Type} {B:Nat} {w w':World} {o:Ow α} (hl:Local o) (hh:Held o) {S:List Nat} (hx:Chg S w w') {fp:List Nat} {cs:List Value} {x:α} (hd:∀ b∈fp,b∉S) (h:Own B w o fp cs x):Own B w' o fp cs x:=⟨hl.chg hh hx hd h.1,h.2⟩
end Go
namespace Go
open Go.RowKit
section
variable {α:Type} {P:Program} {ops:Array Oper} {rest:List Oper} {op:Oper} {a:Act} {Q:Exit→Act→World→Prop}
theorem grownBy_ext {w w':World} (h:w.grownBy w' none):Ext w w':=Ext.of_below ⟨h.os,h.tape,h.output,h.size,fun k hk=>h.block k hk (by simp)⟩
theorem Row.appE {t e:TypeId} {size bytes:Nat} {W:World} {f:α→List Value} (E:ElemInfo P t e size bytes) (hgd:op.guard=none) (s x:Operand)
  (ho:op.op=.call { callee:=.builtin .append,args:=#[s,x],argTypes:=#[t,t] }) (b:Nat) (hs:a.eval s=.slice (some ⟨b,0,none⟩) 0 0)
  (sv:Value) (ys:List α) (hx:a.eval x=sv) (hf:∀ x,(f x).length=size) (hr:SlR W size (fun _ cs x=>cs=f x) sv ys) (h1:∀ x,∀ u∈f x,u.oneCell'=true)
  (h63:ys.length≤maxLen) (hbytes:ys.length*bytes≤140737488355328) (hown:Row 0 W e size f (.slice (some ⟨b,0,none⟩) 0 0) ([]:List α))
  (h0:ys=[]→wpList P ops Q rest (a.put op.dst (.slice (some ⟨b,0,none⟩) 0 0)) W)
  (h:∀ v' X,Row W.heap.size (W.plus X) e size f v' ys→wpList P ops Q rest (a.put op.dst v') (W.plus X)):wpList P ops Q (op :: rest) a W:=by
 obtain⟨ad,cap,rfl⟩:=hr.len
 cases ad with
 | none =>
  have hy:ys=[]:=by
   cases ys with
   | nil=>rfl
   | cons y ys =>
    obtain⟨a',cap',hv,_,_,h3⟩:=hr
    obtain⟨b',off,cs,ha,_⟩:=h3 0 (Nat.zero_lt_succ _)
    rw[ha] at hv;simp at hv
  subst hy
  exact app_none E hgd s x ho _ 0 [] hs (by have:=hown;unfold Row at this;simpa using this) cap hx (h0 rfl)
 | some ad =>
  obtain⟨i,z,hi,hz,hsize,hby,hzs⟩:=E.info
  by_cases hy:ys=[]
  ·subst hy
   refine wpList_append_arg W hgd s x t ho e i z size bytes E.und hi hz hsize hby hzs E.pos b 0 0 0 [] hs (by simp) (by simp) ad 0 cap [] hx (by simp) (by simp) (by simp) (fun _ j hj=>by simp at hj) (by simp) (by simp) (fun _=>?_) (fun hlt=>by omega)
   have:=h0 rfl
   simpa [World.setCells] using this
  ·have hpos:0 < ys.length:=by cases ys with
    | nil=>exact absurd rfl hy
    | cons y ys=>simp
   refine wpList_append_grows W hgd s x t ho e i z size bytes E.und hi hz hsize hby hzs E.pos (some ⟨b,0,none⟩) 0 0 [] hs (fun h=>by cases h) (by simp) (fun b' hb j u hj=>by simp at hj) ad ys.length cap (ys.flatMap f) hx (flatMap_len hf ys) (slr_flat hf hr) (fun u hu=>by obtain⟨y,_,hy⟩:=List.mem_flatMap.1 hu;exact h1 y u hy) (by omega) (by omega) (by simpa using hbytes) ?_
   intro v' w' ho' hg
   obtain⟨X,rfl⟩:=grownBy_ext hg
   refine h v' X ?_
   unfold Row
   simpa using ho'
end
end Go
set_option maxRecDepth 100000
set_option linter.unusedVariables false
namespace Go
open Go.RowKit
namespace XReg
open Go.Region (binds ready)
variable {P:Program} {ops:Array Oper} {m:Nat}
def GivesL (P:Program) (ops:Array Oper) (R:World→World→Prop) (o:Oper) (a:Act) (K:Kind) (w:World):Prop :=
 wpList P ops (fun e b w'=>e=.normal∧∃ v,b=a.put o.dst v∧R w w'∧K v w') [o] a w
def wpL (P:Program) (ops:Array Oper) (c:Array Nat) (R:World→World→Prop) (W0:World) (tail:List Oper) (Q:Exit→Act→World→Prop):List Kind→List Oper→Act→List (Kind×Value)→Prop
 | _,[],a,done=>∀ w',R W0 w'→(∀ (j:Nat) (p:Kind×Value),done[j]?=some p→p.1 p.2 w')→wpList P ops Q tail a w'
 | [],_ :: _,_,_=>False
 | K :: Ks,o :: rest,a,done=>(∀ w,R W0 w→Facts c done.length done w→GivesL P ops R o a K w)∧∀ v w,K v w→wpL P ops c R W0 tail Q Ks rest (a.put o.dst v) (done++[(K,v)])
theorem gives_opL {R:World→World→Prop} {w:World} {o:Oper} {a b:Act} {V:Kind} {Q:Exit→Act→World→Prop} {K:Act→World→Prop} {i:Nat} (hi:ops[i]?=some o)
  (h1:GivesL P ops R o a V w) (hs:∀ cs b,o.op≠.select cs b) (he:∀ x∈o.op.operands,b.eval x=a.eval x)
  (hwant:Region.wanted o (yielded ops b.tmps)=Region.wanted o (yielded ops a.tmps)) (hdst:∀ d,o.dst=some d→d < a.tmps.size)
  (hK:∀ v w',R w w'→V v w'→K (b.put o.dst v) w'):wpOp P ops Q i K b w:=by
 unfold wpOp
 simp only[hi]
 unfold GivesL wpList at h1
 rw[hwant]
 have same:∀ u v,a.put o.dst u=a.put o.dst v→b.put o.dst u=b.put o.dst v:=fun u v hu=>by
  cases hd:o.dst with
  | none=>rfl
  | some d =>
   rw[hd] at hu
   have h2:=congrArg (fun x:Act=>x.tmps[d]?) hu
   have hlt:=hdst d hd
   simp[Act.put,hlt] at h2
   rw[h2]
 split
 ·rename_i hwt
  rw[if_pos hwt] at h1
  rcases h1 with h1 | ⟨_,a',w',h1,_⟩
  ·refine .inl (wp_any_q (Q:=fun e c w'=>e=.normal∧∃ v,c=a.put o.dst v∧R w w'∧V v w') (fun c a w hc=>by cases hc.1) (fun ⟨_,_,hc⟩=>by cases hc.1) ?_)
   unfold Oper.wp at *
   rw[execOp_congr o hs he]
   generalize (execOp a.eval o).run P w=r at *
   cases r with
   | ok n w' =>
    cases n<;>simp only[Oper.upon,wpList] at h1 ⊢
    case value u=>obtain⟨_,v,h1,h2,h3⟩:=h1;rw[same u v h1];exact hK _ _ h2 h3
    case skip=>obtain⟨_,v,h1,h2,h3⟩:=h1;rw[same undef v h1];exact hK _ _ h2 h3
    case defer d =>
     obtain⟨_,v,h1,h2,h3⟩:=h1
     have:=congrArg (fun x:Act=>x.defers) h1
     cases hd:o.dst<;>simp[hd,Act.put] at this
    case enter f args =>
     refine Calls.mono h1 fun e w'' he=>?_
     cases e with
     | returned u=>simp only at he ⊢;obtain⟨_,v,h1,h2,h3⟩:=he;rw[same u v h1];exact hK _ _ h2 h3
     | panicked c=>exact absurd he.1 (by simp)
     | outgrown=>obtain⟨_,_,he,_⟩:=he;cases he
    case row row args=>exact Rows.mono h1 fun u w'' he=>by obtain⟨_,v,h1,h2,h3⟩:=he;rw[same u v h1];exact hK _ _ h2 h3
   | halt x w' =>
    cases x<;>simp only[Oper.upon] at h1 ⊢
    exact absurd h1.1 (by simp)
  ·cases h1
 ·rename_i hwt
  rw[if_neg hwt] at h1
  simp only[wpList] at h1
  obtain⟨_,v,h1,h2,h3⟩:=h1
  rw[same undef v h1]
  exact hK _ _ h2 h3
theorem phase1l {R:World→World→Prop} (htr:∀ a b c,R a b→R b c→R a c) {c:Array Nat} (H:Ok ops c m) {Q:Exit→Act→World→Prop} {W0:World} {a0:Act} {K:Nat→Kind}
  (hd:∀ (i:Nat) (o:Oper),ops[i]?=some o→∀ d,o.dst=some d→d < a0.tmps.size)
  (hst:∀ j,j < m→∀ v w w',R w w'→K j v w→K j v w')
  (each:∀ (i:Nat) (o:Oper),i < m→ops[i]?=some o→∀ (vs:Nat→Value) w,R W0 w→(∀ j,j < m→∃ w,K j (vs j) w)→(∀ j,j < i→anc c i j=true→K j (vs j) w)→GivesL P ops R o (act ops a0 vs (fun _=>true) i) (K i) w)
  (fin:∀ (vs:Nat→Value) w',R W0 w'→(∀ j,j < m→K j (vs j) w')→wpList P ops Q (ops.toList.drop m) (act ops a0 vs (fun _=>true) m) w') :
  ∀ (fuel:Nat) (listed:Array Bool) (vs:Nat→Value) (w:World),listed.size=ops.size→Closed ops listed→(∀ i,m≤i→listed.getD i false=false)→unl listed ops.size=fuel→R W0 w→(∀ j,j < m→∃ w,K j (vs j) w)→(∀ j,j < m→listed.getD j false=true→K j (vs j) w) →
   wpAny P .any ops Q fuel listed (act ops a0 vs (fun j=>listed.getD j false) ops.size) w:=by
 intro fuel
 induction fuel with
 | zero =>
  intro listed vs w hs hc hm hu hw hin hk
  have hall:=unl_zero ops.size hu
  have hms:m=ops.size:=by
   have:=H.le
   rcases Nat.lt_or_ge m ops.size with h1 | h1
   ·have:=hall m h1;rw[hm m (Nat.le_refl _)] at this;cases this
   ·omega
  have hl:∀ j,listed.getD j false=true↔j < m:=fun j=>⟨fun h=>(by
   rcases Nat.lt_or_ge j m with h1 | h1
   ·exact h1
   ·rw[hm j h1] at h;cases h),fun h=>hall j (by omega)⟩
  have hact:act ops a0 vs (fun j=>listed.getD j false) ops.size=act ops a0 vs (fun _=>true) m:=by
   rw[← hms]
   have:∀ k,k≤m→act ops a0 vs (fun j=>listed.getD j false) k=act ops a0 vs (fun _=>true) k:=by
    intro k
    induction k with
    | zero=>intro _;rfl
    | succ k ih=>intro hk;rw[act_succ,act_succ,ih (by omega)];simp only[(hl k).2 (by omega),if_true]
   exact this m (Nat.le_refl _)
  rw[hact]
  exact phase2 H 0 m listed _ w (by omega) (Nat.le_refl _) hl hs hc (fin vs w hw fun j hj=>hk j hj ((hl j).2 hj))
 | succ fuel ih =>
  intro listed vs w hs hc hm hu hw hin hk
  by_cases hpre:∀ j,j < m→listed.getD j false=true
  ·have hl:∀ j,listed.getD j false=true↔j < m:=fun j=>⟨fun h=>(by
    rcases Nat.lt_or_ge j m with h1 | h1
    ·exact h1
    ·rw[hm j h1] at h;cases h),hpre j⟩
   have hact:∀ k,act ops a0 vs (fun j=>listed.getD j false) k=act ops a0 vs (fun _=>true) (min k m):=by
    intro k
    induction k with
    | zero=>simp[act]
    | succ k ih =>
     by_cases e:k < m
     ·rw[show min (k+1) m=(min k m)+1 from by omega]
      rw[act_succ,act_succ,ih]
      simp only[(hl k).2 e,if_true]
      rw[show min k m=k from by omega]
     ·rw[show min (k+1) m=min k m from by omega,← ih]
      rw[act_succ,if_neg (by rw[hl];exact e)]
   rw[hact,show min ops.size m=m from by have:=H.le;omega]
   have hfu:m+(fuel+1)=ops.size:=by
    have:=unl_tail hl ops.size H.le
    have:=H.le
    omega
   exact phase2 H (fuel+1) m listed _ w hfu (Nat.le_refl _) hl hs hc (fin vs w hw fun j hj=>hk j hj ((hl j).2 hj))
  ·have hex:∃ j,j < m∧listed.getD j false=false∧∀ i,i < j→listed.getD i false=true:=by
    have:∀ n,(∀ j,j < n→listed.getD j false=true)∨∃ j,j < n∧listed.getD j false=false∧∀ i,i < j→listed.getD i false=true:=by
     intro n
     induction n with
     | zero=>exact .inl fun j h=>by omega
     | succ n ih =>
      rcases ih with h | ⟨j,h1,h2,h3⟩
      ·cases e:listed.getD n false
       ·exact .inr ⟨n,by omega,e,h⟩
       ·exact .inl fun j hj=>by
         by_cases e':j=n
         ·rw[e'];exact e
         ·exact h j (by omega)
      ·exact .inr ⟨j,by omega,h2,h3⟩
    exact(this m).resolve_left hpre
   obtain⟨j,hjm,hj0,hjl⟩:=hex
   have hle:=H.le
   have hoj:ops[j]?=some ops[j]:=Array.getElem?_eq_getElem (by omega)
   have hjr:j∈ready .any ops listed:=of_ready hs hoj hj0 fun e he hb=>hjl _ (H.back j _ hoj e he hb)
   refine⟨fun e=>(by rw[e] at hjr;cases hjr),fun i hi=>?_⟩
   obtain⟨o,ho,hi0,ha⟩:=ready_of hs hi
   have his:i < ops.size:=(Array.getElem?_eq_some_iff.1 ho).1
   have him:i < m:=by
    rcases Nat.lt_or_ge i m with h1 | h1
    ·exact h1
    ·have:=anc_listed H hc i o j ho (.inr ha) (by omega) (H.last i o j ho h1 (by omega))
     rw[hj0] at this;cases this
   have h1:∀ k,k < i→anc c i k=true→listed.getD k false=true:=fun k hk hak=>anc_listed H hc i o k ho (.inr ha) (by omega) hak
   have h2:∀ k,i < k→anc c k i=true→listed.getD k false=false:=fun k hk hak=>by
    cases e:listed.getD k false
    ·rfl
    ·rcases Nat.lt_or_ge k ops.size with h3 | h3
     ·have:=anc_listed H hc k ops[k] i (Array.getElem?_eq_getElem h3) (.inl e) his hak
      rw[hi0] at this;cases this
     ·simp[Array.getElem?_eq_none (show listed.size≤k by omega)] at e
   have agree:∀ t∈o.looksAt ops,(act ops a0 vs (fun j=>listed.getD j false) ops.size).tmps[t]?=(act ops a0 vs (fun _=>true) i).tmps[t]?:=fun t ht=>by
    have:=act_agree (a0:=a0) (vs:=vs) H ho (L:=fun j=>listed.getD j false) hi0 h1 h2 ht ops.size (Nat.le_refl _)
    rwa [show min ops.size i=i from by omega] at this
   refine gives_opL ho (each i o him ho vs w hw hin fun q hq hqa=>hk q (by omega) (h1 q hq hqa)) (H.nosel i o ho) (eval_of_agree agree) (wanted_of_agree agree) (fun d hdd=>by rw[act_size];exact hd i o ho d hdd) fun v w' hw' hv=>?_
   have hcg:act ops a0 vs (fun j=>listed.getD j false) ops.size=act ops a0 (fun q=>if q=i then v else vs q) (fun j=>listed.getD j false) ops.size :=
    act_congrL ops.size fun q _ hlq=>by
     by_cases e:q=i
     ·subst e;rw[hi0] at hlq;cases hlq
     ·rw[if_neg e]
   rw[hcg]
   have hset:=act_set (a0:=a0) (vs:=fun q=>if q=i then v else vs q) H ho (L:=fun j=>listed.getD j false) hi0 h2 ops.size (Nat.le_refl _) his
   simp only[if_true] at hset
   rw[hset]
   have hfun:(fun k=>if k=i then true else listed.getD k false)=fun k=>(listed.setIfInBounds i true).getD k false:=funext fun k=>(getD_set (by omega) k).symm
   rw[hfun]
   refine ih (listed.setIfInBounds i true) _ w' (by simpa using hs) ?_ ?_ ?_ (htr _ _ _ hw hw') ?_ ?_
   ·intro k o' hk hlk e he hb
    rw[getD_set (by omega)] at hlk ⊢
    split
    ·rfl
    ·by_cases e':k=i
     ·subst e'
      rw[ho] at hk;cases hk
      exact ha e he hb
     ·rw[if_neg e'] at hlk;exact hc k o' hk hlk e he hb
   ·intro k hk
    rw[getD_set (by omega),if_neg (by omega)];exact hm k hk
   ·have:=unl_set (listed:=listed) (i:=i) (by omega) hi0 ops.size his
    omega
   ·intro q hq
    by_cases e:q=i
    ·subst e;exact⟨w',by simpa using hv⟩
    ·simp only[if_neg e];exact hin q hq
   ·intro q hq hlq
    by_cases e:q=i
    ·subst e;simpa using hv
    ·rw[getD_set (by omega),if_neg e] at hlq
     simp only[if_neg e];exact hst q hq _ _ _ hw' (hk q hq hlq)
theorem wpL_vals {R:World→World→Prop} {c:Array Nat} {a0:Act} {W0:World} {tail:List Oper} {Q:Exit→Act→World→Prop} (vs:Nat→Value) (K:Nat→Kind):∀ (l:List Oper) (Ks:List Kind) (a:Act) (done:List (Kind×Value)),(∀ i o,l[i]?=some o→ops[done.length+i]?=some o) →
  (∀ j,j < done.length→done[j]?=some (K j,vs j))→(∀ j k,Ks[j]?=some k→k=K (done.length+j))→(∀ j,j < l.length→∃ w,K (done.length+j) (vs (done.length+j)) w) →
  wpL P ops c R W0 tail Q Ks l a done→a=act ops a0 vs (fun _=>true) done.length →
  (∀ i o,l[i]?=some o→∀ w,R W0 w→(∀ j,j < done.length+i→anc c (done.length+i) j=true→K j (vs j) w)→GivesL P ops R o (act ops a0 vs (fun _=>true) (done.length+i)) (K (done.length+i)) w) ∧
   ∀ w',R W0 w'→(∀ j,j < done.length+l.length→K j (vs j) w')→wpList P ops Q tail (act ops a0 vs (fun _=>true) (done.length+l.length)) w':=by
 intro l
 induction l with
 | nil =>
  intro Ks a done _ hdone _ _ h ha
  refine⟨fun i o hi=>(by simp at hi),fun w' hw' hj=>?_⟩
  have h':∀ w',R W0 w'→(∀ (j:Nat) (p:Kind×Value),done[j]?=some p→p.1 p.2 w')→wpList P ops Q tail a w':=by cases Ks<;>exact h
  have:=h' w' hw' fun j p hp=>by
   have hjl:j < done.length:=(List.getElem?_eq_some_iff.1 hp).1
   rw[hdone j hjl] at hp
   cases hp
   exact hj j (by simpa using hjl)
  simpa [← ha] using this
 | cons o rest ih =>
  intro Ks a done hl hdone hKs hin h ha
  cases Ks with
  | nil=>exact absurd h (by simp[wpL])
  | cons K0 Ks =>
   obtain⟨hg,hk⟩:=h
   have ho:ops[done.length]?=some o:=hl 0 o rfl
   obtain rfl:K0=K done.length:=hKs 0 K0 rfl
   have e2:a.put o.dst (vs done.length)=act ops a0 vs (fun _=>true) (done.length+1):=by
    rw[act_succ,← ha];simp[dstOf,ho]
   have hlen:(done++[(K done.length,vs done.length)]).length=done.length+1:=by simp
   obtain⟨w1,hw1⟩:=hin 0 (by simp)
   have next:=ih Ks _ (done++[(K done.length,vs done.length)])
    (fun i o hi=>by have:=hl (i+1) o (by simpa using hi);rwa [show done.length+(i+1)=done.length+1+i from by omega,← hlen] at this)
    (fun j hj=>by
     rw[hlen] at hj
     by_cases e:j < done.length
     ·rw[List.getElem?_append_left e];exact hdone j e
     ·obtain rfl:j=done.length:=by omega
      simp)
    (fun j k hj=>by rw[hlen,show done.length+1+j=done.length+(j+1) from by omega];exact hKs (j+1) k (by simpa using hj))
    (fun j hj=>by rw[hlen,show done.length+1+j=done.length+(j+1) from by omega];exact hin (j+1) (by simpa using hj))
    (hk (vs done.length) w1 (by simpa using hw1)) (by rw[hlen];exact e2)
   rw[hlen] at next
   refine⟨fun i o' hi w hw hj=>?_,fun w' hw' hj=>?_⟩
   ·cases i with
    | zero =>
     simp at hi;subst hi
     rw[Nat.add_zero,← ha]
     refine hg w hw fun j p hp hpa=>?_
     have hjl:j < done.length:=(List.getElem?_eq_some_iff.1 hp).1
     rw[hdone j hjl] at hp
     cases hp
     exact hj j (by simpa using hjl) (by simpa using hpa)
    | succ i =>
     have:=next.1 i o' (by simpa using hi) w hw fun j hji hja=>by
      rw[show done.length+1+i=done.length+(i+1) from by omega] at hji hja
      exact hj j hji hja
     rwa [show done.length+1+i=done.length+(i+1) from by omega] at this
   ·rw[List.length_cons,show done.length+(rest.length+1)=done.length+1+rest.length from by omega]
    exact next.2 w' hw' fun j hjl=>hj j (by rw[List.length_cons];omega)
structure GoodKL (R:World→World→Prop) (K:Kind):Prop where
 st:∀ v w w',R w w'→K v w→K v w'
 inh:∃ v w,K v w
theorem GoodKL.same (R:World→World→Prop) (v:Value) (w:World):GoodKL R (fun u _=>u=v):=⟨fun _ _ _ _ h=>h,v,w,rfl⟩
def AllGoodL (R:World→World→Prop):List Kind→Prop
 | []=>True
 | K :: Ks=>GoodKL R K∧AllGoodL R Ks
theorem AllGoodL.mem {R:World→World→Prop}:∀ {Ks:List Kind},AllGoodL R Ks→∀ K∈Ks,GoodKL R K
 | [],_,K,h=>by cases h
 | K' :: Ks,⟨h1,h2⟩,K,h=>by
  rcases List.mem_cons.1 h with rfl | h
  ·exact h1
  ·exact h2.mem K h
end XReg
open XReg in
theorem wp_region_l {R:World→World→Prop} (htr:∀ a b c,R a b→R b c→R a c) {P:Program} {id:Nat} {l:List Oper} {Q:Exit→Act→World→Prop} {a0:Act} {W0:World} (m:Nat) (Ks:List Kind) (hm:P.follows .mixedOrders=true) (hc:chk l.toArray m=true)
  (hd:(l.all fun o=>o.dst.all fun d=>decide (d < a0.tmps.size))=true) (hl:Ks.length=m)
  (h:wpL P l.toArray (Region.before l.toArray) R W0 (l.drop m) Q Ks (l.take m) a0 []) (hg:AllGoodL R Ks) (h0:R W0 W0.drew):(Code.region id l.toArray true).wp P Q a0 W0:=by
 have H:=ok_of_chk hc
 have hmem:∀ j,j < m→GoodKL R (Ks.getD j (fun _ _=>True)):=fun j hj=>by
  rw[List.getD_eq_getElem?_getD,List.getElem?_eq_getElem (by omega)]
  exact hg.mem _ (List.getElem_mem _)
 have hle:=H.le
 have hml:(l.take m).length=m:=by rw[List.length_take];simp at hle;omega
 have hv:=fun vs hin=>wpL_vals (R:=R) (ops:=l.toArray) (a0:=a0) vs (fun j=>Ks.getD j (fun _ _=>True)) (l.take m) Ks a0 [] (fun i o hi=>by
  rw[List.getElem?_take] at hi
  split at hi
  ·simpa using hi
  ·cases hi) (fun j hj=>absurd hj (Nat.not_lt_zero _)) (fun j k hk=>by simp[List.getD_eq_getElem?_getD,hk]) hin h rfl
 simp only[List.length_nil,Nat.zero_add,hml] at hv
 obtain⟨vs,hvs⟩:∃ vs:Nat→Value,∀ j,j < m→∃ w,(Ks.getD j (fun _ _=>True)) (vs j) w :=
  ⟨fun j=>Classical.epsilon fun v=>∃ w,(Ks.getD j (fun _ _=>True)) v w,fun j hj=>Classical.epsilon_spec (p:=fun v=>∃ w,(Ks.getD j (fun _ _=>True)) v w) (hmem j hj).inh⟩
 refine wp_region_any hm ?_
 have ha:a0=act l.toArray a0 vs (fun j=>(Array.replicate l.toArray.size false).getD j false) l.toArray.size:=by
  have:∀ k,act l.toArray a0 vs (fun j=>(Array.replicate l.toArray.size false).getD j false) k=a0:=by
   intro k
   induction k with
   | zero=>rfl
   | succ k ih =>
    rw[act_succ]
    have:(Array.replicate l.toArray.size false).getD k false=false:=by
     simp[Array.getElem?_replicate];split<;>rfl
    rw[if_neg (by rw[this];simp),ih]
  exact(this _).symm
 have hf:∀ j,(Array.replicate l.toArray.size false).getD j false=false:=fun j=>by simp[Array.getElem?_replicate];split<;>rfl
 have hrep:∀ k,unl (Array.replicate l.toArray.size false) k=k:=by
  intro k
  induction k with
  | zero=>rfl
  | succ k ih=>unfold unl;rw[ih,if_neg (by rw[hf];simp)]
 rw[ha]
 refine phase1l htr H (W0:=W0) (a0:=a0) (K:=fun j=>Ks.getD j (fun _ _=>True)) ?_ ?_ ?_ ?_ _ _ vs _ (by simp) ?_ (fun i _=>hf i) (hrep _) h0 hvs ?_
 ·intro i o ho d hdd
  have:=List.all_eq_true.1 hd o (List.mem_of_getElem? (i:=i) (by simpa using ho))
  rw[hdd] at this
  simpa using this
 ·intro j hj v w w' hx hk
  exact(hmem j hj).st v w w' hx hk
 ·intro i o hi ho vs w hw hin hk
  exact(hv vs hin).1 i o (by rw[List.getElem?_take,if_pos hi];simpa using ho) w hw hk
 ·intro vs w' hw' hk
  have:=(hv vs fun j hj=>⟨w',hk j hj⟩).2 w' hw' hk
  simpa using this
 ·intro i o _ hl
  rw[hf] at hl;cases hl
 ·intro j hj hl
  rw[hf] at hl;cases hl
open XReg in
theorem LReg.step {R:World→World→Prop} {P:Program} {ops:Array Oper} {c:Array Nat} {W0:World} {tail rest:List Oper} {Q:Exit→Act→World→Prop} {o:Oper} {a a':Act} {Ks:List Kind} {F:List (Kind×Value)}
  (h:∀ w,R W0 w→Facts c F.length F w→wpList P ops (fun e b w'=>e=.normal∧b=a'∧R w w') [o] a w) (hv:a.put o.dst (o.dst.elim undef fun d=>a'.tmps.getD d undef)=a')
  (k:wpL P ops c R W0 tail Q Ks rest a' (F++[(fun u _=>u=o.dst.elim undef fun d=>a'.tmps.getD d undef,o.dst.elim undef fun d=>a'.tmps.getD d undef)])) :
  wpL P ops c R W0 tail Q ((fun u _=>u=o.dst.elim undef fun d=>a'.tmps.getD d undef) :: Ks) (o :: rest) a F:=by
 refine⟨fun w hw hF=>?_,?_⟩
 ·unfold GivesL
  exact one_mono (fun b w' ⟨hb,hx⟩=>⟨_,by rw[hb,hv],hx,rfl⟩) (h w hw hF)
 ·rintro v w rfl
  rw[hv]
  exact k
open XReg in
theorem LReg.val {R:World→World→Prop} {P:Program} {ops:Array Oper} {c:Array Nat} {W0:World} {tail rest:List Oper} {Q:Exit→Act→World→Prop} {o:Oper} {a a':Act} {Ks:List Kind} {F:List (Kind×Value)} (v0:Value)
  (h:∀ w,R W0 w→Facts c F.length F w→wpList P ops (fun e b w'=>e=.normal∧b=a'∧R w w') [o] a w) (hv:a.put o.dst v0=a') (k:wpL P ops c R W0 tail Q Ks rest a' (F++[(fun u _=>u=v0,v0)])) :
  wpL P ops c R W0 tail Q ((fun u _=>u=v0) :: Ks) (o :: rest) a F:=by
 refine⟨fun w hw hF=>?_,?_⟩
 ·unfold GivesL
  exact one_mono (fun b w' ⟨hb,hx⟩=>⟨_,by rw[hb,hv],hx,rfl⟩) (h w hw hF)
 ·rintro v w rfl
  rw[hv]
  exact k
open XReg in
theorem LReg.kind {R:World→World→Prop} {P:Program} {ops:Array Oper} {c:Array Nat} {W0:World} {tail rest:List Oper} {Q:Exit→Act→World→Prop} {o:Oper} {a:Act} {K:Kind} {Ks:List Kind} {F:List (Kind×Value)}
  (h:∀ w,R W0 w→Facts c F.length F w→wpList P ops (fun e b w'=>e=.normal∧∃ v,b=a.put o.dst v∧R w w'∧K v w') [o] a w)
  (k:∀ v w,K v w→wpL P ops c R W0 tail Q Ks rest (a.put o.dst v) (F++[(K,v)])) :
  wpL P ops c R W0 tail Q (K :: Ks) (o :: rest) a F:=⟨h,k⟩
open XReg in
theorem LReg.done {R:World→World→Prop} {P:Program} {ops:Array Oper} {c:Array Nat} {W0:World} {tail:List Oper} {Q:Exit→Act→World→Prop} {a:Act} {Ks:List Kind} {F:List (Kind×Value)} (h:∀ w',R W0 w'→(∀ (j:Nat) (p:Kind×Value),F[j]?=some p→p.1 p.2 w')→wpList P ops Q tail a w'):wpL P ops c R W0 tail Q Ks [] a F:=by
 cases Ks<;>exact h
open XReg in
theorem LReg.doneN {R:World→World→Prop} {P:Program} {ops:Array Oper} {c:Array Nat} {W0:World} {Q:Exit→Act→World→Prop} {a:Act} {Ks:List Kind} {F:List (Kind×Value)} (h:∀ w',R W0 w'→(∀ (j:Nat) (p:Kind×Value),F[j]?=some p→p.1 p.2 w')→Q .normal a w'):wpL P ops c R W0 [] Q Ks [] a F :=
 LReg.done h
end Go
set_option maxRecDepth 100000
set_option linter.unusedVariables false
namespace Go
open Go.RowKit
namespace XReg
open Go.Region (binds ready)
variable {P:Program} {ops:Array Oper} {m:Nat}
theorem phase1i {I:(Nat→Bool)→(Nat→Value)→World→Prop} {c:Array Nat} (H:Ok ops c m) {Q:Exit→Act→World→Prop} {a0:Act}
  (hd:∀ (i:Nat) (o:Oper),ops[i]?=some o→∀ d,o.dst=some d→d < a0.tmps.size)
  (each:∀ (i:Nat) (o:Oper),i < m→ops[i]?=some o→∀ (L:Nat→Bool) (vs:Nat→Value) w,I L vs w→L i=false→(∀ j,j < i→anc c i j=true→L j=true)→GivesR P ops o (act ops a0 vs (fun _=>true) i) (fun v w'=>I (fun k=>if k=i then true else L k) (fun k=>if k=i then v else vs k) w') w)
  (fin:∀ (L:Nat→Bool) (vs:Nat→Value) w',(∀ j,j < m→L j=true)→I L vs w'→wpList P ops Q (ops.toList.drop m) (act ops a0 vs (fun _=>true) m) w') :
  ∀ (fuel:Nat) (listed:Array Bool) (vs:Nat→Value) (w:World),listed.size=ops.size→Closed ops listed→(∀ i,m≤i→listed.getD i false=false)→unl listed ops.size=fuel→I (fun j=>listed.getD j false) vs w →
   wpAny P .any ops Q fuel listed (act ops a0 vs (fun j=>listed.getD j false) ops.size) w:=by
 intro fuel
 induction fuel with
 | zero =>
  intro listed vs w hs hc hm hu hI
  have hall:=unl_zero ops.size hu
  have hms:m=ops.size:=by
   have:=H.le
   rcases Nat.lt_or_ge m ops.size with h1 | h1
   ·have:=hall m h1;rw[hm m (Nat.le_refl _)] at this;cases this
   ·omega
  have hl:∀ j,listed.getD j false=true↔j < m:=fun j=>⟨fun h=>(by
   rcases Nat.lt_or_ge j m with h1 | h1
   ·exact h1
   ·rw[hm j h1] at h;cases h),fun h=>hall j (by omega)⟩
  have hact:act ops a0 vs (fun j=>listed.getD j false) ops.size=act ops a0 vs (fun _=>true) m:=by
   rw[← hms]
   have:∀ k,k≤m→act ops a0 vs (fun j=>listed.getD j false) k=act ops a0 vs (fun _=>true) k:=by
    intro k
    induction k with
    | zero=>intro _;rfl
    | succ k ih=>intro hk;rw[act_succ,act_succ,ih (by omega)];simp only[(hl k).2 (by omega),if_true]
   exact this m (Nat.le_refl _)
  rw[hact]
  exact phase2 H 0 m listed _ w (by omega) (Nat.le_refl _) hl hs hc (fin _ vs w (fun j hj=>(hl j).2 hj) hI)
 | succ fuel ih =>
  intro listed vs w hs hc hm hu hI
  by_cases hpre:∀ j,j < m→listed.getD j false=true
  ·have hl:∀ j,listed.getD j false=true↔j < m:=fun j=>⟨fun h=>(by
    rcases Nat.lt_or_ge j m with h1 | h1
    ·exact h1
    ·rw[hm j h1] at h;cases h),hpre j⟩
   have hact:∀ k,act ops a0 vs (fun j=>listed.getD j false) k=act ops a0 vs (fun _=>true) (min k m):=by
    intro k
    induction k with
    | zero=>simp[act]
    | succ k ih =>
     by_cases e:k < m
     ·rw[show min (k+1) m=(min k m)+1 from by omega]
      rw[act_succ,act_succ,ih]
      simp only[(hl k).2 e,if_true]
      rw[show min k m=k from by omega]
     ·rw[show min (k+1) m=min k m from by omega,← ih]
      rw[act_succ,if_neg (by rw[hl];exact e)]
   rw[hact,show min ops.size m=m from by have:=H.le;omega]
   have hfu:m+(fuel+1)=ops.size:=by
    have:=unl_tail hl ops.size H.le
    have:=H.le
    omega
   exact phase2 H (fuel+1) m listed _ w hfu (Nat.le_refl _) hl hs hc (fin _ vs w (fun j hj=>(hl j).2 hj) hI)
  ·have hex:∃ j,j < m∧listed.getD j false=false∧∀ i,i < j→listed.getD i false=true:=by
    have:∀ n,(∀ j,j < n→listed.getD j false=true)∨∃ j,j < n∧listed.getD j false=false∧∀ i,i < j→listed.getD i false=true:=by
     intro n
     induction n with
     | zero=>exact .inl fun j h=>by omega
     | succ n ih =>
      rcases ih with h | ⟨j,h1,h2,h3⟩
      ·cases e:listed.getD n false
       ·exact .inr ⟨n,by omega,e,h⟩
       ·exact .inl fun j hj=>by
         by_cases e':j=n
         ·rw[e'];exact e
         ·exact h j (by omega)
      ·exact .inr ⟨j,by omega,h2,h3⟩
    exact(this m).resolve_left hpre
   obtain⟨j,hjm,hj0,hjl⟩:=hex
   have hle:=H.le
   have hoj:ops[j]?=some ops[j]:=Array.getElem?_eq_getElem (by omega)
   have hjr:j∈ready .any ops listed:=of_ready hs hoj hj0 fun e he hb=>hjl _ (H.back j _ hoj e he hb)
   refine⟨fun e=>(by rw[e] at hjr;cases hjr),fun i hi=>?_⟩
   obtain⟨o,ho,hi0,ha⟩:=ready_of hs hi
   have his:i < ops.size:=(Array.getElem?_eq_some_iff.1 ho).1
   have him:i < m:=by
    rcases Nat.lt_or_ge i m with h1 | h1
    ·exact h1
    ·have:=anc_listed H hc i o j ho (.inr ha) (by omega) (H.last i o j ho h1 (by omega))
     rw[hj0] at this;cases this
   have h1:∀ k,k < i→anc c i k=true→listed.getD k false=true:=fun k hk hak=>anc_listed H hc i o k ho (.inr ha) (by omega) hak
   have h2:∀ k,i < k→anc c k i=true→listed.getD k false=false:=fun k hk hak=>by
    cases e:listed.getD k false
    ·rfl
    ·rcases Nat.lt_or_ge k ops.size with h3 | h3
     ·have:=anc_listed H hc k ops[k] i (Array.getElem?_eq_getElem h3) (.inl e) his hak
      rw[hi0] at this;cases this
     ·simp[Array.getElem?_eq_none (show listed.size≤k by omega)] at e
   have agree:∀ t∈o.looksAt ops,(act ops a0 vs (fun j=>listed.getD j false) ops.size).tmps[t]?=(act ops a0 vs (fun _=>true) i).tmps[t]?:=fun t ht=>by
    have:=act_agree (a0:=a0) (vs:=vs) H ho (L:=fun j=>listed.getD j false) hi0 h1 h2 ht ops.size (Nat.le_refl _)
    rwa [show min ops.size i=i from by omega] at this
   refine gives_opR ho (each i o him ho _ vs w hI hi0 fun q hq hqa=>h1 q hq hqa) (H.nosel i o ho) (eval_of_agree agree) (wanted_of_agree agree) (fun d hdd=>by rw[act_size];exact hd i o ho d hdd) fun v w' hv=>?_
   have hcg:act ops a0 vs (fun j=>listed.getD j false) ops.size=act ops a0 (fun q=>if q=i then v else vs q) (fun j=>listed.getD j false) ops.size :=
    act_congrL ops.size fun q _ hlq=>by
     by_cases e:q=i
     ·subst e;rw[hi0] at hlq;cases hlq
     ·rw[if_neg e]
   rw[hcg]
   have hset:=act_set (a0:=a0) (vs:=fun q=>if q=i then v else vs q) H ho (L:=fun j=>listed.getD j false) hi0 h2 ops.size (Nat.le_refl _) his
   simp only[if_true] at hset
   rw[hset]
   have hfun:(fun k=>if k=i then true else listed.getD k false)=fun k=>(listed.setIfInBounds i true).getD k false:=funext fun k=>(getD_set (by omega) k).symm
   rw[hfun]
   refine ih (listed.setIfInBounds i true) _ w' (by simpa using hs) ?_ ?_ ?_ ?_
   ·intro k o' hk hlk e he hb
    rw[getD_set (by omega)] at hlk ⊢
    split
    ·rfl
    ·by_cases e':k=i
     ·subst e'
      rw[ho] at hk;cases hk
      exact ha e he hb
     ·rw[if_neg e'] at hlk;exact hc k o' hk hlk e he hb
   ·intro k hk
    rw[getD_set (by omega),if_neg (by omega)];exact hm k hk
   ·have:=unl_set (listed:=listed) (i:=i) (by omega) hi0 ops.size his
    omega
   ·rw[← hfun];exact hv
def wpI (P:Program) (ops:Array Oper) (c:Array Nat) (I:(Nat→Bool)→(Nat→Value)→World→Prop) (tail:List Oper) (Q:Exit→Act→World→Prop) (vs:Nat→Value):List Oper→Act→Nat→Prop
 | [],a,n=>∀ L w,(∀ j,j < n→L j=true)→I L vs w→wpList P ops Q tail a w
 | o :: rest,a,n=>(∀ L w,I L vs w→L n=false→(∀ j,j < n→anc c n j=true→L j=true)→wpList P ops (fun e b w'=>e=.normal∧∃ v,b=a.put o.dst v∧I (fun k=>if k=n then true else L k) (fun k=>if k=n then v else vs k) w') [o] a w)∧wpI P ops c I tail Q vs rest (a.put o.dst (vs n)) (n+1)
theorem wpI_each {I:(Nat→Bool)→(Nat→Value)→World→Prop} {c:Array Nat} {a0:Act} {tail:List Oper} {Q:Exit→Act→World→Prop} {vs:Nat→Value}:∀ (l:List Oper) (a:Act) (n:Nat),(∀ i o,l[i]?=some o→ops[n+i]?=some o) →
  wpI P ops c I tail Q vs l a n→a=act ops a0 vs (fun _=>true) n →
  (∀ i o,l[i]?=some o→∀ L w,I L vs w→L (n+i)=false→(∀ j,j < n+i→anc c (n+i) j=true→L j=true)→GivesR P ops o (act ops a0 vs (fun _=>true) (n+i)) (fun v w'=>I (fun k=>if k=n+i then true else L k) (fun k=>if k=n+i then v else vs k) w') w) ∧
   ∀ L w,(∀ j,j < n+l.length→L j=true)→I L vs w→wpList P ops Q tail (act ops a0 vs (fun _=>true) (n+l.length)) w:=by
 intro l
 induction l with
 | nil =>
  intro a n _ h ha
  refine⟨fun i o hi=>(by simp at hi),fun L w hL hI=>?_⟩
  have:=h L w (by simpa using hL) hI
  simpa [← ha] using this
 | cons o rest ih =>
  intro a n hl h ha
  obtain⟨hg,hk⟩:=h
  have ho:ops[n]?=some o:=hl 0 o rfl
  have e2:a.put o.dst (vs n)=act ops a0 vs (fun _=>true) (n+1):=by
   rw[act_succ,← ha];simp[dstOf,ho]
  have next:=ih _ (n+1) (fun i o hi=>by have:=hl (i+1) o (by simpa using hi);rwa [show n+(i+1)=n+1+i from by omega] at this) hk e2
  refine⟨fun i o' hi L w hI hL hj=>?_,fun L w hL hI=>?_⟩
  ·cases i with
   | zero =>
    simp at hi;subst hi
    rw[Nat.add_zero,← ha]
    exact hg L w hI hL hj
   | succ i =>
    rw[show n+(i+1)=n+1+i from by omega] at hL hj ⊢
    exact next.1 i o' (by simpa using hi) L w hI hL hj
  ·rw[List.length_cons,show n+(rest.length+1)=n+1+rest.length from by omega] at hL ⊢
   exact next.2 L w hL hI
end XReg
open XReg in
theorem wp_region_i {P:Program} {id:Nat} {l:List Oper} {Q:Exit→Act→World→Prop} {a0:Act} {W0:World} (m:Nat) (I:(Nat→Bool)→(Nat→Value)→World→Prop) (hm:P.follows .mixedOrders=true) (hc:chk l.toArray m=true)
  (hd:(l.all fun o=>o.dst.all fun d=>decide (d < a0.tmps.size))=true)
  (h:∀ vs,wpI P l.toArray (Region.before l.toArray) I (l.drop m) Q vs (l.take m) a0 0) (h0:∀ vs,I (fun _=>false) vs W0.drew):(Code.region id l.toArray true).wp P Q a0 W0:=by
 have H:=ok_of_chk hc
 have hle:=H.le
 have hml:(l.take m).length=m:=by rw[List.length_take];simp at hle;omega
 have hv:=fun vs=>wpI_each (ops:=l.toArray) (a0:=a0) (l.take m) a0 0 (fun i o hi=>by
  rw[List.getElem?_take] at hi
  split at hi
  ·simpa using hi
  ·cases hi) (h vs) rfl
 simp only[Nat.zero_add,hml] at hv
 refine wp_region_any hm ?_
 have hf:∀ j,(Array.replicate l.toArray.size false).getD j false=false:=fun j=>by simp[Array.getElem?_replicate];split<;>rfl
 have ha:a0=act l.toArray a0 (fun _=>undef) (fun j=>(Array.replicate l.toArray.size false).getD j false) l.toArray.size:=by
  have:∀ k,act l.toArray a0 (fun _=>undef) (fun j=>(Array.replicate l.toArray.size false).getD j false) k=a0:=by
   intro k
   induction k with
   | zero=>rfl
   | succ k ih=>rw[act_succ,if_neg (by rw[hf];simp),ih]
  exact(this _).symm
 have hrep:∀ k,unl (Array.replicate l.toArray.size false) k=k:=by
  intro k
  induction k with
  | zero=>rfl
  | succ k ih=>unfold unl;rw[ih,if_neg (by rw[hf];simp)]
 rw[ha]
 refine phase1i H (a0:=a0) (I:=I) ?_ ?_ ?_ _ _ (fun _=>undef) _ (by simp) ?_ (fun i _=>hf i) (hrep _) ?_
 ·intro i o ho d hdd
  have:=List.all_eq_true.1 hd o (List.mem_of_getElem? (i:=i) (by simpa using ho))
  rw[hdd] at this
  simpa using this
 ·intro i o hi ho L vs w hI hL hj
  exact(hv vs).1 i o (by rw[List.getElem?_take,if_pos hi];simpa using ho) L w hI hL hj
 ·intro L vs w' hL hI
  have:=(hv vs).2 L w' hL hI
  simpa using this
 ·intro i o _ hl
  rw[hf] at hl;cases hl
 ·rw[show (fun j=>(Array.replicate l.toArray.size false).getD j false)=fun _=>false from funext hf]
  exact h0 _
theorem heap_ext {w w':World} {g:Nat} {o:Obj} (h:w.heap[g]?=some o) (hx:Ext w w'):w'.heap[g]?=some o:=by
 obtain⟨X,rfl⟩:=hx
 rw[World.heap_plus w X g (Array.getElem?_eq_some_iff.1 h).1];exact h
end Go
set_option maxRecDepth 100000
set_option linter.unusedVariables false
namespace Go
open Go.RowKit
def updB (L:Nat→Bool) (k:Nat):Nat→Bool:=fun j=>if j=k then true else L j
def updV (vs:Nat→Value) (k:Nat) (v:Value):Nat→Value:=fun j=>if j=k then v else vs j
open XReg in
theorem IReg.step {P:Program} {ops:Array Oper} {c:Array Nat} {I:(Nat→Bool)→(Nat→Value)→World→Prop} {tail rest:List Oper} {Q:Exit→Act→World→Prop} {vs:Nat→Value} {o:Oper} {a:Act} {n:Nat} (m:Nat) (hm:n+1=m)
  (h:∀ L w,I L vs w→L n=false→(∀ j,j < n→anc c n j=true→L j=true)→wpList P ops (fun e b w'=>e=.normal∧∃ v,b=a.put o.dst v∧I (updB L n) (updV vs n v) w') [o] a w)
  (k:wpI P ops c I tail Q vs rest (a.put o.dst (vs n)) m):wpI P ops c I tail Q vs (o :: rest) a n:=by subst hm;exact⟨h,k⟩
open XReg in
theorem IReg.done {P:Program} {ops:Array Oper} {c:Array Nat} {I:(Nat→Bool)→(Nat→Value)→World→Prop} {tail:List Oper} {Q:Exit→Act→World→Prop} {vs:Nat→Value} {a:Act} {n:Nat}
  (h:∀ L w,(∀ j,j < n→L j=true)→I L vs w→wpList P ops Q tail a w):wpI P ops c I tail Q vs [] a n:=h
end Go
