/- A region that draws its order, whose operations hand back the same values in whatever order they come, each leaving the world grown at most: it is walked once, in the order of the text. No statement is proved here. -/
import Derived.Test.YtdoeoojjabnboaaGreatKBA
import Derived.Orders
import Derived.Maps.AppendAt
set_option maxRecDepth 100000
namespace Go
namespace XReg
open Go.Region (binds ready)
def dstOf (ops:Array Oper) (j:Nat):Option Tmp:=(ops[j]?).bind (·.dst)
def anc (c:Array Nat) (i j:Nat):Bool:=(c.getD i 0).testBit j
def noSel (o:Oper):Bool:=match o.op with | .select ..=>false | _=>true
def meets (ops:Array Oper) (o:Oper) (j:Nat):Bool :=
 match dstOf ops j with
 | none=>false
 | some t=>(o.looksAt ops).contains t || o.dst == some t
def chkOne (ops:Array Oper) (c:Array Nat) (m i:Nat) (o:Oper):Bool :=
 noSel o&&o.after.all (fun e=>!binds .any e || decide (e.on < i)) &&
 (List.range ops.size).all fun j =>
  (!anc c i j || o.after.any (fun e=>binds .any e&&decide (e.on < i)&&(e.on == j || anc c e.on j))) &&
  (j == i || ((!meets ops o j || (if j < i then anc c i j else anc c j i))&&(!(decide (m≤i)&&decide (j < i)) || anc c i j)))
def chk (ops:Array Oper) (m:Nat):Bool :=
 decide (m≤ops.size)&&(List.range ops.size).all fun i=>match ops[i]? with
  | some o=>chkOne ops (Region.before ops) m i o
  | none=>false
section
variable {ops:Array Oper} {m:Nat}
structure Ok (ops:Array Oper) (c:Array Nat) (m:Nat):Prop where
 le:m≤ops.size
 nosel:∀ (i:Nat) (o:Oper),ops[i]?=some o→∀ cs b,o.op≠.select cs b
 back:∀ (i:Nat) (o:Oper),ops[i]?=some o→∀ e∈o.after,binds .any e=true→e.on < i
 cert:∀ (i:Nat) (o:Oper) (j:Nat),ops[i]?=some o→j < ops.size→anc c i j=true→∃ e∈o.after,binds .any e=true∧e.on < i∧(e.on=j∨anc c e.on j=true)
 meet:∀ (i:Nat) (o:Oper) (j:Nat),ops[i]?=some o→j < ops.size→j≠i→meets ops o j=true→(j < i→anc c i j=true)∧(i < j→anc c j i=true)
 last:∀ (i:Nat) (o:Oper) (j:Nat),ops[i]?=some o→m≤i→j < i→anc c i j=true
theorem ok_of_chk (h:chk ops m=true):Ok ops (Region.before ops) m:=by
 unfold chk at h
 rw[Bool.and_eq_true,decide_eq_true_eq,List.all_eq_true] at h
 obtain⟨hle,h⟩:=h
 have one:∀ i o,ops[i]?=some o→chkOne ops (Region.before ops) m i o=true:=fun i o ho=>by
  have hi:i < ops.size:=(Array.getElem?_eq_some_iff.1 ho).1
  have:=h i (List.mem_range.2 hi)
  rw[ho] at this
  exact this
 have parts:∀ i o,ops[i]?=some o→noSel o=true∧(∀ e∈o.after,binds .any e=true→e.on < i)∧∀ j,j < ops.size →
   (anc (Region.before ops) i j=true→∃ e∈o.after,binds .any e=true∧e.on < i∧(e.on=j∨anc (Region.before ops) e.on j=true)) ∧
   (j≠i→(meets ops o j=true→(if j < i then anc (Region.before ops) i j else anc (Region.before ops) j i)=true)∧(m≤i→j < i→anc (Region.before ops) i j=true)):=fun i o ho=>by
  have h1:=one i o ho
  unfold chkOne at h1
  rw[Bool.and_eq_true,Bool.and_eq_true,List.all_eq_true] at h1
  obtain⟨⟨h1,h2⟩,h3⟩:=h1
  refine⟨h1,fun e he hb=>?_,fun j hj=>?_⟩
  ·have:=Array.all_eq_true_iff_forall_mem.1 h2 e he
   simpa [hb] using this
  ·have h4:=h3 j (List.mem_range.2 hj)
   rw[Bool.and_eq_true] at h4
   obtain⟨h4,h5⟩:=h4
   refine⟨fun ha=>?_,fun hne=>?_⟩
   ·rw[ha] at h4
    simp only[Bool.not_true,Bool.false_or] at h4
    obtain⟨q,hq,h4⟩:=Array.any_eq_true.1 h4
    simp only[Bool.and_eq_true,decide_eq_true_eq,Bool.or_eq_true,beq_iff_eq] at h4
    obtain⟨⟨h6,h7⟩,h8⟩:=h4
    exact⟨o.after[q],Array.getElem_mem hq,h6,h7,h8⟩
   ·simp only[Bool.or_eq_true,beq_iff_eq,hne,false_or,Bool.and_eq_true] at h5
    obtain⟨h5,h6⟩:=h5
    refine⟨fun hm=>?_,fun a b=>?_⟩
    ·simpa [hm] using h5
    ·simpa [a,b] using h6
 exact⟨hle,fun i o ho cs b he=>by have:=(parts i o ho).1;simp[noSel,he] at this,fun i o ho=>(parts i o ho).2.1,fun i o j ho hj=>((parts i o ho).2.2 j hj).1,
  fun i o j ho hj hne hm=>by
   have:=(((parts i o ho).2.2 j hj).2 hne).1 hm
   refine⟨fun hlt=>?_,fun hlt=>?_⟩
   ·rwa [if_pos hlt] at this
   ·rwa [if_neg (by omega)] at this,
  fun i o j ho hmi hlt=>by
   have hi:i < ops.size:=(Array.getElem?_eq_some_iff.1 ho).1
   exact(((parts i o ho).2.2 j (by omega)).2 (by omega)).2 hmi hlt⟩
def Closed (ops:Array Oper) (listed:Array Bool):Prop :=
 ∀ i o,ops[i]?=some o→listed.getD i false=true→∀ e∈o.after,binds .any e=true→listed.getD e.on false=true
theorem anc_listed {c:Array Nat} (H:Ok ops c m) {listed:Array Bool} (hc:Closed ops listed):∀ (i:Nat) (o:Oper) (j:Nat),ops[i]?=some o →
  (listed.getD i false=true∨∀ e∈o.after,binds .any e=true→listed.getD e.on false=true)→j < ops.size→anc c i j=true→listed.getD j false=true:=by
 intro i
 induction i using Nat.strongRecOn with
 | _ i ih =>
  intro o j ho hl hj ha
  obtain⟨e,he,hb,hlt,h⟩:=H.cert i o j ho hj ha
  have hle:listed.getD e.on false=true:=by
   rcases hl with hl | hl
   ·exact hc i o ho hl e he hb
   ·exact hl e he hb
  rcases h with rfl | h
  ·exact hle
  ·have hi:i < ops.size:=(Array.getElem?_eq_some_iff.1 ho).1
   obtain⟨o',ho'⟩:∃ o',ops[e.on]?=some o':=⟨ops[e.on],Array.getElem?_eq_getElem (by omega)⟩
   exact ih e.on hlt o' j ho' (.inl hle) hj h
variable (ops) (a0:Act) (vs:Nat→Value)
def act (listed:Nat→Bool):Nat→Act
 | 0=>a0
 | k+1=>if listed k then (act listed k).put (dstOf ops k) (vs k) else act listed k
variable {ops a0 vs}
theorem put_size (a:Act) (d:Option Tmp) (v:Value):(a.put d v).tmps.size=a.tmps.size:=by cases d<;>simp[Act.put]
theorem put_get_ne (a:Act) {d:Option Tmp} (v:Value) {t:Tmp} (h:d≠some t):(a.put d v).tmps[t]?=a.tmps[t]?:=by
 cases d with
 | none=>rfl
 | some d=>simp[Act.put,Array.getElem?_setIfInBounds_ne (show d≠t from fun e=>h (e▸rfl))]
theorem put_get_eq {a b:Act} (h:a.tmps.size=b.tmps.size) (v:Value) (t:Tmp):(a.put (some t) v).tmps[t]?=(b.put (some t) v).tmps[t]?:=by
 simp only[Act.put]
 rcases Nat.lt_or_ge t b.tmps.size with ht | ht
 ·have ht':t < a.tmps.size:=h▸ht
  rw[Array.getElem?_setIfInBounds_self,Array.getElem?_setIfInBounds_self,if_pos ht,if_pos ht']
 ·have ht':a.tmps.size≤t:=h▸ht
  rw[Array.getElem?_setIfInBounds_self,Array.getElem?_setIfInBounds_self,if_neg (Nat.not_lt.2 ht),if_neg (Nat.not_lt.2 ht')]
theorem act_succ (L:Nat→Bool) (k:Nat):act ops a0 vs L (k+1)=if L k then (act ops a0 vs L k).put (dstOf ops k) (vs k) else act ops a0 vs L k:=rfl
theorem act_size (L:Nat→Bool):∀ k,(act ops a0 vs L k).tmps.size=a0.tmps.size
 | 0=>rfl
 | k+1=>by unfold act;split<;>simp[put_size,act_size L k]
theorem act_agree {c:Array Nat} (H:Ok ops c m) {i:Nat} {o:Oper} (ho:ops[i]?=some o) {L:Nat→Bool} (hi:L i=false)
  (h1:∀ j,j < i→anc c i j=true→L j=true) (h2:∀ j,i < j→anc c j i=true→L j=false) {t:Tmp} (ht:t∈o.looksAt ops) :
  ∀ k,k≤ops.size→(act ops a0 vs L k).tmps[t]?=(act ops a0 vs (fun _=>true) (min k i)).tmps[t]?:=by
 intro k
 induction k with
 | zero=>intro _;simp[act]
 | succ k ih =>
  intro hk
  have ih':=ih (by omega)
  have hmeet:dstOf ops k=some t→k≠i→(k < i→anc c i k=true)∧(i < k→anc c k i=true):=fun hd hne =>
   H.meet i o k ho (by omega) hne (by unfold meets;rw[hd];simp[ht])
  rw[act_succ L]
  by_cases hki:k < i
  ·rw[show min (k+1) i=(min k i)+1 from by omega]
   have hmin:min k i=k:=by omega
   rw[act_succ (fun _=>true)]
   rw[hmin] at ih' ⊢
   simp only[if_true]
   by_cases hd:dstOf ops k=some t
   ·rw[if_pos (h1 k hki ((hmeet hd (by omega)).1 hki)),hd]
    exact put_get_eq (by rw[act_size,act_size]) _ _
   ·rw[put_get_ne _ _ hd]
    split
    ·rw[put_get_ne _ _ hd];exact ih'
    ·exact ih'
  ·rw[show min (k+1) i=min k i from by omega]
   by_cases hl:L k=true
   ·have hki':k≠i:=fun e=>by rw[e,hi] at hl;cases hl
    have hd:dstOf ops k≠some t:=fun hd=>by
     have:=h2 k (by omega) ((hmeet hd hki').2 (by omega))
     rw[this] at hl;cases hl
    rw[if_pos hl,put_get_ne _ _ hd];exact ih'
   ·rw[if_neg hl];exact ih'
theorem act_set {c:Array Nat} (H:Ok ops c m) {i:Nat} {o:Oper} (ho:ops[i]?=some o) {L:Nat→Bool} (hi:L i=false)
  (h2:∀ j,i < j→anc c j i=true→L j=false):∀ k,k≤ops.size→i < k →
  (act ops a0 vs L k).put o.dst (vs i)=act ops a0 vs (fun j=>if j=i then true else L j) k:=by
 have hlow:∀ k,k≤i→act ops a0 vs L k=act ops a0 vs (fun j=>if j=i then true else L j) k:=by
  intro k
  induction k with
  | zero=>intro _;rfl
  | succ k ih =>
   intro hk
   rw[act_succ,act_succ,ih (by omega),if_neg (show k≠i by omega)]
 have hdi:dstOf ops i=o.dst:=by simp[dstOf,ho]
 intro k
 induction k with
 | zero=>intro _ h;omega
 | succ k ih =>
  intro hk hik
  by_cases he:k=i
  ·subst he
   rw[act_succ,act_succ]
   simp only[hi,Bool.false_eq_true,if_false,if_true]
   rw[← hlow k (Nat.le_refl _),hdi]
  ·have ih':=ih (by omega) (by omega)
   rw[act_succ,act_succ,if_neg he]
   by_cases hl:L k=true
   ·rw[if_pos hl,if_pos hl,← ih']
    refine Act.put_comm _ _ _ fun d hd hd'=>?_
    have hm:meets ops o k=true:=by unfold meets;rw[hd];simp[hd']
    have:=h2 k (by omega) ((H.meet i o k ho (by omega) he hm).2 (by omega))
    rw[this] at hl;cases hl
   ·rw[if_neg hl,if_neg hl];exact ih'
theorem eval_of_agree {a b:Act} {o:Oper} (h:∀ t∈o.looksAt ops,a.tmps[t]?=b.tmps[t]?):∀ x∈o.op.operands,a.eval x=b.eval x:=by
 intro x hx
 cases x with
 | tmp t =>
  have:=h t (List.mem_append_left _ (List.mem_filterMap.2 ⟨.tmp t,by simpa using hx,rfl⟩))
  simp[Act.eval,this]
 | _=>rfl
theorem wanted_of_agree {a b:Act} {o:Oper} (h:∀ t∈o.looksAt ops,a.tmps[t]?=b.tmps[t]?):Region.wanted o (yielded ops a.tmps)=Region.wanted o (yielded ops b.tmps):=by
 unfold Region.wanted
 cases hg:o.guard with
 | none=>rfl
 | some gw =>
  obtain⟨g,want⟩:=gw
  have hy:yielded ops a.tmps g=yielded ops b.tmps g:=by
   unfold yielded
   cases ht:(ops[g]?).bind (·.dst) with
   | none=>rfl
   | some t =>
    have:=h t (by simp[Oper.looksAt,hg,ht])
    simp[this]
  simp only[hy]
end
variable {P:Program} {ops:Array Oper}
def Gives (P:Program) (ops:Array Oper) (W0:World) (o:Oper) (a a':Act):Prop :=
 ∀ w,Ext W0 w→wpList P ops (fun e b w'=>e=.normal∧b=a'∧Ext w w') [o] a w
def wpX (P:Program) (ops:Array Oper) (W0:World) (tail:List Oper) (Q:Exit→Act→World→Prop):List Oper→Act→Prop
 | [],a=>∀ w',Ext W0 w'→wpList P ops Q tail a w'
 | o :: rest,a=>∃ v,Gives P ops W0 o a (a.put o.dst v)∧wpX P ops W0 tail Q rest (a.put o.dst v)
theorem wp_any_q {o:Oper} {a:Act} {w:World} {K:Act→World→Prop} {Q Q':Exit→Act→World→Prop} (hp:∀ c a w,¬ Q (.panic c) a w) (ho:¬ LetsOut Q)
  (h:o.wp P a w K Q):o.wp P a w K Q':=by
 unfold Oper.wp at *
 generalize (execOp a.eval o).run P w=r at *
 cases r with
 | ok n w' =>
  cases n<;>simp only[Oper.upon] at h ⊢
  case enter=>exact Calls.mono h (fun e w'' he=>by
   cases e with
   | returned=>exact he
   | panicked=>exact absurd he (hp _ _ _)
   | outgrown=>exact absurd he ho)
  all_goals exact h
 | halt x w' =>
  cases x<;>simp only[Oper.upon] at h ⊢
  exact absurd h (hp _ _ _)
theorem gives_op {W0 w:World} {o:Oper} {a b:Act} {v:Value} {Q:Exit→Act→World→Prop} {K:Act→World→Prop} {i:Nat} (hi:ops[i]?=some o) (hw:Ext W0 w)
  (h:Gives P ops W0 o a (a.put o.dst v)) (hs:∀ cs b,o.op≠.select cs b) (he:∀ x∈o.op.operands,b.eval x=a.eval x)
  (hwant:Region.wanted o (yielded ops b.tmps)=Region.wanted o (yielded ops a.tmps)) (hdst:∀ d,o.dst=some d→d < a.tmps.size)
  (hK:∀ w',Ext w w'→K (b.put o.dst v) w'):wpOp P ops Q i K b w:=by
 have h1:=h w hw
 unfold wpOp
 simp only[hi]
 unfold wpList at h1
 rw[hwant]
 have same:∀ u,a.put o.dst u=a.put o.dst v→b.put o.dst u=b.put o.dst v:=fun u hu=>by
  cases hd:o.dst with
  | none=>rfl
  | some d =>
   rw[hd] at hu
   have h2:=congrArg (fun x:Act=>x.tmps[d]?) hu
   have hlt:=hdst d hd
   simp[Act.put,hlt] at h2
   rw[h2]
 split
 ·rename_i hwt
  rw[if_pos hwt] at h1
  rcases h1 with h1 | ⟨_,a',w',h1,_⟩
  ·refine .inl (wp_any_q (Q:=fun e c w'=>e=.normal∧c=a.put o.dst v∧Ext w w') (fun c a w hc=>by cases hc.1) (fun ⟨_,_,hc⟩=>by cases hc.1) ?_)
   unfold Oper.wp at *
   rw[execOp_congr o hs he]
   generalize (execOp a.eval o).run P w=r at *
   cases r with
   | ok n w' =>
    cases n<;>simp only[Oper.upon,wpList] at h1 ⊢
    case value u=>rw[same u h1.2.1];exact hK _ h1.2.2
    case skip=>rw[same undef h1.2.1];exact hK _ h1.2.2
    case defer d =>
     have:=congrArg (fun x:Act=>x.defers) h1.2.1
     cases hd:o.dst<;>simp[hd,Act.put] at this
    case enter f args =>
     refine Calls.mono h1 fun e w'' he=>?_
     cases e with
     | returned u=>simp only at he ⊢;rw[same u he.2.1];exact hK _ he.2.2
     | panicked c=>exact absurd he.1 (by simp)
     | outgrown=>obtain⟨_,_,he,_⟩:=he;cases he
    case row row args=>exact Rows.mono h1 fun u w'' he=>by rw[same u he.2.1];exact hK _ he.2.2
   | halt x w' =>
    cases x<;>simp only[Oper.upon] at h1 ⊢
    exact absurd h1.1 (by simp)
  ·cases h1
 ·rename_i hwt
  rw[if_neg hwt] at h1
  simp only[wpList] at h1
  rw[same undef h1.2.1]
  exact hK w h1.2.2
def unl (listed:Array Bool):Nat→Nat
 | 0=>0
 | k+1=>unl listed k+if listed.getD k false then 0 else 1
theorem unl_zero {listed:Array Bool}:∀ k,unl listed k=0→∀ j,j < k→listed.getD j false=true
 | 0,_,j,hj=>by omega
 | k+1,h,j,hj=>by
  unfold unl at h
  by_cases hk:listed.getD k false=true
  ·by_cases e:j=k
   ·rw[e];exact hk
   ·exact unl_zero k (by omega) j (by omega)
  ·rw[if_neg hk] at h;omega
theorem unl_tail {listed:Array Bool} {m:Nat} (h:∀ j,listed.getD j false=true↔j < m):∀ k,m≤k→unl listed k=k-m
 | 0,hk=>by simp[unl]
 | k+1,hk=>by
  unfold unl
  by_cases e:m≤k
  ·rw[unl_tail h k e,if_neg (by rw[h];omega)];omega
  ·have:m=k+1:=by omega
   subst this
   have all:∀ q,q≤k→unl listed q=0:=by
    intro q
    induction q with
    | zero=>intro _;rfl
    | succ q ih=>intro hq;unfold unl;rw[ih (by omega),if_pos ((h q).2 (by omega))]
   rw[all k (Nat.le_refl _),if_pos ((h k).2 (by omega))];omega
theorem getD_set {listed:Array Bool} {i:Nat} (hi:i < listed.size) (j:Nat):(listed.setIfInBounds i true).getD j false=if j=i then true else listed.getD j false:=by
 by_cases e:j=i
 ·subst e;simp[hi]
 ·rw[getD_set_ne false (Ne.symm e),if_neg e]
theorem unl_set {listed:Array Bool} {i:Nat} (hi:i < listed.size) (hf:listed.getD i false=false):∀ k,i < k→unl (listed.setIfInBounds i true) k+1=unl listed k:=by
 have low:∀ k,k≤i→unl (listed.setIfInBounds i true) k=unl listed k:=by
  intro k
  induction k with
  | zero=>intro _;rfl
  | succ k ih=>intro hk;unfold unl;rw[ih (by omega),getD_set hi,if_neg (show k≠i by omega)]
 intro k
 induction k with
 | zero=>intro h;omega
 | succ k ih =>
  intro hk
  unfold unl
  by_cases e:k=i
  ·subst e
   rw[low k (Nat.le_refl _),getD_set hi,if_pos rfl,hf];simp
  ·rw[getD_set hi,if_neg e,← ih (by omega)];omega
theorem ready_of {listed:Array Bool} {i:Nat} (hs:listed.size=ops.size) (h:i∈ready .any ops listed):∃ o,ops[i]?=some o∧listed.getD i false=false∧∀ e∈o.after,binds .any e=true→listed.getD e.on false=true:=by
 obtain⟨h0,o,ho,ha⟩:=mem_ready.1 h
 have hi:i < ops.size:=(Array.getElem?_eq_some_iff.1 ho).1
 refine⟨o,ho,?_,ha⟩
 have:i < listed.size:=by omega
 simpa [this] using h0
theorem of_ready {listed:Array Bool} {i:Nat} {o:Oper} (hs:listed.size=ops.size) (ho:ops[i]?=some o) (h0:listed.getD i false=false) (ha:∀ e∈o.after,binds .any e=true→listed.getD e.on false=true):i∈ready .any ops listed:=by
 refine mem_ready.2 ⟨?_,o,ho,ha⟩
 have hi:i < ops.size:=(Array.getElem?_eq_some_iff.1 ho).1
 have:i < listed.size:=by omega
 simpa [this] using h0
theorem phase2 {c:Array Nat} {m:Nat} (H:Ok ops c m) {Q:Exit→Act→World→Prop}:∀ (r k:Nat) (listed:Array Bool) (a:Act) (w:World),k+r=ops.size→m≤k →
  (∀ j,listed.getD j false=true↔j < k)→listed.size=ops.size→Closed ops listed→wpList P ops Q (ops.toList.drop k) a w→wpAny P .any ops Q r listed a w:=by
 intro r
 induction r with
 | zero =>
  intro k listed a w hk _ hl hs _ h
  refine⟨?_,?_⟩
  ·rw[List.eq_nil_iff_forall_not_mem]
   intro i hi
   obtain⟨o,ho,h0,_⟩:=ready_of hs hi
   have:i < ops.size:=(Array.getElem?_eq_some_iff.1 ho).1
   rw[(hl i).2 (by omega)] at h0
   cases h0
  ·rw[List.drop_eq_nil_of_le (by simp;omega)] at h
   exact h
 | succ r ih =>
  intro k listed a w hk hmk hl hs hc h
  have hklt:k < ops.size:=by omega
  have ho:ops[k]?=some ops[k]:=Array.getElem?_eq_getElem hklt
  have hk0:listed.getD k false=false:=by
   cases e:listed.getD k false
   ·rfl
   ·have:=(hl k).1 e;omega
  have hready:k∈ready .any ops listed:=of_ready hs ho hk0 fun e he hb=>(hl _).2 (H.back k _ ho e he hb)
  refine⟨fun e=>(by rw[e] at hready;cases hready),fun i hi=>?_⟩
  obtain⟨o,hoi,hi0,ha⟩:=ready_of hs hi
  have hik:i=k:=by
   rcases Nat.lt_trichotomy i k with h1 | h1 | h1
   ·rw[(hl i).2 h1] at hi0;cases hi0
   ·exact h1
   ·have:=anc_listed H hc i o k hoi (.inr ha) hklt (H.last i o k hoi (by omega) h1)
    rw[hk0] at this;cases this
  subst hik
  rw[List.drop_eq_getElem_cons (by simpa using hklt)] at h
  unfold wpOp
  simp only[ho]
  have hset:∀ a w,wpList P ops Q (ops.toList.drop (i+1)) a w→wpAny P .any ops Q r (listed.setIfInBounds i true) a w:=fun a w h =>
   ih (i+1) _ a w (by omega) (by omega) (fun j=>by
    rw[getD_set (by omega)]
    by_cases e:j=i
    ·simp[e]
    ·rw[if_neg e,hl];omega) (by simpa using hs) (fun j o hj hlj e he hb=>by
     rw[getD_set (by omega)]
     rw[getD_set (by omega)] at hlj
     split
     ·rfl
     ·by_cases e':j=i
      ·subst e';exact(hl _).2 (H.back j o hj e he hb)
      ·rw[if_neg e'] at hlj;exact hc j o hj hlj e he hb) h
  unfold wpList at h
  have e1:ops.toList[i]=ops[i]:=by simp
  rw[e1] at h
  split
  ·rename_i hw
   rw[if_pos hw] at h
   exact h.imp (Oper.wp_mono hset) id
  ·rename_i hw
   rw[if_neg hw] at h
   exact hset _ _ h
theorem phase1 {c:Array Nat} {m:Nat} (H:Ok ops c m) {Q:Exit→Act→World→Prop} {W0:World} {a0:Act} {vs:Nat→Value}
  (hd:∀ (i:Nat) (o:Oper),ops[i]?=some o→∀ d,o.dst=some d→d < a0.tmps.size)
  (each:∀ (i:Nat) (o:Oper),i < m→ops[i]?=some o→Gives P ops W0 o (act ops a0 vs (fun _=>true) i) ((act ops a0 vs (fun _=>true) i).put o.dst (vs i)))
  (fin:∀ w',Ext W0 w'→wpList P ops Q (ops.toList.drop m) (act ops a0 vs (fun _=>true) m) w') :
  ∀ (fuel:Nat) (listed:Array Bool) (w:World),listed.size=ops.size→Closed ops listed→(∀ i,m≤i→listed.getD i false=false)→unl listed ops.size=fuel→Ext W0 w →
   wpAny P .any ops Q fuel listed (act ops a0 vs (fun j=>listed.getD j false) ops.size) w:=by
 intro fuel
 induction fuel with
 | zero =>
  intro listed w hs hc hm hu hw
  have hall:=unl_zero ops.size hu
  have hms:m=ops.size:=by
   have:=H.le
   rcases Nat.lt_or_ge m ops.size with h1 | h1
   ·have:=hall m h1;rw[hm m (Nat.le_refl _)] at this;cases this
   ·omega
  have hl:∀ j,listed.getD j false=true↔j < m:=fun j=>⟨fun h=>(by
   rcases Nat.lt_or_ge j m with h1 | h1
   ·exact h1
   ·rw[hm j h1] at h;cases h),fun h=>hall j (by omega)⟩
  have hact:act ops a0 vs (fun j=>listed.getD j false) ops.size=act ops a0 vs (fun _=>true) m:=by
   rw[← hms]
   have:∀ k,k≤m→act ops a0 vs (fun j=>listed.getD j false) k=act ops a0 vs (fun _=>true) k:=by
    intro k
    induction k with
    | zero=>intro _;rfl
    | succ k ih=>intro hk;rw[act_succ,act_succ,ih (by omega)];simp only[(hl k).2 (by omega),if_true]
   exact this m (Nat.le_refl _)
  rw[hact]
  exact phase2 H 0 m listed _ w (by omega) (Nat.le_refl _) hl hs hc (fin w hw)
 | succ fuel ih =>
  intro listed w hs hc hm hu hw
  by_cases hpre:∀ j,j < m→listed.getD j false=true
  ·have hl:∀ j,listed.getD j false=true↔j < m:=fun j=>⟨fun h=>(by
    rcases Nat.lt_or_ge j m with h1 | h1
    ·exact h1
    ·rw[hm j h1] at h;cases h),hpre j⟩
   have hact:∀ k,act ops a0 vs (fun j=>listed.getD j false) k=act ops a0 vs (fun _=>true) (min k m):=by
    intro k
    induction k with
    | zero=>simp[act]
    | succ k ih =>
     by_cases e:k < m
     ·rw[show min (k+1) m=(min k m)+1 from by omega]
      rw[act_succ,act_succ,ih]
      simp only[(hl k).2 e,if_true]
      rw[show min k m=k from by omega]
     ·rw[show min (k+1) m=min k m from by omega,← ih]
      rw[act_succ,if_neg (by rw[hl];exact e)]
   rw[hact,show min ops.size m=m from by have:=H.le;omega]
   have hfu:m+(fuel+1)=ops.size:=by
    have:=unl_tail hl ops.size H.le
    have:=H.le
    omega
   exact phase2 H (fuel+1) m listed _ w hfu (Nat.le_refl _) hl hs hc (fin w hw)
  ·
   have hex:∃ j,j < m∧listed.getD j false=false∧∀ i,i < j→listed.getD i false=true:=by
    have:∀ n,(∀ j,j < n→listed.getD j false=true)∨∃ j,j < n∧listed.getD j false=false∧∀ i,i < j→listed.getD i false=true:=by
     intro n
     induction n with
     | zero=>exact .inl fun j h=>by omega
     | succ n ih =>
      rcases ih with h | ⟨j,h1,h2,h3⟩
      ·cases e:listed.getD n false
       ·exact .inr ⟨n,by omega,e,h⟩
       ·exact .inl fun j hj=>by
         by_cases e':j=n
         ·rw[e'];exact e
         ·exact h j (by omega)
      ·exact .inr ⟨j,by omega,h2,h3⟩
    exact(this m).resolve_left hpre
   obtain⟨j,hjm,hj0,hjl⟩:=hex
   have hle:=H.le
   have hoj:ops[j]?=some ops[j]:=Array.getElem?_eq_getElem (by omega)
   have hjr:j∈ready .any ops listed:=of_ready hs hoj hj0 fun e he hb=>hjl _ (H.back j _ hoj e he hb)
   refine⟨fun e=>(by rw[e] at hjr;cases hjr),fun i hi=>?_⟩
   obtain⟨o,ho,hi0,ha⟩:=ready_of hs hi
   have his:i < ops.size:=(Array.getElem?_eq_some_iff.1 ho).1
   have him:i < m:=by
    rcases Nat.lt_or_ge i m with h1 | h1
    ·exact h1
    ·have:=anc_listed H hc i o j ho (.inr ha) (by omega) (H.last i o j ho h1 (by omega))
     rw[hj0] at this;cases this
   have h1:∀ k,k < i→anc c i k=true→listed.getD k false=true:=fun k hk hak=>anc_listed H hc i o k ho (.inr ha) (by omega) hak
   have h2:∀ k,i < k→anc c k i=true→listed.getD k false=false:=fun k hk hak=>by
    cases e:listed.getD k false
    ·rfl
    ·rcases Nat.lt_or_ge k ops.size with h3 | h3
     ·have:=anc_listed H hc k ops[k] i (Array.getElem?_eq_getElem h3) (.inl e) his hak
      rw[hi0] at this;cases this
     ·simp[Array.getElem?_eq_none (show listed.size≤k by omega)] at e
   have agree:∀ t∈o.looksAt ops,(act ops a0 vs (fun j=>listed.getD j false) ops.size).tmps[t]?=(act ops a0 vs (fun _=>true) i).tmps[t]?:=fun t ht=>by
    have:=act_agree (a0:=a0) (vs:=vs) H ho (L:=fun j=>listed.getD j false) hi0 h1 h2 ht ops.size (Nat.le_refl _)
    rwa [show min ops.size i=i from by omega] at this
   refine gives_op ho hw (each i o him ho) (H.nosel i o ho) (eval_of_agree agree) (wanted_of_agree agree) (fun d hdd=>by rw[act_size];exact hd i o ho d hdd) fun w' hw'=>?_
   rw[act_set (a0:=a0) (vs:=vs) H ho (L:=fun j=>listed.getD j false) hi0 h2 ops.size (Nat.le_refl _) his]
   have hfun:(fun k=>if k=i then true else listed.getD k false)=fun k=>(listed.setIfInBounds i true).getD k false:=funext fun k=>(getD_set (by omega) k).symm
   rw[hfun]
   refine ih (listed.setIfInBounds i true) w' (by simpa using hs) ?_ ?_ ?_ (hw.trans hw')
   ·intro k o' hk hlk e he hb
    rw[getD_set (by omega)] at hlk ⊢
    split
    ·rfl
    ·by_cases e':k=i
     ·subst e'
      rw[ho] at hk;cases hk
      exact ha e he hb
     ·rw[if_neg e'] at hlk;exact hc k o' hk hlk e he hb
   ·intro k hk
    rw[getD_set (by omega),if_neg (by omega)];exact hm k hk
   ·have:=unl_set (listed:=listed) (i:=i) (by omega) hi0 ops.size his
    omega
theorem act_congr {a0:Act} {vs vs':Nat→Value} {L:Nat→Bool}:∀ k,(∀ j,j < k→vs j=vs' j)→act ops a0 vs L k=act ops a0 vs' L k
 | 0,_=>rfl
 | k+1,h=>by rw[act_succ,act_succ,act_congr k (fun j hj=>h j (by omega)),h k (by omega)]
theorem wpX_vals {a0:Act} {W0:World} {tail:List Oper} {Q:Exit→Act→World→Prop}:∀ (l:List Oper) (a:Act) (base:Nat) (vs0:Nat→Value),(∀ i o,l[i]?=some o→ops[base+i]?=some o) →
  wpX P ops W0 tail Q l a→a=act ops a0 vs0 (fun _=>true) base →
  ∃ vs:Nat→Value,(∀ j,j < base→vs j=vs0 j)∧(∀ i o,l[i]?=some o→Gives P ops W0 o (act ops a0 vs (fun _=>true) (base+i)) ((act ops a0 vs (fun _=>true) (base+i)).put o.dst (vs (base+i)))) ∧
   ∀ w',Ext W0 w'→wpList P ops Q tail (act ops a0 vs (fun _=>true) (base+l.length)) w':=by
 intro l
 induction l with
 | nil =>
  intro a base vs0 _ h ha
  exact⟨vs0,fun _ _=>rfl,fun i o hi=>(by simp at hi),fun w' hw'=>(by
   have:=(show ∀ w',Ext W0 w'→wpList P ops Q tail a w' from h) w' hw'
   simpa [← ha] using this)⟩
 | cons o rest ih =>
  intro a base vs0 hl h ha
  obtain⟨v,hg,hk⟩:=h
  have ho:ops[base]?=some o:=hl 0 o rfl
  have e1:act ops a0 (fun j=>if j=base then v else vs0 j) (fun _=>true) base=a:=by
   rw[ha];exact act_congr base fun j hj=>if_neg (by omega)
  have e2:a.put o.dst v=act ops a0 (fun j=>if j=base then v else vs0 j) (fun _=>true) (base+1):=by
   rw[act_succ,e1];simp[dstOf,ho]
  obtain⟨vs,h1,h2,h3⟩:=ih _ (base+1) _ (fun i o hi=>by have:=hl (i+1) o (by simpa using hi);rwa [show base+(i+1)=base+1+i from by omega] at this) hk e2
  have e3:act ops a0 vs (fun _=>true) base=a:=by
   rw[← e1];exact act_congr base fun j hj=>h1 j (by omega)
  refine⟨vs,fun j hj=>by rw[h1 j (by omega),if_neg (by omega)],fun i o' hi=>?_,?_⟩
  ·cases i with
   | zero =>
    simp at hi;subst hi
    rw[Nat.add_zero,e3,h1 base (by omega),if_pos rfl];exact hg
   | succ i =>
    have:=h2 i o' (by simpa using hi)
    rwa [show base+1+i=base+(i+1) from by omega] at this
  ·rw[List.length_cons,show base+(rest.length+1)=base+1+rest.length from by omega];exact h3
end XReg
open XReg in
theorem wp_region_x {P:Program} {id:Nat} {l:List Oper} {Q:Exit→Act→World→Prop} {a0:Act} {W0:World} (m:Nat) (hm:P.follows .mixedOrders=true) (hc:chk l.toArray m=true)
  (hd:(l.all fun o=>o.dst.all fun d=>decide (d < a0.tmps.size))=true)
  (h:wpX P l.toArray W0 (l.drop m) Q (l.take m) a0):(Code.region id l.toArray true).wp P Q a0 W0:=by
 have H:=ok_of_chk hc
 obtain⟨vs,_,h2,h3⟩:=wpX_vals (ops:=l.toArray) (a0:=a0) (l.take m) a0 0 (fun _=>undef) (fun i o hi=>by
  rw[List.getElem?_take] at hi
  split at hi
  ·simpa using hi
  ·cases hi) h rfl
 have hle:=H.le
 have hml:(l.take m).length=m:=by rw[List.length_take];simp at hle;omega
 rw[hml,Nat.zero_add] at h3
 refine wp_region_any hm ?_
 have ha:a0=act l.toArray a0 vs (fun j=>(Array.replicate l.toArray.size false).getD j false) l.toArray.size:=by
  have:∀ k,act l.toArray a0 vs (fun j=>(Array.replicate l.toArray.size false).getD j false) k=a0:=by
   intro k
   induction k with
   | zero=>rfl
   | succ k ih =>
    rw[act_succ]
    have:(Array.replicate l.toArray.size false).getD k false=false:=by
     simp[Array.getElem?_replicate];split<;>rfl
    rw[if_neg (by rw[this];simp),ih]
  exact(this _).symm
 have hf:∀ j,(Array.replicate l.toArray.size false).getD j false=false:=fun j=>by simp[Array.getElem?_replicate];split<;>rfl
 have hrep:∀ k,unl (Array.replicate l.toArray.size false) k=k:=by
  intro k
  induction k with
  | zero=>rfl
  | succ k ih=>unfold unl;rw[ih,if_neg (by rw[hf];simp)]
 rw[ha]
 refine phase1 H (W0:=W0) (a0:=a0) (vs:=vs) ?_ ?_ ?_ _ _ _ (by simp) ?_ (fun i _=>hf i) (hrep _) ((Ext.refl W0).drew)
 ·intro i o ho d hdd
  have:=List.all_eq_true.1 hd o (List.mem_of_getElem? (i:=i) (by simpa using ho))
  rw[hdd] at this
  simpa using this
 ·intro i o hi ho
  have:=h2 i o (by rw[List.getElem?_take,if_pos hi];simpa using ho)
  rwa [Nat.zero_add] at this
 ·intro w' hw'
  simpa using h3 w' hw'
 ·intro i o _ hl
  rw[hf] at hl;cases hl
open XReg in
theorem XReg.step {P:Program} {ops:Array Oper} {W0:World} {tail rest:List Oper} {Q:Exit→Act→World→Prop} {o:Oper} {a a':Act}
  (h:∀ w,Ext W0 w→wpList P ops (fun e b w'=>e=.normal∧b=a'∧Ext w w') [o] a w) (hv:a.put o.dst (o.dst.elim undef fun d=>a'.tmps.getD d undef)=a') (k:wpX P ops W0 tail Q rest a'):wpX P ops W0 tail Q (o :: rest) a :=
 ⟨_,by rw[hv];exact h,by rw[hv];exact k⟩
open XReg in
theorem XReg.doneN {P:Program} {ops:Array Oper} {W0:World} {Q:Exit→Act→World→Prop} {a:Act} (h:∀ X,Q .normal a (W0.plus X)):wpX P ops W0 [] Q [] a:=by
 rintro w' ⟨X,rfl⟩
 exact h X
open XReg in
theorem XReg.done1 {P:Program} {ops:Array Oper} {W0:World} {Q:Exit→Act→World→Prop} {a:Act} {o:Oper} (h:∀ X,wpList P ops Q [o] a (W0.plus X)):wpX P ops W0 [o] Q [] a:=by
 rintro w' ⟨X,rfl⟩
 exact h X
end Go
set_option maxRecDepth 100000
set_option linter.unusedVariables false
namespace Go
namespace XReg
open Go.Region (binds ready)
variable {P:Program} {ops:Array Oper} {m:Nat}
abbrev Kind:=Value→World→Prop
def GivesY (P:Program) (ops:Array Oper) (o:Oper) (a:Act) (K:Kind) (w:World):Prop :=
 wpList P ops (fun e b w'=>e=.normal∧∃ v,b=a.put o.dst v∧Ext w w'∧K v w') [o] a w
def Facts (c:Array Nat) (i:Nat) (done:List (Kind×Value)) (w:World):Prop:=∀ (j:Nat) (p:Kind×Value),done[j]?=some p→anc c i j=true→p.1 p.2 w
def wpY (P:Program) (ops:Array Oper) (c:Array Nat) (W0:World) (tail:List Oper) (Q:Exit→Act→World→Prop):List Kind→List Oper→Act→List (Kind×Value)→Prop
 | _,[],a,done=>∀ w',Ext W0 w'→(∀ (j:Nat) (p:Kind×Value),done[j]?=some p→p.1 p.2 w')→wpList P ops Q tail a w'
 | [],_ :: _,_,_=>False
 | K :: Ks,o :: rest,a,done=>(∀ w,Ext W0 w→Facts c done.length done w→GivesY P ops o a K w)∧∀ v w,K v w→wpY P ops c W0 tail Q Ks rest (a.put o.dst v) (done++[(K,v)])
theorem gives_opY {w:World} {o:Oper} {a b:Act} {V:Kind} {Q:Exit→Act→World→Prop} {K:Act→World→Prop} {i:Nat} (hi:ops[i]?=some o)
  (h1:GivesY P ops o a V w) (hs:∀ cs b,o.op≠.select cs b) (he:∀ x∈o.op.operands,b.eval x=a.eval x)
  (hwant:Region.wanted o (yielded ops b.tmps)=Region.wanted o (yielded ops a.tmps)) (hdst:∀ d,o.dst=some d→d < a.tmps.size)
  (hK:∀ v w',Ext w w'→V v w'→K (b.put o.dst v) w'):wpOp P ops Q i K b w:=by
 unfold wpOp
 simp only[hi]
 unfold GivesY wpList at h1
 rw[hwant]
 have same:∀ u v,a.put o.dst u=a.put o.dst v→b.put o.dst u=b.put o.dst v:=fun u v hu=>by
  cases hd:o.dst with
  | none=>rfl
  | some d =>
   rw[hd] at hu
   have h2:=congrArg (fun x:Act=>x.tmps[d]?) hu
   have hlt:=hdst d hd
   simp[Act.put,hlt] at h2
   rw[h2]
 split
 ·rename_i hwt
  rw[if_pos hwt] at h1
  rcases h1 with h1 | ⟨_,a',w',h1,_⟩
  ·refine .inl (wp_any_q (Q:=fun e c w'=>e=.normal∧∃ v,c=a.put o.dst v∧Ext w w'∧V v w') (fun c a w hc=>by cases hc.1) (fun ⟨_,_,hc⟩=>by cases hc.1) ?_)
   unfold Oper.wp at *
   rw[execOp_congr o hs he]
   generalize (execOp a.eval o).run P w=r at *
   cases r with
   | ok n w' =>
    cases n<;>simp only[Oper.upon,wpList] at h1 ⊢
    case value u=>obtain⟨_,v,h1,h2,h3⟩:=h1;rw[same u v h1];exact hK _ _ h2 h3
    case skip=>obtain⟨_,v,h1,h2,h3⟩:=h1;rw[same undef v h1];exact hK _ _ h2 h3
    case defer d =>
     obtain⟨_,v,h1,h2,h3⟩:=h1
     have:=congrArg (fun x:Act=>x.defers) h1
     cases hd:o.dst<;>simp[hd,Act.put] at this
    case enter f args =>
     refine Calls.mono h1 fun e w'' he=>?_
     cases e with
     | returned u=>simp only at he ⊢;obtain⟨_,v,h1,h2,h3⟩:=he;rw[same u v h1];exact hK _ _ h2 h3
     | panicked c=>exact absurd he.1 (by simp)
     | outgrown=>obtain⟨_,_,he,_⟩:=he;cases he
    case row row args=>exact Rows.mono h1 fun u w'' he=>by obtain⟨_,v,h1,h2,h3⟩:=he;rw[same u v h1];exact hK _ _ h2 h3
   | halt x w' =>
    cases x<;>simp only[Oper.upon] at h1 ⊢
    exact absurd h1.1 (by simp)
  ·cases h1
 ·rename_i hwt
  rw[if_neg hwt] at h1
  simp only[wpList] at h1
  obtain⟨_,v,h1,h2,h3⟩:=h1
  rw[same undef v h1]
  exact hK _ _ h2 h3
theorem act_congrL {a0:Act} {vs vs':Nat→Value} {L:Nat→Bool}:∀ k,(∀ j,j < k→L j=true→vs j=vs' j)→act ops a0 vs L k=act ops a0 vs' L k
 | 0,_=>rfl
 | k+1,h=>by
  rw[act_succ,act_succ,act_congrL k (fun j hj=>h j (by omega))]
  split
  ·rename_i hl;rw[h k (by omega) hl]
  ·rfl
theorem phase1y {c:Array Nat} (H:Ok ops c m) {Q:Exit→Act→World→Prop} {W0:World} {a0:Act} {K:Nat→Kind}
  (hd:∀ (i:Nat) (o:Oper),ops[i]?=some o→∀ d,o.dst=some d→d < a0.tmps.size)
  (hst:∀ j,j < m→∀ v w w',Ext w w'→K j v w→K j v w')
  (each:∀ (i:Nat) (o:Oper),i < m→ops[i]?=some o→∀ (vs:Nat→Value) w,Ext W0 w→(∀ j,j < m→∃ w,K j (vs j) w)→(∀ j,j < i→anc c i j=true→K j (vs j) w)→GivesY P ops o (act ops a0 vs (fun _=>true) i) (K i) w)
  (fin:∀ (vs:Nat→Value) w',Ext W0 w'→(∀ j,j < m→K j (vs j) w')→wpList P ops Q (ops.toList.drop m) (act ops a0 vs (fun _=>true) m) w') :
  ∀ (fuel:Nat) (listed:Array Bool) (vs:Nat→Value) (w:World),listed.size=ops.size→Closed ops listed→(∀ i,m≤i→listed.getD i false=false)→unl listed ops.size=fuel→Ext W0 w→(∀ j,j < m→∃ w,K j (vs j) w)→(∀ j,j < m→listed.getD j false=true→K j (vs j) w) →
   wpAny P .any ops Q fuel listed (act ops a0 vs (fun j=>listed.getD j false) ops.size) w:=by
 intro fuel
 induction fuel with
 | zero =>
  intro listed vs w hs hc hm hu hw hin hk
  have hall:=unl_zero ops.size hu
  have hms:m=ops.size:=by
   have:=H.le
   rcases Nat.lt_or_ge m ops.size with h1 | h1
   ·have:=hall m h1;rw[hm m (Nat.le_refl _)] at this;cases this
   ·omega
  have hl:∀ j,listed.getD j false=true↔j < m:=fun j=>⟨fun h=>(by
   rcases Nat.lt_or_ge j m with h1 | h1
   ·exact h1
   ·rw[hm j h1] at h;cases h),fun h=>hall j (by omega)⟩
  have hact:act ops a0 vs (fun j=>listed.getD j false) ops.size=act ops a0 vs (fun _=>true) m:=by
   rw[← hms]
   have:∀ k,k≤m→act ops a0 vs (fun j=>listed.getD j false) k=act ops a0 vs (fun _=>true) k:=by
    intro k
    induction k with
    | zero=>intro _;rfl
    | succ k ih=>intro hk;rw[act_succ,act_succ,ih (by omega)];simp only[(hl k).2 (by omega),if_true]
   exact this m (Nat.le_refl _)
  rw[hact]
  exact phase2 H 0 m listed _ w (by omega) (Nat.le_refl _) hl hs hc (fin vs w hw fun j hj=>hk j hj ((hl j).2 hj))
 | succ fuel ih =>
  intro listed vs w hs hc hm hu hw hin hk
  by_cases hpre:∀ j,j < m→listed.getD j false=true
  ·have hl:∀ j,listed.getD j false=true↔j < m:=fun j=>⟨fun h=>(by
    rcases Nat.lt_or_ge j m with h1 | h1
    ·exact h1
    ·rw[hm j h1] at h;cases h),hpre j⟩
   have hact:∀ k,act ops a0 vs (fun j=>listed.getD j false) k=act ops a0 vs (fun _=>true) (min k m):=by
    intro k
    induction k with
    | zero=>simp[act]
    | succ k ih =>
     by_cases e:k < m
     ·rw[show min (k+1) m=(min k m)+1 from by omega]
      rw[act_succ,act_succ,ih]
      simp only[(hl k).2 e,if_true]
      rw[show min k m=k from by omega]
     ·rw[show min (k+1) m=min k m from by omega,← ih]
      rw[act_succ,if_neg (by rw[hl];exact e)]
   rw[hact,show min ops.size m=m from by have:=H.le;omega]
   have hfu:m+(fuel+1)=ops.size:=by
    have:=unl_tail hl ops.size H.le
    have:=H.le
    omega
   exact phase2 H (fuel+1) m listed _ w hfu (Nat.le_refl _) hl hs hc (fin vs w hw fun j hj=>hk j hj ((hl j).2 hj))
  ·have hex:∃ j,j < m∧listed.getD j false=false∧∀ i,i < j→listed.getD i false=true:=by
    have:∀ n,(∀ j,j < n→listed.getD j false=true)∨∃ j,j < n∧listed.getD j false=false∧∀ i,i < j→listed.getD i false=true:=by
     intro n
     induction n with
     | zero=>exact .inl fun j h=>by omega
     | succ n ih =>
      rcases ih with h | ⟨j,h1,h2,h3⟩
      ·cases e:listed.getD n false
       ·exact .inr ⟨n,by omega,e,h⟩
       ·exact .inl fun j hj=>by
         by_cases e':j=n
         ·rw[e'];exact e
         ·exact h j (by omega)
      ·exact .inr ⟨j,by omega,h2,h3⟩
    exact(this m).resolve_left hpre
   obtain⟨j,hjm,hj0,hjl⟩:=hex
   have hle:=H.le
   have hoj:ops[j]?=some ops[j]:=Array.getElem?_eq_getElem (by omega)
   have hjr:j∈ready .any ops listed:=of_ready hs hoj hj0 fun e he hb=>hjl _ (H.back j _ hoj e he hb)
   refine⟨fun e=>(by rw[e] at hjr;cases hjr),fun i hi=>?_⟩
   obtain⟨o,ho,hi0,ha⟩:=ready_of hs hi
   have his:i < ops.size:=(Array.getElem?_eq_some_iff.1 ho).1
   have him:i < m:=by
    rcases Nat.lt_or_ge i m with h1 | h1
    ·exact h1
    ·have:=anc_listed H hc i o j ho (.inr ha) (by omega) (H.last i o j ho h1 (by omega))
     rw[hj0] at this;cases this
   have h1:∀ k,k < i→anc c i k=true→listed.getD k false=true:=fun k hk hak=>anc_listed H hc i o k ho (.inr ha) (by omega) hak
   have h2:∀ k,i < k→anc c k i=true→listed.getD k false=false:=fun k hk hak=>by
    cases e:listed.getD k false
    ·rfl
    ·rcases Nat.lt_or_ge k ops.size with h3 | h3
     ·have:=anc_listed H hc k ops[k] i (Array.getElem?_eq_getElem h3) (.inl e) his hak
      rw[hi0] at this;cases this
     ·simp[Array.getElem?_eq_none (show listed.size≤k by omega)] at e
   have agree:∀ t∈o.looksAt ops,(act ops a0 vs (fun j=>listed.getD j false) ops.size).tmps[t]?=(act ops a0 vs (fun _=>true) i).tmps[t]?:=fun t ht=>by
    have:=act_agree (a0:=a0) (vs:=vs) H ho (L:=fun j=>listed.getD j false) hi0 h1 h2 ht ops.size (Nat.le_refl _)
    rwa [show min ops.size i=i from by omega] at this
   refine gives_opY ho (each i o him ho vs w hw hin fun q hq hqa=>hk q (by omega) (h1 q hq hqa)) (H.nosel i o ho) (eval_of_agree agree) (wanted_of_agree agree) (fun d hdd=>by rw[act_size];exact hd i o ho d hdd) fun v w' hw' hv=>?_
   have hcg:act ops a0 vs (fun j=>listed.getD j false) ops.size=act ops a0 (fun q=>if q=i then v else vs q) (fun j=>listed.getD j false) ops.size :=
    act_congrL ops.size fun q _ hlq=>by
     by_cases e:q=i
     ·subst e;rw[hi0] at hlq;cases hlq
     ·rw[if_neg e]
   rw[hcg]
   have hset:=act_set (a0:=a0) (vs:=fun q=>if q=i then v else vs q) H ho (L:=fun j=>listed.getD j false) hi0 h2 ops.size (Nat.le_refl _) his
   simp only[if_true] at hset
   rw[hset]
   have hfun:(fun k=>if k=i then true else listed.getD k false)=fun k=>(listed.setIfInBounds i true).getD k false:=funext fun k=>(getD_set (by omega) k).symm
   rw[hfun]
   refine ih (listed.setIfInBounds i true) _ w' (by simpa using hs) ?_ ?_ ?_ (hw.trans hw') ?_ ?_
   ·intro k o' hk hlk e he hb
    rw[getD_set (by omega)] at hlk ⊢
    split
    ·rfl
    ·by_cases e':k=i
     ·subst e'
      rw[ho] at hk;cases hk
      exact ha e he hb
     ·rw[if_neg e'] at hlk;exact hc k o' hk hlk e he hb
   ·intro k hk
    rw[getD_set (by omega),if_neg (by omega)];exact hm k hk
   ·have:=unl_set (listed:=listed) (i:=i) (by omega) hi0 ops.size his
    omega
   ·intro q hq
    by_cases e:q=i
    ·subst e;exact⟨w',by simpa using hv⟩
    ·simp only[if_neg e];exact hin q hq
   ·intro q hq hlq
    by_cases e:q=i
    ·subst e;simpa using hv
    ·rw[getD_set (by omega),if_neg e] at hlq
     simp only[if_neg e];exact hst q hq _ _ _ hw' (hk q hq hlq)
theorem wpY_vals {c:Array Nat} {a0:Act} {W0:World} {tail:List Oper} {Q:Exit→Act→World→Prop} (vs:Nat→Value) (K:Nat→Kind):∀ (l:List Oper) (Ks:List Kind) (a:Act) (done:List (Kind×Value)),(∀ i o,l[i]?=some o→ops[done.length+i]?=some o) →
  (∀ j,j < done.length→done[j]?=some (K j,vs j))→(∀ j k,Ks[j]?=some k→k=K (done.length+j))→(∀ j,j < l.length→∃ w,K (done.length+j) (vs (done.length+j)) w) →
  wpY P ops c W0 tail Q Ks l a done→a=act ops a0 vs (fun _=>true) done.length →
  (∀ i o,l[i]?=some o→∀ w,Ext W0 w→(∀ j,j < done.length+i→anc c (done.length+i) j=true→K j (vs j) w)→GivesY P ops o (act ops a0 vs (fun _=>true) (done.length+i)) (K (done.length+i)) w) ∧
   ∀ w',Ext W0 w'→(∀ j,j < done.length+l.length→K j (vs j) w')→wpList P ops Q tail (act ops a0 vs (fun _=>true) (done.length+l.length)) w':=by
 intro l
 induction l with
 | nil =>
  intro Ks a done _ hdone _ _ h ha
  refine⟨fun i o hi=>(by simp at hi),fun w' hw' hj=>?_⟩
  have h':∀ w',Ext W0 w'→(∀ (j:Nat) (p:Kind×Value),done[j]?=some p→p.1 p.2 w')→wpList P ops Q tail a w':=by cases Ks<;>exact h
  have:=h' w' hw' fun j p hp=>by
   have hjl:j < done.length:=(List.getElem?_eq_some_iff.1 hp).1
   rw[hdone j hjl] at hp
   cases hp
   exact hj j (by simpa using hjl)
  simpa [← ha] using this
 | cons o rest ih =>
  intro Ks a done hl hdone hKs hin h ha
  cases Ks with
  | nil=>exact absurd h (by simp[wpY])
  | cons K0 Ks =>
   obtain⟨hg,hk⟩:=h
   have ho:ops[done.length]?=some o:=hl 0 o rfl
   obtain rfl:K0=K done.length:=hKs 0 K0 rfl
   have e2:a.put o.dst (vs done.length)=act ops a0 vs (fun _=>true) (done.length+1):=by
    rw[act_succ,← ha];simp[dstOf,ho]
   have hlen:(done++[(K done.length,vs done.length)]).length=done.length+1:=by simp
   obtain⟨w1,hw1⟩:=hin 0 (by simp)
   have next:=ih Ks _ (done++[(K done.length,vs done.length)])
    (fun i o hi=>by have:=hl (i+1) o (by simpa using hi);rwa [show done.length+(i+1)=done.length+1+i from by omega,← hlen] at this)
    (fun j hj=>by
     rw[hlen] at hj
     by_cases e:j < done.length
     ·rw[List.getElem?_append_left e];exact hdone j e
     ·obtain rfl:j=done.length:=by omega
      simp)
    (fun j k hj=>by rw[hlen,show done.length+1+j=done.length+(j+1) from by omega];exact hKs (j+1) k (by simpa using hj))
    (fun j hj=>by rw[hlen,show done.length+1+j=done.length+(j+1) from by omega];exact hin (j+1) (by simpa using hj))
    (hk (vs done.length) w1 (by simpa using hw1)) (by rw[hlen];exact e2)
   rw[hlen] at next
   refine⟨fun i o' hi w hw hj=>?_,fun w' hw' hj=>?_⟩
   ·cases i with
    | zero =>
     simp at hi;subst hi
     rw[Nat.add_zero,← ha]
     refine hg w hw fun j p hp hpa=>?_
     have hjl:j < done.length:=(List.getElem?_eq_some_iff.1 hp).1
     rw[hdone j hjl] at hp
     cases hp
     exact hj j (by simpa using hjl) (by simpa using hpa)
    | succ i =>
     have:=next.1 i o' (by simpa using hi) w hw fun j hji hja=>by
      rw[show done.length+1+i=done.length+(i+1) from by omega] at hji hja
      exact hj j hji hja
     rwa [show done.length+1+i=done.length+(i+1) from by omega] at this
   ·rw[List.length_cons,show done.length+(rest.length+1)=done.length+1+rest.length from by omega]
    exact next.2 w' hw' fun j hjl=>hj j (by rw[List.length_cons];omega)
structure GoodK (K:Kind):Prop where
 st:∀ v w w',Ext w w'→K v w→K v w'
 inh:∃ v w,K v w
theorem GoodK.same (v:Value) (w:World):GoodK (fun u _=>u=v):=⟨fun _ _ _ _ h=>h,v,w,rfl⟩
def AllGood:List Kind→Prop
 | []=>True
 | K :: Ks=>GoodK K∧AllGood Ks
theorem AllGood.mem:∀ {Ks:List Kind},AllGood Ks→∀ K∈Ks,GoodK K
 | [],_,K,h=>by cases h
 | K' :: Ks,⟨h1,h2⟩,K,h=>by
  rcases List.mem_cons.1 h with rfl | h
  ·exact h1
  ·exact h2.mem K h
end XReg
open XReg in
theorem wp_region_y {P:Program} {id:Nat} {l:List Oper} {Q:Exit→Act→World→Prop} {a0:Act} {W0:World} (m:Nat) (Ks:List Kind) (hm:P.follows .mixedOrders=true) (hc:chk l.toArray m=true)
  (hd:(l.all fun o=>o.dst.all fun d=>decide (d < a0.tmps.size))=true) (hl:Ks.length=m)
  (h:wpY P l.toArray (Region.before l.toArray) W0 (l.drop m) Q Ks (l.take m) a0 []) (hg:AllGood Ks):(Code.region id l.toArray true).wp P Q a0 W0:=by
 have H:=ok_of_chk hc
 have hmem:∀ j,j < m→GoodK (Ks.getD j (fun _ _=>True)):=fun j hj=>by
  rw[List.getD_eq_getElem?_getD,List.getElem?_eq_getElem (by omega)]
  exact hg.mem _ (List.getElem_mem _)
 have hle:=H.le
 have hml:(l.take m).length=m:=by rw[List.length_take];simp at hle;omega
 have hv:=fun vs hin=>wpY_vals (ops:=l.toArray) (a0:=a0) vs (fun j=>Ks.getD j (fun _ _=>True)) (l.take m) Ks a0 [] (fun i o hi=>by
  rw[List.getElem?_take] at hi
  split at hi
  ·simpa using hi
  ·cases hi) (fun j hj=>absurd hj (Nat.not_lt_zero _)) (fun j k hk=>by simp[List.getD_eq_getElem?_getD,hk]) hin h rfl
 simp only[List.length_nil,Nat.zero_add,hml] at hv
 obtain⟨vs,hvs⟩:∃ vs:Nat→Value,∀ j,j < m→∃ w,(Ks.getD j (fun _ _=>True)) (vs j) w :=
  ⟨fun j=>Classical.epsilon fun v=>∃ w,(Ks.getD j (fun _ _=>True)) v w,fun j hj=>Classical.epsilon_spec (p:=fun v=>∃ w,(Ks.getD j (fun _ _=>True)) v w) (hmem j hj).inh⟩
 refine wp_region_any hm ?_
 have ha:a0=act l.toArray a0 vs (fun j=>(Array.replicate l.toArray.size false).getD j false) l.toArray.size:=by
  have:∀ k,act l.toArray a0 vs (fun j=>(Array.replicate l.toArray.size false).getD j false) k=a0:=by
   intro k
   induction k with
   | zero=>rfl
   | succ k ih =>
    rw[act_succ]
    have:(Array.replicate l.toArray.size false).getD k false=false:=by
     simp[Array.getElem?_replicate];split<;>rfl
    rw[if_neg (by rw[this];simp),ih]
  exact(this _).symm
 have hf:∀ j,(Array.replicate l.toArray.size false).getD j false=false:=fun j=>by simp[Array.getElem?_replicate];split<;>rfl
 have hrep:∀ k,unl (Array.replicate l.toArray.size false) k=k:=by
  intro k
  induction k with
  | zero=>rfl
  | succ k ih=>unfold unl;rw[ih,if_neg (by rw[hf];simp)]
 rw[ha]
 refine phase1y H (W0:=W0) (a0:=a0) (K:=fun j=>Ks.getD j (fun _ _=>True)) ?_ ?_ ?_ ?_ _ _ vs _ (by simp) ?_ (fun i _=>hf i) (hrep _) ((Ext.refl W0).drew) hvs ?_
 ·intro i o ho d hdd
  have:=List.all_eq_true.1 hd o (List.mem_of_getElem? (i:=i) (by simpa using ho))
  rw[hdd] at this
  simpa using this
 ·intro j hj v w w' hx hk
  exact(hmem j hj).st v w w' hx hk
 ·intro i o hi ho vs w hw hin hk
  exact(hv vs hin).1 i o (by rw[List.getElem?_take,if_pos hi];simpa using ho) w hw hk
 ·intro vs w' hw' hk
  have:=(hv vs fun j hj=>⟨w',hk j hj⟩).2 w' hw' hk
  simpa using this
 ·intro i o _ hl
  rw[hf] at hl;cases hl
 ·intro j hj hl
  rw[hf] at hl;cases hl
open XReg in
theorem one_mono {P:Program} {ops:Array Oper} {o:Oper} {a:Act} {w:World} {R R':Act→World→Prop} (hr:∀ b w',R b w'→R' b w')
  (h:wpList P ops (fun e b w'=>e=.normal∧R b w') [o] a w):wpList P ops (fun e b w'=>e=.normal∧R' b w') [o] a w:=by
 unfold wpList at h ⊢
 split
 ·rename_i hw
  rw[if_pos hw] at h
  rcases h with h | ⟨_,_,_,h,_⟩
  ·refine .inl (wp_any_q (Q:=fun e b w'=>e=.normal∧R b w') (fun c a w hc=>by cases hc.1) (fun ⟨_,_,hc⟩=>by cases hc.1) (Oper.wp_mono (fun a w hk=>?_) h))
   simp only[wpList] at hk ⊢
   exact⟨hk.1,hr _ _ hk.2⟩
  ·cases h
 ·rename_i hw
  rw[if_neg hw] at h
  simp only[wpList] at h ⊢
  exact⟨h.1,hr _ _ h.2⟩
open XReg in
theorem XReg.Facts.get {c:Array Nat} {i:Nat} {done:List (Kind×Value)} {w:World} (h:Facts c i done w) (j:Nat) {p:Kind×Value} (hj:done[j]?=some p) (ha:anc c i j=true):p.1 p.2 w:=h j p hj ha
open XReg in
theorem YReg.step {P:Program} {ops:Array Oper} {c:Array Nat} {W0:World} {tail rest:List Oper} {Q:Exit→Act→World→Prop} {o:Oper} {a a':Act} {Ks:List Kind} {F:List (Kind×Value)}
  (h:∀ w,Ext W0 w→Facts c F.length F w→wpList P ops (fun e b w'=>e=.normal∧b=a'∧Ext w w') [o] a w) (hv:a.put o.dst (o.dst.elim undef fun d=>a'.tmps.getD d undef)=a')
  (k:wpY P ops c W0 tail Q Ks rest a' (F++[(fun u _=>u=o.dst.elim undef fun d=>a'.tmps.getD d undef,o.dst.elim undef fun d=>a'.tmps.getD d undef)])) :
  wpY P ops c W0 tail Q ((fun u _=>u=o.dst.elim undef fun d=>a'.tmps.getD d undef) :: Ks) (o :: rest) a F:=by
 refine⟨fun w hw hF=>?_,?_⟩
 ·unfold GivesY
  exact one_mono (fun b w' ⟨hb,hx⟩=>⟨_,by rw[hb,hv],hx,rfl⟩) (h w hw hF)
 ·rintro v w rfl
  rw[hv]
  exact k
open XReg in
theorem YReg.val {P:Program} {ops:Array Oper} {c:Array Nat} {W0:World} {tail rest:List Oper} {Q:Exit→Act→World→Prop} {o:Oper} {a a':Act} {Ks:List Kind} {F:List (Kind×Value)} (v0:Value)
  (h:∀ w,Ext W0 w→Facts c F.length F w→wpList P ops (fun e b w'=>e=.normal∧b=a'∧Ext w w') [o] a w) (hv:a.put o.dst v0=a') (k:wpY P ops c W0 tail Q Ks rest a' (F++[(fun u _=>u=v0,v0)])) :
  wpY P ops c W0 tail Q ((fun u _=>u=v0) :: Ks) (o :: rest) a F:=by
 refine⟨fun w hw hF=>?_,?_⟩
 ·unfold GivesY
  exact one_mono (fun b w' ⟨hb,hx⟩=>⟨_,by rw[hb,hv],hx,rfl⟩) (h w hw hF)
 ·rintro v w rfl
  rw[hv]
  exact k
open XReg in
theorem YReg.kind {P:Program} {ops:Array Oper} {c:Array Nat} {W0:World} {tail rest:List Oper} {Q:Exit→Act→World→Prop} {o:Oper} {a:Act} {K:Kind} {Ks:List Kind} {F:List (Kind×Value)}
  (h:∀ w,Ext W0 w→Facts c F.length F w→wpList P ops (fun e b w'=>e=.normal∧∃ v,b=a.put o.dst v∧Ext w w'∧K v w') [o] a w)
  (k:∀ v w,K v w→wpY P ops c W0 tail Q Ks rest (a.put o.dst v) (F++[(K,v)])) :
  wpY P ops c W0 tail Q (K :: Ks) (o :: rest) a F:=⟨h,k⟩
open XReg in
theorem YReg.done {P:Program} {ops:Array Oper} {c:Array Nat} {W0:World} {tail:List Oper} {Q:Exit→Act→World→Prop} {a:Act} {Ks:List Kind} {F:List (Kind×Value)} (h:∀ X,(∀ (j:Nat) (p:Kind×Value),F[j]?=some p→p.1 p.2 (W0.plus X))→wpList P ops Q tail a (W0.plus X)):wpY P ops c W0 tail Q Ks [] a F:=by
 have h':∀ w',Ext W0 w'→(∀ (j:Nat) (p:Kind×Value),F[j]?=some p→p.1 p.2 w')→wpList P ops Q tail a w':=by rintro w' ⟨X,rfl⟩ hF;exact h X hF
 cases Ks<;>exact h'
open XReg in
theorem YReg.doneN {P:Program} {ops:Array Oper} {c:Array Nat} {W0:World} {Q:Exit→Act→World→Prop} {a:Act} {Ks:List Kind} {F:List (Kind×Value)} (h:∀ X,(∀ (j:Nat) (p:Kind×Value),F[j]?=some p→p.1 p.2 (W0.plus X))→Q .normal a (W0.plus X)):wpY P ops c W0 [] Q Ks [] a F :=
 YReg.done h
open XReg in
theorem YReg.done1 {P:Program} {ops:Array Oper} {c:Array Nat} {W0:World} {Q:Exit→Act→World→Prop} {a:Act} {o:Oper} {Ks:List Kind} {F:List (Kind×Value)} (h:∀ X,(∀ (j:Nat) (p:Kind×Value),F[j]?=some p→p.1 p.2 (W0.plus X))→wpList P ops Q [o] a (W0.plus X)):wpY P ops c W0 [o] Q Ks [] a F :=
 YReg.done h
end Go
set_option maxRecDepth 100000
set_option linter.unusedVariables false
namespace Go
namespace XReg
open Go.Region (binds ready)
variable {P:Program} {ops:Array Oper}
inductive ZOp where
 | A (K:Nat×Nat→Kind) (S U V:List Nat)
 | V (v:Value)
 | T
def ZOp.cls:ZOp→Nat | .A ..=>0 | .V _=>1 | .T=>2
def ZOp.K:ZOp→Nat×Nat→Kind | .A K _ _ _=>K | .V v=>fun _ u _=>u=v | .T=>fun _ _ _=>True
def ZOp.S:ZOp→List Nat | .A _ S _ _=>S | _=>[]
def ZOp.U:ZOp→List Nat | .A _ _ U _=>U | _=>[]
def chkT (ops:Array Oper) (cs:List Nat):Bool :=
 cs.length == ops.size&&(List.range ops.size).all fun i=>cs.getD i 0 != 2 || ((dstOf ops i).isNone&&(List.range ops.size).all fun j =>
  anc (Region.before ops) i j || (cs.getD j 0 == 1&&(match ops[i]? with | some o=>!meets ops o j | none=>false)) || (cs.getD j 0 == 2&&!(decide (j < i))))
structure OkT (ops:Array Oper) (c:Array Nat) (cs:List Nat):Prop where
 len:cs.length=ops.size
 dst:∀ i,i < ops.size→cs.getD i 0=2→dstOf ops i=none
 all:∀ i,i < ops.size→cs.getD i 0=2→∀ j,j < ops.size→cs.getD j 0=0→anc c i j=true
 pur:∀ i o,ops[i]?=some o→cs.getD i 0=2→∀ j,j < ops.size→cs.getD j 0=1→meets ops o j=true→anc c i j=true
 ord:∀ i,i < ops.size→cs.getD i 0=2→∀ j,j < i→cs.getD j 0=2→anc c i j=true
theorem okT_of_chk {cs:List Nat} (h:chkT ops cs=true):OkT ops (Region.before ops) cs:=by
 unfold chkT at h
 rw[Bool.and_eq_true,beq_iff_eq,List.all_eq_true] at h
 obtain⟨hl,h⟩:=h
 have key:∀ i,i < ops.size→cs.getD i 0=2→dstOf ops i=none∧∀ j,j < ops.size→anc (Region.before ops) i j=true∨(cs.getD j 0=1∧∀ o,ops[i]?=some o→meets ops o j=false)∨(cs.getD j 0=2∧¬ j < i):=fun i hi h2=>by
  have h1:=h i (List.mem_range.2 hi)
  rw[h2] at h1
  simp only[bne_self_eq_false,Bool.false_or,Bool.and_eq_true,Option.isNone_iff_eq_none,List.all_eq_true] at h1
  refine⟨h1.1,fun j hj=>?_⟩
  have h3:=h1.2 j (List.mem_range.2 hj)
  simp only[Bool.or_eq_true,Bool.and_eq_true,beq_iff_eq,Bool.not_eq_eq_eq_not,Bool.not_true,decide_eq_false_iff_not] at h3
  rcases h3 with (h3 | ⟨h3,h4⟩) | h3
  ·exact .inl h3
  ·refine .inr (.inl ⟨h3,fun o ho=>?_⟩)
   rw[ho] at h4
   simpa using h4
  ·exact .inr (.inr h3)
 refine⟨hl,fun i hi h2=>(key i hi h2).1,fun i hi h2 j hj h0=>?_,fun i o ho h2 j hj h1 hm=>?_,fun i hi h2 j hj hj2=>?_⟩
 ·rcases (key i hi h2).2 j hj with h | ⟨h,_⟩ | ⟨h,_⟩
  ·exact h
  ·rw[h0] at h;cases h
  ·rw[h0] at h;cases h
 ·have hi:i < ops.size:=(Array.getElem?_eq_some_iff.1 ho).1
  rcases (key i hi h2).2 j hj with h | ⟨_,h⟩ | ⟨h,_⟩
  ·exact h
  ·rw[h o ho] at hm;cases hm
  ·rw[h1] at h;cases h
 ·rcases (key i hi h2).2 j (by omega) with h | ⟨h,_⟩ | ⟨_,h⟩
  ·exact h
  ·rw[hj2] at h;cases h
  ·exact absurd hj h
def GivesR (P:Program) (ops:Array Oper) (o:Oper) (a:Act) (R:Value→World→Prop) (w:World):Prop :=
 wpList P ops (fun e b w'=>e=.normal∧∃ v,b=a.put o.dst v∧R v w') [o] a w
theorem gives_opR {w:World} {o:Oper} {a b:Act} {R:Value→World→Prop} {Q:Exit→Act→World→Prop} {K:Act→World→Prop} {i:Nat} (hi:ops[i]?=some o)
  (h1:GivesR P ops o a R w) (hs:∀ cs b,o.op≠.select cs b) (he:∀ x∈o.op.operands,b.eval x=a.eval x)
  (hwant:Region.wanted o (yielded ops b.tmps)=Region.wanted o (yielded ops a.tmps)) (hdst:∀ d,o.dst=some d→d < a.tmps.size)
  (hK:∀ v w',R v w'→K (b.put o.dst v) w'):wpOp P ops Q i K b w:=by
 unfold wpOp
 simp only[hi]
 unfold GivesR wpList at h1
 rw[hwant]
 have same:∀ u v,a.put o.dst u=a.put o.dst v→b.put o.dst u=b.put o.dst v:=fun u v hu=>by
  cases hd:o.dst with
  | none=>rfl
  | some d =>
   rw[hd] at hu
   have h2:=congrArg (fun x:Act=>x.tmps[d]?) hu
   have hlt:=hdst d hd
   simp[Act.put,hlt] at h2
   rw[h2]
 split
 ·rename_i hwt
  rw[if_pos hwt] at h1
  rcases h1 with h1 | ⟨_,a',w',h1,_⟩
  ·refine .inl (wp_any_q (Q:=fun e c w'=>e=.normal∧∃ v,c=a.put o.dst v∧R v w') (fun c a w hc=>by cases hc.1) (fun ⟨_,_,hc⟩=>by cases hc.1) ?_)
   unfold Oper.wp at *
   rw[execOp_congr o hs he]
   generalize (execOp a.eval o).run P w=r at *
   cases r with
   | ok n w' =>
    cases n<;>simp only[Oper.upon,wpList] at h1 ⊢
    case value u=>obtain⟨_,v,h1,h2⟩:=h1;rw[same u v h1];exact hK _ _ h2
    case skip=>obtain⟨_,v,h1,h2⟩:=h1;rw[same undef v h1];exact hK _ _ h2
    case defer d =>
     obtain⟨_,v,h1,h2⟩:=h1
     have:=congrArg (fun x:Act=>x.defers) h1
     cases hd:o.dst<;>simp[hd,Act.put] at this
    case enter f args =>
     refine Calls.mono h1 fun e w'' he=>?_
     cases e with
     | returned u=>simp only at he ⊢;obtain⟨_,v,h1,h2⟩:=he;rw[same u v h1];exact hK _ _ h2
     | panicked c=>exact absurd he.1 (by simp)
     | outgrown=>obtain⟨_,_,he,_⟩:=he;cases he
    case row row args=>exact Rows.mono h1 fun u w'' he=>by obtain⟨_,v,h1,h2⟩:=he;rw[same u v h1];exact hK _ _ h2
   | halt x w' =>
    cases x<;>simp only[Oper.upon] at h1 ⊢
    exact absurd h1.1 (by simp)
  ·cases h1
 ·rename_i hwt
  rw[if_neg hwt] at h1
  simp only[wpList] at h1
  obtain⟨_,v,h1,h2⟩:=h1
  rw[same undef v h1]
  exact hK _ _ h2
def runZ (P:Program) (ops:Array Oper) (F:World→Prop):List Oper→Act→World→Prop
 | [],_,w=>F w
 | o :: rest,a,w=>wpList P ops (fun e b w'=>e=.normal∧b=a∧runZ P ops F rest a w') [o] a w
def tlz:List Nat→List Oper→List Oper
 | k :: cs,o :: l=>if k=2 then o :: tlz cs l else tlz cs l
 | _,_=>[]
def tail (ops:Array Oper) (cs:List Nat) (t:Nat):List Oper:=tlz (cs.drop t) (ops.toList.drop t)
theorem tail_end {cs:List Nat} {t:Nat} (h:ops.size≤t):tail ops cs t=[]:=by
 unfold tail;rw[List.drop_eq_nil_of_le (show ops.toList.length≤t by simpa using h)];cases cs.drop t<;>rfl
theorem tail_skip {cs:List Nat} {t:Nat} (hl:cs.length=ops.size) (ht:t < ops.size) (h:cs.getD t 0≠2):tail ops cs t=tail ops cs (t+1):=by
 unfold tail
 rw[List.drop_eq_getElem_cons (show t < cs.length by omega),List.drop_eq_getElem_cons (show t < ops.toList.length by simpa using ht)]
 conv=>lhs;unfold tlz
 rw[if_neg (by simpa [show t < cs.length by omega] using h)]
theorem tail_take {cs:List Nat} {t:Nat} (hl:cs.length=ops.size) (ht:t < ops.size) (h:cs.getD t 0=2):tail ops cs t=ops[t] :: tail ops cs (t+1):=by
 unfold tail
 rw[List.drop_eq_getElem_cons (show t < cs.length by omega),List.drop_eq_getElem_cons (show t < ops.toList.length by simpa using ht)]
 conv=>lhs;unfold tlz
 rw[if_pos (by simpa [show t < cs.length by omega] using h)]
 simp
theorem tail_to {cs:List Nat} (hl:cs.length=ops.size):∀ (n t:Nat),t+n≤ops.size→(∀ i,t≤i→i < t+n→cs.getD i 0≠2)→tail ops cs t=tail ops cs (t+n)
 | 0,t,_,_=>rfl
 | n+1,t,h,hn=>by
  rw[tail_skip hl (by omega) (hn t (Nat.le_refl _) (by omega)),tail_to hl n (t+1) (by omega) fun i h1 h2=>hn i (by omega) (by omega),show t+1+n=t+(n+1) from by omega]
theorem least_ready {c:Array Nat} {m:Nat} (H:Ok ops c m) {listed:Array Bool} (hs:listed.size=ops.size) {q:Nat} (hq:q < ops.size) (h0:listed.getD q false=false):ready .any ops listed≠[]:=by
 have:∀ n,(∀ j,j < n→listed.getD j false=true)∨∃ j,j < n∧listed.getD j false=false∧∀ i,i < j→listed.getD i false=true:=by
  intro n
  induction n with
  | zero=>exact .inl fun j h=>by omega
  | succ n ih =>
   rcases ih with h | ⟨j,h1,h2,h3⟩
   ·cases e:listed.getD n false
    ·exact .inr ⟨n,by omega,e,h⟩
    ·exact .inl fun j hj=>by
      by_cases e':j=n
      ·rw[e'];exact e
      ·exact h j (by omega)
   ·exact .inr ⟨j,by omega,h2,h3⟩
 rcases this ops.size with h | ⟨j,hj,hj0,hjl⟩
 ·rw[h q hq] at h0;cases h0
 ·have hoj:ops[j]?=some ops[j]:=Array.getElem?_eq_getElem hj
  have hjr:j∈ready .any ops listed:=of_ready hs hoj hj0 fun e he hb=>hjl _ (H.back j _ hoj e he hb)
  intro e;rw[e] at hjr;cases hjr
theorem closed_set {listed:Array Bool} {i:Nat} {o:Oper} (hc:Closed ops listed) (hi:i < listed.size) (ho:ops[i]?=some o) (ha:∀ e∈o.after,binds .any e=true→listed.getD e.on false=true):Closed ops (listed.setIfInBounds i true):=by
 intro k o' hk hlk e he hb
 rw[getD_set hi] at hlk ⊢
 split
 ·rfl
 ·by_cases e':k=i
  ·subst e'
   rw[ho] at hk;cases hk
   exact ha e he hb
  ·rw[if_neg e'] at hlk;exact hc k o' hk hlk e he hb
section
variable {c:Array Nat} {cs:List Nat} {Q:Exit→Act→World→Prop} {a0:Act} {K:Nat→Nat×Nat→Kind}
theorem phase2z (H:Ok ops c ops.size) (T:OkT ops c cs) (hd:∀ (i:Nat) (o:Oper),ops[i]?=some o→∀ d,o.dst=some d→d < a0.tmps.size)
  {vs:Nat→Value} (pure:∀ (i:Nat) (o:Oper),cs.getD i 0=1→ops[i]?=some o→∀ w,GivesR P ops o (act ops a0 vs (fun _=>true) i) (fun v w'=>v=vs i∧w'=w) w) :
  ∀ (fuel:Nat) (listed:Array Bool) (t:Nat) (w:World),listed.size=ops.size→Closed ops listed→unl listed ops.size=fuel →
   (∀ j,j < ops.size→cs.getD j 0≠1→cs.getD j 0≠2→listed.getD j false=true)→(∀ j,j < ops.size→cs.getD j 0=2→(listed.getD j false=true↔j < t)) →
   runZ P ops (Q .normal (act ops a0 vs (fun _=>true) ops.size)) (tail ops cs t) (act ops a0 vs (fun _=>true) ops.size) w →
   wpAny P .any ops Q fuel listed (act ops a0 vs (fun j=>listed.getD j false) ops.size) w:=by
 intro fuel
 induction fuel with
 | zero =>
  intro listed t w hs hc hu hA hT h
  have hall:=unl_zero ops.size hu
  have hact:∀ k,k≤ops.size→act ops a0 vs (fun j=>listed.getD j false) k=act ops a0 vs (fun _=>true) k:=by
   intro k
   induction k with
   | zero=>intro _;rfl
   | succ k ih=>intro hk;rw[act_succ,act_succ,ih (by omega)];simp only[hall k (by omega),if_true]
  rw[hact _ (Nat.le_refl _)]
  have ht:tail ops cs t=[]:=by
   rcases Nat.lt_or_ge t ops.size with h1 | h1
   ·have:=tail_to T.len (ops.size-t) t (by omega) fun i h2 h3 h4=>by
     have:=(hT i (by omega) h4).1 (hall i (by omega));omega
    rw[this];exact tail_end (by omega)
   ·exact tail_end h1
  rw[ht] at h
  refine⟨?_,h⟩
  rw[List.eq_nil_iff_forall_not_mem]
  intro i hi
  obtain⟨o,ho,h0,_⟩:=ready_of hs hi
  rw[hall i (Array.getElem?_eq_some_iff.1 ho).1] at h0
  cases h0
 | succ fuel ih =>
  intro listed t w hs hc hu hA hT h
  have hex:∃ q,q < ops.size∧listed.getD q false=false:=by
   refine Classical.byContradiction fun hn=>?_
   have hall:∀ j,j < ops.size→listed.getD j false=true:=fun j hj=>by
    cases e:listed.getD j false
    ·exact absurd ⟨j,hj,e⟩ hn
    ·rfl
   have:∀ k,k≤ops.size→unl listed k=0:=by
    intro k
    induction k with
    | zero=>intro _;rfl
    | succ k ih=>intro hk;unfold unl;rw[ih (by omega),if_pos (hall k (by omega))]
   rw[this _ (Nat.le_refl _)] at hu;cases hu
  obtain⟨q,hq,hq0⟩:=hex
  refine⟨fun e=>absurd e (least_ready H hs hq hq0),fun i hi=>?_⟩
  obtain⟨o,ho,hi0,ha⟩:=ready_of hs hi
  have his:i < ops.size:=(Array.getElem?_eq_some_iff.1 ho).1
  have h1:∀ k,k < i→anc c i k=true→listed.getD k false=true:=fun k hk hak=>anc_listed H hc i o k ho (.inr ha) (by omega) hak
  have h2:∀ k,i < k→anc c k i=true→listed.getD k false=false:=fun k hk hak=>by
   cases e:listed.getD k false
   ·rfl
   ·rcases Nat.lt_or_ge k ops.size with h3 | h3
    ·have:=anc_listed H hc k ops[k] i (Array.getElem?_eq_getElem h3) (.inl e) his hak
     rw[hi0] at this;cases this
    ·simp[Array.getElem?_eq_none (show listed.size≤k by omega)] at e
  have hset:=act_set (a0:=a0) (vs:=vs) H ho (L:=fun j=>listed.getD j false) hi0 h2 ops.size (Nat.le_refl _) his
  have hfun:(fun k=>if k=i then true else listed.getD k false)=fun k=>(listed.setIfInBounds i true).getD k false:=funext fun k=>(getD_set (by omega) k).symm
  rw[hfun] at hset
  have hun:=unl_set (listed:=listed) (i:=i) (by omega) hi0 ops.size his
  have hcl:=closed_set hc (by omega) ho ha
  by_cases c1:cs.getD i 0=1
  ·have agree:∀ t∈o.looksAt ops,(act ops a0 vs (fun j=>listed.getD j false) ops.size).tmps[t]?=(act ops a0 vs (fun _=>true) i).tmps[t]?:=fun t ht=>by
    have:=act_agree (a0:=a0) (vs:=vs) H ho (L:=fun j=>listed.getD j false) hi0 h1 h2 ht ops.size (Nat.le_refl _)
    rwa [show min ops.size i=i from by omega] at this
   refine gives_opR ho (pure i o c1 ho w) (H.nosel i o ho) (eval_of_agree agree) (wanted_of_agree agree) (fun d hdd=>by rw[act_size];exact hd i o ho d hdd) ?_
   rintro v w' ⟨rfl,rfl⟩
   rw[hset]
   refine ih _ t w' (by simpa using hs) hcl (by omega) (fun j hj h3 h4=>?_) (fun j hj h3=>?_) h
   ·rw[getD_set (by omega)];split
    ·rfl
    ·exact hA j hj h3 h4
   ·rw[getD_set (by omega),if_neg (fun e=>by rw[e,c1] at h3;cases h3)];exact hT j hj h3
  ·have c2:cs.getD i 0=2:=by
    refine Classical.byContradiction fun hn=>?_
    rw[hA i his c1 hn] at hi0;cases hi0
   have hti:t≤i:=by
    refine Classical.byContradiction fun hn=>?_
    rw[(hT i his c2).2 (by omega)] at hi0;cases hi0
   have htail:tail ops cs t=ops[i] :: tail ops cs (i+1):=by
    have:=tail_to T.len (i-t) t (by omega) fun j h3 h4 h5=>by
     have:=anc_listed H hc i o j ho (.inr ha) (by omega) (T.ord i his c2 j (by omega) h5)
     have:=(hT j (by omega) h5).1 this
     omega
    rw[this,show t+(i-t)=i from by omega]
    exact tail_take T.len his c2
   rw[htail] at h
   have hoi:ops[i]=o:=(Array.getElem?_eq_some_iff.1 ho).2
   rw[hoi] at h
   have hdn:o.dst=none:=by have:=T.dst i his c2;simpa [dstOf,ho] using this
   have agree:∀ t∈o.looksAt ops,(act ops a0 vs (fun j=>listed.getD j false) ops.size).tmps[t]?=(act ops a0 vs (fun _=>true) ops.size).tmps[t]?:=fun t ht=>by
    have key:∀ k,k≤ops.size→(act ops a0 vs (fun j=>listed.getD j false) k).tmps[t]?=(act ops a0 vs (fun _=>true) k).tmps[t]?:=by
     intro k
     induction k with
     | zero=>intro _;rfl
     | succ k ihk =>
      intro hk
      have ih':=ihk (by omega)
      rw[act_succ,act_succ]
      simp only[if_true]
      by_cases hl:listed.getD k false=true
      ·rw[if_pos hl]
       by_cases hdk:dstOf ops k=some t
       ·rw[hdk];exact put_get_eq (by rw[act_size,act_size]) _ _
       ·rw[put_get_ne _ _ hdk,put_get_ne _ _ hdk];exact ih'
      ·rw[if_neg hl]
       have hdk:dstOf ops k≠some t:=fun hdk=>by
        by_cases k2:cs.getD k 0=2
        ·rw[T.dst k (by omega) k2] at hdk;cases hdk
        ·by_cases k1:cs.getD k 0=1
         ·have hm:meets ops o k=true:=by unfold meets;rw[hdk];simp[ht]
          exact hl (anc_listed H hc i o k ho (.inr ha) (by omega) (T.pur i o ho c2 k (by omega) k1 hm))
         ·exact hl (hA k (by omega) k1 k2)
       rw[put_get_ne _ _ hdk];exact ih'
    exact key _ (Nat.le_refl _)
   refine gives_opR (R:=fun _ w'=>runZ P ops (Q .normal (act ops a0 vs (fun _=>true) ops.size)) (tail ops cs (i+1)) (act ops a0 vs (fun _=>true) ops.size) w') ho ?_ (H.nosel i o ho) (eval_of_agree agree) (wanted_of_agree agree) (fun d hdd=>by rw[hdn] at hdd;cases hdd) ?_
   ·unfold GivesR
    unfold runZ at h
    exact one_mono (fun b w' ⟨hb,hr⟩=>⟨undef,by rw[hb,hdn];rfl,hr⟩) h
   ·intro v w' hr
    rw[show (act ops a0 vs (fun j=>listed.getD j false) ops.size).put o.dst v=(act ops a0 vs (fun j=>listed.getD j false) ops.size).put o.dst (vs i) from by rw[hdn];rfl,hset]
    refine ih _ (i+1) w' (by simpa using hs) hcl (by omega) (fun j hj h3 h4=>?_) (fun j hj h3=>?_) hr
    ·rw[getD_set (by omega)];split
     ·rfl
     ·exact hA j hj h3 h4
    ·rw[getD_set (by omega)]
     by_cases e:j=i
     ·rw[if_pos e];simp;omega
     ·rw[if_neg e]
      constructor
      ·intro hl;have:=(hT j hj h3).1 hl;omega
      ·intro hlt
       exact anc_listed H hc i o j ho (.inr ha) (by omega) (T.ord i his c2 j (by omega) h3)
theorem phase1z (H:Ok ops c ops.size) (T:OkT ops c cs) {W0:World} (hd:∀ (i:Nat) (o:Oper),ops[i]?=some o→∀ d,o.dst=some d→d < a0.tmps.size)
  {S U:Nat→List Nat} {SA:List Nat} (hSU:∀ i j,i≠j→i < ops.size→j < ops.size→cs.getD i 0=0→cs.getD j 0=0→∀ b∈S i,b∈U j) (hSA:∀ i,i < ops.size→cs.getD i 0=0→∀ b∈S i,b∈SA)
  (hst:∀ i j,i≠j→i < ops.size→j < ops.size→cs.getD i 0=0→anc c j i=false→∀ x v w w',Chg (S i) w w'→K j x v w→K j x v w')
  (hV:∀ i,i < ops.size→cs.getD i 0=1→∀ x y u v w w',K i x u w→K i y v w'→u=v)
  (each:∀ (i:Nat) (o:Oper),i < ops.size→cs.getD i 0=0→ops[i]?=some o→∀ (vs:Nat→Value) (ex:Nat→Nat×Nat) w,Chg (U i) W0 w→(∀ j,j < ops.size→∃ w,K j (ex j) (vs j) w)→(∀ j,j < i→anc c i j=true→K j (ex j) (vs j) w)→(∀ p q,p≠q→p < i→q < i→cs.getD p 0=0→cs.getD q 0=0→anc c i p=true→anc c i q=true→(ex p).2≤(ex q).1∨(ex q).2≤(ex p).1)→GivesR P ops o (act ops a0 vs (fun _=>true) i) (fun v w'=>Chg (S i) w w'∧K i (w.heap.size,w'.heap.size) v w') w)
  (pure:∀ (i:Nat) (o:Oper),cs.getD i 0=1→ops[i]?=some o→∀ (vs:Nat→Value) (ex:Nat→Nat×Nat),(∀ j,j < ops.size→∃ w,K j (ex j) (vs j) w)→∀ w,GivesR P ops o (act ops a0 vs (fun _=>true) i) (fun v w'=>v=vs i∧w'=w∧K i (ex i) v w') w)
  (fin:∀ (vs:Nat→Value) (ex:Nat→Nat×Nat) w',Chg SA W0 w'→(∀ j,j < ops.size→∃ w,K j (ex j) (vs j) w)→(∀ j,j < ops.size→cs.getD j 0=0→K j (ex j) (vs j) w')→(∀ i j,i≠j→i < ops.size→j < ops.size→cs.getD i 0=0→cs.getD j 0=0→(ex i).2≤(ex j).1∨(ex j).2≤(ex i).1)→runZ P ops (Q .normal (act ops a0 vs (fun _=>true) ops.size)) (tail ops cs 0) (act ops a0 vs (fun _=>true) ops.size) w')
  (hcls:∀ j,j < ops.size→cs.getD j 0=0∨cs.getD j 0=1∨cs.getD j 0=2) :
  ∀ (fuel:Nat) (listed:Array Bool) (vs:Nat→Value) (ex:Nat→Nat×Nat) (w:World),listed.size=ops.size→Closed ops listed→unl listed ops.size=fuel→(∀ j,j < ops.size→cs.getD j 0=2→listed.getD j false=false) →
   Chg SA W0 w→(∀ j,j < ops.size→cs.getD j 0=0→listed.getD j false=false→Chg (U j) W0 w)→(∀ j,j < ops.size→∃ w,K j (ex j) (vs j) w)→(∀ j,j < ops.size→listed.getD j false=true→K j (ex j) (vs j) w) →
   (∀ j,j < ops.size→cs.getD j 0=0→listed.getD j false=true→(ex j).2≤w.heap.size)→(∀ i j,i≠j→i < ops.size→j < ops.size→cs.getD i 0=0→cs.getD j 0=0→listed.getD i false=true→listed.getD j false=true→(ex i).2≤(ex j).1∨(ex j).2≤(ex i).1) →
   wpAny P .any ops Q fuel listed (act ops a0 vs (fun j=>listed.getD j false) ops.size) w:=by
 intro fuel
 induction fuel with
 | zero =>
  intro listed vs ex w hs hc hu h2 hw hwU hin hk hsz hpw
  have hall:=unl_zero ops.size hu
  exact phase2z H T hd (fun i o h1 ho w=>one_mono (fun b w' ⟨v,hb,h1,h2,_⟩=>⟨v,hb,h1,h2⟩) (pure i o h1 ho vs ex hin w)) 0 listed 0 w hs hc hu (fun j hj _ _=>hall j hj) (fun j hj h3=>by rw[h2 j hj h3];simp) (fin vs ex w hw hin (fun j hj _=>hk j hj (hall j hj)) fun i j hij hi hj h0 h1=>hpw i j hij hi hj h0 h1 (hall i hi) (hall j hj))
 | succ fuel ih =>
  intro listed vs ex w hs hc hu h2T hw hwU hin hk hsz hpw
  by_cases hpre:∀ j,j < ops.size→cs.getD j 0=0→listed.getD j false=true
  ·exact phase2z H T hd (fun i o h1 ho w=>one_mono (fun b w' ⟨v,hb,h1,h2,_⟩=>⟨v,hb,h1,h2⟩) (pure i o h1 ho vs ex hin w)) (fuel+1) listed 0 w hs hc hu (fun j hj h3 h4=>hpre j hj (by rcases hcls j hj with h | h | h<;>omega)) (fun j hj h3=>by rw[h2T j hj h3];simp) (fin vs ex w hw hin (fun j hj h0=>hk j hj (hpre j hj h0)) fun i j hij hi hj h0 h1=>hpw i j hij hi hj h0 h1 (hpre i hi h0) (hpre j hj h1))
  ·obtain⟨q,hq,hqc,hq0⟩:∃ q,q < ops.size∧cs.getD q 0=0∧listed.getD q false=false:=by
    refine Classical.byContradiction fun hn=>hpre fun j hj h0=>?_
    cases e:listed.getD j false
    ·exact absurd ⟨j,hj,h0,e⟩ hn
    ·rfl
   refine⟨fun e=>absurd e (least_ready H hs hq hq0),fun i hi=>?_⟩
   obtain⟨o,ho,hi0,ha⟩:=ready_of hs hi
   have his:i < ops.size:=(Array.getElem?_eq_some_iff.1 ho).1
   have h1:∀ k,k < i→anc c i k=true→listed.getD k false=true:=fun k hk hak=>anc_listed H hc i o k ho (.inr ha) (by omega) hak
   have h2:∀ k,i < k→anc c k i=true→listed.getD k false=false:=fun k hk hak=>by
    cases e:listed.getD k false
    ·rfl
    ·rcases Nat.lt_or_ge k ops.size with h3 | h3
     ·have:=anc_listed H hc k ops[k] i (Array.getElem?_eq_getElem h3) (.inl e) his hak
      rw[hi0] at this;cases this
     ·simp[Array.getElem?_eq_none (show listed.size≤k by omega)] at e
   have hfun:(fun k=>if k=i then true else listed.getD k false)=fun k=>(listed.setIfInBounds i true).getD k false:=funext fun k=>(getD_set (by omega) k).symm
   have hun:=unl_set (listed:=listed) (i:=i) (by omega) hi0 ops.size his
   have hcl:=closed_set hc (by omega) ho ha
   have agree:∀ t∈o.looksAt ops,(act ops a0 vs (fun j=>listed.getD j false) ops.size).tmps[t]?=(act ops a0 vs (fun _=>true) i).tmps[t]?:=fun t ht=>by
    have:=act_agree (a0:=a0) (vs:=vs) H ho (L:=fun j=>listed.getD j false) hi0 h1 h2 ht ops.size (Nat.le_refl _)
    rwa [show min ops.size i=i from by omega] at this
   have hgd:∀ j,(listed.setIfInBounds i true).getD j false=if j=i then true else listed.getD j false:=fun j=>getD_set (by omega) j
   rcases hcls i his with c0 | c1 | c2
   ·refine gives_opR ho (each i o his c0 ho vs ex w (hwU i his c0 hi0) hin (fun q hq hqa=>hk q (by omega) (h1 q hq hqa)) fun p q hpq hp hq hp0 hq0 hpa hqa=>hpw p q hpq (by omega) (by omega) hp0 hq0 (h1 p hp hpa) (h1 q hq hqa)) (H.nosel i o ho) (eval_of_agree agree) (wanted_of_agree agree) (fun d hdd=>by rw[act_size];exact hd i o ho d hdd) ?_
    rintro v w' ⟨hx,hv⟩
    have hcg:act ops a0 vs (fun j=>listed.getD j false) ops.size=act ops a0 (fun q=>if q=i then v else vs q) (fun j=>listed.getD j false) ops.size :=
     act_congrL ops.size fun q _ hlq=>by
      by_cases e:q=i
      ·subst e;rw[hi0] at hlq;cases hlq
      ·rw[if_neg e]
    rw[hcg]
    have hset:=act_set (a0:=a0) (vs:=fun q=>if q=i then v else vs q) H ho (L:=fun j=>listed.getD j false) hi0 h2 ops.size (Nat.le_refl _) his
    simp only[if_true] at hset
    rw[hset,hfun]
    refine ih _ _ (fun q=>if q=i then (w.heap.size,w'.heap.size) else ex q) w' (by simpa using hs) hcl (by omega) ?_ (hw.trans (hx.mono (hSA i his c0))) ?_ ?_ ?_ ?_ ?_
    ·intro j hj h3
     rw[hgd,if_neg (fun e=>by rw[e,c0] at h3;cases h3)];exact h2T j hj h3
    ·intro j hj h0 hl
     rw[hgd] at hl
     by_cases e:j=i
     ·rw[if_pos e] at hl;cases hl
     ·rw[if_neg e] at hl
      exact(hwU j hj h0 hl).trans (hx.mono (hSU i j (Ne.symm e) his hj c0 h0))
    ·intro q hq
     by_cases e:q=i
     ·subst e;exact⟨w',by simpa using hv⟩
     ·simp only[if_neg e];exact hin q hq
    ·intro q hq hlq
     by_cases e:q=i
     ·subst e;simpa using hv
     ·rw[hgd,if_neg e] at hlq
      simp only[if_neg e]
      have hna:anc c q i=false:=by
       cases e3:anc c q i
       ·rfl
       ·have:=anc_listed H hc q ops[q] i (Array.getElem?_eq_getElem hq) (.inl hlq) his e3
        rw[hi0] at this;cases this
      exact hst i q (Ne.symm e) his hq c0 hna _ _ _ _ hx (hk q hq hlq)
    ·intro q hq hq0 hlq
     by_cases e:q=i
     ·subst e;simp
     ·rw[hgd,if_neg e] at hlq
      simp only[if_neg e];exact Nat.le_trans (hsz q hq hq0 hlq) hx.size
    ·intro p q hpq hp hq hp0 hq0 hlp hlq
     by_cases e:p=i
     ·have e2:q≠i:=fun h=>hpq (e.trans h.symm)
      rw[hgd,if_neg e2] at hlq
      simp only[if_pos e,if_neg e2]
      exact .inr (hsz q hq hq0 hlq)
     ·rw[hgd,if_neg e] at hlp
      by_cases e2:q=i
      ·simp only[if_neg e,if_pos e2]
       exact .inl (hsz p hp hp0 hlp)
      ·rw[hgd,if_neg e2] at hlq
       simp only[if_neg e,if_neg e2]
       exact hpw p q hpq hp hq hp0 hq0 hlp hlq
   ·have hset:=act_set (a0:=a0) (vs:=vs) H ho (L:=fun j=>listed.getD j false) hi0 h2 ops.size (Nat.le_refl _) his
    rw[hfun] at hset
    refine gives_opR ho (pure i o c1 ho vs ex hin w) (H.nosel i o ho) (eval_of_agree agree) (wanted_of_agree agree) (fun d hdd=>by rw[act_size];exact hd i o ho d hdd) ?_
    rintro v w' ⟨rfl,rfl,hkv⟩
    rw[hset]
    refine ih _ vs ex w' (by simpa using hs) hcl (by omega) ?_ hw ?_ hin ?_ ?_ ?_
    ·intro j hj h3
     rw[hgd,if_neg (fun e=>by rw[e,c1] at h3;cases h3)];exact h2T j hj h3
    ·intro j hj h0 hl
     rw[hgd] at hl
     by_cases e:j=i
     ·rw[if_pos e] at hl;cases hl
     ·rw[if_neg e] at hl;exact hwU j hj h0 hl
    ·intro j hj hl
     rw[hgd] at hl
     by_cases e:j=i
     ·subst e;exact hkv
     ·rw[if_neg e] at hl;exact hk j hj hl
    ·intro q hq hq0 hlq
     rw[hgd,if_neg (fun e=>by rw[e,c1] at hq0;cases hq0)] at hlq
     exact hsz q hq hq0 hlq
    ·intro p q hpq hp hq hp0 hq0 hlp hlq
     rw[hgd,if_neg (fun e=>by rw[e,c1] at hp0;cases hp0)] at hlp
     rw[hgd,if_neg (fun e=>by rw[e,c1] at hq0;cases hq0)] at hlq
     exact hpw p q hpq hp hq hp0 hq0 hlp hlq
   ·have:=anc_listed H hc i o q ho (.inr ha) hq (T.all i his c2 q hq hqc)
    rw[hq0] at this;cases this
end
def Ranges (ds:List (Nat×Nat)):Prop:=∀ (i j:Nat) (p q:Nat×Nat),i≠j→ds[i]?=some p→ds[j]?=some q→p.2≤q.1∨q.2≤p.1
def RangesA (c:Array Nat) (n:Nat) (ds:List (Nat×Nat)):Prop:=∀ (i j:Nat) (p q:Nat×Nat),i≠j→ds[i]?=some p→ds[j]?=some q→anc c n i=true→anc c n j=true→p.2≤q.1∨q.2≤p.1
def wpZ (P:Program) (ops:Array Oper) (c:Array Nat) (W0:World) (SA:List Nat) (tl:List Oper) (Q:Exit→Act→World→Prop):List ZOp→List Oper→Act→List (Kind×Value)→List (Nat×Nat)→Prop
 | [],[],a,done,ds=>∀ w',Chg SA W0 w'→(∀ (j:Nat) (p:Kind×Value),done[j]?=some p→p.1 p.2 w')→Ranges ds→runZ P ops (Q .normal a) tl a w'
 | .A K S U _ :: Ks,o :: rest,a,done,ds=>(∀ w,Chg U W0 w→Facts c done.length done w→RangesA c done.length ds→GivesR P ops o a (fun v w'=>Chg S w w'∧K (w.heap.size,w'.heap.size) v w') w)∧∀ v w x,K x v w→wpZ P ops c W0 SA tl Q Ks rest (a.put o.dst v) (done++[(K x,v)]) (ds++[x])
 | .V v :: Ks,o :: rest,a,done,ds=>(∀ w,GivesR P ops o a (fun u w'=>u=v∧w'=w) w)∧wpZ P ops c W0 SA tl Q Ks rest (a.put o.dst v) (done++[((fun (x:Value) (_:World)=>x=v),v)]) (ds++[(0,0)])
 | .T :: Ks,o :: rest,a,done,ds=>wpZ P ops c W0 SA tl Q Ks rest a (done++[((fun (_:Value) (_:World)=>True),undef)]) (ds++[(0,0)])
 | _,_,_,_,_=>False
theorem wpZ_vals {c:Array Nat} {a0:Act} {W0:World} {SA:List Nat} {tl:List Oper} {Q:Exit→Act→World→Prop} (vs:Nat→Value) (ex:Nat→Nat×Nat) (Sp:Nat→ZOp):∀ (l:List Oper) (Ks:List ZOp) (a:Act) (done:List (Kind×Value)) (ds:List (Nat×Nat)),ds.length=done.length→(∀ i o,l[i]?=some o→ops[done.length+i]?=some o) →
  (∀ j,j < done.length→∃ u,done[j]?=some ((Sp j).K (ex j),u)∧((Sp j).cls≠2→u=vs j))→(∀ j,j < ds.length→ds[j]?=some (if (Sp j).cls=0 then ex j else (0,0)))→(∀ j k,Ks[j]?=some k→k=Sp (done.length+j))→(∀ j,j < l.length→∃ w,(Sp (done.length+j)).K (ex (done.length+j)) (vs (done.length+j)) w)→(∀ j,j < l.length→(Sp (done.length+j)).cls=2→dstOf ops (done.length+j)=none) →
  wpZ P ops c W0 SA tl Q Ks l a done ds→a=act ops a0 vs (fun _=>true) done.length →
  (∀ i o,l[i]?=some o→(Sp (done.length+i)).cls=0→∀ w,Chg (Sp (done.length+i)).U W0 w→(∀ j,j < done.length+i→anc c (done.length+i) j=true→(Sp j).K (ex j) (vs j) w)→(∀ p q,p≠q→p < done.length+i→q < done.length+i→(Sp p).cls=0→(Sp q).cls=0→anc c (done.length+i) p=true→anc c (done.length+i) q=true→(ex p).2≤(ex q).1∨(ex q).2≤(ex p).1)→GivesR P ops o (act ops a0 vs (fun _=>true) (done.length+i)) (fun v w'=>Chg (Sp (done.length+i)).S w w'∧(Sp (done.length+i)).K (w.heap.size,w'.heap.size) v w') w) ∧
  (∀ i o,l[i]?=some o→(Sp (done.length+i)).cls=1→∀ w,GivesR P ops o (act ops a0 vs (fun _=>true) (done.length+i)) (fun v w'=>v=vs (done.length+i)∧w'=w∧(Sp (done.length+i)).K (ex (done.length+i)) v w') w) ∧
  ∀ w',Chg SA W0 w'→(∀ j,j < done.length+l.length→(Sp j).K (ex j) (vs j) w')→(∀ i j,i≠j→i < done.length+l.length→j < done.length+l.length→(Sp i).cls=0→(Sp j).cls=0→(ex i).2≤(ex j).1∨(ex j).2≤(ex i).1)→runZ P ops (Q .normal (act ops a0 vs (fun _=>true) (done.length+l.length))) tl (act ops a0 vs (fun _=>true) (done.length+l.length)) w':=by
 intro l
 induction l with
 | nil =>
  intro Ks a done ds hdl _ hdone hds _ _ _ h ha
  refine⟨fun i o hi=>(by simp at hi),fun i o hi=>(by simp at hi),fun w' hw' hj hr=>?_⟩
  cases Ks with
  | cons K Ks=>cases K<;>exact absurd h (by simp[wpZ])
  | nil =>
   have:=h w' hw' (fun j p hp=>by
    have hjl:j < done.length:=(List.getElem?_eq_some_iff.1 hp).1
    obtain⟨u,hu,hv⟩:=hdone j hjl
    rw[hu] at hp
    cases hp
    have hk:=hj j (by simpa using hjl)
    by_cases e:(Sp j).cls=2
    ·cases hs:Sp j<;>rw[hs] at e<;>simp[ZOp.cls] at e
     simp[ZOp.K]
    ·rw[hv e];exact hk) (fun i j p q hij hp hq=>by
    have h1:i < ds.length:=(List.getElem?_eq_some_iff.1 hp).1
    have h2:j < ds.length:=(List.getElem?_eq_some_iff.1 hq).1
    rw[hds i h1] at hp
    rw[hds j h2] at hq
    cases hp;cases hq
    by_cases e1:(Sp i).cls=0
    ·by_cases e2:(Sp j).cls=0
     ·rw[if_pos e1,if_pos e2];exact hr i j hij (by simp;omega) (by simp;omega) e1 e2
     ·rw[if_neg e2];exact .inr (Nat.zero_le _)
    ·rw[if_neg e1];exact .inl (Nat.zero_le _))
   simpa [← ha] using this
 | cons o rest ih =>
  intro Ks a done ds hdl hl hdone hds hKs hin hdn h ha
  cases Ks with
  | nil=>exact absurd h (by simp[wpZ])
  | cons K0 Ks =>
   have ho:ops[done.length]?=some o:=hl 0 o rfl
   obtain rfl:K0=Sp done.length:=hKs 0 K0 rfl
   have hd0:(Sp done.length).cls=2→o.dst=none:=fun h2=>by have:=hdn 0 (by simp) h2;simpa [dstOf,ho] using this
   have e2:a.put o.dst (vs done.length)=act ops a0 vs (fun _=>true) (done.length+1):=by
    rw[act_succ,← ha];simp[dstOf,ho]
   obtain⟨w1,hw1⟩:=hin 0 (by simp)
   rw[Nat.add_zero] at hw1
   obtain⟨u,hu,next0⟩:∃ u,((Sp done.length).cls≠2→u=vs done.length)∧wpZ P ops c W0 SA tl Q Ks rest (a.put o.dst (vs done.length)) (done++[((Sp done.length).K (ex done.length),u)]) (ds++[if (Sp done.length).cls=0 then ex done.length else (0,0)]):=by
    cases hs:Sp done.length with
    | A K S U V=>rw[hs] at h hw1;exact⟨_,fun _=>rfl,h.2 _ w1 _ hw1⟩
    | V v=>rw[hs] at h hw1;obtain rfl:vs done.length=v:=hw1;exact⟨_,fun _=>rfl,h.2⟩
    | T=>rw[hs] at h;refine⟨undef,fun h2=>absurd rfl h2,?_⟩;rw[hd0 (by rw[hs];rfl)];exact h
   have hlen:(done++[((Sp done.length).K (ex done.length),u)]).length=done.length+1:=by simp
   have next:=ih Ks _ (done++[((Sp done.length).K (ex done.length),u)]) (ds++[if (Sp done.length).cls=0 then ex done.length else (0,0)]) (by simp[hdl])
    (fun i o hi=>by have:=hl (i+1) o (by simpa using hi);rwa [show done.length+(i+1)=done.length+1+i from by omega,← hlen] at this)
    (fun j hj=>by
     rw[hlen] at hj
     by_cases e:j < done.length
     ·rw[List.getElem?_append_left e];exact hdone j e
     ·obtain rfl:j=done.length:=by omega
      exact⟨u,by simp,hu⟩)
    (fun j hj=>by
     by_cases e:j < ds.length
     ·rw[List.getElem?_append_left e];exact hds j e
     ·obtain rfl:j=ds.length:=by simp at hj;omega
      simp[hdl])
    (fun j k hj=>by rw[hlen,show done.length+1+j=done.length+(j+1) from by omega];exact hKs (j+1) k (by simpa using hj))
    (fun j hj=>by rw[hlen,show done.length+1+j=done.length+(j+1) from by omega];exact hin (j+1) (by simpa using hj))
    (fun j hj=>by rw[hlen,show done.length+1+j=done.length+(j+1) from by omega];exact hdn (j+1) (by simpa using hj))
    next0 (by rw[hlen];exact e2)
   rw[hlen] at next
   refine⟨fun i o' hi h0 w hw hj hra=>?_,fun i o' hi h1 w=>?_,fun w' hw' hj hr=>?_⟩
   ·cases i with
    | zero =>
     simp at hi;subst hi
     rw[Nat.add_zero] at *
     rw[← ha]
     cases hs:Sp done.length with
     | V v=>rw[hs] at h0;cases h0
     | T=>rw[hs] at h0;cases h0
     | A K S U V =>
      rw[hs] at h hw
      refine h.1 w hw (fun j p hp hpa=>?_) (fun i j p q hij hp hq hpa hqa=>?_)
      ·have hjl:j < done.length:=(List.getElem?_eq_some_iff.1 hp).1
       obtain⟨u',hu',hv'⟩:=hdone j hjl
       rw[hu'] at hp
       cases hp
       have hk:=hj j (by simpa using hjl) (by simpa using hpa)
       by_cases e:(Sp j).cls=2
       ·cases hs':Sp j<;>rw[hs'] at e<;>simp[ZOp.cls] at e
        simp[ZOp.K]
       ·rw[hv' e];exact hk
      ·have h1:i < ds.length:=(List.getElem?_eq_some_iff.1 hp).1
       have h2:j < ds.length:=(List.getElem?_eq_some_iff.1 hq).1
       rw[hds i h1] at hp
       rw[hds j h2] at hq
       cases hp;cases hq
       by_cases e1:(Sp i).cls=0
       ·by_cases e2:(Sp j).cls=0
        ·rw[if_pos e1,if_pos e2];exact hra i j hij (by omega) (by omega) e1 e2 (by simpa using hpa) (by simpa using hqa)
        ·rw[if_neg e2];exact .inr (Nat.zero_le _)
       ·rw[if_neg e1];exact .inl (Nat.zero_le _)
    | succ i =>
     have:=next.1 i o' (by simpa using hi) (by rwa [show done.length+1+i=done.length+(i+1) from by omega]) w (by rwa [show done.length+1+i=done.length+(i+1) from by omega]) fun j hji hja=>by
      rw[show done.length+1+i=done.length+(i+1) from by omega] at hji hja
      exact hj j hji hja
     have:=this fun p q hpq hp hq hp0 hq0 hpa hqa=>by
      rw[show done.length+1+i=done.length+(i+1) from by omega] at hp hq hpa hqa
      exact hra p q hpq hp hq hp0 hq0 hpa hqa
     rwa [show done.length+1+i=done.length+(i+1) from by omega] at this
   ·cases i with
    | zero =>
     simp at hi;subst hi
     rw[Nat.add_zero] at *
     rw[← ha]
     cases hs:Sp done.length with
     | A K S U V=>rw[hs] at h1;cases h1
     | T=>rw[hs] at h1;cases h1
     | V v =>
      rw[hs] at h hw1
      obtain rfl:vs done.length=v:=hw1
      exact one_mono (fun b w' ⟨x,hb,h3,h4⟩=>⟨x,hb,h3,h4,h3⟩) (h.1 w)
    | succ i =>
     have:=next.2.1 i o' (by simpa using hi) (by rwa [show done.length+1+i=done.length+(i+1) from by omega]) w
     rwa [show done.length+1+i=done.length+(i+1) from by omega] at this
   ·rw[List.length_cons,show done.length+(rest.length+1)=done.length+1+rest.length from by omega]
    exact next.2.2 w' hw' (fun j hjl=>hj j (by rw[List.length_cons];omega)) fun i j hij hi hj h0 h1=>hr i j hij (by rw[List.length_cons];omega) (by rw[List.length_cons];omega) h0 h1
def ZOp.Good:ZOp→Prop
 | .A K _ _ Y=>(∀ x v w w',Chg Y w w'→K x v w→K x v w')∧∃ x v w,K x v w
 | _=>True
def AllGoodZ:List ZOp→Prop
 | []=>True
 | s :: l=>s.Good∧AllGoodZ l
theorem AllGoodZ.mem:∀ {l:List ZOp},AllGoodZ l→∀ s∈l,s.Good
 | [],_,s,h=>by cases h
 | t :: l,⟨h1,h2⟩,s,h=>by
  rcases List.mem_cons.1 h with rfl | h
  ·exact h1
  ·exact h2.mem s h
def subL (a b:List Nat):Prop:=∀ x∈a,x∈b
theorem subL_nil (b:List Nat):subL [] b:=fun x hx=>by cases hx
theorem subL_refl (b:List Nat):subL b b:=fun _ h=>h
def hitZ (b:Bool) (S:List Nat):ZOp→Prop
 | .A _ _ U Y=>subL S U∧(b=true∨subL S Y)
 | _=>True
theorem hitZ.up {b:Bool} {S:List Nat}:∀ {t:ZOp},hitZ false S t→hitZ b S t
 | .A _ _ _ _,h=>⟨h.1,.inr (h.2.resolve_left (by simp))⟩
 | .V _,_=>trivial
 | .T,_=>trivial
def pairsZ (c:Array Nat) (k:Nat) (s:ZOp):Nat→List ZOp→Prop
 | _,[]=>True
 | j,t :: l=>(hitZ (anc c j k) s.S t∧hitZ false t.S s)∧pairsZ c k s (j+1) l
def ApartZ (c:Array Nat) (SA:List Nat):Nat→List ZOp→Prop
 | _,[]=>True
 | k,s :: l=>subL s.S SA∧pairsZ c k s (k+1) l∧ApartZ c SA (k+1) l
theorem ApartZ.sa {c:Array Nat} {SA:List Nat}:∀ {l:List ZOp} {k:Nat},ApartZ c SA k l→∀ s∈l,subL s.S SA
 | [],_,_,s,h=>by cases h
 | t :: l,_,⟨h1,_,h2⟩,s,h=>by
  rcases List.mem_cons.1 h with rfl | h
  ·exact h1
  ·exact h2.sa s h
theorem pairsZ.at {c:Array Nat} {k:Nat} {s:ZOp}:∀ {l:List ZOp} {j:Nat},pairsZ c k s j l→∀ (i:Nat) (hi:i < l.length),hitZ (anc c (j+i) k) s.S l[i]∧hitZ false l[i].S s
 | t :: l,j,⟨h,_⟩,0,_=>h
 | t :: l,j,⟨_,h⟩,i+1,hi=>by
  have:=pairsZ.at h i (by simpa using hi)
  rw[show j+1+i=j+(i+1) from by omega] at this
  exact this
theorem ApartZ.two {c:Array Nat} {SA:List Nat}:∀ {l:List ZOp} {k:Nat},ApartZ c SA k l→∀ (i j:Nat) (hi:i < l.length) (hj:j < l.length),i≠j→hitZ (anc c (k+j) (k+i)) l[i].S l[j]
 | t :: l,k,⟨_,h1,h2⟩,0,0,_,_,h=>absurd rfl h
 | t :: l,k,⟨_,h1,h2⟩,0,j+1,_,hj,_=>by
  have:=(h1.at j (by simpa using hj)).1
  rw[show k+1+j=k+(j+1) from by omega] at this
  exact this
 | t :: l,k,⟨_,h1,h2⟩,i+1,0,hi,_,_=>(h1.at i (by simpa using hi)).2.up
 | t :: l,k,⟨_,h1,h2⟩,i+1,j+1,hi,hj,h=>by
  have:=h2.two i j (by simpa using hi) (by simpa using hj) (by omega)
  rw[show k+1+j=k+(j+1) from by omega,show k+1+i=k+(i+1) from by omega] at this
  exact this
end XReg
open XReg in
theorem wp_region_z {P:Program} {id:Nat} {l:List Oper} {Q:Exit→Act→World→Prop} {a0:Act} {W0:World} (SA:List Nat) (Ks:List ZOp) (tl:List Oper) (hm:P.follows .mixedOrders=true) (hc:chk l.toArray l.length=true)
  (ht:chkT l.toArray (Ks.map ZOp.cls)=true) (hd:(l.all fun o=>o.dst.all fun d=>decide (d < a0.tmps.size))=true) (htl:tlz (Ks.map ZOp.cls) l=tl)
  (h:wpZ P l.toArray (Region.before l.toArray) W0 SA tl Q Ks l a0 [] []) (hg:AllGoodZ Ks) (hap:ApartZ (Region.before l.toArray) SA 0 Ks):(Code.region id l.toArray true).wp P Q a0 W0:=by
 have H:Ok l.toArray (Region.before l.toArray) l.toArray.size:=ok_of_chk (by simpa using hc)
 have T:=okT_of_chk ht
 have hn:l.toArray.size=l.length:=by simp
 have hKl:Ks.length=l.length:=by have:=T.len;simpa using this
 obtain⟨Sp,hSp⟩:∃ Sp:Nat→ZOp,∀ j (hj:j < Ks.length),Sp j=Ks[j]:=⟨fun j=>Ks.getD j .T,fun j hj=>by simp[hj]⟩
 have hcls:∀ j,j < l.toArray.size→(Ks.map ZOp.cls).getD j 0=(Sp j).cls:=fun j hj=>by
  have:j < Ks.length:=by omega
  rw[hSp j this];simp[this]
 have hmem:∀ j,j < l.toArray.size→(Sp j).Good:=fun j hj=>by
  have:j < Ks.length:=by omega
  rw[hSp j this];exact hg.mem _ (List.getElem_mem _)
 have hinh:∀ j,∃ p:Value×Nat×Nat,j < l.toArray.size→∃ w,(Sp j).K p.2 p.1 w:=fun j=>by
  by_cases hj:j < l.toArray.size
  ·cases hs:Sp j with
   | A K S U V=>have:=hmem j hj;rw[hs] at this;obtain⟨_,x,v,w,h⟩:=this;exact⟨(v,x),fun _=>⟨w,h⟩⟩
   | V v=>exact⟨(v,0,0),fun _=>⟨W0,rfl⟩⟩
   | T=>exact⟨(undef,0,0),fun _=>⟨W0,trivial⟩⟩
  ·exact⟨(undef,0,0),fun h=>absurd h hj⟩
 have hv:=fun vs ex hin=>wpZ_vals (ops:=l.toArray) (a0:=a0) vs ex Sp l Ks a0 [] [] rfl (fun i o hi=>by simpa using hi) (fun j hj=>absurd hj (Nat.not_lt_zero _)) (fun j hj=>absurd hj (Nat.not_lt_zero _)) (fun j k hk=>by
  obtain⟨h1,h2⟩:=List.getElem?_eq_some_iff.1 hk
  rw[List.length_nil,Nat.zero_add,hSp j h1];exact h2.symm) hin (fun j hj h2=>by
  rw[List.length_nil,Nat.zero_add] at h2 ⊢
  exact T.dst j (by omega) (by rw[hcls j (by omega)];exact h2)) h rfl
 simp only[List.length_nil,Nat.zero_add] at hv
 refine wp_region_any hm ?_
 have hchoose:∃ (vs:Nat→Value) (ex:Nat→Nat×Nat),∀ j,j < l.toArray.size→∃ w,(Sp j).K (ex j) (vs j) w:=⟨fun j=>(hinh j).choose.1,fun j=>(hinh j).choose.2,fun j hj=>(hinh j).choose_spec hj⟩
 obtain⟨vs,ex,hvs⟩:=hchoose
 have hf:∀ j,(Array.replicate l.toArray.size false).getD j false=false:=fun j=>by simp[Array.getElem?_replicate];split<;>rfl
 have ha:a0=act l.toArray a0 vs (fun j=>(Array.replicate l.toArray.size false).getD j false) l.toArray.size:=by
  have:∀ k,act l.toArray a0 vs (fun j=>(Array.replicate l.toArray.size false).getD j false) k=a0:=by
   intro k
   induction k with
   | zero=>rfl
   | succ k ih=>rw[act_succ,if_neg (by rw[hf];simp),ih]
  exact(this _).symm
 have hrep:∀ k,unl (Array.replicate l.toArray.size false) k=k:=by
  intro k
  induction k with
  | zero=>rfl
  | succ k ih=>unfold unl;rw[ih,if_neg (by rw[hf];simp)]
 have hdrew:∀ S,Chg S W0 W0.drew:=fun S=>((Ext.refl W0).drew).chg S
 rw[ha]
 refine phase1z H T (W0:=W0) (a0:=a0) (K:=fun j=>(Sp j).K) (S:=fun j=>(Sp j).S) (U:=fun j=>(Sp j).U) (SA:=SA) ?_ ?_ ?_ ?_ ?_ ?_ ?_ ?_ ?_ _ _ vs ex _ (by simp) ?_ (hrep _) (fun i _ _=>hf i) (hdrew _) (fun j _ _ _=>hdrew _) hvs ?_ ?_ ?_
 ·intro i o ho d hdd
  have:=List.all_eq_true.1 hd o (List.mem_of_getElem? (i:=i) (by simpa using ho))
  rw[hdd] at this
  simpa using this
 ·intro i j hij hi hj _ hj0 b hb
  have h2:=hap.two i j (by omega) (by omega) hij
  rw[hcls j hj] at hj0
  rw[← hSp i (by omega),← hSp j (by omega)] at h2
  cases hs:Sp j with
  | A K S U V=>rw[hs] at h2;exact h2.1 b hb
  | V u=>rw[hs] at hj0;cases hj0
  | T=>rw[hs] at hj0;cases hj0
 ·intro i hi _ b hb
  rw[hSp i (by omega)] at hb
  exact hap.sa _ (List.getElem_mem _) b hb
 ·intro i j hij hi hj _ hna x v w w' hx hk
  have h2:=hap.two i j (by omega) (by omega) hij
  have hgj:=hmem j hj
  rw[Nat.zero_add,Nat.zero_add,hna] at h2
  rw[← hSp i (by omega),← hSp j (by omega)] at h2
  cases hs:Sp j with
  | A K S U V=>rw[hs] at hk hgj h2;exact hgj.1 x v w w' (hx.mono (h2.2.resolve_left (by simp))) hk
  | V u=>rw[hs] at hk;exact hk
  | T=>trivial
 ·intro i hi h1 x y u v w w' hu hv
  rw[hcls i hi] at h1
  cases hs:Sp i with
  | A K S U=>rw[hs] at h1;cases h1
  | V z=>rw[hs] at hu hv;exact hu.trans hv.symm
  | T=>rw[hs] at h1;cases h1
 ·intro i o hi h0 ho vs ex w hw hin hk hra
  exact(hv vs ex fun j hj=>hin j (by omega)).1 i o (by simpa using ho) (by rw[← hcls i hi];exact h0) w hw hk fun p q hpq hp hq hp0 hq0 hpa hqa=>hra p q hpq hp hq (by rw[hcls p (by omega)];exact hp0) (by rw[hcls q (by omega)];exact hq0) hpa hqa
 ·intro i o h1 ho vs ex hin w
  have hi:i < l.toArray.size:=(Array.getElem?_eq_some_iff.1 ho).1
  exact(hv vs ex fun j hj=>hin j (by omega)).2.1 i o (by simpa using ho) (by rw[← hcls i hi];exact h1) w
 ·intro vs ex w' hw' hin hk hpw
  have:=(hv vs ex fun j hj=>hin j (by omega)).2.2 w' hw' (fun j hj=>by
   have hj':j < l.toArray.size:=by omega
   by_cases e:(Sp j).cls=0
   ·exact hk j hj' (by rw[hcls j hj'];exact e)
   ·obtain⟨w,h⟩:=hin j hj'
    cases hs:Sp j with
    | A K S U=>rw[hs] at e;exact absurd rfl e
    | V u=>rw[hs] at h;exact h
    | T=>trivial) fun i j hij hi hj h0 h1=>hpw i j hij (by omega) (by omega) (by rw[hcls i (by omega)];exact h0) (by rw[hcls j (by omega)];exact h1)
  rw[hn]
  unfold tail
  rw[List.drop_zero,List.drop_zero,htl]
  exact this
 ·intro j hj
  rw[hcls j hj]
  cases Sp j<;>simp[ZOp.cls]
 ·intro i o _ hl
  rw[hf] at hl;cases hl
 ·intro j hj hl
  rw[hf] at hl;cases hl
 ·intro j hj _ hl
  rw[hf] at hl;cases hl
 ·intro i j _ _ _ _ _ hl _
  rw[hf] at hl;cases hl
open XReg in
@[irreducible] def RunZ (P:Program) (ops:Array Oper) (F:World→Prop) (l:List Oper) (a:Act) (w:World):Prop:=runZ P ops F l a w
open XReg in
theorem RunZ.iff {P:Program} {ops:Array Oper} {F:World→Prop} {l:List Oper} {a:Act} {w:World}:RunZ P ops F l a w↔runZ P ops F l a w:=by unfold RunZ;exact Iff.rfl
theorem Chg.ext0 {w w':World} (h:Chg [] w w'):Ext w w':=Ext.of_below ⟨h.os,h.tape,h.output,h.size,fun k hk=>h.block k hk (by simp)⟩
open XReg in
theorem ZReg.val {P:Program} {ops:Array Oper} {c:Array Nat} {W0:World} {SA:List Nat} {tl rest:List Oper} {Q:Exit→Act→World→Prop} {o:Oper} {a a':Act} {Ks:List ZOp} {F:List (Kind×Value)} {D:List (Nat×Nat)} (v0:Value)
  (h:∀ w,wpList P ops (fun e b w'=>e=.normal∧b=a'∧w'=w) [o] a w) (hv:a.put o.dst v0=a') (k:wpZ P ops c W0 SA tl Q Ks rest a' (F++[((fun (u:Value) (_:World)=>u=v0),v0)]) (D++[(0,0)])) :
  wpZ P ops c W0 SA tl Q (.V v0 :: Ks) (o :: rest) a F D:=by
 refine⟨fun w=>one_mono (fun b w' ⟨hb,hx⟩=>⟨v0,by rw[hb,hv],rfl,hx⟩) (h w),?_⟩
 rw[hv];exact k
open XReg in
theorem ZReg.setE {P:Program} {ops:Array Oper} {c:Array Nat} {W0:World} {SA:List Nat} {tl rest:List Oper} {Q:Exit→Act→World→Prop} {o:Oper} {a a':Act} {Ks:List ZOp} {F:List (Kind×Value)} {D:List (Nat×Nat)} (v0:Value)
  (h:∀ w,Ext W0 w→Facts c F.length F w→wpList P ops (fun e b w'=>e=.normal∧b=a'∧Ext w w') [o] a w) (hv:a.put o.dst v0=a') (k:∀ x,wpZ P ops c W0 SA tl Q Ks rest a' (F++[((fun (u:Value) (_:World)=>u=v0),v0)]) (D++[x])) :
  wpZ P ops c W0 SA tl Q (.A (fun _ u _=>u=v0) [] [] [] :: Ks) (o :: rest) a F D:=by
 refine⟨fun w hw hF _=>one_mono (fun b w' ⟨hb,hx⟩=>⟨v0,by rw[hb,hv],hx.chg [],rfl⟩) (h w hw.ext0 hF),?_⟩
 rintro v w x rfl
 rw[hv];exact k x
open XReg in
theorem ZReg.setU {P:Program} {ops:Array Oper} {c:Array Nat} {W0:World} {SA U V:List Nat} {tl rest:List Oper} {Q:Exit→Act→World→Prop} {o:Oper} {a a':Act} {Ks:List ZOp} {F:List (Kind×Value)} {D:List (Nat×Nat)} (v0:Value)
  (h:∀ w,Chg U W0 w→Facts c F.length F w→wpList P ops (fun e b w'=>e=.normal∧b=a'∧Ext w w') [o] a w) (hv:a.put o.dst v0=a') (k:∀ x,wpZ P ops c W0 SA tl Q Ks rest a' (F++[((fun (u:Value) (_:World)=>u=v0),v0)]) (D++[x])) :
  wpZ P ops c W0 SA tl Q (.A (fun _ u _=>u=v0) [] U V :: Ks) (o :: rest) a F D:=by
 refine⟨fun w hw hF _=>one_mono (fun b w' ⟨hb,hx⟩=>⟨v0,by rw[hb,hv],hx.chg [],rfl⟩) (h w hw hF),?_⟩
 rintro v w x rfl
 rw[hv];exact k x
open XReg in
theorem ZReg.kindE {P:Program} {ops:Array Oper} {c:Array Nat} {W0:World} {SA:List Nat} {tl rest:List Oper} {Q:Exit→Act→World→Prop} {o:Oper} {a:Act} {K:Nat×Nat→Kind} {Ks:List ZOp} {F:List (Kind×Value)} {D:List (Nat×Nat)}
  (h:∀ w,Ext W0 w→Facts c F.length F w→wpList P ops (fun e b w'=>e=.normal∧∃ v,b=a.put o.dst v∧Ext w w'∧K (w.heap.size,w'.heap.size) v w') [o] a w)
  (k:∀ v w x,K x v w→wpZ P ops c W0 SA tl Q Ks rest (a.put o.dst v) (F++[(K x,v)]) (D++[x])) :
  wpZ P ops c W0 SA tl Q (.A K [] [] [] :: Ks) (o :: rest) a F D :=
 ⟨fun w hw hF _=>one_mono (fun b w' ⟨v,hb,hx,hk⟩=>⟨v,hb,hx.chg [],hk⟩) (h w hw.ext0 hF),k⟩
open XReg in
theorem ZReg.kind {P:Program} {ops:Array Oper} {c:Array Nat} {W0:World} {SA S U V:List Nat} {tl rest:List Oper} {Q:Exit→Act→World→Prop} {o:Oper} {a:Act} {K:Nat×Nat→Kind} {Ks:List ZOp} {F:List (Kind×Value)} {D:List (Nat×Nat)}
  (h:∀ w,Chg U W0 w→Facts c F.length F w→wpList P ops (fun e b w'=>e=.normal∧∃ v,b=a.put o.dst v∧Chg S w w'∧K (w.heap.size,w'.heap.size) v w') [o] a w)
  (k:∀ v w x,K x v w→wpZ P ops c W0 SA tl Q Ks rest (a.put o.dst v) (F++[(K x,v)]) (D++[x])) :
  wpZ P ops c W0 SA tl Q (.A K S U V :: Ks) (o :: rest) a F D:=⟨fun w hw hF _=>h w hw hF,k⟩
open XReg in
theorem ZReg.T {P:Program} {ops:Array Oper} {c:Array Nat} {W0:World} {SA:List Nat} {tl rest:List Oper} {Q:Exit→Act→World→Prop} {o:Oper} {a:Act} {Ks:List ZOp} {F:List (Kind×Value)} {D:List (Nat×Nat)}
  (k:wpZ P ops c W0 SA tl Q Ks rest a (F++[((fun (_:Value) (_:World)=>True),undef)]) (D++[(0,0)])):wpZ P ops c W0 SA tl Q (.T :: Ks) (o :: rest) a F D:=k
open XReg in
theorem ZReg.doneE {P:Program} {ops:Array Oper} {c:Array Nat} {W0:World} {tl:List Oper} {Q:Exit→Act→World→Prop} {a:Act} {F:List (Kind×Value)} {D:List (Nat×Nat)}
  (h:∀ X,(∀ (j:Nat) (p:Kind×Value),F[j]?=some p→p.1 p.2 (W0.plus X))→Ranges D→RunZ P ops (Q .normal a) tl a (W0.plus X)):wpZ P ops c W0 [] tl Q [] [] a F D:=fun w' hw hF hR=>by
 obtain⟨X,rfl⟩:=hw.ext0
 exact RunZ.iff.1 (h X hF hR)
open XReg in
theorem ZReg.done {P:Program} {ops:Array Oper} {c:Array Nat} {W0:World} {SA:List Nat} {tl:List Oper} {Q:Exit→Act→World→Prop} {a:Act} {F:List (Kind×Value)} {D:List (Nat×Nat)}
  (h:∀ w',Chg SA W0 w'→(∀ (j:Nat) (p:Kind×Value),F[j]?=some p→p.1 p.2 w')→Ranges D→RunZ P ops (Q .normal a) tl a w'):wpZ P ops c W0 SA tl Q [] [] a F D:=fun w' hw hF hR=>RunZ.iff.1 (h w' hw hF hR)
open XReg in
theorem ZReg.run {P:Program} {ops:Array Oper} {F:World→Prop} {o:Oper} {rest:List Oper} {a:Act} {w:World} (h:wpList P ops (fun e b w'=>e=.normal∧b=a∧RunZ P ops F rest a w') [o] a w):RunZ P ops F (o :: rest) a w:=by
 unfold RunZ at h ⊢;exact h
theorem ZReg.end_ {P:Program} {ops:Array Oper} {F:World→Prop} {a:Act} {w:World} (h:F w):RunZ P ops F [] a w:=by unfold RunZ;exact h
open XReg in
theorem XReg.ZOp.good_is (v:Value) (S U V:List Nat):(ZOp.A (fun _ u _=>u=v) S U V).Good:=⟨fun _ _ _ _ _ h=>h,(0,0),v,default,rfl⟩
end Go
set_option maxRecDepth 100000
set_option linter.unusedVariables false
namespace Go
open Go.RowKit
def blkL:Value→List Nat
 | .slice (some a) _ _=>[a.block]
 | _=>[]
theorem grownBy_chg {w w':World} {v:Value} (h:w.grownBy w' v.ownBlock):Chg (blkL v) w w':=by
 refine⟨h.os,h.tape,h.output,h.size,fun k hk hn=>h.block k hk fun e=>hn ?_⟩
 unfold Value.ownBlock at e
 unfold blkL
 split at e
 ·simp at e;subst e;simp
 ·cases e
section
variable {α:Type} {P:Program} {ops:Array Oper} {rest:List Oper} {op:Oper} {a:Act} {Q:Exit→Act→World→Prop}
theorem Row.appC {t e:TypeId} {size bytes:Nat} {W:World} {f:α→List Value} (E:ElemInfo P t e size bytes) (hgd:op.guard=none) (s x:Operand)
  (ho:op.op=.call { callee:=.builtin .append,args:=#[s,x],argTypes:=#[t,t] })
  (B:Nat) (hB:B≤W.heap.size) (v:Value) (xs:List α) (hs:a.eval s=v) (hown:Row B W e size f v xs)
  (ad:Addr) (m c:Nat) (ys:List α) (hx:a.eval x=.slice (some ad) m c) (hm:m=ys.length) (hf:∀ x,(f x).length=size) (hnews:∀ j u,(ys.flatMap f)[j]?=some u→W.cell? (ad.add j)=some u) (h1:∀ u∈ys.flatMap f,u.oneCell'=true)
  (h63:xs.length+ys.length≤maxLen) (hbytes:(xs.length+ys.length)*bytes≤140737488355328)
  (h:∀ v' w',Row B w' e size f v' (xs++ys)→Chg (blkL v) W w'→wpList P ops Q rest (a.put op.dst v') w'):wpList P ops Q (op :: rest) a W:=by
 subst hm
 obtain⟨i,z,hi,hz,hsize,hby,hzs⟩:=E.info
 refine wpList_append_own W hgd s x t ho B e i z size bytes E.und hi hz hsize hby hzs E.pos v xs.length (xs.flatMap f) hs hown ad ys.length c (ys.flatMap f) hx (flatMap_len hf ys) hnews h1 h63 hbytes hB ?_
 intro v' w' ho' hg hne
 refine h v' w' ?_ (grownBy_chg hg)
 unfold Row
 rw[List.length_append,List.flatMap_append]
 exact ho'
end
theorem Row.blk {α:Type} {B:Nat} {w:World} {ty K:Nat} {f:α→List Value} {v:Value} {xs:List α} (h:Row B w ty K f v xs):∀ b∈blkL v,B≤b∧b < w.heap.size:=by
 rcases h.2 with ⟨rfl,_⟩ | ⟨g,cap,cur,rfl,hb,hg,_⟩
 ·intro b hb;cases hb
 ·intro b hbm
  simp[blkL] at hbm
  subst hbm
  exact⟨hb,(Array.getElem?_eq_some_iff.1 hg).1⟩
theorem Row.chg {α:Type} {B:Nat} {w w':World} {S:List Nat} {ty K:Nat} {f:α→List Value} {v:Value} {xs:List α} (h:Row B w ty K f v xs) (hx:Chg S w w') (hd:∀ b∈blkL v,b∉S):Row B w' ty K f v xs:=by
 refine⟨h.1,?_⟩
 rcases h.2 with hn | ⟨g,cap,cur,rfl,hb,hg,hh⟩
 ·exact .inl hn
 ·exact .inr ⟨g,cap,cur,rfl,hb,by rw[hx.block g (Array.getElem?_eq_some_iff.1 hg).1 (hd g (by simp[blkL]))];exact hg,hh⟩
open XReg in
theorem ZReg.endG {P:Program} {ops:Array Oper} {F:World→Prop} {a:Act} {w:World} (h:∀ W,W=w→F W):RunZ P ops F [] a w:=ZReg.end_ (h w rfl)
theorem Row.madeB' {α:Type} {W:World} {b B ty K:Nat} {f:α→List Value} (hb:b=W.heap.size) (hB:B≤W.heap.size):Row B (W.alloc (.cells #[] ty)) ty K f (.slice (some ⟨b,0,none⟩) 0 0) []:=by
 subst hb;exact(Row.made W ty K f).mono hB
end Go
set_option maxRecDepth 100000
set_option linter.unusedVariables false
namespace Go
open Go.RowKit
theorem mem_blkL {v:Value} {b:Nat}:b∈blkL v↔v.ownBlock=some b:=by
 unfold blkL Value.ownBlock
 split<;>simp[eq_comm]
def RowO {α:Type} (B:Nat) (w:World) (ty K:Nat) (o:Ow α) (raw:List Value) (fps:List (List Nat)) (v:Value) (xs:List α):Prop :=
 w.ownsRow B ty K v xs.length raw∧fps.length=xs.length∧(∀ i (hi:i < xs.length) fi,fps[i]?=some fi→o w fi ((raw.drop (i*K)).take K) xs[i])∧(blkL v++fps.flatten).Nodup∧∀ b∈fps.flatten,B≤b
theorem drop_take_in {l:List Value} {i n K:Nat} (hi:i < n):((l.take (n*K)).drop (i*K)).take K=(l.drop (i*K)).take K:=by
 rw[List.drop_take,List.take_take]
 congr 1
 have:(i+1)*K≤n*K:=Nat.mul_le_mul_right _ hi
 rw[Nat.add_mul,Nat.one_mul] at this
 omega
theorem Own.rowO {α:Type} {B:Nat} {w:World} {ty K:Nat} {o:Ow α} {fp:List Nat} {v:Value} {xs:List α} (h:Own B w (oSl ty K o) fp [v] xs):∃ raw fps,RowO B w ty K o raw fps v xs∧fp=blkL v++fps.flatten:=by
 obtain⟨⟨v',hv,h⟩,hn,hb⟩:=h
 obtain rfl:v=v':=by simpa using hv
 rcases h with ⟨rfl,rfl,rfl⟩ | ⟨g,cap,cur,fps,rfl,hg,hsz,hl,hm,hfl,rfl,h⟩
 ·exact⟨[],[],⟨⟨by simp,.inl ⟨rfl,rfl⟩⟩,rfl,(fun i hi=>by simp at hi),by simp[blkL],by simp⟩,rfl⟩
 ·refine⟨cur.toList.take (xs.length*K),fps,⟨⟨?_,.inr ⟨g,cap,cur,rfl,hb g (by simp),hg,hl,hm,hsz,rfl⟩⟩,hfl,fun i hi fi hfi=>?_,hn,fun b hbm=>hb b (List.mem_cons_of_mem _ hbm)⟩,rfl⟩
  ·have hcl:cur.toList.length=cap*K:=by simpa using hsz
   rw[List.length_take,hcl]
   exact Nat.min_eq_left (Nat.mul_le_mul_right _ hl)
  ·rw[drop_take_in hi]
   exact h i hi fi hfi
theorem RowO.own {α:Type} {B:Nat} {w:World} {ty K:Nat} {o:Ow α} {raw:List Value} {fps:List (List Nat)} {v:Value} {xs:List α} (h:RowO B w ty K o raw fps v xs):Own B w (oSl ty K o) (blkL v++fps.flatten) [v] xs:=by
 obtain⟨⟨h0,h1⟩,h2,h3,h4,h5⟩:=h
 rcases h1 with ⟨rfl,hx⟩ | ⟨g,cap,cur,rfl,hb,hg,hn,hm,hsz,ht⟩
 ·have hx':xs=[]:=List.eq_nil_of_length_eq_zero hx
  subst hx'
  have hf:fps=[]:=List.eq_nil_of_length_eq_zero h2
  subst hf
  exact⟨⟨_,rfl,.inl ⟨rfl,rfl,rfl⟩⟩,List.nodup_nil,fun b hb=>by cases hb⟩
 ·refine⟨⟨_,rfl,.inr ⟨g,cap,cur,fps,rfl,hg,hsz,hn,hm,h2,rfl,fun i hi fi hfi=>?_⟩⟩,h4,fun b hbm=>?_⟩
  ·have:=h3 i hi fi hfi
   rw[← ht,drop_take_in hi] at this
   exact this
  ·rcases List.mem_cons.1 hbm with rfl | hbm
   ·exact hb
   ·exact h5 b hbm
section
variable {α:Type} {P:Program} {ops:Array Oper} {rest:List Oper} {op:Oper} {a:Act} {Q:Exit→Act→World→Prop}
theorem mem_snoc_flatten {fps:List (List Nat)} {fx:List Nat} {b:Nat}:b∈(fps++[fx]).flatten↔b∈fps.flatten∨b∈fx:=by simp[List.mem_flatten]
theorem Own.app1 {t e:TypeId} {size bytes:Nat} {W:World} {o:Ow α} (hlo:Local o) (hhe:Held o) (E:ElemInfo P t e size bytes) (hgd:op.guard=none) (s x:Operand)
  (ho:op.op=.call { callee:=.builtin .append,args:=#[s,x],argTypes:=#[t,t] })
  (B:Nat) (v:Value) (xs:List α) (fp:List Nat) (hs:a.eval s=v) (hown:Own B W (oSl e size o) fp [v] xs)
  (ad:Addr) (c:Nat) (hx:a.eval x=.slice (some ad) 1 c) (y:α) (fy:List Nat) (cs:List Value) (hy:Own B W o fy cs y) (hcl:cs.length=size) (hap:∀ b∈fp,b∉fy) (hB:B≤W.heap.size)
  (hnews:∀ j u,cs[j]?=some u→W.cell? (ad.add j)=some u) (h1:∀ u∈cs,u.oneCell'=true)
  (h63:xs.length+1≤maxLen) (hbytes:(xs.length+1)*bytes≤140737488355328)
  (h:∀ v' w' fp',Own B w' (oSl e size o) fp' [v'] (xs++[y])→Chg (blkL v) W w'→(∀ b∈fp',b∈fp∨b∈fy∨b=W.heap.size)→wpList P ops Q rest (a.put op.dst v') w'):wpList P ops Q (op :: rest) a W:=by
 obtain⟨i,z,hi,hz,hsize,hby,hzs⟩:=E.info
 obtain⟨raw,fps,hR,rfl⟩:=hown.rowO
 refine wpList_append_own_at W hgd s x t ho B e i z size bytes E.und hi hz hsize hby hzs E.pos v xs.length raw hs hR.1 ad 1 c cs hx (by rw[hcl,Nat.one_mul]) hnews h1 h63 hbytes hB ?_
 intro v' w' ho' hg hne hat
 have hch:=grownBy_chg hg
 have hbv:∀ b∈blkL v',b∈blkL v∨b=W.heap.size:=by
  intro b hb
  rw[mem_blkL] at hb ⊢
  rcases hat with hat | hat
  ·exact .inl (hat▸hb)
  ·rw[hb] at hat;exact .inr (by simpa using hat)
 have hnv:(blkL v').Nodup:=by unfold blkL;split<;>simp
 obtain⟨hrow,hfl,hel,hnd,hge⟩:=hR
 have hltf:∀ b∈fps.flatten,b < W.heap.size:=fun b hb=>by
  obtain⟨fi,hfi,hbf⟩:=List.mem_flatten.1 hb
  obtain⟨i,hi,rfl⟩:=List.getElem_of_mem hfi
  exact hhe W _ _ _ (hel i (by omega) _ (List.getElem?_eq_getElem hi)) b hbf
 have hlty:∀ b∈fy,b < W.heap.size:=hhe W _ _ _ hy.1
 obtain⟨hn1,hn2,hn3⟩:=List.nodup_append.1 hnd
 have hR':RowO B w' e size o (raw++cs) (fps++[fy]) v' (xs++[y]):=by
  refine⟨by simpa using ho',by simp[hfl],fun i hi fi hfi=>?_,?_,fun b hb=>?_⟩
  ·by_cases hlt:i < xs.length
   ·rw[List.getElem_append_left hlt]
    rw[List.getElem?_append_left (by omega)] at hfi
    have hq:=hel i hlt fi hfi
    have hrl:raw.length=xs.length*size:=hrow.1
    have hik:(i+1)*size≤xs.length*size:=Nat.mul_le_mul_right _ hlt
    rw[Nat.add_mul,Nat.one_mul] at hik
    rw[List.drop_append_of_le_length (by omega),List.take_append_of_le_length (by rw[List.length_drop];omega)]
    refine hlo.chg hhe hch (fun b hb hbv'=>?_) hq
    exact hn3 b hbv' b (List.mem_flatten.2 ⟨fi,List.mem_of_getElem? hfi,hb⟩) rfl
   ·have hie:i=xs.length:=by simp at hi;omega
    subst hie
    rw[List.getElem?_append_right (by omega)] at hfi
    have hfe:fi=fy:=by simpa [hfl] using hfi.symm
    subst hfe
    have hrl:raw.length=xs.length*size:=hrow.1
    have hdr:(raw++cs).drop (xs.length*size)=cs:=by rw[← hrl];simp
    rw[hdr,List.take_of_length_le (by omega)]
    have hlast:(xs++[y])[xs.length]'hi=y:=by simp
    rw[hlast]
    exact hlo.chg hhe hch (fun b hb hbv'=>hap b (List.mem_append_left _ hbv') hb) hy.1
  ·refine List.nodup_append.2 ⟨hnv,?_,?_⟩
   ·rw[List.flatten_append]
    refine List.nodup_append.2 ⟨hn2,by simpa using hy.2.1,fun b hb c hc hbc=>?_⟩
    subst hbc
    exact hap b (List.mem_append_right _ hb) (by simpa using hc)
   ·intro b hb c hc hbc
    subst hbc
    rcases mem_snoc_flatten.1 hc with hc | hc
    ·rcases hbv b hb with hb | hb
     ·exact hn3 b hb b hc rfl
     ·have:=hltf b hc;omega
    ·rcases hbv b hb with hb | hb
     ·exact hap b (List.mem_append_left _ hb) hc
     ·have:=hlty b hc;omega
  ·rcases mem_snoc_flatten.1 hb with hb | hb
   ·exact hge b hb
   ·exact hy.2.2 b hb
 refine h v' w' _ hR'.own hch fun b hb=>?_
 rcases List.mem_append.1 hb with hb | hb
 ·rcases hbv b hb with hb | hb
  ·exact .inl (List.mem_append_left _ hb)
  ·exact .inr (.inr hb)
 ·rcases mem_snoc_flatten.1 hb with hb | hb
  ·exact .inl (List.mem_append_right _ hb)
  ·exact .inr (.inl hb)
end
theorem Own.blkL_in {α:Type} {B:Nat} {w:World} {ty K:Nat} {o:Ow α} {fp:List Nat} {v:Value} {xs:List α} (h:Own B w (oSl ty K o) fp [v] xs):∀ b∈blkL v,b∈fp:=by
 obtain⟨raw,fps,_,rfl⟩:=h.rowO
 exact fun b hb=>List.mem_append_left _ hb
theorem Own.cast {α:Type} {B:Nat} {w:World} {o:Ow α} {fp:List Nat} {v:List Value} {x y:α} (h:Own B w o fp v x) (e:x=y):Own B w o fp v y:=e▸h
theorem Own.nil {α:Type} (B:Nat) (w:World) (ty K:Nat) (o:Ow α):Own B w (oSl ty K o) [] [.slice none 0 0] []:=⟨⟨_,rfl,.inl ⟨rfl,rfl,rfl⟩⟩,List.nodup_nil,fun b hb=>by cases hb⟩
theorem Own.made {α:Type} {W:World} {b B ty K:Nat} {o:Ow α} (hb:b=W.heap.size) (hB:B≤W.heap.size):Own B (W.alloc (.cells #[] ty)) (oSl ty K o) [b] [.slice (some ⟨b,0,none⟩) 0 0] []:=by
 subst hb
 refine⟨⟨_,rfl,.inr ⟨W.heap.size,0,#[],[],rfl,heap_alloc_new W _,by simp,Nat.le_refl _,by unfold maxLen;omega,rfl,rfl,fun i hi=>by simp at hi⟩⟩,by simp,by simpa using hB⟩
end Go
namespace Go
open Go.RowKit
section
variable {α:Type} {P:Program} {ops:Array Oper} {rest:List Oper} {op:Oper} {a:Act} {Q:Exit→Act→World→Prop}
theorem Own.app {t e:TypeId} {size bytes:Nat} {w0 w1:World} {cs:Array Value} {o:Ow α} (hlo:Local o) (hhe:Held o) (E:ElemInfo P t e size bytes) (hgd:op.guard=none) (s x:Operand)
  (ho:op.op=.call { callee:=.builtin .append,args:=#[s,x],argTypes:=#[t,t] })
  (hext:Ext w0 w1) (v:Value) (xs:List α) (fp:List Nat) (hs:a.eval s=v) (hown:Own w0.heap.size w1 (oSl e size o) fp [v] xs)
  (b0:Nat) (hb0:b0=w1.heap.size) (hx:a.eval x=.slice (some ⟨b0,0,none⟩) 1 1) (y:α) (fy:List Nat) (hy:Own w0.heap.size w1 o fy cs.toList y) (hcl:cs.size=size) (hap:∀ b∈fp,b∉fy)
  (h1:∀ u∈cs.toList,u.oneCell'=true) (h63:xs.length+1≤maxLen) (hbytes:(xs.length+1)*bytes≤140737488355328)
  (h:∀ v' X fp',Own w0.heap.size (w0.plus X) (oSl e size o) fp' [v'] (xs++[y])→wpList P ops Q rest (a.put op.dst v') (w0.plus X)):wpList P ops Q (op :: rest) a (w1.alloc (.cells cs e)):=by
 subst hb0
 have hx1:Ext w1 (w1.alloc (.cells cs e)):=(Ext.refl _).alloc _
 have hsz:=hext.below.size
 refine Own.app1 hlo hhe E hgd s x ho w0.heap.size v xs fp hs (hown.ext (oSl_local hlo) (oSl_held hhe) hx1) ⟨w1.heap.size,0,none⟩ 1 hx y fy cs.toList (hy.ext hlo hhe hx1) (by simpa using hcl) hap (by rw[World.size_alloc];omega) (fun j u hu=>?_) h1 h63 hbytes ?_
 ·rw[Addr.add_lit,Nat.zero_add,World.cell?_alloc_new]
  simpa using hu
 ·intro v' w' fp' hO hch _
  obtain⟨X,rfl⟩:=hch.ext (hext.alloc _) (fun b hb=>hown.2.2 b (hown.blkL_in b hb))
  exact h v' X fp' hO
end
end Go
namespace Go
open XReg RowKit in
theorem YReg.va {P:Program} {ops:Array Oper} {c:Array Nat} {W0:World} {tail rest:List Oper} {Q:Exit→Act→World→Prop} {o:Oper} {a a':Act} {Ks:List Kind} {F:List (Kind×Value)} (v0:Value)
  (k:wpY P ops c W0 tail Q Ks rest a' (F++[(fun u _=>u=v0,v0)]))
  (h:∀ w,Ext W0 w→Facts c F.length F w→wpList P ops (fun e b w'=>e=.normal∧b=a'∧Ext w w') [o] a w:=by (intro w' hw' hF';obtain⟨X',rfl⟩:=hw';have HF':=tH hF';clear hF';go_wp2_with (fail);exact⟨rfl,xE⟩)) (hv:a.put o.dst v0=a':=by kernel_rfl) :
  wpY P ops c W0 tail Q ((fun u _=>u=v0) :: Ks) (o :: rest) a F:=YReg.val v0 h hv k
end Go
