/- The walks of EntryRead. -/
import Derived.Test.YtdoeoojjabnboaaGreatKW10
import Derived.Test.YtdoeoojjabnboaaGreatKJA1
import Derived.Test.YtdoeoojjabnboaaGreatKBG
import Derived.Test.YtdoeoojjabnboaaGreatKJE
set_option maxRecDepth 100000
set_option linter.unusedVariables false
namespace Go.Proofs.YtdoeoojjabnboaaGreat
open Go.RowKit Go.Fin1
theorem unzig_i64 {u:Int} (h0:0≤u) (h1:u≤18446744073709551615):I64 (unzig u):=by unfold unzig I64;split<;>omega
theorem gn_i64 {s:ByteArray} {a:Nat}:∀ (f k:Nat) (u:Int),k+f=10→0≤u→u < 2 ^ (7*k)→I64 (gn s a f k u).n
 | 0,_,_,_,_,_=>by unfold gn I64;constructor<;>decide
 | f+1,k,u,hk,h0,h1=>by
  have hb:=byteAt_bd s (a+k)
  unfold gn
  split
  ·unfold I64;constructor<;>decide
  ·split
   ·unfold I64;constructor<;>decide
   ·rename_i h9
    split
    ·rename_i h128
     have hp:=pow7 k (by omega)
     by_cases e:f=0
     ·subst e
      unfold gn I64;constructor<;>decide
     ·refine gn_i64 f (k+1) _ (by omega) ?_ ?_
      ·have:0≤byteAt s (a+k) % 128*2 ^ (7*k):=Int.mul_nonneg (by omega) (by omega)
       omega
      ·rw[pow7s]
       have:byteAt s (a+k) % 128*2 ^ (7*k)≤127*2 ^ (7*k):=Int.mul_le_mul_of_nonneg_right (by omega) (by omega)
       omega
    ·split
     ·unfold I64;constructor<;>decide
     ·rename_i h128 _
      have h:=or_join (u:=u) (d:=byteAt s (a+k) % 128) (k:=k) (by omega) h0 h1 (by omega) (by omega) (fun e=>by omega)
      exact unzig_i64 (by omega) h.2.2.1
theorem getNum_i64 (s:ByteArray) (n:Int):I64 (getNum s n).n:=by
 unfold getNum
 split
 ·unfold I64;constructor<;>decide
 ·split
  ·unfold I64;constructor<;>decide
  ·split
   ·unfold I64;constructor<;>decide
   ·unfold getNumG
    exact gn_i64 10 0 0 rfl (Int.le_refl _) (by decide)
def numsN (s:ByteArray):Nat→Option (List Int×Int)
 | 0=>some ([],0)
 | k+1=>match numsN s k with
  | none=>none
  | some (l,a)=>if (getNum s a).c=0 then some (l++[(getNum s a).n],(getNum s a).at_) else none
theorem numsN_yes {s:ByteArray} {k:Nat} {l:List Int} {a:Int} (h:numsN s k=some (l,a)) (hc:(getNum s a).c=0):numsN s (k+1)=some (l++[(getNum s a).n],(getNum s a).at_):=by
 simp only[numsN,h,if_pos hc]
theorem numsN_no {s:ByteArray} {k:Nat} {l:List Int} {a:Int} (h:numsN s k=some (l,a)) (hc:¬ (getNum s a).c=0):∀ d,numsN s (k+1+d)=none
 | 0=>by simp only[numsN,h,if_neg hc]
 | d+1=>by
  show (match numsN s (k+1+d) with | none=>none | some (l,a)=>_)=none
  rw[numsN_no h hc d]
theorem numsN_len {s:ByteArray}:∀ {k:Nat} {l:List Int} {a:Int},numsN s k=some (l,a)→l.length=k∧∀ x∈l,I64 x
 | 0,l,a,h=>by
  obtain⟨rfl,_⟩:[]=l∧0=a:=by simpa [numsN] using h
  exact⟨rfl,fun x hx=>by cases hx⟩
 | k+1,l,a,h=>by
  unfold numsN at h
  split at h
  ·cases h
  ·rename_i l' a' h'
   split at h
   ·obtain⟨rfl,_⟩:_∧_:=by simpa using h
    have ih:=numsN_len h'
    refine⟨by simp[ih.1],fun x hx=>?_⟩
    rcases List.mem_append.1 hx with hx | hx
    ·exact ih.2 x hx
    ·simp at hx;subst hx;exact getNum_i64 _ _
   ·cases h
abbrev numV' (G:NumO):Value:=.agg #[(.int .i64 G.n),(.int .i64 G.at_),(.int .i64 G.c)]
def emptyW (B:Nat):World:={ (default:World) with heap:=Array.replicate B (.cells #[] 0) }
def kOneI (B:Nat) (n:Int) (_:Nat×Nat):XReg.Kind:=fun v w=>∃ g,v=.slice (some ⟨g,0,none⟩) 1 1∧w.cell? ⟨g,0,none⟩=some (.int .i64 n)∧B≤g
theorem chg_cell {S:List Nat} {w w':World} {b i:Nat} {u:Value} (hx:Chg S w w') (h:w.cell? ⟨b,i,none⟩=some u) (hb:b∉S):w'.cell? ⟨b,i,none⟩=some u:=by
 have hlt:=World.block_lt_of_cell? w _ h
 simp only[World.cell?,hx.block b hlt hb] at h ⊢
 exact h
theorem kOneI_good (B:Nat) (n:Int) {S U:List Nat} {V:List Nat} (hV:∀ b∈V,b < B):(XReg.ZOp.A (kOneI B n) S U V).Good :=
 ⟨fun x v w w' hx ⟨g,hv,hc,hB⟩=>⟨g,hv,chg_cell hx hc (fun hb=>by have:=hV _ hb;omega),hB⟩,
  (0,0),_,(emptyW B).alloc (.cells #[(.int .i64 n)] 2),(emptyW B).heap.size,rfl,by rw[World.cell?_alloc_new];rfl,by simp[emptyW]⟩
theorem kOneI_cell {B:Nat} {n:Int} {x:Nat×Nat} {g:Nat} {w:World} (h:kOneI B n x (.slice (some ⟨g,0,none⟩) 1 1) w):w.cell? ⟨g,0,none⟩=some (.int .i64 n):=by
 obtain⟨g',hv,hc,_⟩:=h
 obtain rfl:g=g':=by simpa using hv
 exact hc
theorem flat1 {w:World} {g:Nat} {n:Int} (h:w.cell? ⟨g,0,none⟩=some (.int .i64 n)) {j:Nat} {u:Value} (hu:([n].flatMap intCell)[j]?=some u):w.cell? ((⟨g,0,none⟩:Addr).add j)=some u:=by
 cases j with
 | zero=>simp[intCell] at hu;subst hu;rw[Addr.add_lit];exact h
 | succ j=>simp[intCell] at hu
def kRowI (B:Nat) (l:List Int) (_:Nat×Nat):XReg.Kind:=fun v w=>Row B w 2 1 intCell v l
theorem kRowI_good (B:Nat) {l:List Int} {S U:List Nat} (hm:l.length≤maxLen):(XReg.ZOp.A (kRowI B l) S U []).Good :=
 ⟨fun x v w w' hx h=>Row.ext hx.ext0 h,
  (0,0),.slice (some ⟨(emptyW B).heap.size,0,none⟩) l.length l.length,(emptyW B).alloc (.cells (l.flatMap intCell).toArray 2),
  Row.mono (B:=(emptyW B).heap.size) ⟨flatMap_len (K:=1) (fun _=>rfl) l,.inr ⟨_,l.length,_,rfl,Nat.le_refl _,heap_alloc_new (emptyW B) _,Nat.le_refl _,hm,(by rw[List.size_toArray,flatMap_len (f:=intCell) (K:=1) (fun _=>rfl) l]),List.take_of_length_le (Nat.le_of_eq (flatMap_len (f:=intCell) (K:=1) (fun _=>rfl) l))⟩⟩ (by simp[emptyW])⟩
set_option maxHeartbeats 3200000 in
theorem getNums_any (s:ByteArray) (w:World) (hs:s.size≤1048576) :
  Calls Tryz.prog 86 #[.string s,(.int .i64 0),(.int .i64 6)] w fun e w'=>Ext w w'∧((numsN s 6=none∧e=.returned (.tuple #[.slice none 0 0,(.int .i64 0),.bool false])) ∨
   ∃ l a v,numsN s 6=some (l,a)∧e=.returned (.tuple #[v,(.int .i64 a),.bool true])∧Row w.heap.size w' 2 1 intCell v l):=by
 go_enter Tryz.func86,Tryz.ntmps86
 go_wp2
 go_loopw [13,9,1,10] (fun i v at_ _ wr=>∃ (k:Nat) (l:List Int) (a:Int),k≤6∧i=.int .i64 k∧at_=(.int .i64 a)∧Ext w wr∧Hid (numsN s k=some (l,a))∧Hid (Row w.heap.size wr 2 1 intCell v l)) (fun i _ _ _ _=>6-(intOf i).toNat)
 case atStart=>exact⟨0,[],0,by omega,rfl,rfl,xE,tH rfl,tH (Row.made _ _ _ _)⟩
 case round =>
  obtain⟨k,l,a,hk,rfl,rfl,⟨X,rfl⟩,HN,HR⟩:=hrel
  obtain⟨av,cv,rfl⟩:=HR.out.shape
  have hll:=tH (numsN_len HN.out).1
  by_cases hlt:k < 6
  ·have HG:=tH (show ∀ w,Calls Tryz.prog 123 #[.string s,(.int .i64 a)] w fun e w'=>e=.returned (numV' (getNum s a))∧Ext w w' from fun w=>implGetNum_any s a w hs)
   by_cases hc:(getNum s a).c=0
   ·have HY:=tH (numsN_yes HN.out hc)
    have hl1:l.length≤6:=by rw[hll.out];omega
    generalize getNum s a=G at HG hc HY
    obtain⟨gn,ga,gc⟩:=G
    simp only[numV'] at HG
    simp only at hc HY
    subst hc
    go_wp2_with fail
    refine(HG.out _).mono ?_
    rintro e _ ⟨rfl,Y,rfl⟩
    go_upto_region 7 with fail
    refine gen_world ?_
    intro W hW
    have hE:Ext (w.plus X) W:=by rw[hW];exact xE
    have hc0:W.cell? ⟨w.heap.size+X.n+Y.n,0,none⟩=some (.int .i64 gn):=by rw[hW];simp[go_sem]
    have hc1:W.cell? ⟨w.heap.size+X.n+Y.n,1,none⟩=some (.int .i64 ga):=by rw[hW];simp[go_sem]
    have HRW:=tH (HR.out.ext hE)
    have hbl:w.heap.size+X.n+Y.n∉blkL (.slice av l.length cv):=fun hb=>by
     have:=(HR.out.blk _ hb).2
     simp at this;omega
    have HBL:=tH hbl
    have HEW:=tH hE
    have HC0:=tH hc0
    have HC1:=tH hc1
    have HSZ:=tH (show w.heap.size≤W.heap.size by have:=hE.below.size;simp at this;omega)
    clear hE hbl hc0 hc1 hW HG
    (refine wp_region_z (blkL (.slice av l.length cv)) [XReg.ZOp.A (fun _ u _=>u=(.slice av l.length cv)) [] (blkL (.slice av l.length cv)) (blkL (.slice av l.length cv)),.V (.pointer (some ⟨w.heap.size+X.n+Y.n,0,none⟩)),XReg.ZOp.A (fun _ u _=>u=(.int .i64 gn)) [] (blkL (.slice av l.length cv)) (blkL (.slice av l.length cv)),.A (kOneI W.heap.size gn) [] (blkL (.slice av l.length cv)) (blkL (.slice av l.length cv)),.A (kRowI w.heap.size (l++[gn])) (blkL (.slice av l.length cv)) [] [],.V (.pointer (some ⟨w.heap.size+X.n+Y.n,1,none⟩)),XReg.ZOp.A (fun _ u _=>u=(.int .i64 ga)) [] (blkL (.slice av l.length cv)) (blkL (.slice av l.length cv)),.A (kRowI w.heap.size (l++[gn])) [] (blkL (.slice av l.length cv)) [],XReg.ZOp.A (fun _ u _=>u=(.int .i64 ga)) [] (blkL (.slice av l.length cv)) (blkL (.slice av l.length cv))] [] (by kernel_rfl) (by kernel_rfl) (by kernel_rfl) (by kernel_rfl) rfl ?_ (by repeat' (first | exact trivial | exact XReg.ZOp.good_is _ _ _ _ | exact XReg.ZOp.good_v _ | exact XReg.ZOp.good_t | (first | exact kOneI_good _ _ (fun b hb=>(HRW.out.blk b hb).2) | exact kRowI_good _ (by unfold maxLen;simp;omega)) | refine And.intro ?_ ?_)) (by repeat' (first | exact trivial | exact XReg.subL_nil _ | exact XReg.subL_refl _ | exact Or.inr (XReg.subL_nil _) | exact Or.inr (XReg.subL_refl _) | exact Or.inl (by kernel_rfl) | refine And.intro ?_ ?_)))
    apply ZReg.setU (.slice av l.length cv)
    case h =>
     intro w' hw' hF'
     clear hw' hF'
     go_wp2
     exact⟨rfl,xE⟩
    case hv=>kernel_rfl
    intro _
    (apply ZReg.val (.pointer (some ⟨w.heap.size+X.n+Y.n,0,none⟩));(case h=>(intro w';go_wp2_with (fail);first | exact⟨rfl,rfl⟩ | exact rfl));(case hv=>kernel_rfl))
    apply ZReg.setU (.int .i64 gn)
    case h =>
     intro w' hw' hF'
     have g0:=chg_cell hw' HC0.out HBL.out
     have g1:=World.old_of_cell g0
     clear hw' hF'
     go_wp2
     exact⟨rfl,xE⟩
    case hv=>kernel_rfl
    intro _
    refine ZReg.kind (fun w' hw' hF'=>?_) (fun v1 w1 x1 hK=>?_)
    ·have hsz:=hw'.size
     clear hw' hF'
     go_wp2
     exact⟨(Ext.chg xE _),w'.heap.size,rfl,by simp[go_sem],hsz⟩
    obtain⟨g1,rfl,q1,q2⟩:=hK
    clear q1 q2 w1
    refine ZReg.kind (fun w' hw' hF'=>?_) (fun v2 w1 x2 hK=>?_)
    ·have HE':=tH hw'.ext0
     have HF':=tH hF'
     clear hF'
     have hk:kOneI W.heap.size gn x1 (.slice (some ⟨g1,0,none⟩) 1 1) w':=HF'.out.get 3 (p:=(kOneI W.heap.size gn x1,.slice (some ⟨g1,0,none⟩) 1 1)) (by kernel_rfl) (by kernel_rfl)
     have HK:=tH (kOneI_cell hk)
     have hs2:=tH (Nat.le_trans HSZ.out hw'.size)
     clear hk hw'
     go_wp2_with (at_builtin;go_must (refine Row.appC (f:=intCell) el_Int rfl _ _ rfl w.heap.size hs2.out _ l rfl (HRW.out.ext HE'.out) ⟨g1,0,none⟩ 1 1 [gn] rfl rfl (fun _=>rfl) ?_ ?_ ?_ ?_ ?_);(intro j u hj;exact flat1 HK.out hj);(intro u hu;simp[intCell] at hu;subst hu;rfl);(unfold maxLen;simp;omega);(simp;omega);intro v' w2 hR hC;have HR2:=tH hR;have HC2:=tH hC;clear hR hC)
     obtain⟨a9,c9,rfl⟩:=HR2.out.shape
     go_wp2
     exact⟨HC2.out,HR2.out⟩
    have HV2:Hid (∃ a c,v2=.slice a (l.length+1) c):=tH (by have h:=Row.shape hK;simpa using h)
    obtain⟨a2,c2,rfl⟩:=HV2.out
    clear hK w1 HV2
    (apply ZReg.val (.pointer (some ⟨w.heap.size+X.n+Y.n,1,none⟩));(case h=>(intro w';go_wp2_with (fail);first | exact⟨rfl,rfl⟩ | exact rfl));(case hv=>kernel_rfl))
    apply ZReg.setU (.int .i64 ga)
    case h =>
     intro w' hw' hF'
     have g0:=chg_cell hw' HC1.out HBL.out
     have g1:=World.old_of_cell g0
     clear hw' hF'
     go_wp2
     exact⟨rfl,xE⟩
    case hv=>kernel_rfl
    intro _
    refine ZReg.kind (fun w' hw' hF'=>?_) (fun v3 w1 x3 hK=>?_)
    ·have hk:kRowI w.heap.size (l++[gn]) x2 (.slice a2 (l.length+1) c2) w':=hF'.get 4 (p:=(kRowI w.heap.size (l++[gn]) x2,.slice a2 (l.length+1) c2)) (by kernel_rfl) (by kernel_rfl)
     have HK:=tH hk
     clear hF' hk hw'
     go_wp2
     exact⟨Chg.refl _ _,HK.out⟩
    have HV3:Hid (∃ a c,v3=.slice a (l.length+1) c):=tH (by have h:=Row.shape hK;simpa using h)
    obtain⟨a3,c3,rfl⟩:=HV3.out
    clear hK w1 HV3
    apply ZReg.setU (.int .i64 ga)
    case h =>
     intro w' hw' hF'
     clear hw' hF'
     go_wp2
     exact⟨rfl,xE⟩
    case hv=>kernel_rfl
    intro _
    refine ZReg.done (fun w2 hw2 hF hR=>ZReg.end_ ?_)
    have HK3:Hid (Row w.heap.size w2 2 1 intCell (.slice a3 (l.length+1) c3) (l++[gn])):=tH (hF 7 (kRowI w.heap.size (l++[gn]) x3,.slice a3 (l.length+1) c3) (by kernel_rfl))
    have HE2:Ext w w2:=hw2.ext ((Ext.refl w).plus X |>.trans HEW.out) (fun b hb=>(HR.out.blk b hb).1)
    clear hF hR hw2 HEW HC0 HC1 HBL HRW HSZ
    obtain⟨Z2,rfl⟩:=HE2
    go_wp2
    exact⟨⟨k+1,l++[gn],ga,by omega,by go_num,rfl,xE,HY,HK3⟩,by simp[intOf];omega⟩
   ·have HZ:=tH (numsN_no HN.out hc)
    generalize getNum s a=G at HG hc
    obtain⟨gn,ga,gc⟩:=G
    simp only[numV'] at HG
    simp only at hc
    have hb:(gc != 0)=true:=by simpa using hc
    go_wp2_with fail
    refine(HG.out _).mono ?_
    rintro e _ ⟨rfl,Y,rfl⟩
    go_wp2
    refine bodyPost_ret (v:=.tuple #[.slice none 0 0,(.int .i64 0),.bool false]) (by simp[results,Tryz.results86,go_sem]) rfl ⟨xE,.inl ⟨?_,rfl⟩⟩
    have:=HZ.out (6-(k+1))
    rwa [show k+1+(6-(k+1))=6 from by omega] at this
  ·obtain rfl:k=6:=by omega
   go_wp2
   exact bodyPost_ret (v:=.tuple #[.slice av l.length cv,(.int .i64 a),.bool true]) (by simp[results,Tryz.results86,go_sem]) rfl ⟨xE,.inr ⟨l,a,_,HN.out,rfl,HR.out⟩⟩
end Go.Proofs.YtdoeoojjabnboaaGreat
