/- The desk's model: what a line that is right looks like; pools stay right. -/
import Derived.Test.YtbmbanelodabgaaGreatDoorKMS7
import Derived.Test.YtbmbanelodabgaaGreatDoorKVBC
import Derived.Test.YtbmbanelodabgaaGreatDoorKZZ1
set_option maxRecDepth 100000
set_option linter.unusedVariables false
set_option linter.unusedSimpArgs false
namespace Go.Proofs.YtbmbanelodabgaaGreatDoor
open Go.RowKit Go.Fin1
theorem ordK_ok (k:Nat) (h:k < 32):labR (ordK k)=true:=by
 have:∀ k < 32,labR (ordK k)=true:=by decide +kernel
 exact this k h
theorem rdL_labR (s:ByteArray):labR (rdL s).1=true:=by
 by_cases h8:8000 < s.size
 ·rw[rdL_big h8];decide
 ·cases e:(List.range 32).find? (rdK s) with
  | none =>
   have:rdL s=(⟨0,0⟩,3):=by unfold rdL;rw[if_neg h8,e]
   rw[this];decide
  | some k =>
   have hr:rdL s=(ordK k,0):=by unfold rdL;rw[if_neg h8,e]
   rw[hr]
   exact ordK_ok k (List.mem_range.1 (List.mem_of_find?_eq_some e))
theorem rdB_ok (t:Bs):(rdB t).1.ok:=by
 have h:=rdL_labR ⟨t.toArray⟩
 unfold labR isIn at h
 simp at h
 have e:rdB t=rdL ⟨t.toArray⟩:=rfl
 unfold Lab.ok I64
 rw[e]
 omega
theorem subR_nowM {p:Pl} {x:Lab} {n l q:Int} (h:(subR p x n l q).2.2=0):(subR p x n l q).1.now=p.now:=by
 unfold subR at h ⊢
 split
 ·rename_i h1;rw[if_pos h1] at h;cases h
 ·rename_i h1
  rw[if_neg h1] at h
  split
  ·rename_i h2;rw[if_pos h2] at h;cases h
  ·rename_i h2
   rw[if_neg h2] at h
   split
   ·rename_i h3;rw[if_pos h3] at h;cases h
   ·rfl
theorem chR_nowM {p:Pl} {x:Lab} {n l:Int} (h:(chR p x n l).2.2=0):(chR p x n l).1.now=p.now:=by
 unfold chR at h ⊢
 split
 ·rename_i h1;rw[if_pos h1] at h;cases h
 ·rename_i h1
  rw[if_neg h1] at h
  split
  ·rename_i h2;rw[if_pos h2] at h;cases h
  ·rename_i h2
   rw[if_neg h2] at h
   split
   ·rename_i h3;rw[if_pos h3] at h;cases h
   ·rfl
theorem resT_right {p:Pl} {Y:Pl×Int×Int} (t:Bs) (hR:poolR p=true) (h:Y.2.2=0→poolR Y.1=true∧Y.1.now=p.now):poolR (resT p Y t).1=true∧(resT p Y t).1.now=p.now:=by
 unfold resT
 split
 ·rename_i e;exact h e
 ·exact⟨hR,rfl⟩
theorem ok_cases {ws:List Bs} (h:okW ws=true) (hn:ws≠[]) :
  (∃ a b c d,ws=[kSubmit,a,b,c,d]∧(rdB a).2=0∧0≤numW b∧0≤numW c∧0≤numW d)∨(∃ k a b,(k=kDone∨k=kHold∨k=kWait)∧ws=[k,a,b]∧(rdB a).2=0∧0≤numW b)∨(∃ a,ws=[kTick,a]∧0≤numW a∧numW a≤30)∨(∃ k a,(k=kSee∨k=kPlan)∧ws=[k,a]∧(rdB a).2=0):=by
 cases ws with
 | nil=>exact absurd rfl hn
 | cons k r =>
  unfold okW at h
  rw[show (k :: r).getD 0 []=k from rfl,Bool.and_eq_true] at h
  obtain⟨h1,h2⟩:=h
  have h1:=of_decide_eq_true h1
  unfold manyW at h1
  rw[List.length_cons] at h1
  by_cases e1:k=kSubmit
  ·rw[if_pos e1] at h1
   match r,h1,h2 with
   | [a,b,c,d],_,h2 =>
    rw[if_neg (by rw[e1];unfold kSubmit kTick;decide)] at h2
    simp at h2
    exact .inl ⟨a,b,c,d,by rw[e1],h2.2,h2.1.1,h2.1.2.1,h2.1.2.2⟩
  rw[if_neg e1] at h1
  by_cases e2:k=kDone∨k=kHold∨k=kWait
  ·rw[if_pos e2] at h1
   match r,h1,h2 with
   | [a,b],_,h2 =>
    rw[if_neg (by rcases e2 with rfl | rfl | rfl<;>(unfold kTick;first | (unfold kDone;decide) | (unfold kHold;decide) | (unfold kWait;decide)))] at h2
    simp at h2
    exact .inr (.inl ⟨k,a,b,e2,rfl,h2.2,h2.1⟩)
  rw[if_neg e2] at h1
  by_cases e3:k=kTick
  ·rw[if_pos (.inl e3)] at h1
   match r,h1,h2 with
   | [a],_,h2 =>
    rw[if_pos e3] at h2
    simp at h2
    exact .inr (.inr (.inl ⟨a,by rw[e3],h2.1,h2.2⟩))
  by_cases e4:k=kSee∨k=kPlan
  ·rw[if_pos (.inr e4)] at h1
   match r,h1,h2 with
   | [a],_,h2 =>
    rw[if_neg e3] at h2
    simp at h2
    exact .inr (.inr (.inr ⟨k,a,e4,rfl,h2⟩))
  rw[if_neg (by rintro (h | h);exact e3 h;exact e4 h)] at h1
  cases h1
theorem runW_submit (p:Pl) (a b c d:Bs):runW p [kSubmit,a,b,c,d]=resT p (subR p (rdB a).1 (numW b) (numW c) (numW d)) (Lib.itoa (subR p (rdB a).1 (numW b) (numW c) (numW d)).2.1):=by
 unfold runW
 show (if kSubmit=kSee then _ else if kSubmit=kPlan then _ else if kSubmit=kSubmit then _ else _)=_
 rw[if_neg (by unfold kSubmit kSee;decide),if_neg (by unfold kSubmit kPlan;decide),if_pos rfl]
 rfl
def stW (k:Bs):Int:=if k=kDone then 3 else if k=kHold then 4 else 1
theorem runW_ch (p:Pl) {k:Bs} (a b:Bs) (h:k=kDone∨k=kHold∨k=kWait):runW p [k,a,b]=resT p (chR p (rdB a).1 (numW b) (stW k)) okT:=by
 unfold runW
 show (if k=kSee then _ else if k=kPlan then _ else if k=kSubmit then _ else if k=kTick then _ else _)=_
 rw[if_neg (by rcases h with rfl | rfl | rfl<;>(unfold kSee;first | (unfold kDone;decide) | (unfold kHold;decide) | (unfold kWait;decide))),if_neg (by rcases h with rfl | rfl | rfl<;>(unfold kPlan;first | (unfold kDone;decide) | (unfold kHold;decide) | (unfold kWait;decide))),if_neg (by rcases h with rfl | rfl | rfl<;>(unfold kSubmit;first | (unfold kDone;decide) | (unfold kHold;decide) | (unfold kWait;decide))),if_neg (by rcases h with rfl | rfl | rfl<;>(unfold kTick;first | (unfold kDone;decide) | (unfold kHold;decide) | (unfold kWait;decide)))]
 rfl
theorem runW_tick (p:Pl) (a:Bs):runW p [kTick,a]=(tickN (numW a).toNat p,nowT (tickN (numW a).toNat p)):=by
 unfold runW
 show (if kTick=kSee then _ else if kTick=kPlan then _ else if kTick=kSubmit then _ else if kTick=kTick then _ else _)=_
 rw[if_neg (by unfold kTick kSee;decide),if_neg (by unfold kTick kPlan;decide),if_neg (by unfold kTick kSubmit;decide),if_pos rfl]
 rfl
theorem runW_see (p:Pl) (a:Bs):runW p [kSee,a]=(p,seeT p (rdB a).1):=by
 unfold runW
 show (if kSee=kSee then _ else _)=_
 rw[if_pos rfl]
 rfl
theorem runW_plan (p:Pl) (a:Bs):runW p [kPlan,a]=(p,planT p (rdB a).1):=by
 unfold runW
 show (if kPlan=kSee then _ else if kPlan=kPlan then _ else _)=_
 rw[if_neg (by unfold kPlan kSee;decide),if_pos rfl]
 rfl
theorem runW_right {p:Pl} {ws:List Bs} (hR:poolR p=true) (hp:p.now≤90000) (h:okW ws=true) (hn:ws≠[]):poolR (runW p ws).1=true∧(runW p ws).1.now≤p.now+30:=by
 rcases ok_cases h hn with ⟨a,b,c,d,rfl,-⟩ | ⟨k,a,b,hk,rfl,-⟩ | ⟨a,rfl,h1,h2⟩ | ⟨k,a,rfl | rfl,rfl,-⟩
 ·rw[runW_submit]
  have h1:=resT_right (p:=p) (Y:=subR p (rdB a).1 (numW b) (numW c) (numW d)) (Lib.itoa (subR p (rdB a).1 (numW b) (numW c) (numW d)).2.1) hR (fun h=>⟨(subR_right h).2,subR_nowM h⟩)
  exact⟨h1.1,by omega⟩
 ·rw[runW_ch p a b hk]
  have h1:=resT_right (p:=p) (Y:=chR p (rdB a).1 (numW b) (stW k)) okT hR (fun h=>⟨(chR_right h).2,chR_nowM h⟩)
  exact⟨h1.1,by omega⟩
 ·rw[runW_tick]
  have h3:=tickN_now (p:=p) (n:=(numW a).toNat) hR (by omega)
  refine⟨h3.1,?_⟩
  show (tickN (numW a).toNat p).now≤_
  rw[h3.2];omega
 ·rw[runW_see];exact⟨hR,by show p.now≤_;omega⟩
 ·rw[runW_plan];exact⟨hR,by show p.now≤_;omega⟩
set_option maxHeartbeats 1600000 in
theorem line_any (b:Nat) (p:Pl) (ws:List Bs) (wd:ByteArray) (x:Lab) (na:Option Addr) (nc:Nat) (nums:List Int) (w:World) (hD:DeskW w b p) (hR:poolR p=true) (hp:p.now≤90000) (hok:okW ws=true) (hne:ws≠[]) (hwd:dl wd=ws.getD 0 []) (hx:x=labW ws) (hn:nums=numsW ws) (hS:SlR w 1 rInt (.slice na nums.length nc) nums) :
  Calls Tryz.prog 18 #[.pointer (some ⟨b,0,none⟩),.agg #[.string wd,(.int .i64 x.lv),(.int .i64 x.st),.slice na nums.length nc]] w fun e w'=>∃ z,e=.returned (.string z)∧z.size≤10000∧dl z=(runW p ws).2∧Chg [b] w w'∧DeskW w' b (runW p ws).1:=by
 have hwd:=ba_of hwd
 subst hwd hx hn
 rcases ok_cases hok hne with ⟨a,b',c,d,rfl,h1,h2,h3,h4⟩ | ⟨k,a,b',hk,rfl,h1,h2⟩ | ⟨a,rfl,h1,h2⟩ | ⟨k,a,rfl | rfl,rfl,h1⟩
 ·have e1:labW [kSubmit,a,b',c,d]=(rdB a).1:=by unfold labW;rw[if_neg (by show ¬ kSubmit=kTick;unfold kSubmit kTick;decide)];rfl
  have e2:numsW [kSubmit,a,b',c,d]=[numW b',numW c,numW d]:=by unfold numsW;rw[if_neg (by show ¬ kSubmit=kTick;unfold kSubmit kTick;decide)];rfl
  rw[e2] at hS ⊢
  rw[e1,runW_submit]
  refine(line_submit b p (rdB a).1 _ _ _ na nc w hD hR (rdB_ok a) hS).mono ?_
  rintro e w' ⟨z,rfl,hz,hd,hc,hD'⟩
  exact⟨z,rfl,by omega,hd,hc,hD'⟩
 ·have hkt:¬ k=kTick:=by rcases hk with rfl | rfl | rfl<;>(unfold kTick;first | (unfold kDone;decide) | (unfold kHold;decide) | (unfold kWait;decide))
  have e1:labW [k,a,b']=(rdB a).1:=by unfold labW;rw[if_neg (by exact hkt)];rfl
  have e2:numsW [k,a,b']=[numW b']:=by unfold numsW;rw[if_neg (by exact hkt)];rfl
  rw[e2] at hS ⊢
  rw[e1,runW_ch p a b' hk]
  rcases hk with rfl | rfl | rfl
  ·rw[show stW kDone=3 by unfold stW;rw[if_pos rfl]]
   refine(line_done b p (rdB a).1 _ na nc w hD hR (rdB_ok a) hS).mono ?_
   rintro e w' ⟨z,rfl,hz,hd,hc,hD'⟩
   exact⟨z,rfl,by omega,hd,hc,hD'⟩
  ·rw[show stW kHold=4 by unfold stW;rw[if_neg (by unfold kHold kDone;decide),if_pos rfl]]
   refine(line_hold b p (rdB a).1 _ na nc w hD hR (rdB_ok a) hS).mono ?_
   rintro e w' ⟨z,rfl,hz,hd,hc,hD'⟩
   exact⟨z,rfl,by omega,hd,hc,hD'⟩
  ·rw[show stW kWait=1 by unfold stW;rw[if_neg (by unfold kWait kDone;decide),if_neg (by unfold kWait kHold;decide)]]
   refine(line_wait b p (rdB a).1 _ na nc w hD hR (rdB_ok a) hS).mono ?_
   rintro e w' ⟨z,rfl,hz,hd,hc,hD'⟩
   exact⟨z,rfl,by omega,hd,hc,hD'⟩
 ·have e2:numsW [kTick,a]=[numW a]:=by unfold numsW;show (if kTick=kTick then _ else _)=_;rw[if_pos rfl];rfl
  rw[e2] at hS ⊢
  rw[runW_tick]
  obtain⟨n,hn⟩:=Int.eq_ofNat_of_zero_le h1
  rw[hn] at hS ⊢
  exact line_tick b p _ n na nc w hD hR hS (by omega)
 ·have e1:labW [kSee,a]=(rdB a).1:=by unfold labW;rw[if_neg (by show ¬ kSee=kTick;unfold kSee kTick;decide)];rfl
  rw[e1,runW_see]
  exact line_see b p _ na _ nc w hD hR
 ·have e1:labW [kPlan,a]=(rdB a).1:=by unfold labW;rw[if_neg (by show ¬ kPlan=kTick;unfold kPlan kTick;decide)];rfl
  rw[e1,runW_plan]
  exact line_plan b p _ na _ nc w hD hR
end Go.Proofs.YtbmbanelodabgaaGreatDoor
set_option maxRecDepth 100000
set_option linter.unusedVariables false
namespace Go.Proofs.YtbmbanelodabgaaGreatDoor
open Go.RowKit Go.Fin1
theorem slr_labB {W:World} {b n:Nat} {ty:Nat} {ls:List Lab} (h:Blk W b (ls.flatMap Lab.cells) ty) (hn:n=ls.length) (hok:∀ x∈ls,x.ok) (hm:ls.length≤maxLen):SlR W 2 rLab (.slice (some ⟨b,0,none⟩) n n) ls:=by
 subst hn
 refine⟨_,ls.length,rfl,Nat.le_refl _,hm,fun i hi=>⟨b,0,ls[i].cells,rfl,rfl,fun j u hu=>?_,rfl,hok _ (List.getElem_mem hi)⟩⟩
 have hj:j < 2:=(List.getElem?_eq_some_iff.1 hu).1
 have hl:((ls.flatMap Lab.cells).drop (i*2)).take 2=ls[i].cells:=by
  have key:∀ (l:List Lab) (i:Nat) (hi:i < l.length),((l.flatMap Lab.cells).drop (i*2)).take 2=l[i].cells:=by
   intro l
   induction l with
   | nil=>intro i hi;cases hi
   | cons a l ih =>
    intro i hi
    cases i with
    | zero=>rw[List.flatMap_cons];rfl
    | succ i =>
     have:=ih i (by simpa using hi)
     rw[List.flatMap_cons,List.getElem_cons_succ,← this,Nat.add_mul,Nat.one_mul,Nat.add_comm (i*2) 2,← List.drop_drop]
     rfl
  exact key ls i hi
 rw[h.cell,Nat.zero_add]
 rw[← hl,List.getElem?_take,if_pos hj,List.getElem?_drop] at hu
 exact hu
theorem slr_valB {α:Type} {W:World} {b n:Nat} {ty:Nat} {vs:List Value} {r:World→List Value→α→Prop} {xs:List α} (h:Blk W b vs ty) (hn:n=xs.length) (hl:vs.length=xs.length) (hm:xs.length≤maxLen) (hr:∀ (i:Nat) (h1:i < vs.length) (h2:i < xs.length),r W [vs[i]] xs[i]):SlR W 1 r (.slice (some ⟨b,0,none⟩) n n) xs:=by
 subst hn
 refine⟨_,xs.length,rfl,Nat.le_refl _,hm,fun i hi=>⟨b,0,[vs[i]'(by omega)],rfl,rfl,fun j u hu=>?_,hr i (by omega) hi⟩⟩
 have hj:j=0:=by
  have:=(List.getElem?_eq_some_iff.1 hu).1
  simp at this;omega
 subst hj
 rw[h.cell,Nat.zero_add,Nat.mul_one,Nat.add_zero,List.getElem?_eq_getElem (by omega)]
 simpa using hu
end Go.Proofs.YtbmbanelodabgaaGreatDoor
