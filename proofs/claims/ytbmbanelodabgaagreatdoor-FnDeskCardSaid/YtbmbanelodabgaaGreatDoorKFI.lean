/- Plain maths of the desk: numbers of at most nine digits. -/
import Derived.Lib.ItoaMem
import Derived.Lib.ParseIntBCases
import Derived.Test.YtbmbanelodabgaaGreatDoorKBA
import Derived.Lib.SplitLaws
import Derived.Lib.Split
import Derived.Lib.IndexMore
import Derived.Shelf.Strconv.Itoa4
import Derived.Test.YtbmbanelodabgaaGreatDoorProg
set_option maxRecDepth 100000
set_option linter.unusedVariables false
namespace Go.Proofs.YtbmbanelodabgaaGreatDoor
open Go.RowKit Go.Fin1
def numGo (n:Nat):List UInt8→Option Nat
 | []=>some n
 | b :: r=>if 48≤b.toNat∧b.toNat≤57 then numGo (10*n+(b.toNat-48)) r else none
@[irreducible] def numW (t:List UInt8):Int:=if t.length < 1∨9 < t.length∨(1 < t.length∧t.head?=some 48) then -1 else match numGo 0 t with | some n=>(n:Int) | none=>-1
theorem numGo_ge:∀ (l:List UInt8) (a n:Nat),numGo a l=some n→a≤n
 | [],a,n,h=>by simp[numGo] at h;omega
 | b :: r,a,n,h=>by
  unfold numGo at h
  split at h
  ·have:=numGo_ge r _ n h;omega
  ·cases h
theorem numGo_lt:∀ (l:List UInt8) (a n:Nat),numGo a l=some n→n < (a+1)*10 ^ l.length
 | [],a,n,h=>by simp[numGo] at h;subst h;simp
 | b :: r,a,n,h=>by
  unfold numGo at h
  split at h
  ·rename_i hd
   have h1:=numGo_lt r _ n h
   have h2:(10*a+(b.toNat-48)+1)*10 ^ r.length≤(10*(a+1))*10 ^ r.length:=Nat.mul_le_mul_right _ (by omega)
   rw[List.length_cons,Nat.pow_succ]
   have h3:(a+1)*(10 ^ r.length*10)=(10*(a+1))*10 ^ r.length:=by rw[Nat.mul_comm (10 ^ r.length) 10,← Nat.mul_assoc,Nat.mul_comm (a+1) 10]
   omega
  ·cases h
theorem numGo_app:∀ (l:List UInt8) (a:Nat) (b:UInt8),numGo a (l++[b])=(numGo a l).bind fun n=>numGo n [b]
 | [],a,b=>rfl
 | c :: r,a,b=>by
  rw[List.cons_append]
  unfold numGo
  split
  ·exact numGo_app r _ b
  ·rfl
theorem numGo_parse:∀ (l:List UInt8) (a n:Nat),numGo a l=some n→n < 1000000000000000000→Lib.parseUintM 18446744073709551615 a l=.ok n
 | [],a,n,h,_=>by simp[numGo] at h;subst h;rfl
 | b :: r,a,n,h,hn=>by
  unfold numGo at h
  split at h
  ·rename_i hd
   have h1:=numGo_ge r _ n h
   unfold Lib.parseUintM
   rw[if_pos hd,if_neg (by omega),if_neg (by omega),show a*10+(b.toNat-48)=10*a+(b.toNat-48) by omega]
   exact numGo_parse r _ n h hn
  ·cases h
theorem ofNat_dig {d:Nat} (h:d < 10):(UInt8.ofNat (48+d)).toNat=48+d:=by
 rw[UInt8.toNat_ofNat'];omega
theorem numGo_one {n d:Nat} (h:d < 10):numGo n [UInt8.ofNat (48+d)]=some (10*n+d):=by
 unfold numGo
 rw[ofNat_dig h,if_pos (by omega)]
 unfold numGo
 congr 1;omega
theorem numGo_dec (u:Nat):numGo 0 (Lib.decDigits u)=some u:=by
 induction u using Nat.strongRecOn with
 | _ u ih =>
  by_cases h:u < 10
  ·rw[Lib.decDigits_one h,numGo_one h];simp
  ·rw[Lib.decDigits,dif_neg h,numGo_app,ih (u / 10) (by omega)]
   show numGo (u / 10) [UInt8.ofNat (48+u % 10)]=some u
   rw[numGo_one (by omega)]
   congr 1;omega
theorem dec_head (u:Nat) (h:¬ u < 10):(Lib.decDigits u).head?≠some 48:=by
 induction u using Nat.strongRecOn with
 | _ u ih =>
  rw[Lib.decDigits,dif_neg h]
  by_cases h2:u / 10 < 10
  ·rw[Lib.decDigits_one h2]
   simp only[List.cons_append,List.head?_cons]
   intro e
   have:=congrArg UInt8.toNat (Option.some.inj e)
   rw[ofNat_dig h2] at this
   have h3:(48:UInt8).toNat=48:=rfl
   omega
  ·have:=ih (u / 10) (by omega) h2
   cases hd:Lib.decDigits (u / 10) with
   | nil =>
    have h4:=Lib.decDigits_length (u / 10)
    have h5:=Lib.nDigits_pos (u / 10)
    rw[hd] at h4;simp at h4;omega
   | cons x y=>rw[hd] at this;simpa using this
theorem dec_len (u:Nat):1≤(Lib.decDigits u).length:=by rw[Lib.decDigits_length];exact Lib.nDigits_pos u
theorem dec_of_numGo:∀ (k:Nat) (l:List UInt8) (n:Nat),l.length=k+1→¬ (1 < l.length∧l.head?=some 48)→numGo 0 l=some n→Lib.decDigits n=l
 | 0,l,n,hl,h0,h=>by
  obtain⟨b,rfl⟩:=List.length_eq_one_iff.1 hl
  unfold numGo at h
  split at h
  ·rename_i hd
   unfold numGo at h
   have hn:n=b.toNat-48:=by have:=Option.some.inj h;omega
   rw[Lib.decDigits_one (by omega),hn,show 48+(b.toNat-48)=b.toNat by omega,UInt8.ofNat_toNat]
  ·cases h
 | k+1,l,n,hl,h0,h=>by
  have hne:l≠[]:=by intro e;rw[e] at hl;simp at hl
  obtain⟨m,b,rfl⟩:∃ m b,l=m++[b]:=⟨l.dropLast,l.getLast hne,(List.dropLast_concat_getLast hne).symm⟩
  have hm:m.length=k+1:=by simpa using hl
  have hm0:m≠[]:=by intro e;rw[e] at hm;simp at hm
  rw[numGo_app] at h
  cases hq:numGo 0 m with
  | none=>rw[hq] at h;cases h
  | some a =>
   rw[hq] at h
   change numGo a [b]=some n at h
   unfold numGo at h
   split at h
   ·rename_i hd
    unfold numGo at h
    have hn:n=10*a+(b.toNat-48):=by have:=Option.some.inj h;omega
    have hh:m.head?≠some 48:=by
     intro e
     apply h0
     refine⟨by simp;omega,?_⟩
     cases m with
     | nil=>exact absurd rfl hm0
     | cons x y=>simpa using e
    have ih:=dec_of_numGo k m a hm (fun e=>hh e.2) hq
    have ha:1≤a:=by
     by_cases e:a=0
     ·subst e
      exfalso
      rw[Lib.decDigits_one (by omega)] at ih
      rw[← ih] at hh
      exact hh rfl
     ·omega
    rw[Lib.decDigits,dif_neg (by omega),show n / 10=a by omega,show n % 10=b.toNat-48 by omega,ih,show 48+(b.toNat-48)=b.toNat by omega,UInt8.ofNat_toNat]
   ·cases h
theorem numW_yes {t:List UInt8} (h:0≤numW t):∃ n:Nat,numW t=n∧numGo 0 t=some n∧(1≤t.length∧t.length≤9)∧¬ (1 < t.length∧t.head?=some 48)∧n < 1000000000:=by
 unfold numW at h ⊢
 split at h
 ·omega
 ·rename_i hc
  rw[if_neg hc]
  cases hq:numGo 0 t with
  | none=>rw[hq] at h;simp at h
  | some n =>
   have hlt:=numGo_lt t 0 n hq
   have h9:t.length≤9:=by omega
   have:10 ^ t.length≤10 ^ 9:=Nat.pow_le_pow_right (by decide) h9
   have e9:(10:Nat) ^ 9=1000000000:=by decide
   exact⟨n,rfl,rfl,⟨by omega,h9⟩,fun e=>hc (.inr (.inr e)),by omega⟩
theorem numW_of {t:List UInt8} {n:Nat} (h:numGo 0 t=some n) (hl:1≤t.length∧t.length≤9) (h0:¬ (1 < t.length∧t.head?=some 48)):numW t=n:=by
 unfold numW
 rw[if_neg (fun e=>by
  rcases e with e | e | e
  ·omega
  ·omega
  ·exact h0 e),h]
theorem parse_of_numW {t:List UInt8} (h:0≤numW t):Lib.parseIntB 64 t=.ok (numW t)∧t.length≤9∧Lib.itoa (numW t)=t:=by
 obtain⟨n,e,hg,hl,h0,hn⟩:=numW_yes h
 rw[e]
 refine⟨?_,hl.2,?_⟩
 ·cases t with
  | nil=>simp at hl
  | cons c r =>
   have hd:48≤c.toNat∧c.toNat≤57:=by
    unfold numGo at hg
    split at hg
    ·assumption
    ·cases hg
   rw[Lib.parseIntB_plain 64 c r (by omega) (by omega)]
   have hu:Lib.parseUintB 64 (c :: r)=.ok n:=by
    unfold Lib.parseUintB
    rw[if_neg (by simp),show 2 ^ 64-1=18446744073709551615 by decide]
    exact numGo_parse _ 0 n hg (by omega)
   rw[hu]
   unfold Lib.signlessC
   simp only
   rw[if_neg (by omega)]
 ·rw[Lib.itoa_nonneg]
  exact dec_of_numGo (t.length-1) t n (by omega) h0 hg
theorem numW_of_parse {t:List UInt8} {v:Int} (h0:0≤v) (hl:t.length≤9) (h:Lib.itoa v=t):numW t=v:=by
 obtain⟨n,rfl⟩:=Int.eq_ofNat_of_zero_le h0
 rw[Lib.itoa_nonneg] at h
 subst h
 refine numW_of (numGo_dec n) ⟨dec_len n,hl⟩ (fun e=>?_)
 by_cases h9:n < 10
 ·rw[Lib.decDigits_one h9] at e;simp at e
 ·exact dec_head n h9 e.2
end Go.Proofs.YtbmbanelodabgaaGreatDoor
set_option maxRecDepth 100000
set_option linter.unusedVariables false
namespace Go.Proofs.YtbmbanelodabgaaGreatDoor
open Go.RowKit Go.Fin1
def splitL (c:UInt8):List UInt8→List (List UInt8)
 | []=>[[]]
 | b :: r=>if b=c then [] :: splitL c r else match splitL c r with
  | h :: t=>(b :: h) :: t
  | []=>[[b]]
theorem splitL_ne (c:UInt8):∀ s,∃ h t,splitL c s=h :: t
 | []=>⟨_,_,rfl⟩
 | b :: r=>by
  unfold splitL
  split
  ·exact⟨_,_,rfl⟩
  ·obtain⟨h,t,e⟩:=splitL_ne c r
   rw[e];exact⟨_,_,rfl⟩
theorem splitL_eq (c:UInt8) (r:List UInt8):splitL c (c :: r)=[] :: splitL c r:=by rw[splitL,if_pos rfl]
theorem splitL_cons {c b:UInt8} (hb:b≠c) {r h:List UInt8} {t:List (List UInt8)} (e:splitL c r=h :: t):splitL c (b :: r)=(b :: h) :: t:=by rw[splitL,if_neg hb,e]
theorem index_eq (c:UInt8) (l:List UInt8):Lib.index (c :: l) [c]=0:=by
 unfold Lib.index
 rw[if_pos (by simp)]
theorem index_ne {b c:UInt8} (h:b≠c) (l:List UInt8):Lib.index (b :: l) [c]=if Lib.index l [c] == -1 then -1 else Lib.index l [c]+1:=by
 rw[Lib.index,if_neg (by simp;exact fun e=>h e.symm)]
theorem nb {a:Int} (h:a≠-1):¬ ((a == -1)=true):=fun e=>h (beq_iff_eq.1 e)
theorem yb {a:Int} (h:a=-1):(a == -1)=true:=beq_iff_eq.2 h
theorem split_splitL (c:UInt8):∀ s,Lib.split s [c]=splitL c s
 | []=>rfl
 | b :: l=>by
  have ih:=split_splitL c l
  unfold Lib.split at ih ⊢
  by_cases hb:b=c
  ·subst hb
   rw[splitL_eq,Lib.count_cons_eq,Nat.add_comm 1]
   unfold Lib.splitK
   rw[index_eq,if_neg (by decide)]
   simp only[Int.toNat_zero,Nat.add_zero,List.take_zero,Nat.zero_add,List.length_singleton,List.drop_succ_cons,List.drop_zero]
   rw[ih]
  ·rw[Lib.count_cons_ne b c l hb]
   cases hk:Lib.count l [c] with
   | zero =>
    rw[hk] at ih
    change [l]=splitL c l at ih
    rw[splitL_cons hb ih.symm]
    rfl
   | succ k =>
    rw[hk] at ih
    have hi:Lib.index l [c]≠-1:=fun e=>by rw[Lib.count_miss e] at hk;cases hk
    have hge:=Lib.index_ge l [c]
    unfold Lib.splitK at ih ⊢
    rw[if_neg (nb hi)] at ih
    rw[index_ne hb,if_neg (nb hi),if_neg (nb (by omega)),splitL_cons hb ih.symm]
    obtain⟨i,e⟩:∃ i:Nat,Lib.index l [c]=i:=⟨(Lib.index l [c]).toNat,by omega⟩
    rw[e]
    have e1:((i:Int)+1).toNat=i+1:=by omega
    have e2:((i:Int)).toNat=i:=by omega
    rw[e1,e2]
    simp only[Nat.add_zero,List.take_succ_cons,List.length_singleton,List.drop_succ_cons]
theorem cut_yes {c:UInt8} {s:List UInt8} (h:(Lib.cut s [c]).2.2=true):splitL c s=(Lib.cut s [c]).1 :: splitL c (Lib.cut s [c]).2.1∧(Lib.cut s [c]).2.1.length < s.length:=by
 induction s with
 | nil=>simp[Lib.cut,Lib.index] at h
 | cons b l ih =>
  by_cases hb:b=c
  ·subst hb
   have e:Lib.cut (b :: l) [b]=([],l,true):=by unfold Lib.cut;rw[index_eq,if_pos (by decide)];rfl
   rw[e,splitL_eq]
   exact⟨rfl,by simp⟩
  ·have hge:=Lib.index_ge l [c]
   by_cases hi:Lib.index l [c]=-1
   ·exfalso
    unfold Lib.cut at h
    rw[index_ne hb,if_pos (yb hi),if_neg (by decide)] at h
    cases h
   ·obtain⟨i,e⟩:∃ i:Nat,Lib.index l [c]=i:=⟨(Lib.index l [c]).toNat,by omega⟩
    have c1:Lib.cut l [c]=(l.take i,l.drop (i+1),true):=by
     unfold Lib.cut;rw[e,if_pos (by omega)];simp
    have c2:Lib.cut (b :: l) [c]=(b :: l.take i,l.drop (i+1),true):=by
     unfold Lib.cut
     rw[index_ne hb,if_neg (nb hi),e,if_pos (by omega)]
     have:((i:Int)+1).toNat=i+1:=by omega
     rw[this];simp
    rw[c1] at ih
    obtain⟨i1,i2⟩:=ih rfl
    rw[c2,splitL_cons hb i1]
    exact⟨rfl,by simp at i2 ⊢;omega⟩
theorem cut_no {c:UInt8} {s:List UInt8} (h:(Lib.cut s [c]).2.2=false):splitL c s=[s]:=by
 induction s with
 | nil=>rfl
 | cons b l ih =>
  by_cases hb:b=c
  ·subst hb
   unfold Lib.cut at h
   rw[index_eq,if_pos (by decide)] at h
   cases h
  ·have hge:=Lib.index_ge l [c]
   by_cases hi:Lib.index l [c]=-1
   ·rw[splitL_cons hb (ih (by unfold Lib.cut;rw[hi];rfl))]
   ·exfalso
    unfold Lib.cut at h
    rw[index_ne hb,if_neg (nb hi),if_pos (by omega)] at h
    cases h
theorem splitL_none {c:UInt8}:∀ {s:List UInt8},(∀ b∈s,b≠c)→splitL c s=[s]
 | [],_=>rfl
 | b :: r,h=>splitL_cons (h b (by simp)) (splitL_none (s:=r) fun x hx=>h x (List.mem_cons_of_mem _ hx))
theorem splitL_pre {c:UInt8} {r:List UInt8}:∀ {a:List UInt8},(∀ b∈a,b≠c)→splitL c (a++c :: r)=a :: splitL c r
 | [],_=>splitL_eq c r
 | b :: a,h=>splitL_cons (h b (by simp)) (splitL_pre (a:=a) fun x hx=>h x (List.mem_cons_of_mem _ hx))
theorem splitL_len (c:UInt8) (s:List UInt8):(splitL c s).length=s.count c+1:=by
 induction s with
 | nil=>rfl
 | cons b l ih =>
  by_cases hb:b=c
  ·subst hb;rw[splitL_eq];simp[ih]
  ·obtain⟨h,t,e⟩:=splitL_ne c l
   rw[splitL_cons hb e,List.count_cons_of_ne hb,← ih,e];rfl
theorem splitL_sum (c:UInt8) (s:List UInt8):∀ t∈splitL c s,t.length≤s.length:=by
 induction s with
 | nil=>intro t ht;simp[splitL] at ht;subst ht;simp
 | cons b l ih =>
  by_cases hb:b=c
  ·subst hb
   rw[splitL_eq]
   intro t ht
   rcases List.mem_cons.1 ht with rfl | ht
   ·simp
   ·have:=ih t ht;simp;omega
  ·obtain⟨h,t,e⟩:=splitL_ne c l
   rw[splitL_cons hb e]
   rw[e] at ih
   intro x hx
   rcases List.mem_cons.1 hx with rfl | hx
   ·have:=ih h (by simp);simp;omega
   ·have:=ih x (List.mem_cons_of_mem _ hx);simp;omega
end Go.Proofs.YtbmbanelodabgaaGreatDoor
namespace Go.Proofs
open Go.Shelf
def Tryz.lfmt_ren:Go.Shelf.Ren:=⟨fun | 173=>81 | 246=>120 | 283=>157 | 284=>158 | 285=>159 | 286=>160 | 129=>189 | 317=>188 | 318=>190 | 319=>191 | 320=>192 | 337=>211 | 338=>212 | n=>n,fun | 2=>2 | 3=>3 | 9=>9 | 4=>4 | 171=>172 | 0=>0 | 53=>86 | 37=>27 | 5=>5 | 173=>175 | 212=>201 | 51=>177 | 20=>20 | 213=>202 | 46=>115 | 232=>235 | 233=>236 | n=>n,fun | 17=>3 | 18=>6 | 19=>7 | n=>n⟩
theorem Tryz.lfmt:Go.Proofs.Lays.n173 Tryz.prog Tryz.lfmt_ren:={
 mixed:=by kernel_rfl
 f129:=Tryz.func189.trans (congrArg some (by kernel_rfl))
 f173:=Tryz.func81.trans (congrArg some (by kernel_rfl))
 f246:=Tryz.func120.trans (congrArg some (by kernel_rfl))
 f283:=Tryz.func157.trans (congrArg some (by kernel_rfl))
 f284:=Tryz.func158.trans (congrArg some (by kernel_rfl))
 f285:=Tryz.func159.trans (congrArg some (by kernel_rfl))
 f286:=Tryz.func160.trans (congrArg some (by kernel_rfl))
 f317:=Tryz.func188.trans (congrArg some (by kernel_rfl))
 f318:=Tryz.func190.trans (congrArg some (by kernel_rfl))
 f319:=Tryz.func191.trans (congrArg some (by kernel_rfl))
 f320:=Tryz.func192.trans (congrArg some (by kernel_rfl))
 f337:=Tryz.func211.trans (congrArg some (by kernel_rfl))
 f338:=Tryz.func212.trans (congrArg some (by kernel_rfl))
 t0:=Tryz.underlying0
 a0:=Tryz.isAgg0
 z0:=Tryz.sizeOf0
 v0:=Tryz.zeroValue0
 t2:=Tryz.underlying2
 a2:=Tryz.isAgg2
 z2:=Tryz.sizeOf2
 v2:=Tryz.zeroValue2
 t3:=Tryz.underlying3
 a3:=Tryz.isAgg3
 z3:=Tryz.sizeOf3
 v3:=Tryz.zeroValue3
 t4:=Tryz.underlying4
 a4:=Tryz.isAgg4
 z4:=Tryz.sizeOf4
 v4:=Tryz.zeroValue4
 t5:=Tryz.underlying5
 a5:=Tryz.isAgg5
 z5:=Tryz.sizeOf5
 v5:=Tryz.zeroValue5
 t9:=Tryz.underlying9
 a9:=Tryz.isAgg9
 z9:=Tryz.sizeOf9
 v9:=Tryz.zeroValue9
 t20:=Tryz.underlying20
 a20:=Tryz.isAgg20
 z20:=Tryz.sizeOf20
 v20:=Tryz.zeroValue20
 t37:=Tryz.underlying27
 a37:=Tryz.isAgg27
 z37:=Tryz.sizeOf27
 v37:=Tryz.zeroValue27
 t46:=Tryz.underlying115
 a46:=Tryz.isAgg115
 z46:=Tryz.sizeOf115
 v46:=Tryz.zeroValue115
 t51:=Tryz.underlying177
 a51:=Tryz.isAgg177
 z51:=Tryz.sizeOf177
 v51:=Tryz.zeroValue177
 t53:=Tryz.underlying86
 a53:=Tryz.isAgg86
 z53:=Tryz.sizeOf86
 v53:=Tryz.zeroValue86
 t171:=Tryz.underlying172
 a171:=Tryz.isAgg172
 z171:=Tryz.sizeOf172
 v171:=Tryz.zeroValue172
 t173:=Tryz.underlying175
 a173:=Tryz.isAgg175
 z173:=Tryz.sizeOf175
 v173:=Tryz.zeroValue175
 t212:=Tryz.underlying201
 a212:=Tryz.isAgg201
 z212:=Tryz.sizeOf201
 v212:=Tryz.zeroValue201
 t213:=Tryz.underlying202
 a213:=Tryz.isAgg202
 z213:=Tryz.sizeOf202
 t232:=Tryz.underlying235
 a232:=Tryz.isAgg235
 z232:=Tryz.sizeOf235
 v232:=Tryz.zeroValue235
 t233:=Tryz.underlying236
 a233:=Tryz.isAgg236
 z233:=Tryz.sizeOf236
 v233:=Tryz.zeroValue236
 g17:=by kernel_rfl
 g18:=by kernel_rfl
 g19:=by kernel_rfl }
end Go.Proofs
