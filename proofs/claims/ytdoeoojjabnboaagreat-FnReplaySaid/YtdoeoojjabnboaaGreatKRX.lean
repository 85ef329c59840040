/- Plain maths of FnReplay. -/
import Derived.Test.YtdoeoojjabnboaaGreatKVF
set_option maxRecDepth 100000
set_option linter.unusedVariables false
namespace Go.Proofs.YtdoeoojjabnboaaGreat
open Go.RowKit Go.Fin1
theorem gn_gtk {s:ByteArray} {a:Nat}:∀ (f k:Nat) (u:Int),(gn s a f k u).c=0→((a+k:Nat):Int) < (gn s a f k u).at_
 | 0,_,_,h=>by simp[gn] at h
 | f+1,k,u,h=>by
  unfold gn at h ⊢
  split at h
  ·simp at h
  ·rename_i h1
   rw[if_neg h1]
   split at h
   ·simp at h
   ·rename_i h2
    rw[if_neg h2]
    split at h
    ·rename_i h3
     rw[if_pos h3]
     have:=gn_gtk f (k+1) _ h
     omega
    ·rename_i h3
     rw[if_neg h3]
     split at h
     ·simp at h
     ·rename_i h4
      rw[if_neg h4]
      show ((a+k:Nat):Int) < ((a+k+1:Nat):Int)
      omega
structure Agree (s t:ByteArray) (m:Nat):Prop where
 hs:m≤s.size
 ht:m≤t.size
 eq:s.data.toList.take m=t.data.toList.take m
theorem Agree.at_ {s t:ByteArray} {m:Nat} (h:Agree s t m) {i:Nat} (hi:i < m):byteAt s i=byteAt t i:=by
 have h1:i < s.size:=by have:=h.hs;omega
 have h2:i < t.size:=by have:=h.ht;omega
 rw[byteAt_list h1,byteAt_list h2]
 have e1:(s.data.toList.take m)[i]?=(t.data.toList.take m)[i]?:=by rw[h.eq]
 rw[List.getElem?_take_of_lt hi,List.getElem?_take_of_lt hi,List.getElem?_eq_getElem (by simpa using h1),List.getElem?_eq_getElem (by simpa using h2)] at e1
 rw[Option.some.inj e1]
theorem Agree.ext {s t:ByteArray} {m:Nat} (h:Agree s t m) {i j:Nat} (hj:j≤m):s.extract i j=t.extract i j:=by
 apply bytes_ext
 rw[extract_data,extract_data,← List.drop_take,← List.drop_take]
 have e:∀ l:List UInt8,l.take j=(l.take m).take j:=fun l=>by rw[List.take_take,Nat.min_eq_left hj]
 rw[e s.data.toList,e t.data.toList,h.eq]
theorem Agree.gnA {s t:ByteArray} {m:Nat} (h:Agree s t m) {a:Nat}:∀ (f k:Nat) (u:Int),(gn s a f k u).c=0→(gn s a f k u).at_≤m→gn t a f k u=gn s a f k u
 | 0,_,_,_,_=>rfl
 | f+1,k,u,h0,hm=>by
  have hg:=gn_gtk (f+1) k u h0
  have hlt:a+k < m:=by omega
  have h1:¬ s.size≤a+k:=by have:=h.hs;omega
  have h2:¬ t.size≤a+k:=by have:=h.ht;omega
  unfold gn at h0 hm ⊢
  rw[if_neg h1] at h0 hm ⊢
  rw[if_neg h2,← h.at_ hlt]
  split
  ·rfl
  ·rename_i h3
   rw[if_neg h3] at h0 hm
   split
   ·rename_i h4
    rw[if_pos h4] at h0 hm
    exact Agree.gnA h f (k+1) _ h0 hm
   ·rfl
theorem Agree.num {s t:ByteArray} {m:Nat} (h:Agree s t m) {n:Int} (h0:(getNum s n).c=0) (hm:(getNum s n).at_≤m) (h8:t.size≤8000):getNum t n=getNum s n:=by
 have hg:=getNum_gt h0
 have hb:=getNum_bd h0
 have hs:=h.hs
 have ht:=h.ht
 have e:getNum s n=getNumG s n.toNat:=by unfold getNum;rw[if_neg (by omega),if_neg (by omega),if_neg (by omega)]
 have e2:getNum t n=getNumG t n.toNat:=by unfold getNum;rw[if_neg (by omega),if_neg (by omega),if_neg (by omega)]
 rw[e] at h0 hm ⊢
 rw[e2]
 unfold getNumG at h0 hm ⊢
 exact h.gnA 10 0 0 h0 hm
theorem getText_parts {s:ByteArray} {n:Int} (h:(getText s n).c=0):(getNum s n).c=0∧(0≤(getNum s n).n∧(getNum s n).n≤8000)∧(getNum s n).at_+(getNum s n).n≤s.size∧getText s n=⟨s.extract (getNum s n).at_.toNat ((getNum s n).at_.toNat+(getNum s n).n.toNat),(getNum s n).at_+(getNum s n).n,0⟩:=by
 unfold getText at h ⊢
 split at h
 ·rename_i h1;exact absurd h h1
 ·rename_i h1
  split at h
  ·simp at h
  ·rename_i h2
   split at h
   ·simp at h
   ·rename_i h3
    rw[if_neg h1,if_neg h2,if_neg h3]
    exact⟨by simpa using h1,by omega,by omega,rfl⟩
theorem Agree.text {s t:ByteArray} {m:Nat} (h:Agree s t m) {n:Int} (h0:(getText s n).c=0) (hm:(getText s n).at_≤m) (h8:t.size≤8000):getText t n=getText s n:=by
 obtain⟨q1,q2,q3,q4⟩:=getText_parts h0
 rw[q4] at hm ⊢
 have hm':(getNum s n).at_+(getNum s n).n≤m:=hm
 have hb:=getNum_bd q1
 have e:=h.num q1 (by omega) h8
 have ht:=h.ht
 unfold getText
 rw[e,if_neg (by simp[q1]),if_neg (by omega),if_neg (by omega),h.ext (by omega)]
theorem Agree.step {s t:ByteArray} {m:Nat} (h:Agree s t m) (h8:t.size≤8000) {st st':RSt} (h0:repS s st=some st') (hm:st'.2≤m):repS t st=some st':=by
 obtain⟨q1,q2,q3,rfl⟩:=repS_some h0
 have e:=h.text q1 hm h8
 rw[repS_yes (by rw[e];exact q1) (by rw[e];exact q2) (by rw[e];exact q3),e]
inductive Run (s:ByteArray):RSt→RSt→Prop where
 | nil (st:RSt):Run s st st
 | cons {a b c:RSt}:repS s a=some b→Run s b c→Run s a c
theorem run_repN (s:ByteArray):∀ (n:Nat) (st:RSt),Run s st (repN s n st)
 | 0,st=>.nil st
 | n+1,st=>by
  unfold repN
  cases e:repS s st with
  | none=>exact .nil st
  | some st'=>exact .cons e (run_repN s n st')
theorem Run.le {s:ByteArray} {a b:RSt} (h:Run s a b):a.2≤b.2:=by
 induction h with
 | nil=>exact Int.le_refl _
 | cons e _ ih=>have:=repS_gt e;omega
theorem Run.pre {s t:ByteArray} {m:Nat} {a b:RSt} (h:Run s a b) (hA:Agree s t m) (h8:t.size≤8000) (hm:b.2≤m):Run t a b:=by
 induction h with
 | nil=>exact .nil _
 | cons e h2 ih=>exact .cons (hA.step h8 e (Int.le_trans h2.le hm)) (ih hm)
theorem Run.repL {s:ByteArray} {a b:RSt} (h:Run s a b):repL s a=repL s b:=by
 induction h with
 | nil=>rfl
 | cons e _ ih=>rw[repL_some e,ih]
theorem repL_run (s:ByteArray) (st:RSt):Run s st (repL s st):=by unfold Go.Proofs.YtdoeoojjabnboaaGreat.repL;exact run_repN _ _ _
theorem repR_ok' {cl:List (List Lab)} {s:ByteArray} (h:(repR cl s).2.2=0):s.size≤8000∧(newR cl).2=0∧repR cl s=((repL s (newP cl,0)).1,(repL s (newP cl,0)).2,0):=by
 by_cases h1:8000 < s.size
 ·rw[repR_long h1] at h;cases h
 ·by_cases h2:(newR cl).2=0
  ·refine⟨by omega,h2,?_⟩
   rw[repR_yes h1 h2,(newR_right h2).1]
  ·rw[repR_new h1 h2] at h;exact absurd h h2
theorem repR_at {cl:List (List Lab)} {s:ByteArray} (h8:s.size≤8000) (h2:(newR cl).2=0):repR cl s=((repL s (newP cl,0)).1,(repL s (newP cl,0)).2,0):=by
 rw[repR_yes (by omega) h2,(newR_right h2).1]
theorem repL_bd {s:ByteArray} {cl:List (List Lab)} (h2:(newR cl).2=0):poolR (repL s (newP cl,0)).1=true∧0≤(repL s (newP cl,0)).2∧(repL s (newP cl,0)).2≤s.size:=by
 unfold Go.Proofs.YtdoeoojjabnboaaGreat.repL
 exact repN_right (s.size+1) (newP cl,0) (newR_right h2).2 ⟨Int.le_refl _,by show (0:Int)≤_;omega⟩
theorem agree_cut (s:ByteArray) {m:Nat} (h:m≤s.size):Agree s (s.extract 0 m) m:=by
 have hz:(s.extract 0 m).size=m:=by rw[ByteArray.size_extract];omega
 refine⟨h,by omega,?_⟩
 rw[extract_data,List.drop_zero,Nat.sub_zero,List.take_take,Nat.min_self]
theorem agree_app {s:ByteArray} (u:ByteArray) {m:Nat} (h:m≤s.size):Agree s (s.extract 0 m++u) m:=by
 have hz:(s.extract 0 m).size=m:=by rw[ByteArray.size_extract];omega
 have h9:s.data.toList.length=s.size:=by simp
 have hl:(s.data.toList.take m).length=m:=by rw[List.length_take,h9];omega
 refine⟨h,by rw[ByteArray.size_append];omega,?_⟩
 have e:(s.extract 0 m++u).data.toList=s.data.toList.take m++u.data.toList:=by
  have:(s.extract 0 m++u).data.toList=(s.extract 0 m).data.toList++u.data.toList:=by simp
  rw[this,extract_data,List.drop_zero,Nat.sub_zero]
 rw[e,List.take_append_of_le_length (by omega),List.take_take,Nat.min_self]
theorem rep_cut {cl:List (List Lab)} {s t:ByteArray} {P:Pl} {n:Int} (h:repL s (newP cl,0)=(P,n)) (h2:(newR cl).2=0) (hA:Agree s t n.toNat) (ht:t.size=n.toNat) (h8:t.size≤8000):repR cl t=(P,n,0):=by
 have hb:=repL_bd (s:=s) h2
 rw[h] at hb
 have hr:=repL_run s (newP cl,0)
 rw[h] at hr
 have hr2:=hr.pre hA h8 (by show n≤_;omega)
 rw[repR_at h8 h2,hr2.repL,repL_none (repS_end (by have:0≤n:=hb.2.1;omega))]
theorem numsS_split {L:List Int} {k:Nat} (h:k < L.length):numsS L=numsS (L.take k)++putNum L[k]++numsS (L.drop (k+1)):=by
 rw[← numsS_take h,← numsS_app,List.take_append_drop]
theorem numsN_put {L:List Int} (hL:∀ x∈L,I64 x) (h8:(numsS L).size≤8000):∀ k,k≤L.length→numsN (numsS L) k=some (L.take k,((numsS (L.take k)).size:Int))
 | 0,_=>by simp[numsN,numsS];rfl
 | k+1,hk=>by
  have hk':k < L.length:=by omega
  have ih:=numsN_put hL h8 k (by omega)
  have hg:=getNum_put (s:=numsS L) (x:=(numsS (L.take k)).data.toList) (z:=(numsS (L.drop (k+1))).data.toList) (n:=L[k]) (hL _ (List.getElem_mem hk')) (by
   conv=>lhs;rw[numsS_split hk']
   simp) h8
  have hx:(numsS (L.take k)).data.toList.length=(numsS (L.take k)).size:=by simp
  rw[hx] at hg
  rw[numsN_yes ih (by rw[hg]),hg,numsS_take hk',ByteArray.size_append,List.take_succ_eq_append_getElem hk']
def entL (e:Ent):List Int:=[e.k,e.l.lv,e.l.st,e.a,e.b,e.c]
theorem entR_bd {e:Ent} (h:entR e=true):∀ x∈entL e,I64 x:=by
 unfold entR labR at h
 simp only[Bool.and_eq_true,isIn_iff,Bool.or_eq_true,beq_iff_eq] at h
 intro x hx
 unfold entL at hx
 simp only[List.mem_cons,List.not_mem_nil,or_false] at hx
 unfold I64
 obtain⟨⟨⟨⟨h1,h2⟩,h3⟩,h4⟩,h5⟩:=h
 rcases hx with rfl | rfl | rfl | rfl | rfl | rfl<;>omega
theorem entL_size (e:Ent):(numsS (entL e)).size≤60:=numsS_le (entL e)
theorem entB_yes {e:Ent} (h:entR e=true):entB e=numsS (entL e)++four (crcOf 0 (numsS (entL e))):=by
 have:=entL_size e
 unfold entB
 rw[if_pos h]
 show sealS (numsS (entL e))=_
 unfold sealS
 rw[if_pos (by omega)]
theorem entB_no {e:Ent} (h:entR e=false):entB e=⟨#[]⟩:=by unfold entB;rw[if_neg (by simp[h])]
theorem entB_size (e:Ent):(entB e).size≤64:=by
 cases h:entR e
 ·rw[entB_no h];show 0≤64;omega
 ·rw[entB_yes h,(seal_parts _ _).1];have:=entL_size e;omega
theorem entRd_put {e:Ent} (h:entR e=true):entRd (entB e)=(e,0):=by
 have h6:=entL_size e
 have hu:=unseal_good (t:=numsS (entL e)) (by omega)
 rw[← entB_yes h] at hu
 have hn:=numsN_put (entR_bd h) (by omega) 6 (Nat.le_refl 6)
 have hm:mkE ((entL e).take 6)=e:=rfl
 rw[entRd_some (by rw[hu];simp) (by rw[hu];exact hn),hm,if_pos (by simp)]
theorem entRd_same {u:ByteArray} (h:(entRd u).2=0):entB (entRd u).1=u:=by
 by_cases h1:(unsealS u).c≠0
 ·rw[entRd_code h1] at h;exact absurd h h1
 ·cases hn:numsN (unsealS u).t 6 with
  | none=>rw[entRd_none h1 hn] at h;cases h
  | some q =>
   obtain⟨l,a⟩:=q
   rw[entRd_some h1 hn] at h ⊢
   cases he:(entB (mkE l)).toList == u.toList
   ·rw[he] at h;cases h
   ·rw[if_pos rfl]
    have:=beq_iff_eq.1 he
    exact bytes_ext (by rw[← toList_data,← toList_data];exact this)
theorem actR_ent {p:Pl} {e:Ent} (h:(actR p e).2.2=0):entR e=true:=by
 cases q:entR e
 ·unfold actR at h;rw[if_pos (by first | exact q | simp[q])] at h;cases h
 ·rfl
theorem putText_size {u:ByteArray} (h:u.size≤64):(putText u).size≤74:=by
 rw[putText_some (by omega),ByteArray.size_append]
 have:=(putNum_len u.size).2
 omega
theorem rep_again {cl:List (List Lab)} {s:ByteArray} {P:Pl} {n:Int} {e:Ent} (h:repL s (newP cl,0)=(P,n)) (h2:(newR cl).2=0) (hs:s.size≤7000) (hz:(actR P e).2.2=0) :
  repR cl (s.extract 0 n.toNat++putText (entB e))=((actR P e).1,((s.extract 0 n.toNat++putText (entB e)).size:Int),0):=by
 have hb:=repL_bd (s:=s) h2
 rw[h] at hb
 have hn0:0≤n:=hb.2.1
 have hn1:n≤s.size:=hb.2.2
 have hE:=actR_ent hz
 have hes:=entB_size e
 have hps:=putText_size hes
 have hx:(s.extract 0 n.toNat).size=n.toNat:=by rw[ByteArray.size_extract];omega
 have hsz:(s.extract 0 n.toNat++putText (entB e)).size=n.toNat+(putText (entB e)).size:=by rw[ByteArray.size_append,hx]
 have hr:=repL_run s (newP cl,0)
 rw[h] at hr
 have hr2:=hr.pre (agree_app (putText (entB e)) (m:=n.toNat) (by omega)) (by omega) (by show n≤_;omega)
 have hg:=getText_put (s:=s.extract 0 n.toNat++putText (entB e)) (u:=entB e) (x:=(s.extract 0 n.toNat).data.toList) (by omega) (by simp) (by omega)
 have hl:(s.extract 0 n.toNat).data.toList.length=n.toNat:=by rw[← hx];simp
 rw[hl,Int.toNat_of_nonneg hn0,← hsz] at hg
 have hst:repS (s.extract 0 n.toNat++putText (entB e)) (P,n)=some ((actR P e).1,((s.extract 0 n.toNat++putText (entB e)).size:Int)):=by
  rw[repS_yes (st:=(P,n)) (by show (getText _ n).c=0;rw[hg]) (by show (entRd (getText _ n).t).2=0;rw[hg,entRd_put hE]) (by show (actR P (entRd (getText _ n).t).1).2.2=0;rw[hg,entRd_put hE];exact hz)]
  show some ((actR P (entRd (getText _ n).t).1).1,(getText _ n).at_)=_
  rw[hg,entRd_put hE]
 rw[repR_at (by omega) h2,hr2.repL,repL_some hst,repL_none (repS_end (Int.le_refl _))]
end Go.Proofs.YtdoeoojjabnboaaGreat
