/- Replay, walked: both. -/
import Derived.Test.YtdoeoojjabnboaaGreatKVF
import Derived.Test.YtdoeoojjabnboaaGreatKY3
import Derived.Test.YtdoeoojjabnboaaGreatKZZ9
set_option maxRecDepth 100000
set_option linter.unusedVariables false
namespace Go.Proofs.YtdoeoojjabnboaaGreat
open Go.RowKit Go.Fin1
theorem isLongR_any (s:ByteArray) (w:World) (hs:s.size≤1048576) :
  Calls Tryz.prog 79 #[.string s] w fun e w'=>e=.returned (.bool (decide ((8000:Int) < (s.size:Int))))∧w'=w:=by
 go_enter Tryz.func79,Tryz.ntmps79
 go_wp2
 go_ret
 exact⟨rfl,rfl⟩
def cell3 (w:World) (g:Nat):Int:=intOf ((w.cell? ⟨g,3,none⟩).getD (.int .i64 0))
theorem cell3_at {w:World} {g:Nat} {n:Int} (h:w.cell? ⟨g,3,none⟩=some (.int .i64 n)):cell3 w g=n:=by unfold cell3;rw[h];rfl
theorem set3_blk {w:World} {g:Nat} {x0 x1 x2 x3 x4:Value} {ty:TypeId} (h:Blk w g [x0,x1,x2,x3,x4] ty) (a b c:Value):Blk (((w.setCell ⟨g,0,none⟩ a).setCell ⟨g,1,none⟩ b).setCell ⟨g,2,none⟩ c) g [a,b,c,x3,x4] ty:=((h.set 0 a).set 1 b).set 2 c
theorem set3_chgR (w:World) (g:Nat) (a b c:Value):Chg [g] w (((w.setCell ⟨g,0,none⟩ a).setCell ⟨g,1,none⟩ b).setCell ⟨g,2,none⟩ c):=(((Chg.refl _ _).setCell (.inl (by simp)) _).setCell (.inl (by simp)) _).setCell (.inl (by simp)) _
theorem OwnP.boxT {B:Nat} {w:World} {fc fj:List Nat} {c j:Value} {p:Pl} (h:OwnP B w fc fj c j p) {g:Nat} {cs:List Value} {t:TypeId} (hg:Blk w g cs t) (h1:t∉[78,28]) (h2:t∉[48,2]):∀ b∈fc++fj,b∉[g]:=fun b hb hm=>by
 obtain rfl:=List.mem_singleton.1 hm
 rcases List.mem_append.1 hb with hb | hb
 ·exact oLabelSS_typed.apart h.1.1 hg h1 hb
 ·exact oJobS_typed.apart h.2.1.1 hg h2 hb
theorem entRd_ok (s:ByteArray):(entRd s).1.ok:=by
 have z:(zE).ok:=by unfold Ent.ok Lab.ok I64 zE;decide
 unfold entRd
 split
 ·exact z
 ·split
  ·exact z
  ·rename_i l a hn
   split
   ·obtain⟨h6,hi⟩:=numsN_len hn
    obtain⟨a1,b1,c1,d1,e1,f1,rfl⟩:=lenI6 h6
    exact⟨hi a1 (by simp),⟨hi b1 (by simp),hi c1 (by simp)⟩,hi d1 (by simp),hi e1 (by simp),hi f1 (by simp)⟩
   ·exact z
theorem textSz {s:ByteArray} {n:Int} (hs:s.size≤1048576):(getText s n).t.size≤1048576:=by
 unfold getText
 split
 ·show (ByteArray.mk #[]).size≤_;simp[ByteArray.size]
 ·split
  ·show (ByteArray.mk #[]).size≤_;simp[ByteArray.size]
  ·split
   ·show (ByteArray.mk #[]).size≤_;simp[ByteArray.size]
   ·show (s.extract _ _).size≤_;rw[ByteArray.size_extract];omega
structure StI (W0:World) (g:Nat) (ty:TypeId) (C:(Nat→Bool)→List Value) (S:List (Option Value)) (L:Nat→Bool) (vs:Nat→Value) (w:World):Prop where
 c:Chg [g] W0 w
 s:∀ k v,S[k]?=some (some v)→L k=true→vs k=v
 h:Blk w g (C L) ty
theorem StI.start {W0 W:World} {g:Nat} {ty:TypeId} {C:(Nat→Bool)→List Value} {S:List (Option Value)} {vs:Nat→Value} (h:Blk W0 g (C (fun _=>false)) ty) (hx:Ext W0 W):StI W0 g ty C S (fun _=>false) vs W :=
 ⟨hx.chg _,fun _ _ _ h=>(by cases h),h.ext hx⟩
theorem StI.put {W0 w:World} {g:Nat} {ty:TypeId} {C:(Nat→Bool)→List Value} {S:List (Option Value)} {L:Nat→Bool} {vs:Nat→Value} (h:StI W0 g ty C S L vs w) (k:Nat) (v:Value) (hs:∀ u,S[k]?=some (some u)→u=v):∀ j u,S[j]?=some (some u)→updB L k j=true→updV vs k v j=u:=fun j u hq hL=>by
 unfold updB at hL
 unfold updV
 by_cases e:j=k
 ·rw[if_pos e];subst e;exact(hs u hq).symm
 ·rw[if_neg e] at hL ⊢;exact h.s j u hq hL
theorem StI.set {W0 w w':World} {g:Nat} {ty:TypeId} {C:(Nat→Bool)→List Value} {S:List (Option Value)} {L:Nat→Bool} {vs:Nat→Value} (h:StI W0 g ty C S L vs w) (k:Nat) (v:Value) (hx:Ext w w') (hC:C (updB L k)=C L) (hs:∀ u,S[k]?=some (some u)→u=v):StI W0 g ty C S (updB L k) (updV vs k v) w' :=
 ⟨h.c.trans (hx.chg _),h.put k v hs,by rw[hC];exact h.h.ext hx⟩
theorem StI.st {W0 w w':World} {g:Nat} {ty:TypeId} {C:(Nat→Bool)→List Value} {S:List (Option Value)} {L:Nat→Bool} {vs:Nat→Value} (h:StI W0 g ty C S L vs w) (k:Nat) (hc:Chg [g] w w') (hb:Blk w' g (C (updB L k)) ty) (hs:S[k]?=some none) (v:Value):StI W0 g ty C S (updB L k) (updV vs k v) w' :=
 ⟨h.c.trans hc,h.put k v (fun u hu=>by rw[hs] at hu;cases hu),hb⟩
set_option maxHeartbeats 3200000 in
theorem implReplay_any (v:Value) (l:List (List Lab)) (s:ByteArray) (w:World) (h:SlR w 1 rLabS v l) (hl:szL List.length l≤1048576) (hs:s.size≤1048576) :
  Calls Tryz.prog 25 #[v,.string s] w fun e w'=>∃ cv jv fc fj,e=.returned (poV (repR l s).1 (repR l s).2.1 (repR l s).2.2 cv jv)∧Ext w w'∧OwnP w.heap.size w' fc fj cv jv (repR l s).1:=by
 have HS:=tH h
 clear h
 by_cases h8:8000 < s.size
 ·rw[repR_long h8]
  have h8b:decide ((8000:Int) < (s.size:Int))=true:=decide_eq_true (by omega)
  go_enter Tryz.func25,Tryz.ntmps25
  go_wp2_with fail
  refine(implPoolNew_any _ l _ (HS.out.ext rLabS_stable xE) hl).mono ?_
  rintro e _ ⟨cv,jv,fc,fj,rfl,⟨X,rfl⟩,hO⟩
  obtain⟨ac,cc,rfl⟩:=hO.1.shape
  obtain⟨aj,cj,rfl⟩:=hO.2.1.shape
  clear hO
  unfold poV
  go_wp2_with (go_at_call 79;refine(isLongR_any s _ hs).mono ?_;rintro e _ ⟨rfl,rfl⟩;rw[h8b])
  exact bodyPost_ret (v:=.agg #[.slice none 0 0,.slice none 0 0,(.int .i64 0),(.int .i64 0),(.int .i64 2)]) (by simp[results,Tryz.results25,go_sem]) rfl ⟨_,_,[],[],rfl,xF,OwnP.zero _ _ _⟩
 ·have h8b:decide ((8000:Int) < (s.size:Int))=false:=decide_eq_false (by omega)
  by_cases hc:(newR l).2=0
  ·have HNR:=tH (newR_right hc)
   have HR:=tH (repR_yes h8 hc)
   have hcb:((newR l).2 == 0)=true:=by simp[hc]
   have HC0:=tH hc
   clear hc
   go_enter Tryz.func25,Tryz.ntmps25
   go_wp2_with fail
   refine(implPoolNew_any _ l _ (HS.out.ext rLabS_stable xE) hl).mono ?_
   rintro e _ ⟨cv,jv,fc,fj,rfl,⟨X,rfl⟩,hO⟩
   rw[HC0.out]
   rw[HNR.out.1] at hO ⊢
   obtain⟨ac,cc,rfl⟩:=hO.1.shape
   obtain⟨aj,cj,rfl⟩:=hO.2.1.shape
   unfold poV
   go_upto_region 7 with (go_at_call 79;refine(isLongR_any s _ hs).mono ?_;rintro e _ ⟨rfl,rfl⟩;rw[h8b])
   refine gen_world (fun W1 hW1=>?_)
   have hE1:Ext w W1:=by rw[hW1];exact xE
   have hrb:Blk W1 w.heap.size [.slice none 0 0,.slice none 0 0,(.int .i64 0),(.int .i64 0),(.int .i64 0)] 54:=by rw[hW1];exact(Blk.new (w:=w) (cs:=#[.slice none 0 0,.slice none 0 0,(.int .i64 0),(.int .i64 0),(.int .i64 0)]) rfl).ext xE
   have hgb:Blk W1 (w.heap.size+1+X.n+1) [.slice ac (newP l).clear.length cc,.slice aj (newP l).jobs.length cj,(.int .i64 (newP l).now),(.int .i64 0),(.int .i64 0)] 54:=by
    rw[hW1]
    exact Blk.new (cs:=#[.slice ac (newP l).clear.length cc,.slice aj (newP l).jobs.length cj,(.int .i64 (newP l).now),(.int .i64 0),(.int .i64 0)]) (by simp)
   have hop:OwnP (w.heap.size+1) W1 fc fj (.slice ac (newP l).clear.length cc) (.slice aj (newP l).jobs.length cj) (newP l):=by rw[hW1];exact(hO.ext xE).mono (by simp)
   have hge:w.heap.size+1≤w.heap.size+1+X.n+1:=by omega
   clear hW1 hO
   generalize w.heap.size+1+X.n+1=gb at hgb hge ⊢
   have HE1:=tH hE1
   have HRB:=tH hrb
   have HGB:=tH hgb
   have HOP:=tH hop
   have HGE:=tH hge
   clear hE1 hrb hgb hop hge
   go_wp2
   go_loopw [7,8,9] (fun _ _ _ wr=>∃ (st:RSt) (a:Option Addr) (c:Nat) (b:Option Addr) (d:Nat) (fc fj:List Nat),Hid (Chg [gb] W1 wr)∧Hid (Blk wr gb [.slice a st.1.clear.length c,.slice b st.1.jobs.length d,(.int .i64 st.1.now),(.int .i64 st.2),(.int .i64 0)] 54)∧Hid (OwnP (w.heap.size+1) wr fc fj (.slice a st.1.clear.length c) (.slice b st.1.jobs.length d) st.1)∧Hid (repL s st=repL s (newP l,0))∧Hid (poolR st.1=true)∧Hid (0≤st.2∧st.2≤(s.size:Int))) (fun _ _ _ wr=>s.size+1-(cell3 wr gb).toNat)
   case atStart=>exact⟨(newP l,0),ac,cc,aj,cj,fc,fj,tH ((Ext.refl _).chg _),HGB,HOP,tH rfl,tH HNR.out.2,tH ⟨Int.le_refl _,by show (0:Int)≤_;omega⟩⟩
   case round =>
    clear HOP HGB
    obtain⟨⟨q,n⟩,a,c,b,d,fc2,fj2,HC,HGB,HOP,HRL,HPR,HNN⟩:=hrel
    have HEP:Hid (∀ W,Ext wr W→ePool W (.agg #[.slice a q.clear.length c,.slice b q.jobs.length d,(.int .i64 q.now)]) q):=tH (fun W hx=>(HOP.out.ext hx).e' (right_ok HPR.out).1)
    have g0:=HGB.out.cell 0
    have g1:=HGB.out.cell 1
    have g2:=HGB.out.cell 2
    have g3:=HGB.out.cell 3
    have g4:=HGB.out.cell 4
    have go':=HGB.out.old
    have HR2:=tH (HRB.out.chg HC.out (fun hm=>by have h1:=List.mem_singleton.1 hm;have h2:=HGE.out;omega))
    have r0:=HR2.out.cell 0
    have r1:=HR2.out.cell 1
    have r2:=HR2.out.cell 2
    have r3:=HR2.out.cell 3
    have r4:=HR2.out.cell 4
    have ro:=HR2.out.old
    have rf:=HR2.out.fz
    have HM:=tH (cell3_at g3)
    simp only[List.getElem?_cons_zero,List.getElem?_cons_succ] at g0 g1 g2 g3 g4 r0 r1 r2 r3 r4
    obtain⟨T,hT⟩:∃ T,T=getText s n:=⟨_,rfl⟩
    have HT:=tH hT
    have htz:T.t.size≤1048576:=by rw[hT];exact textSz hs
    clear hT
    go_wp2_with fail
    refine(implGetText_any s n _ hs).mono ?_
    rintro e _ ⟨rfl,X3,rfl⟩
    rw[← HT.out]
    obtain⟨tt,ta,tc⟩:=T
    go_wp2_with fail
    refine(implEntryRead_any tt _ htz).mono ?_
    rintro e _ ⟨rfl,X4,rfl⟩
    have HEO:=tH (entRd_ok tt)
    obtain⟨⟨E,ec⟩,hE⟩:∃ R,R=entRd tt:=⟨_,rfl⟩
    have HE:=tH hE
    rw[← HE.out]
    clear hE
    obtain⟨ek,⟨el,es⟩,ea,eb,e6⟩:=E
    unfold entOV
    by_cases hc:tc=0
    ·subst hc
     by_cases hec:ec=0
     ·subst hec
      go_wp2_with fail
      refine(implAct_any q _ ⟨ek,⟨el,es⟩,ea,eb,e6⟩ _ (HEP.out _ xE) (right_fits HPR.out) (by have h9:=HEO.out;rw[← HE.out] at h9;exact h9)).mono ?_
      rintro e _ ⟨cv2,jv2,fc3,fj3,rfl,⟨X5,rfl⟩,hO⟩
      obtain⟨⟨q2,i2,c2⟩,hA⟩:∃ R,R=actR q ⟨ek,⟨el,es⟩,ea,eb,e6⟩:=⟨_,rfl⟩
      have HA:=tH hA
      rw[← HA.out] at hO ⊢
      clear hA
      obtain⟨a3,c3,rfl⟩:=hO.1.shape
      obtain⟨b3,d3,rfl⟩:=hO.2.1.shape
      unfold poV
      by_cases hac:c2=0
      ·subst hac
       have HST:Hid (repS s (q,n)=some (q2,ta)):=tH (by
        have h1:getText s n=⟨tt,ta,0⟩:=HT.out.symm
        have h2:entRd tt=(⟨ek,⟨el,es⟩,ea,eb,e6⟩,0):=HE.out.symm
        have h3:actR q ⟨ek,⟨el,es⟩,ea,eb,e6⟩=(q2,i2,0):=HA.out.symm
        rw[repS_yes (by show (getText s n).c=0;rw[h1]) (by show (entRd (getText s n).t).2=0;rw[h1,h2]) (by show (actR q (entRd (getText s n).t).1).2.2=0;rw[h1,h2,h3])]
        show some ((actR q (entRd (getText s n).t).1).1,(getText s n).at_)=_
        rw[h1,h2,h3])
       have hlo:w.heap.size+1≤wr.heap.size:=by have h1:=HGE.out;have h2:=HGB.out.old;unfold World.old at h2;omega
       clear g0 g1 g2 g3 g4 go' r0 r1 r2 r3 r4 ro rf
       have HGB0:=HGB.out.cell 0
       go_upto_region 14 with fail
       refine gen_world (fun Wm hWm=>?_)
       have HEm0:Hid (Ext wr Wm):=tH (by rw[hWm];exact xE)
       have HOm0:Hid (OwnP (w.heap.size+1) Wm fc3 fj3 (.slice a3 q2.clear.length c3) (.slice b3 q2.jobs.length d3) q2):=tH (by rw[hWm];exact(hO.ext ((Ext.refl _).alloc _)).mono (by simp;omega))
       have t1:Wm.cell? ⟨wr.heap.size+X3.n,1,none⟩=some (.int .i64 ta):=by rw[hWm];simp[go_sem]
       have k0:Wm.cell? ⟨wr.heap.size+X3.n+1+X4.n+1+X5.n,0,none⟩=some (.slice a3 q2.clear.length c3):=by rw[hWm];simp[go_sem]
       have k1:Wm.cell? ⟨wr.heap.size+X3.n+1+X4.n+1+X5.n,1,none⟩=some (.slice b3 q2.jobs.length d3):=by rw[hWm];simp[go_sem]
       have k2:Wm.cell? ⟨wr.heap.size+X3.n+1+X4.n+1+X5.n,2,none⟩=some (.int .i64 q2.now):=by rw[hWm];simp[go_sem]
       have to':=World.old_of_cell t1
       have ko:=World.old_of_cell k0
       have hgn:¬ wr.heap.size+X3.n+1+X4.n+1+X5.n=gb:=fun e=>by have h2:=HGB.out.old;unfold World.old at h2;omega
       have hgt:¬ wr.heap.size+X3.n=gb:=fun e=>by have h2:=HGB.out.old;unfold World.old at h2;omega
       clear hWm hO hlo HGB0
       generalize wr.heap.size+X3.n+1+X4.n+1+X5.n=gn at k0 k1 k2 ko hgn ⊢
       generalize wr.heap.size+X3.n=gt at t1 to' hgt ⊢
       have HGm:=tH (HGB.out.ext HEm0.out)
       have HT1:=tH t1
       have HK0:=tH (And.intro k0 (And.intro k1 k2))
       have hne1:¬ gt=gb:=hgt
       have hne2:¬ gn=gb:=hgn
       have HNE:=tH (And.intro hne1 hne2)
       clear t1 k0 k1 k2 to' ko hne1 hne2 hgt hgn
       refine wp_region_i 8 (StI Wm gb 54 (fun L=>[if L 5=true then .slice a3 q2.clear.length c3 else .slice a q.clear.length c,if L 5=true then .slice b3 q2.jobs.length d3 else .slice b q.jobs.length d,if L 5=true then (.int .i64 q2.now) else (.int .i64 q.now),if L 7=true then (.int .i64 ta) else (.int .i64 n),(.int .i64 0)]) [some (.pointer (some ⟨gn,0,none⟩)),some (.agg #[.slice a3 q2.clear.length c3,.slice b3 q2.jobs.length d3,(.int .i64 q2.now)]),some (.pointer (some ⟨gt,1,none⟩)),some (.int .i64 ta),some (.pointer (some ⟨gb,0,none⟩)),none,some (.pointer (some ⟨gb,3,none⟩)),none]) (by kernel_rfl) (by kernel_rfl) (by kernel_rfl) (fun vs=>?_) (fun vs=>StI.start HGm.out (Ext.refl _).drew)
       refine IReg.step 1 rfl (fun L w' hI hL hj=>?_) ?_
       ·have HI:=tH hI
        clear hI hL hj
        go_wp2
        exact HI.out.set 0 _ xE (by simp[updB]) (fun u hu=>by simpa using hu.symm)
       refine IReg.step 2 rfl (fun L w' hI hL hj=>?_) ?_
       ·rw[hI.s 0 _ rfl (hj 0 (by decide) (by kernel_rfl))]
        have k0:=cell_chg hI.c HK0.out.1 (by simpa using HNE.out.2)
        have k1:=cell_chg hI.c HK0.out.2.1 (by simpa using HNE.out.2)
        have k2:=cell_chg hI.c HK0.out.2.2 (by simpa using HNE.out.2)
        have ko:=World.old_of_cell k0
        have HI:=tH hI
        clear hI hL hj
        go_wp2
        exact HI.out.set 1 _ xE (by simp[updB]) (fun u hu=>by simpa using hu.symm)
       refine IReg.step 3 rfl (fun L w' hI hL hj=>?_) ?_
       ·have HI:=tH hI
        clear hI hL hj
        go_wp2
        exact HI.out.set 2 _ xE (by simp[updB]) (fun u hu=>by simpa using hu.symm)
       refine IReg.step 4 rfl (fun L w' hI hL hj=>?_) ?_
       ·rw[hI.s 2 _ rfl (hj 2 (by decide) (by kernel_rfl))]
        have t1:=cell_chg hI.c HT1.out (by simpa using HNE.out.1)
        have to':=World.old_of_cell t1
        have HI:=tH hI
        clear hI hL hj
        go_wp2
        exact HI.out.set 3 _ xE (by simp[updB]) (fun u hu=>by simpa using hu.symm)
       refine IReg.step 5 rfl (fun L w' hI hL hj=>?_) ?_
       ·have HI:=tH hI
        clear hI hL hj
        go_wp2
        exact HI.out.set 4 _ xE (by simp[updB]) (fun u hu=>by simpa using hu.symm)
       refine IReg.step 6 rfl (fun L w' hI hL hj=>?_) ?_
       ·rw[hI.s 4 _ rfl (hj 4 (by decide) (by kernel_rfl)),hI.s 1 _ rfl (hj 1 (by decide) (by kernel_rfl))]
        have hB:=hI.h
        have HI:=tH (fun v=>hI.st 5 (set3_chgR w' gb (.slice a3 q2.clear.length c3) (.slice b3 q2.jobs.length d3) (.int .i64 q2.now)) (by have h9:=set3_blk hB (.slice a3 q2.clear.length c3) (.slice b3 q2.jobs.length d3) (.int .i64 q2.now);simpa [updB] using h9) rfl v)
        have hf:=hB.fz
        have ho:=hB.old
        have b0:=hB.cell 0
        have b1:=hB.cell 1
        have b2:=hB.cell 2
        simp only[List.getElem?_cons_zero,List.getElem?_cons_succ] at b0 b1 b2
        clear hI hL hj hB
        go_wp2
        exact⟨undef,HI.out undef⟩
       refine IReg.step 7 rfl (fun L w' hI hL hj=>?_) ?_
       ·have HI:=tH hI
        clear hI hL hj
        go_wp2
        exact HI.out.set 6 _ xE (by simp[updB]) (fun u hu=>by simpa using hu.symm)
       refine IReg.step 8 rfl (fun L w' hI hL hj=>?_) ?_
       ·rw[hI.s 6 _ rfl (hj 6 (by decide) (by kernel_rfl)),hI.s 3 _ rfl (hj 3 (by decide) (by kernel_rfl))]
        have hB:=hI.h
        have HI:=tH (fun v=>hI.st 7 (show Chg [gb] w' (w'.setCell ⟨gb,3,none⟩ (.int .i64 ta)) from (Chg.refl _ _).setCell (.inl (by simp)) _) (by have h9:=hB.set 3 (.int .i64 ta);simpa [updB] using h9) rfl v)
        have hf:=hB.fz
        have ho:=hB.old
        have b3:=hB.cell 3
        simp only[List.getElem?_cons_zero,List.getElem?_cons_succ] at b3
        clear hI hL hj hB
        go_wp2
        exact⟨undef,HI.out undef⟩
       refine IReg.done (fun L Z hL hI=>?_)
       have HEm:=HEm0
       have HOm:=HOm0
       have HCz:Hid (Chg [gb] Wm Z):=tH hI.c
       have HGz:Hid (Blk Z gb [.slice a3 q2.clear.length c3,.slice b3 q2.jobs.length d3,(.int .i64 q2.now),(.int .i64 ta),(.int .i64 0)] 54):=tH (by
        have h9:=hI.h
        simp only[hL 5 (by decide),hL 7 (by decide),if_true] at h9
        exact h9)
       clear hI hL
       have HRN:Hid (poolR q2=true):=tH (by have h9:=repS_right HST.out;exact h9)
       have HGT:Hid (0≤n∧n < ta∧ta≤(s.size:Int)):=tH (repS_gt HST.out)
       have HCZ:Hid (Chg [gb] W1 Z):=tH (HC.out.trans ((HEm.out.chg _).trans HCz.out))
       have HOZ:Hid (OwnP (w.heap.size+1) Z fc3 fj3 (.slice a3 q2.clear.length c3) (.slice b3 q2.jobs.length d3) q2):=tH (HOm.out.far HCz.out (HOm.out.boxT HGm.out (by decide) (by decide)))
       have HLZ:Hid (repL s (q2,ta)=repL s (newP l,0)):=tH (by rw[← repL_some HST.out];exact HRL.out)
       have HMZ:=tH (cell3_at (HGz.out.cell 3))
       go_wp2
       refine⟨⟨(q2,ta),a3,c3,b3,d3,fc3,fj3,HCZ,HGz,HOZ,HLZ,HRN,tH ⟨by have:=HGT.out;show 0≤ta;omega,HGT.out.2.2⟩⟩,?_⟩
       rw[HM.out,HMZ.out]
       have:=HGT.out
       omega
      ·have HN:Hid (repS s (q,n)=none):=tH (by
        have h1:getText s n=⟨tt,ta,0⟩:=HT.out.symm
        have h2:entRd tt=(⟨ek,⟨el,es⟩,ea,eb,e6⟩,0):=HE.out.symm
        have h3:actR q ⟨ek,⟨el,es⟩,ea,eb,e6⟩=(q2,i2,c2):=HA.out.symm
        exact repS_act (by show (getText s n).c=0;rw[h1]) (by show (entRd (getText s n).t).2=0;rw[h1,h2]) (by show ¬ (actR q (entRd (getText s n).t).1).2.2=0;rw[h1,h2,h3];exact hac))
       have hacb:(c2 == 0)=false:=by simp[hac]
       clear hac hO
       have HFIN:Hid (repR l s=(q,n,0)):=tH (by
        rw[HR.out]
        have h9:(newR l).1=newP l:=by rw[HNR.out.1]
        rw[h9,← HRL.out,repL_none HN.out])
       clear g0 g1 g2 g3 g4 go' r0 r1 r2 r3 r4 ro rf
       go_upto_region 13 with fail
       refine gen_world (fun Wf hWf=>?_)
       have HEF:Hid (Ext wr Wf):=tH (by rw[hWf];exact xE)
       clear hWf
       have HG9:=tH (HGB.out.ext HEF.out)
       have HR9:=tH (HR2.out.ext HEF.out)
       have g0:=HG9.out.cell 0
       have g1:=HG9.out.cell 1
       have g2:=HG9.out.cell 2
       have g3:=HG9.out.cell 3
       have g4:=HG9.out.cell 4
       have go':=HG9.out.old
       have r0:=HR9.out.cell 0
       have r1:=HR9.out.cell 1
       have r2:=HR9.out.cell 2
       have r3:=HR9.out.cell 3
       have r4:=HR9.out.cell 4
       have ro:=HR9.out.old
       have rf:=HR9.out.fz
       simp only[List.getElem?_cons_zero,List.getElem?_cons_succ] at g0 g1 g2 g3 g4 r0 r1 r2 r3 r4
       have k5:=set5s_chg Wf w.heap.size (.slice a q.clear.length c) (.slice b q.jobs.length d) (.int .i64 q.now) (.int .i64 n) (.int .i64 0)
       have HY0:=tH (HR9.out.set5s (.slice a q.clear.length c) (.slice b q.jobs.length d) (.int .i64 q.now) (.int .i64 n) (.int .i64 0))
       have HXF:=tH (k5.ext (HC.out.ext HE1.out (fun z hz=>by have h1:=List.mem_singleton.1 hz;have h2:=HGE.out;omega) |>.trans HEF.out) (by simp))
       have HOF:=tH ((HOP.out.ext HEF.out).far k5 (fun z hz hm=>by have h1:=List.mem_singleton.1 hm;have h2:=HOP.out.low z hz;omega))
       clear k5
       go_wp2
       have y0:=HY0.out.cell 0
       have y1:=HY0.out.cell 1
       have y2:=HY0.out.cell 2
       have y3:=HY0.out.cell 3
       have y4:=HY0.out.cell 4
       simp only[List.getElem?_cons_zero,List.getElem?_cons_succ] at y0 y1 y2 y3 y4
       refine bodyPost_ret (v:=.agg #[.slice a q.clear.length c,.slice b q.jobs.length d,(.int .i64 q.now),(.int .i64 n),(.int .i64 0)]) (by simp[results,Tryz.results25,go_sem,y0,y1,y2,y3,y4]) rfl ?_
       rw[HFIN.out]
       exact⟨_,_,fc2,fj2,rfl,HXF.out,HOF.out.mono (by omega)⟩
     ·have HN:Hid (repS s (q,n)=none):=tH (by
       have h1:getText s n=⟨tt,ta,0⟩:=HT.out.symm
       have h2:entRd tt=(⟨ek,⟨el,es⟩,ea,eb,e6⟩,ec):=HE.out.symm
       exact repS_ent (by show (getText s n).c=0;rw[h1]) (by show ¬ (entRd (getText s n).t).2=0;rw[h1,h2];exact hec))
      have hecb:(ec == 0)=false:=by simp[hec]
      clear hec
      have HFIN:Hid (repR l s=(q,n,0)):=tH (by
       rw[HR.out]
       have h9:(newR l).1=newP l:=by rw[HNR.out.1]
       rw[h9,← HRL.out,repL_none HN.out])
      clear g0 g1 g2 g3 g4 go' r0 r1 r2 r3 r4 ro rf
      go_upto_region 10 with fail
      refine gen_world (fun Wf hWf=>?_)
      have HEF:Hid (Ext wr Wf):=tH (by rw[hWf];exact xE)
      clear hWf
      have HG9:=tH (HGB.out.ext HEF.out)
      have HR9:=tH (HR2.out.ext HEF.out)
      have g0:=HG9.out.cell 0
      have g1:=HG9.out.cell 1
      have g2:=HG9.out.cell 2
      have g3:=HG9.out.cell 3
      have g4:=HG9.out.cell 4
      have go':=HG9.out.old
      have r0:=HR9.out.cell 0
      have r1:=HR9.out.cell 1
      have r2:=HR9.out.cell 2
      have r3:=HR9.out.cell 3
      have r4:=HR9.out.cell 4
      have ro:=HR9.out.old
      have rf:=HR9.out.fz
      simp only[List.getElem?_cons_zero,List.getElem?_cons_succ] at g0 g1 g2 g3 g4 r0 r1 r2 r3 r4
      have k5:=set5s_chg Wf w.heap.size (.slice a q.clear.length c) (.slice b q.jobs.length d) (.int .i64 q.now) (.int .i64 n) (.int .i64 0)
      have HY0:=tH (HR9.out.set5s (.slice a q.clear.length c) (.slice b q.jobs.length d) (.int .i64 q.now) (.int .i64 n) (.int .i64 0))
      have HXF:=tH (k5.ext (HC.out.ext HE1.out (fun z hz=>by have h1:=List.mem_singleton.1 hz;have h2:=HGE.out;omega) |>.trans HEF.out) (by simp))
      have HOF:=tH ((HOP.out.ext HEF.out).far k5 (fun z hz hm=>by have h1:=List.mem_singleton.1 hm;have h2:=HOP.out.low z hz;omega))
      clear k5
      go_wp2
      have y0:=HY0.out.cell 0
      have y1:=HY0.out.cell 1
      have y2:=HY0.out.cell 2
      have y3:=HY0.out.cell 3
      have y4:=HY0.out.cell 4
      simp only[List.getElem?_cons_zero,List.getElem?_cons_succ] at y0 y1 y2 y3 y4
      refine bodyPost_ret (v:=.agg #[.slice a q.clear.length c,.slice b q.jobs.length d,(.int .i64 q.now),(.int .i64 n),(.int .i64 0)]) (by simp[results,Tryz.results25,go_sem,y0,y1,y2,y3,y4]) rfl ?_
      rw[HFIN.out]
      exact⟨_,_,fc2,fj2,rfl,HXF.out,HOF.out.mono (by omega)⟩
    ·have HN:Hid (repS s (q,n)=none):=tH (by
      have h1:getText s n=⟨tt,ta,tc⟩:=HT.out.symm
      exact repS_text (by show ¬ (getText s n).c=0;rw[h1];exact hc))
     have hcb:(tc == 0)=false:=by simp[hc]
     clear hc
     have HFIN:Hid (repR l s=(q,n,0)):=tH (by
      rw[HR.out]
      have h9:(newR l).1=newP l:=by rw[HNR.out.1]
      rw[h9,← HRL.out,repL_none HN.out])
     clear g0 g1 g2 g3 g4 go' r0 r1 r2 r3 r4 ro rf
     go_upto_region 10 with fail
     refine gen_world (fun Wf hWf=>?_)
     have HEF:Hid (Ext wr Wf):=tH (by rw[hWf];exact xE)
     clear hWf
     have HG9:=tH (HGB.out.ext HEF.out)
     have HR9:=tH (HR2.out.ext HEF.out)
     have g0:=HG9.out.cell 0
     have g1:=HG9.out.cell 1
     have g2:=HG9.out.cell 2
     have g3:=HG9.out.cell 3
     have g4:=HG9.out.cell 4
     have go':=HG9.out.old
     have r0:=HR9.out.cell 0
     have r1:=HR9.out.cell 1
     have r2:=HR9.out.cell 2
     have r3:=HR9.out.cell 3
     have r4:=HR9.out.cell 4
     have ro:=HR9.out.old
     have rf:=HR9.out.fz
     simp only[List.getElem?_cons_zero,List.getElem?_cons_succ] at g0 g1 g2 g3 g4 r0 r1 r2 r3 r4
     have k5:=set5s_chg Wf w.heap.size (.slice a q.clear.length c) (.slice b q.jobs.length d) (.int .i64 q.now) (.int .i64 n) (.int .i64 0)
     have HY0:=tH (HR9.out.set5s (.slice a q.clear.length c) (.slice b q.jobs.length d) (.int .i64 q.now) (.int .i64 n) (.int .i64 0))
     have HXF:=tH (k5.ext (HC.out.ext HE1.out (fun z hz=>by have h1:=List.mem_singleton.1 hz;have h2:=HGE.out;omega) |>.trans HEF.out) (by simp))
     have HOF:=tH ((HOP.out.ext HEF.out).far k5 (fun z hz hm=>by have h1:=List.mem_singleton.1 hm;have h2:=HOP.out.low z hz;omega))
     clear k5
     go_wp2
     have y0:=HY0.out.cell 0
     have y1:=HY0.out.cell 1
     have y2:=HY0.out.cell 2
     have y3:=HY0.out.cell 3
     have y4:=HY0.out.cell 4
     simp only[List.getElem?_cons_zero,List.getElem?_cons_succ] at y0 y1 y2 y3 y4
     refine bodyPost_ret (v:=.agg #[.slice a q.clear.length c,.slice b q.jobs.length d,(.int .i64 q.now),(.int .i64 n),(.int .i64 0)]) (by simp[results,Tryz.results25,go_sem,y0,y1,y2,y3,y4]) rfl ?_
     rw[HFIN.out]
     exact⟨_,_,fc2,fj2,rfl,HXF.out,HOF.out.mono (by omega)⟩
  ·rw[repR_new h8 hc]
   have hcb:((newR l).2 == 0)=false:=by simp[hc]
   clear hc
   go_enter Tryz.func25,Tryz.ntmps25
   go_wp2_with fail
   refine(implPoolNew_any _ l _ (HS.out.ext rLabS_stable xE) hl).mono ?_
   rintro e _ ⟨cv,jv,fc,fj,rfl,⟨X,rfl⟩,hO⟩
   obtain⟨ac,cc,rfl⟩:=hO.1.shape
   obtain⟨aj,cj,rfl⟩:=hO.2.1.shape
   clear hO
   unfold poV
   go_wp2_with (go_at_call 79;refine(isLongR_any s _ hs).mono ?_;rintro e _ ⟨rfl,rfl⟩;rw[h8b])
   exact bodyPost_ret (v:=.agg #[.slice none 0 0,.slice none 0 0,(.int .i64 0),(.int .i64 0),(.int .i64 (newR l).2)]) (by simp[results,Tryz.results25,go_sem]) rfl ⟨_,_,[],[],rfl,xF,OwnP.zero _ _ _⟩
end Go.Proofs.YtdoeoojjabnboaaGreat
