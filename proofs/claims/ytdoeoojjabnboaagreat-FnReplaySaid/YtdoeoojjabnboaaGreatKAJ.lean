/- The walks of EntryRight and of its law. -/
import Derived.Test.YtdoeoojjabnboaaGreatKBA
import Derived.Test.YtdoeoojjabnboaaGreatKAF
import Derived.Test.YtdoeoojjabnboaaGreatKAG
set_option maxRecDepth 100000
namespace Go.Proofs.YtdoeoojjabnboaaGreat
open Go.RowKit Go.Fin1
set_option maxHeartbeats 800000 in
theorem implEntryRight_any (k lv st a b c:Int) (w:World) :
  Calls Tryz.prog 37 #[.agg #[(.int .i64 k),(.int .i64 lv),(.int .i64 st),(.int .i64 a),(.int .i64 b),(.int .i64 c)]] w fun e w'=>e=.returned (.bool (entR ⟨k,⟨lv,st⟩,a,b,c⟩))∧Ext w w':=by
 go_enter Tryz.func37,Tryz.ntmps37
 go_wp2_with (first | (go_at_call 64;refine(implLabelRight_any _ _ _).mono ?_;rintro e _ ⟨rfl,X,rfl⟩) | (go_at_call 90;refine(within_any _ _ _ _).mono ?_;rintro e _ ⟨rfl,rfl⟩))
 all_goals go_ret
 all_goals refine⟨ret_bool ?_,xE⟩
 all_goals simp_all [entR]<;>decide
set_option maxHeartbeats 400000 in
theorem l07Num_any (a:Int) (w:World) :
  Calls Tryz.prog 91 #[.int .i64 a] w fun e w'=>e=.returned (.bool (isIn a 0 100))∧w=w':=by
 go_enter Tryz.func91,Tryz.ntmps91
 go_wp2_with (go_at_call 98;refine(l02Is_any _ _ _ _).mono ?_;rintro e _ ⟨rfl,rfl⟩)
 go_ret
 exact⟨rfl,rfl⟩
set_option maxHeartbeats 800000 in
theorem specEntryRight_any (k lv st a b c:Int) (w:World) :
  Calls Tryz.prog 38 #[.agg #[(.int .i64 k),(.int .i64 lv),(.int .i64 st),(.int .i64 a),(.int .i64 b),(.int .i64 c)]] w fun e w'=>e=.returned (.bool (entR ⟨k,⟨lv,st⟩,a,b,c⟩))∧Ext w w':=by
 go_enter Tryz.func38,Tryz.ntmps38
 go_wp2_with (first | (go_at_call 68;refine(specLabelRight_any _ _ _).mono ?_;rintro e _ ⟨rfl,X,rfl⟩) | (go_at_call 91;refine(l07Num_any _ _).mono ?_;rintro e _ ⟨rfl,rfl⟩))
 all_goals go_ret
 all_goals refine⟨ret_bool ?_,xE⟩
 all_goals simp_all [entR]<;>decide
end Go.Proofs.YtdoeoojjabnboaaGreat
set_option maxRecDepth 100000
set_option linter.unusedVariables false
namespace Go.Proofs.YtdoeoojjabnboaaGreat
open Go.RowKit Go.Fin1
@[irreducible] def actR (p:Pl) (e:Ent):Pl×Int×Int :=
 if entR e=false then (zPl,0,1) else if e.k=1 then subR p e.l e.a e.b e.c else if e.k=2 then chR p e.l e.a e.b else advR p
theorem actR_form {p:Pl} {e:Ent} (h:entR e=false):actR p e=(zPl,0,1):=by unfold actR;rw[if_pos h]
theorem actR_sub {p:Pl} {e:Ent} (h:entR e=true) (h1:e.k=1):actR p e=subR p e.l e.a e.b e.c:=by unfold actR;rw[if_neg (by rw[h];simp),if_pos h1]
theorem actR_ch {p:Pl} {e:Ent} (h:entR e=true) (h1:¬ e.k=1) (h2:e.k=2):actR p e=chR p e.l e.a e.b:=by unfold actR;rw[if_neg (by rw[h];simp),if_neg h1,if_pos h2]
theorem actR_adv {p:Pl} {e:Ent} (h:entR e=true) (h1:¬ e.k=1) (h2:¬ e.k=2):actR p e=advR p:=by unfold actR;rw[if_neg (by rw[h];simp),if_neg h1,if_neg h2]
set_option maxHeartbeats 1600000 in
theorem implAct_any (p:Pl) (v:Value) (x:Ent) (w:World) (h:ePool w v p) (hf:p.fits 1048576) (hx:x.ok) :
  Calls Tryz.prog 35 #[v,x.val] w fun e w'=>∃ cv jv fc fj,e=.returned (poV (actR p x).1 (actR p x).2.1 (actR p x).2.2 cv jv)∧Ext w w'∧OwnP w.heap.size w' fc fj cv jv (actR p x).1:=by
 have HP:=tH h
 obtain⟨k,⟨lv,st⟩,xa,xb,xc⟩:=x
 obtain⟨hk,hl,ha,hb,hc⟩:=hx
 have HX:=tH (And.intro hl (And.intro ha (And.intro hb hc)))
 obtain⟨a,c,b,d,rfl,h0,h1,h2⟩:=h
 clear h0 h1 h2 hk hl ha hb hc
 unfold Pl.val at HP ⊢
 unfold Ent.val
 cases hq:entR ⟨k,⟨lv,st⟩,xa,xb,xc⟩
 ·rw[actR_form hq]
  have HQ:=tH hq
  clear hq
  go_enter Tryz.func35,Tryz.ntmps35
  go_wp2_with fail
  refine(implEntryRight_any _ _ _ _ _ _ _).mono ?_
  rintro e _ ⟨rfl,X,rfl⟩
  rw[HQ.out]
  skip
  go_wp2
  exact bodyPost_ret (v:=.agg #[.slice none 0 0,.slice none 0 0,(.int .i64 0),(.int .i64 0),(.int .i64 1)]) (by simp[results,Tryz.results35,go_sem]) rfl ⟨_,_,[],[],rfl,xF,OwnP.zero _ _ _⟩
 ·by_cases h1:k=1
  ·rw[actR_sub hq h1]
   subst h1
   have HQ:=tH hq
   clear hq
   go_enter Tryz.func35,Tryz.ntmps35
   go_wp2_with fail
   refine(implEntryRight_any _ _ _ _ _ _ _).mono ?_
   rintro e _ ⟨rfl,X,rfl⟩
   rw[HQ.out]
   go_wp2_with fail
   refine(implSubmit_any p _ ⟨lv,st⟩ xa xb xc _ (HP.out.ext xE) hf HX.out.1 HX.out.2.1 HX.out.2.2.1 HX.out.2.2.2).mono ?_
   rintro e _ ⟨cv,jv,fc,fj,rfl,⟨Y,rfl⟩,hO⟩
   obtain⟨ac,cc,rfl⟩:=hO.1.shape
   obtain⟨aj,cj,rfl⟩:=hO.2.1.shape
   have HO:=tH hO
   clear hO
   unfold poV
   go_wp2
   exact bodyPost_ret (v:=.agg #[.slice ac (subR p ⟨lv,st⟩ xa xb xc).1.clear.length cc,.slice aj (subR p ⟨lv,st⟩ xa xb xc).1.jobs.length cj,(.int .i64 (subR p ⟨lv,st⟩ xa xb xc).1.now),(.int .i64 (subR p ⟨lv,st⟩ xa xb xc).2.1),(.int .i64 (subR p ⟨lv,st⟩ xa xb xc).2.2)]) (by simp[results,Tryz.results35,go_sem]) rfl ⟨_,_,fc,fj,rfl,xF,(HO.out.swap (Nat.le_refl _) (by simp)).mono (by simp;try omega)⟩
  ·by_cases h2:k=2
   ·rw[actR_ch hq h1 h2]
    subst h2
    have HQ:=tH hq
    clear hq h1
    go_enter Tryz.func35,Tryz.ntmps35
    go_wp2_with fail
    refine(implEntryRight_any _ _ _ _ _ _ _).mono ?_
    rintro e _ ⟨rfl,X,rfl⟩
    rw[HQ.out]
    go_wp2_with fail
    refine(implChange_any p _ ⟨lv,st⟩ xa xb _ (HP.out.ext xE) hf).mono ?_
    rintro e _ ⟨cv,jv,fc,fj,rfl,⟨Y,rfl⟩,hO⟩
    obtain⟨ac,cc,rfl⟩:=hO.1.shape
    obtain⟨aj,cj,rfl⟩:=hO.2.1.shape
    have HO:=tH hO
    clear hO
    unfold poV
    go_wp2
    exact bodyPost_ret (v:=.agg #[.slice ac (chR p ⟨lv,st⟩ xa xb).1.clear.length cc,.slice aj (chR p ⟨lv,st⟩ xa xb).1.jobs.length cj,(.int .i64 (chR p ⟨lv,st⟩ xa xb).1.now),(.int .i64 (chR p ⟨lv,st⟩ xa xb).2.1),(.int .i64 (chR p ⟨lv,st⟩ xa xb).2.2)]) (by simp[results,Tryz.results35,go_sem]) rfl ⟨_,_,fc,fj,rfl,xF,(HO.out.swap (Nat.le_refl _) (by simp)).mono (by simp;try omega)⟩
   ·rw[actR_adv hq h1 h2]
    have b1:(k == 1)=false:=by simp[h1]
    have b2:(k == 2)=false:=by simp[h2]
    have HQ:=tH hq
    clear hq h1 h2
    go_enter Tryz.func35,Tryz.ntmps35
    go_wp2_with fail
    refine(implEntryRight_any _ _ _ _ _ _ _).mono ?_
    rintro e _ ⟨rfl,X,rfl⟩
    rw[HQ.out]
    go_wp2_with fail
    refine(implAdvance_any p _ _ (HP.out.ext xE) hf).mono ?_
    rintro e _ ⟨cv,jv,fc,fj,rfl,⟨Y,rfl⟩,hO⟩
    obtain⟨ac,cc,rfl⟩:=hO.1.shape
    obtain⟨aj,cj,rfl⟩:=hO.2.1.shape
    have HO:=tH hO
    clear hO
    unfold poV
    go_wp2
    exact bodyPost_ret (v:=.agg #[.slice ac (advR p).1.clear.length cc,.slice aj (advR p).1.jobs.length cj,(.int .i64 (advR p).1.now),(.int .i64 (advR p).2.1),(.int .i64 (advR p).2.2)]) (by simp[results,Tryz.results35,go_sem]) rfl ⟨_,_,fc,fj,rfl,xF,(HO.out.swap (Nat.le_refl _) (by simp)).mono (by simp;try omega)⟩
set_option maxHeartbeats 1600000 in
theorem specAct_any (p:Pl) (v:Value) (x:Ent) (w:World) (h:ePool w v p) (hf:p.fits 1048576) (hx:x.ok) :
  Calls Tryz.prog 36 #[v,x.val] w fun e w'=>∃ cv jv fc fj,e=.returned (poV (actR p x).1 (actR p x).2.1 (actR p x).2.2 cv jv)∧Ext w w'∧OwnP w.heap.size w' fc fj cv jv (actR p x).1:=by
 have HP:=tH h
 obtain⟨k,⟨lv,st⟩,xa,xb,xc⟩:=x
 obtain⟨hk,hl,ha,hb,hc⟩:=hx
 have HX:=tH (And.intro hl (And.intro ha (And.intro hb hc)))
 obtain⟨a,c,b,d,rfl,h0,h1,h2⟩:=h
 clear h0 h1 h2 hk hl ha hb hc
 unfold Pl.val at HP ⊢
 unfold Ent.val
 cases hq:entR ⟨k,⟨lv,st⟩,xa,xb,xc⟩
 ·rw[actR_form hq]
  have HQ:=tH hq
  clear hq
  go_enter Tryz.func36,Tryz.ntmps36
  go_wp2_with fail
  refine(specEntryRight_any _ _ _ _ _ _ _).mono ?_
  rintro e _ ⟨rfl,X,rfl⟩
  rw[HQ.out]
  (go_wp2_with fail;refine(l05IllA_any 1 _).mono ?_;rintro e _ ⟨rfl,X2,rfl⟩)
  go_wp2
  exact bodyPost_ret (v:=.agg #[.slice none 0 0,.slice none 0 0,(.int .i64 0),(.int .i64 0),(.int .i64 1)]) (by simp[results,Tryz.results36,go_sem]) rfl ⟨_,_,[],[],rfl,xF,OwnP.zero _ _ _⟩
 ·by_cases h1:k=1
  ·rw[actR_sub hq h1]
   subst h1
   have HQ:=tH hq
   clear hq
   go_enter Tryz.func36,Tryz.ntmps36
   go_wp2_with fail
   refine(specEntryRight_any _ _ _ _ _ _ _).mono ?_
   rintro e _ ⟨rfl,X,rfl⟩
   rw[HQ.out]
   go_wp2_with fail
   refine(specSubmit_any p _ ⟨lv,st⟩ xa xb xc _ (HP.out.ext xE) hf HX.out.1 HX.out.2.1 HX.out.2.2.1 HX.out.2.2.2).mono ?_
   rintro e _ ⟨cv,jv,fc,fj,rfl,⟨Y,rfl⟩,hO⟩
   obtain⟨ac,cc,rfl⟩:=hO.1.shape
   obtain⟨aj,cj,rfl⟩:=hO.2.1.shape
   have HO:=tH hO
   clear hO
   unfold poV
   go_wp2
   exact bodyPost_ret (v:=.agg #[.slice ac (subR p ⟨lv,st⟩ xa xb xc).1.clear.length cc,.slice aj (subR p ⟨lv,st⟩ xa xb xc).1.jobs.length cj,(.int .i64 (subR p ⟨lv,st⟩ xa xb xc).1.now),(.int .i64 (subR p ⟨lv,st⟩ xa xb xc).2.1),(.int .i64 (subR p ⟨lv,st⟩ xa xb xc).2.2)]) (by simp[results,Tryz.results36,go_sem]) rfl ⟨_,_,fc,fj,rfl,xF,(HO.out.swap (Nat.le_refl _) (by simp)).mono (by simp;try omega)⟩
  ·by_cases h2:k=2
   ·rw[actR_ch hq h1 h2]
    subst h2
    have HQ:=tH hq
    clear hq h1
    go_enter Tryz.func36,Tryz.ntmps36
    go_wp2_with fail
    refine(specEntryRight_any _ _ _ _ _ _ _).mono ?_
    rintro e _ ⟨rfl,X,rfl⟩
    rw[HQ.out]
    go_wp2_with fail
    refine(specChange_any p _ ⟨lv,st⟩ xa xb _ (HP.out.ext xE) hf).mono ?_
    rintro e _ ⟨cv,jv,fc,fj,rfl,⟨Y,rfl⟩,hO⟩
    obtain⟨ac,cc,rfl⟩:=hO.1.shape
    obtain⟨aj,cj,rfl⟩:=hO.2.1.shape
    have HO:=tH hO
    clear hO
    unfold poV
    go_wp2
    exact bodyPost_ret (v:=.agg #[.slice ac (chR p ⟨lv,st⟩ xa xb).1.clear.length cc,.slice aj (chR p ⟨lv,st⟩ xa xb).1.jobs.length cj,(.int .i64 (chR p ⟨lv,st⟩ xa xb).1.now),(.int .i64 (chR p ⟨lv,st⟩ xa xb).2.1),(.int .i64 (chR p ⟨lv,st⟩ xa xb).2.2)]) (by simp[results,Tryz.results36,go_sem]) rfl ⟨_,_,fc,fj,rfl,xF,(HO.out.swap (Nat.le_refl _) (by simp)).mono (by simp;try omega)⟩
   ·rw[actR_adv hq h1 h2]
    have b1:(k == 1)=false:=by simp[h1]
    have b2:(k == 2)=false:=by simp[h2]
    have HQ:=tH hq
    clear hq h1 h2
    go_enter Tryz.func36,Tryz.ntmps36
    go_wp2_with fail
    refine(specEntryRight_any _ _ _ _ _ _ _).mono ?_
    rintro e _ ⟨rfl,X,rfl⟩
    rw[HQ.out]
    go_wp2_with fail
    refine(specAdvance_any p _ _ (HP.out.ext xE) hf).mono ?_
    rintro e _ ⟨cv,jv,fc,fj,rfl,⟨Y,rfl⟩,hO⟩
    obtain⟨ac,cc,rfl⟩:=hO.1.shape
    obtain⟨aj,cj,rfl⟩:=hO.2.1.shape
    have HO:=tH hO
    clear hO
    unfold poV
    go_wp2
    exact bodyPost_ret (v:=.agg #[.slice ac (advR p).1.clear.length cc,.slice aj (advR p).1.jobs.length cj,(.int .i64 (advR p).1.now),(.int .i64 (advR p).2.1),(.int .i64 (advR p).2.2)]) (by simp[results,Tryz.results36,go_sem]) rfl ⟨_,_,fc,fj,rfl,xF,(HO.out.swap (Nat.le_refl _) (by simp)).mono (by simp;try omega)⟩
end Go.Proofs.YtdoeoojjabnboaaGreat
