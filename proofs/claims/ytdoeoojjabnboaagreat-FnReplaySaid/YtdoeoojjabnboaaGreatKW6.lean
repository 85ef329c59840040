/- The walks of GetNum, GetText. -/
import Derived.Test.YtdoeoojjabnboaaGreatKN
import Derived.Deep.Cut
set_option maxRecDepth 100000
namespace Go.Proofs.YtdoeoojjabnboaaGreat
open Go.RowKit Go.Fin1
theorem gn_short {s:ByteArray} {a k:Nat} {u:Int} (hk:k≤9) (h:¬ a+k < s.size):gn s a (10-k) k u=⟨0,0,4⟩:=by
 rw[show 10-k=(9-k)+1 by omega,gn,if_pos (by omega)]
theorem gn_at {s:ByteArray} {a k:Nat} {u:Int} (hk:k≤9) (h:a+k < s.size):gn s a (10-k) k u =
  if k=9∧1 < (s[a+k].toNat:Int) then ⟨0,0,3⟩ else if 128≤(s[a+k].toNat:Int) then gn s a (10-(k+1)) (k+1) (u+(s[a+k].toNat:Int) % 128*2 ^ (7*k))
  else if (s[a+k].toNat:Int)=0∧0 < k then ⟨0,0,3⟩ else ⟨unzig (u+(s[a+k].toNat:Int) % 128*2 ^ (7*k)),(a+k+1:Nat),0⟩:=by
 rw[show 10-k=(9-k)+1 by omega,gn,if_neg (by omega),byteAt_eq h,show 10-(k+1)=9-k by omega]
theorem gn_digit {x b:Int} {k:Nat} (hk:k≤9) (h0:0≤x) (h1:x < 2 ^ (7*k)) (b0:0≤b) (b9:k=9→b≤1) :
  IntKind.u64.wrap (b % 128*2 ^ (7*k))=b % 128*2 ^ (7*k)∧∃ y,y=x+b % 128*2 ^ (7*k)∧bits .or .u64 x (b % 128*2 ^ (7*k))=y∧0≤y∧y≤18446744073709551615∧(k≤8→y < 2 ^ (7*(k+1)))∧IntKind.u64.wrap (x+b % 128*2 ^ (7*k))=y:=by
 obtain⟨h2,h3,h4,h5⟩:=or_join (u:=x) (d:=b % 128) hk h0 h1 (by omega) (by omega) (fun e=>by have:=b9 e;omega)
 refine⟨by rw[IntKind.wrap_u64];omega,_,rfl,h2,by omega,h4,fun h8=>sum_lt h8 h1 (by omega),by rw[IntKind.wrap_u64];omega⟩
theorem unzig_pos {y:Int} (h:(y % 2 == 1)=true):unzig y=-(y / 2)-1:=by unfold unzig;rw[if_pos (by simpa using h)]
theorem unzig_neg {y:Int} (h:(y % 2 == 1)=false):unzig y=y / 2:=by unfold unzig;rw[if_neg (by simpa using h)]
abbrev numV (G:NumO):Value:=.agg #[(.int .i64 G.n),(.int .i64 G.at_),(.int .i64 G.c)]
set_option maxHeartbeats 1600000 in
theorem implgetNum_any (s:ByteArray) (a:Nat) (w:World) (hs:s.size≤1048576) (ha:a < s.size) :
  Calls Tryz.prog 146 #[.string s,(.int .i64 a)] w fun e w'=>e=.returned (.agg #[(.int .i64 (getNumG s a).n),(.int .i64 (getNumG s a).at_),(.int .i64 (getNumG s a).c)])∧Ext w w':=by
 have HG:Hid (getNumG s a=gn s a 10 0 0):=tH (by unfold getNumG;rfl)
 generalize getNumG s a=G at HG ⊢
 go_enter Tryz.func146,Tryz.ntmps146
 go_wp2
 go_loopw [5,6,7,8] (fun u i _ _ wr=>∃ (k:Nat) (x:Int),k≤9∧i=.int .i64 k∧u=.int .u64 x∧0≤x∧wr=w.alloc (.cells #[(.int .i64 0),(.int .i64 0),(.int .i64 0)] 114)∧Hid (x < 2 ^ (7*k))∧Hid (G=gn s a (10-k) k x)) (fun _ i _ _ _=>10-(intOf i).toNat)
 case atStart=>exact⟨0,0,by omega,rfl,rfl,by omega,rfl,tH (by decide),HG⟩
 case round =>
  clear HG
  obtain⟨k,x,hk,rfl,rfl,hx0,rfl,hx1,HG⟩:=hrel
  by_cases hlt:a+k < s.size
  ·have hg:=tH (HG.out.trans (gn_at hk hlt))
   clear HG
   have hv0:(0:Int)≤s[a+k].toNat:=by omega
   have hv1:(s[a+k].toNat:Int)≤255:=by have:=s[a+k].toNat_lt;omega
   by_cases k9:k=9
   ·subst k9
    clear hk
    by_cases h9:1 < (s[a+9].toNat:Int)
    ·obtain rfl:G=⟨0,0,3⟩:=by rw[hg.out,if_pos ⟨rfl,h9⟩]
     go_wp2
     exact bodyPost_ret (v:=numV ⟨0,0,3⟩) (by simp[results,Tryz.results146,go_sem]) rfl ⟨rfl,xE⟩
    obtain⟨hw,y,hy,hor,hy0,hy1,-,-⟩:=gn_digit (k:=9) (by omega) hx0 hx1.out hv0 (fun e=>by omega)
    by_cases hz:(s[a+9].toNat:Int)=0
    ·obtain rfl:G=⟨0,0,3⟩:=by rw[hg.out,if_neg (by omega),if_neg (by omega),if_pos ⟨hz,by omega⟩]
     clear hw hor hy hg hx1
     go_wp2
     exact bodyPost_ret (v:=numV ⟨0,0,3⟩) (by simp[results,Tryz.results146,go_sem]) rfl ⟨rfl,xE⟩
    have hb1:(s[a+9].toNat:Int)=1:=by omega
    have hG:G=⟨unzig y,(a+9+1:Nat),0⟩:=by rw[hg.out,if_neg (by omega),if_neg (by omega),if_neg (by omega),hy]
    subst hG
    clear hg hx1 hy
    rw[hb1] at hw hor
    simp at hw hor
    have hn1:bits .xor .i64 (-1) (y / 2)=-(y / 2)-1:=unzig_not (by omega) (by omega)
    cases hodd:(y % 2 == 1)
    ·have hu:=unzig_neg hodd
     go_wp2
     exact bodyPost_ret (v:=.agg #[(.int .i64 (y / 2)),(.int .i64 ((a:Int)+9+1)),(.int .i64 0)]) (by simp[results,Tryz.results146,go_sem]) rfl ⟨by simp,xE⟩
    ·have hu:=unzig_pos hodd
     go_wp2
     exact bodyPost_ret (v:=.agg #[(.int .i64 (-(y / 2)-1)),(.int .i64 ((a:Int)+9+1)),(.int .i64 0)]) (by simp[results,Tryz.results146,go_sem]) rfl ⟨by simp,xE⟩
   have hk9:decide ((k:Int)=9)=false:=decide_eq_false (by omega)
   have hg1:=tH (hg.out.trans (if_neg (by omega)))
   clear hg
   obtain⟨hw,y,hy,hor,hy0,hy1,hy2,-⟩:=gn_digit hk hx0 hx1.out hv0 (fun e=>by omega)
   have Hy:=tH hy
   have Hy2:=tH (hy2 (by omega))
   clear hy hy2 hx1
   by_cases h128:128≤(s[a+k].toNat:Int)
   ·have H:Hid (G=gn s a (10-(k+1)) (k+1) y):=tH (by rw[hg1.out,if_pos h128,Hy.out])
    clear hg1
    go_wp2
    exact⟨⟨k+1,y,by omega,by go_num,(by first | rfl | trivial),hy0,(by first | rfl | trivial),Hy2,H⟩,by simp[intOf];omega⟩
   have hg2:=tH (hg1.out.trans (if_neg h128))
   clear hg1
   by_cases hz:(s[a+k].toNat:Int)=0∧0 < k
   ·obtain rfl:G=⟨0,0,3⟩:=by rw[hg2.out,if_pos hz]
    obtain⟨hz,hk0⟩:=hz
    have hkb:decide ((0:Int) < (k:Int))=true:=decide_eq_true (by omega)
    clear hw hor hg2 Hy Hy2
    go_wp2
    exact bodyPost_ret (v:=numV ⟨0,0,3⟩) (by simp[results,Tryz.results146,go_sem]) rfl ⟨rfl,xE⟩
   have hG:G=⟨unzig y,(a+k+1:Nat),0⟩:=by rw[hg2.out,if_neg hz,Hy.out]
   subst hG
   clear hg2 Hy Hy2
   have hn1:bits .xor .i64 (-1) (y / 2)=-(y / 2)-1:=unzig_not (by omega) (by omega)
   have hg:(((s[a+k].toNat:Int) == 0)&&decide (0 < (k:Int)))=false:=by
    rw[Bool.and_eq_false_iff,beq_eq_false_iff_ne,decide_eq_false_iff_not];omega
   cases hodd:(y % 2 == 1)
   ·have hu:=unzig_neg hodd
    cases hz0:((s[a+k].toNat:Int) == 0)
    all_goals try (have hkb:decide (0 < (k:Int))=false:=by rw[hz0] at hg;simpa using hg)
    all_goals clear hg
    all_goals go_wp2
    all_goals first
     | (exfalso;have:=of_decide_eq_false hkb;omega)
     | exact bodyPost_ret (v:=.agg #[(.int .i64 (y / 2)),(.int .i64 ((a:Int)+k+1)),(.int .i64 0)]) (by simp[results,Tryz.results146,go_sem]) rfl ⟨by simp,xE⟩
   ·have hu:=unzig_pos hodd
    cases hz0:((s[a+k].toNat:Int) == 0)
    all_goals try (have hkb:decide (0 < (k:Int))=false:=by rw[hz0] at hg;simpa using hg)
    all_goals clear hg
    all_goals go_wp2
    all_goals first
     | (exfalso;have:=of_decide_eq_false hkb;omega)
     | exact bodyPost_ret (v:=.agg #[(.int .i64 (-(y / 2)-1)),(.int .i64 ((a:Int)+k+1)),(.int .i64 0)]) (by simp[results,Tryz.results146,go_sem]) rfl ⟨by simp,xE⟩
  ·obtain rfl:G=⟨0,0,4⟩:=by rw[HG.out,gn_short hk hlt]
   go_wp2
   exact bodyPost_ret (v:=numV ⟨0,0,4⟩) (by simp[results,Tryz.results146,go_sem]) rfl ⟨rfl,xE⟩
theorem getNum_long {s:ByteArray} {n:Int} (h:8000 < s.size):getNum s n=⟨0,0,2⟩:=by unfold getNum;rw[if_pos h]
theorem getNum_neg {s:ByteArray} {n:Int} (h:s.size≤8000) (hn:n < 0):getNum s n=⟨0,0,1⟩:=by unfold getNum;rw[if_neg (by omega),if_pos hn]
theorem getNum_out {s:ByteArray} {n:Int} (h:s.size≤8000) (hn:0≤n) (hs:(s.size:Int)≤n):getNum s n=⟨0,0,4⟩:=by unfold getNum;rw[if_neg (by omega),if_neg (by omega),if_pos hs]
theorem getNum_in {s:ByteArray} {a:Nat} (h:s.size≤8000) (hs:a < s.size):getNum s a=getNumG s a:=by unfold getNum;rw[if_neg (by omega),if_neg (by omega),if_neg (by omega),Int.toNat_natCast]
set_option maxHeartbeats 800000 in
theorem implGetNum_any (s:ByteArray) (n:Int) (w:World) (hs:s.size≤1048576) :
  Calls Tryz.prog 123 #[.string s,(.int .i64 n)] w fun e w'=>e=.returned (.agg #[(.int .i64 (getNum s n).n),(.int .i64 (getNum s n).at_),(.int .i64 (getNum s n).c)])∧Ext w w':=by
 by_cases h0:8000 < s.size
 ·rw[getNum_long h0]
  have hb:decide (8000 < (s.size:Int))=true:=decide_eq_true (by omega)
  go_enter Tryz.func123,Tryz.ntmps123
  go_wp2_with ((go_at_call 79;refine(isLongText_any s _).mono ?_;rintro e _ ⟨rfl,rfl⟩))
  exact bodyPost_ret (v:=numV ⟨0,0,2⟩) (by simp[results,Tryz.results123,go_sem]) rfl ⟨rfl,xE⟩
 have hb:decide (8000 < (s.size:Int))=false:=decide_eq_false (by omega)
 by_cases h1:n < 0
 ·rw[getNum_neg (by omega) h1]
  go_enter Tryz.func123,Tryz.ntmps123
  go_wp2_with ((go_at_call 79;refine(isLongText_any s _).mono ?_;rintro e _ ⟨rfl,rfl⟩))
  exact bodyPost_ret (v:=numV ⟨0,0,1⟩) (by simp[results,Tryz.results123,go_sem]) rfl ⟨rfl,xE⟩
 by_cases h2:(s.size:Int)≤n
 ·rw[getNum_out (by omega) (by omega) h2]
  go_enter Tryz.func123,Tryz.ntmps123
  go_wp2_with ((go_at_call 79;refine(isLongText_any s _).mono ?_;rintro e _ ⟨rfl,rfl⟩))
  exact bodyPost_ret (v:=numV ⟨0,0,4⟩) (by simp[results,Tryz.results123,go_sem]) rfl ⟨rfl,xE⟩
 obtain⟨a,rfl⟩:∃ a:Nat,n=a:=⟨n.toNat,by omega⟩
 rw[getNum_in (by omega) (by omega)]
 have ha:a < s.size:=by omega
 go_enter Tryz.func123,Tryz.ntmps123
 go_wp2_with (first | (go_at_call 79;refine(isLongText_any s _).mono ?_;rintro e _ ⟨rfl,rfl⟩) | (go_at_call 146;refine(implgetNum_any s a _ hs ha).mono ?_;rintro e _ ⟨rfl,X,rfl⟩))
 exact bodyPost_ret (v:=numV (getNumG s a)) (by simp[results,Tryz.results123,go_sem]) rfl ⟨rfl,xE⟩
set_option maxHeartbeats 1600000 in
theorem specGetNum_any (s:ByteArray) (n:Int) (w:World) (hs:s.size≤1048576) (hn:I64 n) :
  Calls Tryz.prog 89 #[.string s,(.int .i64 n)] w fun e w'=>e=.returned (.agg #[(.int .i64 (getNum s n).n),(.int .i64 (getNum s n).at_),(.int .i64 (getNum s n).c)])∧Ext w w':=by
 unfold I64 at hn
 by_cases h0:8000 < s.size
 ·rw[getNum_long h0]
  go_enter Tryz.func89,Tryz.ntmps89
  go_wp2
  exact bodyPost_ret (v:=numV ⟨0,0,2⟩) (by simp[results,Tryz.results89,go_sem]) rfl ⟨rfl,xE⟩
 by_cases h1:n < 0
 ·rw[getNum_neg (by omega) h1]
  go_enter Tryz.func89,Tryz.ntmps89
  go_wp2
  exact bodyPost_ret (v:=numV ⟨0,0,1⟩) (by simp[results,Tryz.results89,go_sem]) rfl ⟨rfl,xE⟩
 by_cases h2:(s.size:Int)≤n
 ·rw[getNum_out (by omega) (by omega) h2]
  go_enter Tryz.func89,Tryz.ntmps89
  go_wp2
  go_loopw [5,6,7,8] (fun u i _ _ wr=>i=(.int .i64 0)∧wr=w.alloc (.cells #[(.int .i64 0),(.int .i64 0),(.int .i64 0)] 114)) (fun _ i _ _ _=>10-(intOf i).toNat)
  case atStart=>exact⟨rfl,rfl⟩
  case round =>
   obtain⟨rfl,rfl⟩:=hrel
   go_wp2
   exact bodyPost_ret (v:=numV ⟨0,0,4⟩) (by simp[results,Tryz.results89,go_sem]) rfl ⟨rfl,xE⟩
 obtain⟨a,rfl⟩:∃ a:Nat,n=a:=⟨n.toNat,by omega⟩
 rw[getNum_in (by omega) (by omega)]
 have ha:a < s.size:=by omega
 have HG:Hid (getNumG s a=gn s a 10 0 0):=tH (by unfold getNumG;rfl)
 generalize getNumG s a=G at HG ⊢
 go_enter Tryz.func89,Tryz.ntmps89
 go_wp2
 go_loopw [5,6,7,8] (fun u i _ _ wr=>∃ (k:Nat) (x:Int),k≤9∧i=.int .i64 k∧u=.int .u64 x∧0≤x∧wr=w.alloc (.cells #[(.int .i64 0),(.int .i64 0),(.int .i64 0)] 114)∧Hid (x < 2 ^ (7*k))∧Hid (G=gn s a (10-k) k x)) (fun _ i _ _ _=>10-(intOf i).toNat)
 case atStart=>exact⟨0,0,by omega,rfl,rfl,by omega,rfl,tH (by decide),HG⟩
 case round =>
  clear HG
  obtain⟨k,x,hk,rfl,rfl,hx0,rfl,hx1,HG⟩:=hrel
  by_cases hlt:a+k < s.size
  ·have hg:=tH (HG.out.trans (gn_at hk hlt))
   clear HG
   have hv0:(0:Int)≤s[a+k].toNat:=by omega
   have hv1:(s[a+k].toNat:Int)≤255:=by have:=s[a+k].toNat_lt;omega
   by_cases k9:k=9
   ·subst k9
    clear hk
    by_cases h9:1 < (s[a+9].toNat:Int)
    ·obtain rfl:G=⟨0,0,3⟩:=by rw[hg.out,if_pos ⟨rfl,h9⟩]
     go_wp2
     exact bodyPost_ret (v:=numV ⟨0,0,3⟩) (by simp[results,Tryz.results89,go_sem]) rfl ⟨rfl,xE⟩
    obtain⟨hw,y,hy,-,hy0,hy1,-,hor⟩:=gn_digit (k:=9) (by omega) hx0 hx1.out hv0 (fun e=>by omega)
    by_cases hz:(s[a+9].toNat:Int)=0
    ·obtain rfl:G=⟨0,0,3⟩:=by rw[hg.out,if_neg (by omega),if_neg (by omega),if_pos ⟨hz,by omega⟩]
     clear hw hor hy hg hx1
     go_wp2
     exact bodyPost_ret (v:=numV ⟨0,0,3⟩) (by simp[results,Tryz.results89,go_sem]) rfl ⟨rfl,xE⟩
    have hb1:(s[a+9].toNat:Int)=1:=by omega
    have hG:G=⟨unzig y,(a+9+1:Nat),0⟩:=by rw[hg.out,if_neg (by omega),if_neg (by omega),if_neg (by omega),hy]
    subst hG
    clear hg hx1 hy
    rw[hb1] at hw hor
    simp at hw hor
    cases hodd:(y % 2 == 1)
    ·have hu:=unzig_neg hodd
     go_wp2
     exact bodyPost_ret (v:=.agg #[(.int .i64 (y / 2)),(.int .i64 ((a:Int)+9+1)),(.int .i64 0)]) (by simp[results,Tryz.results89,go_sem]) rfl ⟨by simp,xE⟩
    ·have hu:=unzig_pos hodd
     go_wp2
     exact bodyPost_ret (v:=.agg #[(.int .i64 (-(y / 2)-1)),(.int .i64 ((a:Int)+9+1)),(.int .i64 0)]) (by simp[results,Tryz.results89,go_sem]) rfl ⟨by simp,xE⟩
   have hk9:decide ((k:Int)=9)=false:=decide_eq_false (by omega)
   have hg1:=tH (hg.out.trans (if_neg (by omega)))
   clear hg
   obtain⟨hw,y,hy,-,hy0,hy1,hy2,hor⟩:=gn_digit hk hx0 hx1.out hv0 (fun e=>by omega)
   have Hy:=tH hy
   have Hy2:=tH (hy2 (by omega))
   clear hy hy2 hx1
   by_cases h128:128≤(s[a+k].toNat:Int)
   ·have H:Hid (G=gn s a (10-(k+1)) (k+1) y):=tH (by rw[hg1.out,if_pos h128,Hy.out])
    clear hg1
    go_wp2
    exact⟨⟨k+1,y,by omega,by go_num,(by first | rfl | trivial),hy0,(by first | rfl | trivial),Hy2,H⟩,by simp[intOf];omega⟩
   have hg2:=tH (hg1.out.trans (if_neg h128))
   clear hg1
   by_cases hz:(s[a+k].toNat:Int)=0∧0 < k
   ·obtain rfl:G=⟨0,0,3⟩:=by rw[hg2.out,if_pos hz]
    obtain⟨hz,hk0⟩:=hz
    have hkb:decide ((0:Int) < (k:Int))=true:=decide_eq_true (by omega)
    clear hw hor hg2 Hy Hy2
    go_wp2
    exact bodyPost_ret (v:=numV ⟨0,0,3⟩) (by simp[results,Tryz.results89,go_sem]) rfl ⟨rfl,xE⟩
   have hG:G=⟨unzig y,(a+k+1:Nat),0⟩:=by rw[hg2.out,if_neg hz,Hy.out]
   subst hG
   clear hg2 Hy Hy2
   have hg:(((s[a+k].toNat:Int) == 0)&&decide (0 < (k:Int)))=false:=by
    rw[Bool.and_eq_false_iff,beq_eq_false_iff_ne,decide_eq_false_iff_not];omega
   cases hodd:(y % 2 == 1)
   ·have hu:=unzig_neg hodd
    cases hz0:((s[a+k].toNat:Int) == 0)
    all_goals try (have hkb:decide (0 < (k:Int))=false:=by rw[hz0] at hg;simpa using hg)
    all_goals clear hg
    all_goals go_wp2
    all_goals first
     | (exfalso;have:=of_decide_eq_false hkb;omega)
     | exact bodyPost_ret (v:=.agg #[(.int .i64 (y / 2)),(.int .i64 ((a:Int)+k+1)),(.int .i64 0)]) (by simp[results,Tryz.results89,go_sem]) rfl ⟨by simp,xE⟩
   ·have hu:=unzig_pos hodd
    cases hz0:((s[a+k].toNat:Int) == 0)
    all_goals try (have hkb:decide (0 < (k:Int))=false:=by rw[hz0] at hg;simpa using hg)
    all_goals clear hg
    all_goals go_wp2
    all_goals first
     | (exfalso;have:=of_decide_eq_false hkb;omega)
     | exact bodyPost_ret (v:=.agg #[(.int .i64 (-(y / 2)-1)),(.int .i64 ((a:Int)+k+1)),(.int .i64 0)]) (by simp[results,Tryz.results89,go_sem]) rfl ⟨by simp,xE⟩
  ·obtain rfl:G=⟨0,0,4⟩:=by rw[HG.out,gn_short hk hlt]
   go_wp2
   exact bodyPost_ret (v:=numV ⟨0,0,4⟩) (by simp[results,Tryz.results89,go_sem]) rfl ⟨rfl,xE⟩
end Go.Proofs.YtdoeoojjabnboaaGreat
