/- Plain maths of Replay. -/
import Derived.Test.YtdoeoojjabnboaaGreatKAJ
import Derived.Test.YtdoeoojjabnboaaGreatKRRC
import Derived.Test.YtdoeoojjabnboaaGreatKDR3
import Derived.Test.YtdoeoojjabnboaaGreatKY2
import Derived.Test.YtdoeoojjabnboaaGreatKW10
import Derived.Test.YtdoeoojjabnboaaGreatKTT
import Derived.Test.YtdoeoojjabnboaaGreatKJE
import Derived.Lib.SliceRun
import Derived.Test.YtdoeoojjabnboaaGreatKVSI
import Derived.Test.YtdoeoojjabnboaaGreatKVBC
import Derived.Test.YtdoeoojjabnboaaGreatKN
import Derived.Test.YtdoeoojjabnboaaGreatKZZ3
set_option maxRecDepth 100000
set_option linter.unusedVariables false
namespace Go.Proofs.YtdoeoojjabnboaaGreat
open Go.RowKit Go.Fin1
theorem gn_gt {s:ByteArray} {a:Nat}:∀ (f k:Nat) (u:Int),(gn s a f k u).c=0→(a:Int) < (gn s a f k u).at_
 | 0,_,_,h=>by simp[gn] at h
 | f+1,k,u,h=>by
  unfold gn at h ⊢
  split at h
  ·simp at h
  ·rename_i h1
   rw[if_neg h1]
   split at h
   ·simp at h
   ·rename_i h2
    rw[if_neg h2]
    split at h
    ·rename_i h3
     rw[if_pos h3]
     exact gn_gt f (k+1) _ h
    ·rename_i h3
     rw[if_neg h3]
     split at h
     ·simp at h
     ·rename_i h4
      rw[if_neg h4]
      show (a:Int) < ((a+k+1:Nat):Int)
      omega
theorem getNum_gt {s:ByteArray} {n:Int} (h:(getNum s n).c=0):0≤n∧n < s.size∧n < (getNum s n).at_:=by
 unfold getNum at h ⊢
 split at h
 ·simp at h
 ·rename_i h1
  rw[if_neg h1]
  split at h
  ·simp at h
  ·rename_i h2
   rw[if_neg h2]
   split at h
   ·simp at h
   ·rename_i h3
    rw[if_neg h3]
    unfold getNumG at h ⊢
    have:=gn_gt 10 0 0 h
    omega
theorem getText_gt {s:ByteArray} {n:Int} (h:(getText s n).c=0):0≤n∧n < s.size∧n < (getText s n).at_∧(getText s n).at_≤s.size∧s.size≤8000∧(getText s n).t.size≤s.size:=by
 unfold getText at h ⊢
 split at h
 ·rename_i h1;exact absurd h h1
 ·rename_i h1
  rw[if_neg h1]
  have h0:(getNum s n).c=0:=by simpa using h1
  have hb:=getNum_bd h0
  have hg:=getNum_gt h0
  split at h
  ·simp at h
  ·rename_i h2
   rw[if_neg h2]
   split at h
   ·simp at h
   ·rename_i h3
    rw[if_neg h3]
    refine⟨hg.1,hg.2.1,by show n < (getNum s n).at_+(getNum s n).n;omega,by show (getNum s n).at_+(getNum s n).n≤_;omega,hb.1,?_⟩
    show (s.extract _ _).size≤s.size
    rw[ByteArray.size_extract];omega
abbrev RSt:=Pl×Int
def repS (s:ByteArray) (st:RSt):Option RSt :=
 if (getText s st.2).c≠0 then none
 else if (entRd (getText s st.2).t).2≠0 then none
 else if (actR st.1 (entRd (getText s st.2).t).1).2.2≠0 then none
 else some ((actR st.1 (entRd (getText s st.2).t).1).1,(getText s st.2).at_)
def repN (s:ByteArray):Nat→RSt→RSt
 | 0,st=>st
 | n+1,st=>match repS s st with
  | none=>st
  | some st'=>repN s n st'
theorem repS_text {s:ByteArray} {st:RSt} (h:¬ (getText s st.2).c=0):repS s st=none:=by unfold repS;rw[if_pos h]
theorem repS_ent {s:ByteArray} {st:RSt} (h:(getText s st.2).c=0) (h2:¬ (entRd (getText s st.2).t).2=0):repS s st=none:=by unfold repS;rw[if_neg (by simp[h]),if_pos h2]
theorem repS_act {s:ByteArray} {st:RSt} (h:(getText s st.2).c=0) (h2:(entRd (getText s st.2).t).2=0) (h3:¬ (actR st.1 (entRd (getText s st.2).t).1).2.2=0):repS s st=none:=by unfold repS;rw[if_neg (by simp[h]),if_neg (by simp[h2]),if_pos h3]
theorem repS_yes {s:ByteArray} {st:RSt} (h:(getText s st.2).c=0) (h2:(entRd (getText s st.2).t).2=0) (h3:(actR st.1 (entRd (getText s st.2).t).1).2.2=0):repS s st=some ((actR st.1 (entRd (getText s st.2).t).1).1,(getText s st.2).at_):=by unfold repS;rw[if_neg (by simp[h]),if_neg (by simp[h2]),if_neg (by simp[h3])]
theorem repS_some {s:ByteArray} {st st':RSt} (h:repS s st=some st'):(getText s st.2).c=0∧(entRd (getText s st.2).t).2=0∧(actR st.1 (entRd (getText s st.2).t).1).2.2=0∧st'=((actR st.1 (entRd (getText s st.2).t).1).1,(getText s st.2).at_):=by
 by_cases h1:(getText s st.2).c=0
 case neg=>rw[repS_text h1] at h;cases h
 by_cases h2:(entRd (getText s st.2).t).2=0
 case neg=>rw[repS_ent h1 h2] at h;cases h
 by_cases h3:(actR st.1 (entRd (getText s st.2).t).1).2.2=0
 case neg=>rw[repS_act h1 h2 h3] at h;cases h
 rw[repS_yes h1 h2 h3] at h
 exact⟨h1,h2,h3,(Option.some.inj h).symm⟩
theorem repS_end {s:ByteArray} {p:Pl} {n:Int} (h:(s.size:Int)≤n):repS s (p,n)=none:=by
 refine repS_text fun h0=>?_
 have:=getText_gt h0
 have h2:n < s.size:=this.2.1
 omega
theorem repS_gt {s:ByteArray} {st st':RSt} (h:repS s st=some st'):0≤st.2∧st.2 < st'.2∧st'.2≤s.size:=by
 obtain⟨h1,_,_,rfl⟩:=repS_some h
 have:=getText_gt h1
 exact⟨this.1,this.2.2.1,this.2.2.2.1⟩
theorem repN_enough {s:ByteArray}:∀ (m n:Nat) (st:RSt),s.size+1≤m+st.2.toNat→s.size+1≤n+st.2.toNat→st.2≤s.size→repN s m st=repN s n st
 | 0,n,st,hm,hn,hs=>by omega
 | m+1,0,st,hm,hn,hs=>by omega
 | m+1,n+1,st,hm,hn,hs=>by
  unfold repN
  cases e:repS s st with
  | none=>rfl
  | some st' =>
   have:=repS_gt e
   exact repN_enough m n st' (by omega) (by omega) this.2.2
@[irreducible] def repL (s:ByteArray) (st:RSt):RSt:=repN s (s.size+1) st
theorem repL_none {s:ByteArray} {st:RSt} (h:repS s st=none):repL s st=st:=by unfold repL repN;rw[h]
theorem repL_some {s:ByteArray} {st st':RSt} (h:repS s st=some st'):repL s st=repL s st':=by
 have:=repS_gt h
 unfold repL
 rw[repN_enough (s.size+1) (s.size+1) st' (by omega) (by omega) this.2.2]
 conv=>lhs;unfold repN
 rw[h]
 exact repN_enough _ _ _ (by omega) (by omega) this.2.2
theorem actR_right {p:Pl} {e:Ent} (h:(actR p e).2.2=0):poolR (actR p e).1=true:=by
 unfold actR at h ⊢
 split
 ·rename_i c;rw[if_pos c] at h;cases h
 ·rename_i c
  rw[if_neg c] at h
  split
  ·rename_i c2;rw[if_pos c2] at h;exact(subR_right h).2
  ·rename_i c2
   rw[if_neg c2] at h
   split
   ·rename_i c3;rw[if_pos c3] at h;exact(chR_right h).2
   ·rename_i c3
    rw[if_neg c3] at h
    cases q1:poolR p
    ·rw[advR_form q1] at h;cases h
    ·by_cases q2:p.now=999900
     ·rw[advR_full q1 q2] at h;cases h
     ·rw[advR_yes q1 q2];exact advP_right q1 q2
theorem repS_right {s:ByteArray} {st st':RSt} (h:repS s st=some st'):poolR st'.1=true:=by
 obtain⟨_,_,h3,rfl⟩:=repS_some h
 exact actR_right h3
theorem repN_right {s:ByteArray}:∀ (n:Nat) (st:RSt),poolR st.1=true→0≤st.2∧st.2≤s.size→poolR (repN s n st).1=true∧0≤(repN s n st).2∧(repN s n st).2≤s.size
 | 0,st,h,h2=>⟨h,h2⟩
 | n+1,st,h,h2=>by
  unfold repN
  cases e:repS s st with
  | none=>exact⟨h,h2⟩
  | some st'=>have:=repS_gt e;exact repN_right n st' (repS_right e) ⟨by omega,this.2.2⟩
@[irreducible] def repR (cl:List (List Lab)) (s:ByteArray):Pl×Int×Int :=
 if 8000 < s.size then (zPl,0,2) else if (newR cl).2≠0 then (zPl,0,(newR cl).2) else ((repL s ((newR cl).1,0)).1,(repL s ((newR cl).1,0)).2,0)
theorem repR_long {cl:List (List Lab)} {s:ByteArray} (h:8000 < s.size):repR cl s=(zPl,0,2):=by unfold repR;rw[if_pos h]
theorem repR_new {cl:List (List Lab)} {s:ByteArray} (h:¬ 8000 < s.size) (h2:¬ (newR cl).2=0):repR cl s=(zPl,0,(newR cl).2):=by unfold repR;rw[if_neg h,if_pos h2]
theorem repR_yes {cl:List (List Lab)} {s:ByteArray} (h:¬ 8000 < s.size) (h2:(newR cl).2=0):repR cl s=((repL s ((newR cl).1,0)).1,(repL s ((newR cl).1,0)).2,0):=by unfold repR;rw[if_neg h,if_neg (by simp[h2])]
theorem newR_right {cl:List (List Lab)} (h:(newR cl).2=0):newR cl=(newP cl,0)∧poolR (newP cl)=true:=by
 by_cases h4:400 < cl.length
 ·rw[newR_long h4] at h;cases h
 ·cases hc:clearR cl
  ·rw[newR_no h4 hc] at h;cases h
  ·exact⟨newR_yes h4 hc,newP_right hc⟩
theorem repR_ok (cl:List (List Lab)) (s:ByteArray):(PlOk (repR cl s).1∧PlFit (repR cl s).1∧wPl (repR cl s).1≤64*1048576)∧I64 (repR cl s).2.1∧(0≤(repR cl s).2.1∧(repR cl s).2.1≤8000):=by
 have z:I64 0:=by unfold I64;omega
 by_cases h:8000 < s.size
 ·rw[repR_long h];exact⟨zPl_ok,z,(by show (0:Int)≤0∧(0:Int)≤8000;decide)⟩
 ·by_cases h2:(newR cl).2=0
  ·rw[repR_yes h h2]
   obtain⟨e,hr⟩:=newR_right h2
   rw[e]
   unfold repL
   obtain⟨q1,q2,q3⟩:=repN_right (s:=s) (s.size+1) (newP cl,0) hr ⟨Int.le_refl _,by show (0:Int)≤_;omega⟩
   exact⟨right_ok q1,⟨by show -9223372036854775808≤(repN s (s.size+1) (newP cl,0)).2;omega,by show (repN s (s.size+1) (newP cl,0)).2≤9223372036854775807;omega⟩,q2,by show (repN s (s.size+1) (newP cl,0)).2≤8000;omega⟩
  ·rw[repR_new h h2];exact⟨zPl_ok,z,(by show (0:Int)≤0∧(0:Int)≤8000;decide)⟩
end Go.Proofs.YtdoeoojjabnboaaGreat
set_option maxRecDepth 100000
namespace Go.Proofs.YtdoeoojjabnboaaGreat
open Go.RowKit Go.Fin1
theorem bytes_ext {a b:ByteArray} (h:a.data.toList=b.data.toList):a=b:=by
 obtain⟨⟨x⟩⟩:=a;obtain⟨⟨y⟩⟩:=b;simp at h;rw[h]
theorem toList_data (s:ByteArray):s.toList=s.data.toList:=by
 exact ByteArray.toList_eq s
theorem extract_data (s:ByteArray) (i j:Nat):(s.extract i j).data.toList=(s.data.toList.drop i).take (j-i):=by
 simp[ByteArray.data_extract]
theorem seal_parts (t:ByteArray) (n:Int):(t++four n).size=t.size+4∧(t++four n).data.toList=t.data.toList++(four n).data.toList:=by
 constructor
 ·rw[ByteArray.size_append,four_size]
 ·simp
theorem unseal_good {t:ByteArray} (ht:t.size≤7996):unsealS (t++four (crcOf 0 t))=⟨t,0,0⟩:=by
 obtain⟨h1,h2⟩:=seal_parts t (crcOf 0 t)
 have e1:(t++four (crcOf 0 t)).extract 0 ((t++four (crcOf 0 t)).size-4)=t:=by
  apply bytes_ext;rw[extract_data,h2,h1];simp
 have e2:(t++four (crcOf 0 t)).extract ((t++four (crcOf 0 t)).size-4) (t++four (crcOf 0 t)).size=four (crcOf 0 t):=by
  have hs:=four_size (crcOf 0 t)
  have hl:(four (crcOf 0 t)).data.toList.length=4:=by simpa using hs
  apply bytes_ext;rw[extract_data,h2,h1];simp
  exact List.take_of_length_le (by omega)
 unfold unsealS
 rw[if_neg (by omega),if_neg (by omega),e1,e2,if_pos (by simp)]
end Go.Proofs.YtdoeoojjabnboaaGreat
set_option maxRecDepth 100000
set_option linter.unusedVariables false
namespace Go.Proofs.YtdoeoojjabnboaaGreat
open Go.RowKit Go.Fin1
theorem unzig_zig (n : Int) : unzig (zig n) = n := by unfold unzig zig; split <;> split <;> omega
/-- The bytes of a string from some place on are these numbers. -/
def Bytes (s : ByteArray) (a : Nat) (l : List Int) : Prop := ∀ (i : Nat) (hi : i < l.length), a + i < s.size ∧ byteAt s (a + i) = l[i]
theorem gn_put (s : ByteArray) (a : Nat) : ∀ (f k : Nat) (u v : Int), f + k = 9 → 0 ≤ v → v * 2 ^ (7 * k) ≤ 18446744073709551615 → (0 < k → 0 < v) → Bytes s (a + k) (putU f v) →
    gn s a (f + 1) k u = ⟨unzig (u + v * 2 ^ (7 * k)), (a + k + (putU f v).length : Nat), 0⟩
  | 0, k, u, v, hf, v0, v1, hk, hb => by
    obtain rfl : k = 9 := by omega
    have hv : v ≤ 1 := by simp at v1; omega
    obtain ⟨b1, b2⟩ := hb 0 (by simp [putU])
    simp [putU] at b2
    rw [Nat.add_zero] at b1
    unfold gn
    rw [if_neg (by omega), b2, if_neg (by omega), if_neg (by omega), if_neg (by have := hk (by omega); omega)]
    rw [show v % 128 = v from by omega]
    simp [putU]
  | f + 1, k, u, v, hf, v0, v1, hk, hb => by
    by_cases hv : v < 128
    · have e : putU (f + 1) v = [v] := by simp [putU, hv]
      rw [e] at hb ⊢
      obtain ⟨b1, b2⟩ := hb 0 (by simp)
      simp at b2
      rw [Nat.add_zero] at b1
      unfold gn
      rw [if_neg (by omega), b2, if_neg (by omega), if_neg (by omega), if_neg (by rintro ⟨h1, h2⟩; have := hk h2; omega)]
      rw [show v % 128 = v from by omega]
      simp
    · have e : putU (f + 1) v = (v % 128 + 128) :: putU f (v / 128) := by simp [putU, hv]
      rw [e] at hb ⊢
      obtain ⟨b1, b2⟩ := hb 0 (by simp)
      simp at b2
      rw [Nat.add_zero] at b1
      have hp := pow7 k (by omega)
      have hs : u + v % 128 * 2 ^ (7 * k) + v / 128 * 2 ^ (7 * (k + 1)) = u + v * 2 ^ (7 * k) := by
        rw [pow7s]
        have : v * 2 ^ (7 * k) = (128 * (v / 128) + v % 128) * 2 ^ (7 * k) := by congr 1; omega
        rw [this, Int.add_mul, Int.mul_comm 128 (v / 128), Int.mul_assoc]
        omega
      have hle : v / 128 * 2 ^ (7 * (k + 1)) ≤ 18446744073709551615 := by
        have h0 : 0 ≤ v % 128 * 2 ^ (7 * k) := Int.mul_nonneg (by omega) (by omega)
        omega
      have ih := gn_put s a f (k + 1) (u + v % 128 * 2 ^ (7 * k)) (v / 128) (by omega) (by omega) hle (fun _ => by omega) (fun i hi => by
        have := hb (i + 1) (by simpa using hi)
        rw [show a + k + (i + 1) = a + (k + 1) + i from by omega] at this
        simpa using this)
      rw [hs] at ih
      unfold gn
      rw [if_neg (by omega), b2, if_neg (by omega), if_pos (by omega), show (v % 128 + 128) % 128 = v % 128 from by omega, ih]
      simp only [List.length_cons]
      congr 2
      omega

def lim2 : Nat → Int
  | 0 => 256
  | f + 1 => 128 * lim2 f
theorem putU_bd : ∀ (f : Nat) (v : Int), 0 ≤ v → v < lim2 f → ∀ n ∈ putU f v, 0 ≤ n ∧ n ≤ 255
  | 0, v, v0, h, n, hn => by simp [putU] at hn; subst hn; simp [lim2] at h; omega
  | f + 1, v, v0, h, n, hn => by
    simp only [lim2] at h
    unfold putU at hn
    split at hn
    · simp at hn; omega
    · rcases List.mem_cons.1 hn with rfl | hn
      · omega
      · exact putU_bd f (v / 128) (by omega) (by omega) n hn
theorem putNumL_bd {n : Int} (h : I64 n) : ∀ x ∈ putNumL n, 0 ≤ x ∧ x ≤ 255 := by
  have := zig_bd h
  unfold putNumL
  exact putU_bd 9 (zig n) this.1 (by have e : lim2 9 = 2361183241434822606848 := by decide
                                     omega)
theorem putU_pos (f : Nat) (v : Int) : 0 < (putU f v).length := by cases f <;> simp [putU]; split <;> simp
theorem putNum_data (n : Int) : (putNum n).data.toList = (putNumL n).map fun n => UInt8.ofNat n.toNat := by unfold putNum strOfNums; simp
theorem putNum_sz (n : Int) : (putNum n).size = (putNumL n).length := by
  have := congrArg List.length (putNum_data n); simpa using this
theorem putNum_len (n : Int) : 1 ≤ (putNum n).size ∧ (putNum n).size ≤ 10 := by
  rw [putNum_sz]; unfold putNumL
  exact ⟨putU_pos _ _, putU_len 9 _⟩
theorem byteAt_list {s : ByteArray} {i : Nat} (h : i < s.size) : byteAt s i = ((s.data.toList[i]'(by simpa using h)).toNat : Int) := by
  rw [byteAt_eq h]; rfl
theorem bytes_at {s : ByteArray} {x z : List UInt8} {l : List Int} (hs : s.data.toList = x ++ l.map (fun n => UInt8.ofNat n.toNat) ++ z) (hl : ∀ n ∈ l, 0 ≤ n ∧ n ≤ 255) : Bytes s x.length l := by
  intro i hi
  have hsz : s.size = x.length + l.length + z.length := by
    have := congrArg List.length hs; simp at this; omega
  have hlt : x.length + i < s.size := by omega
  refine ⟨hlt, ?_⟩
  rw [byteAt_list hlt]
  simp only [hs]
  rw [List.getElem_append_left (by simp; omega), List.getElem_append_right (by omega)]
  simp only [Nat.add_sub_cancel_left, List.getElem_map]
  have := hl l[i] (List.getElem_mem hi)
  have hx : (UInt8.ofNat l[i].toNat).toNat = l[i].toNat := UInt8.toNat_ofNat_of_lt' (show l[i].toNat < 256 by omega)
  rw [hx]; omega
theorem getNum_put {s : ByteArray} {x z : List UInt8} {n : Int} (hn : I64 n) (hs : s.data.toList = x ++ (putNum n).data.toList ++ z) (h8 : s.size ≤ 8000) : getNum s x.length = ⟨n, ((x.length + (putNum n).size : Nat) : Int), 0⟩ := by
  rw [putNum_data] at hs
  have hb := bytes_at hs (putNumL_bd hn)
  have hz := zig_bd hn
  have hl := putNum_sz n
  have hp := (putNum_len n).1
  have hlt := (hb 0 (by omega)).1
  unfold getNum
  rw [if_neg (by omega), if_neg (by omega), if_neg (by omega)]
  unfold getNumG
  rw [Int.toNat_natCast]
  have := gn_put s x.length 9 0 0 (zig n) rfl hz.1 (by simpa using hz.2) (fun h => absurd h (Nat.lt_irrefl _)) (by unfold putNumL at hb; simpa using hb)
  rw [this, hl]
  simp [unzig_zig, putNumL]

theorem putText_some {u : ByteArray} (h : u.size ≤ 8000) : putText u = putNum u.size ++ u := by unfold putText; rw [if_pos h]
theorem getText_put {s u : ByteArray} {x : List UInt8} (hu : u.size ≤ 8000) (hs : s.data.toList = x ++ (putText u).data.toList) (h8 : s.size ≤ 8000) : getText s x.length = ⟨u, ((x.length + (putText u).size : Nat) : Int), 0⟩ := by
  have hp := putText_some hu
  have hp2 : (putText u).data.toList = (putNum u.size).data.toList ++ u.data.toList := by rw [hp]; simp
  have hp3 : (putText u).size = (putNum u.size).size + u.size := by rw [hp, ByteArray.size_append]
  have hg := getNum_put (s := s) (x := x) (z := u.data.toList) (n := u.size) (by unfold I64; omega) (by rw [hs, hp2, List.append_assoc]) h8
  have hsz : s.size = x.length + ((putNum u.size).size + u.size) := by
    have := congrArg List.length hs; simp [hp3] at this; omega
  unfold getText
  rw [hg]
  simp only
  rw [if_neg (by decide), if_neg (by omega), if_neg (by omega)]
  have e : s.extract (((x.length + (putNum u.size).size : Nat) : Int)).toNat ((((x.length + (putNum u.size).size : Nat) : Int)).toNat + ((u.size : Nat) : Int).toNat) = u := by
    apply bytes_ext
    rw [extract_data, Int.toNat_natCast, Int.toNat_natCast, hs, hp2, ← List.append_assoc, show x.length + (putNum u.size).size = (x ++ (putNum u.size).data.toList).length from by simp, List.drop_left, List.take_of_length_le (by simp)]
  rw [e, hp3]
  congr 1
  omega
end Go.Proofs.YtdoeoojjabnboaaGreat
set_option maxRecDepth 100000
set_option linter.unusedVariables false
namespace Go
open Go.RowKit
end Go
set_option maxRecDepth 100000
set_option linter.unusedVariables false
namespace Go.Proofs.YtdoeoojjabnboaaGreat
open Go.RowKit Go.Fin1
structure DelS (p:Jb→Bool) (l:List RJ) (n k:Nat) (L:List RJ):Prop where
 len:L.length=l.length
 take:L.take k=(l.take n).filter (fun r=>!p r.1)
 lt:k < n
 le:n≤l.length
 tail:∀ j,n≤j→L[j]?=l[j]?
end Go.Proofs.YtdoeoojjabnboaaGreat
set_option maxRecDepth 100000
set_option linter.unusedVariables false
namespace Go.Proofs.YtdoeoojjabnboaaGreat
open Go.RowKit Go.Fin1
end Go.Proofs.YtdoeoojjabnboaaGreat
set_option maxRecDepth 100000
set_option linter.unusedVariables false
namespace Go.Proofs.YtdoeoojjabnboaaGreat
open Go.RowKit Go.Fin1
theorem ba_nil (b:ByteArray):(ByteArray.mk #[])++b=b:=by ext1;simp[ByteArray.data_append]
theorem ba_nil' (b:ByteArray):b++(ByteArray.mk #[])=b:=by ext1;simp[ByteArray.data_append]
theorem numsS_app (a:List Int):∀ b:List Int,numsS (a++b)=numsS a++numsS b:=fun b=>by
 have h:∀ (b:List Int) (t:ByteArray),b.foldl (fun t n=>t++putNum n) t=t++b.foldl (fun t n=>t++putNum n) ⟨#[]⟩:=by
  intro b
  induction b with
  | nil=>intro t;exact(ba_nil' t).symm
  | cons x b ih=>intro t;rw[List.foldl_cons,List.foldl_cons,ih,ih (_++putNum x),ba_nil,ByteArray.append_assoc]
 unfold numsS
 rw[List.foldl_append,h]
theorem numsS_le (l:List Int):(numsS l).size≤10*l.length:=by
 have:=numsS_size l l.length (Nat.le_refl _)
 rwa [List.take_length] at this
end Go.Proofs.YtdoeoojjabnboaaGreat
