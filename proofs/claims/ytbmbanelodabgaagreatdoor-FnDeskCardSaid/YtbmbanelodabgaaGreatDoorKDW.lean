/- The jobs that a label sees, in their order. -/
import Derived.Test.YtbmbanelodabgaaGreatDoorKVD
import Derived.Test.YtbmbanelodabgaaGreatDoorKBA
import Derived.Test.YtbmbanelodabgaaGreatDoorKBG
import Derived.Test.YtbmbanelodabgaaGreatDoorKZZ3
import Derived.Test.YtbmbanelodabgaaGreatDoorKFI
import Derived.Test.YtbmbanelodabgaaGreatDoorKLT3
import Derived.Test.YtbmbanelodabgaaGreatDoorKRRC
import Derived.Test.YtbmbanelodabgaaGreatDoorKJE
set_option maxRecDepth 100000
set_option linter.unusedVariables false
namespace Go.Proofs.YtbmbanelodabgaaGreatDoor
open Go.RowKit Go.Fin1
theorem foldJ_len:∀ (l acc:List Jb),(l.foldl insJ acc).length=acc.length+l.length
 | [],acc=>by simp
 | j :: l,acc=>by rw[List.foldl_cons,foldJ_len l,insJ_len,List.length_cons];omega
theorem sortedJ_len (l:List Jb):(sortedJ l).length=l.length:=by unfold sortedJ;rw[foldJ_len];simp
set_option maxHeartbeats 800000 in
theorem seen1_any (u:Value) (j:Jb) (x:Lab) (b:Nat) (w:World) (hj:eJob w u j) (h0:w.cell? ⟨b,0,none⟩=some (.int .i64 x.lv)) (h1:w.cell? ⟨b,1,none⟩=some (.int .i64 x.st)) :
  Calls Tryz.prog 107 #[u,.pointer (some ⟨b,0,none⟩)] w fun e w'=>e=.returned (.bool (!blw j.l x))∧Ext w w':=by
 obtain⟨a,cp,rfl,hok,hs⟩:=hj
 have ho:=World.old_of_cell h0
 have HK:=tH hok
 clear hs hok
 go_enter Tryz.func107,Tryz.ntmps107
 unfold Jb.val
 go_wp2_with fail
 refine(implbelow_any _ _ _ _ _ HK.out.1.2).mono ?_
 rintro e _ ⟨rfl,X,rfl⟩
 go_wp2
 go_ret
 exact⟨rfl,xE⟩
set_option maxHeartbeats 1600000 in
theorem seen_any (l:List Jb) (ca:Option Addr) (cn cc:Nat) (ja:Addr) (jc:Nat) (now:Int) (x:Lab) (w:World) (h:SlR w 9 rJob (.slice (some ja) l.length jc) l) (hl:l.length≤1000) (hn:l.Pairwise NeJ) :
  Calls Tryz.prog 72 #[.agg #[.slice ca cn cc,.slice (some ja) l.length jc,(.int .i64 now)],.agg #[(.int .i64 x.lv),(.int .i64 x.st)]] w fun e w'=>∃ g k cp rs,e=.returned (.slice (some ⟨g,0,none⟩) k cp)∧Ext w w'∧Row w.heap.size w' 92 9 RJ.cells (.slice (some ⟨g,0,none⟩) k cp) rs∧rs.map Prod.fst=(sortedJ l).filter (fun j=>blw j.l x)∧∀ r∈rs,r.1.ok∧SlR w' 1 rInt (RJ.nv r) r.1.nodes:=by
 have HS:=tH h
 have HN:=tH hn
 clear h hn
 have hh:=hmf
 go_enter Tryz.func72,Tryz.ntmps72
 go_wp2_with fail
 refine(inOrder_any _ l _ (HS.out.ext rJob_stable xE) (by omega) HN.out ⟨_,_,_,rfl⟩).mono ?_
 rintro e _ ⟨g,cp,rs,rfl,⟨X,rfl⟩,hR,hm,hk⟩
 have HR:=tH hR
 have HM:=tH hm
 have HK:=tH hk
 have hrl:rs.length≤1048576:=by
  have h1:rs.length=(sortedJ l).length:=by rw[← hm];simp
  have h2:(sortedJ l).length=l.length:=sortedJ_len l
  omega
 clear hR hm hk
 go_wp2_with fail
 have hgb:=(HR.out.blk g (by simp[blkL])).1
 have hc0:((w.alloc (.cells #[.slice ca cn cc,.slice (some ja) l.length jc,(.int .i64 now)] 41)).alloc (.cells #[(.int .i64 x.lv),(.int .i64 x.st)] 36)).cell? ⟨w.heap.size+1,0,none⟩=some (.int .i64 x.lv):=by simp
 have hc1:((w.alloc (.cells #[.slice ca cn cc,.slice (some ja) l.length jc,(.int .i64 now)] 41)).alloc (.cells #[(.int .i64 x.lv),(.int .i64 x.st)] 36)).cell? ⟨w.heap.size+1,1,none⟩=some (.int .i64 x.st):=by simp
 refine(delJob_any _ g cp rs ((w.alloc (.cells #[.slice ca cn cc,.slice (some ja) l.length jc,(.int .i64 now)] 41)).alloc (.cells #[(.int .i64 x.lv),(.int .i64 x.st)] 36)) _ 107 #[.pointer (some ⟨w.heap.size+1,0,none⟩)] (fun j=>!blw j.l x) HR.out xE hgb hrl HK.out (fun _ _=>rfl) (fun W u j hx hu=>seen1_any u j x _ W hu (hx.cell hc0) (hx.cell hc1))).mono ?_
 rintro e w3 ⟨k,rfl,hc,hR3⟩
 have HX:=tH (hc.ext (show Ext w _ from xE) (by simp at hgb ⊢;omega))
 have HX2:=tH (hc.ext (show Ext ((w.alloc (.cells #[.slice ca cn cc,.slice (some ja) l.length jc,(.int .i64 now)] 41)).alloc (.cells #[(.int .i64 x.lv),(.int .i64 x.st)] 36)) _ from xE) (by simpa using hgb))
 have HR3:=tH (hR3.mono (show w.heap.size≤_ by simp;omega))
 clear hc hR3 hgb hc0 hc1 HR
 go_wp2
 go_ret
 refine⟨g,k,cp,_,rfl,HX.out,HR3.out,?_,fun r hr=>?_⟩
 ·rw[← HM.out,List.filter_map]
  congr 1
  simp[Function.comp_def]
 ·obtain⟨h1,h2⟩:=HK.out r (List.mem_filter.1 hr).1
  exact⟨h1,h2.ext rInt_stable HX2.out⟩
end Go.Proofs.YtbmbanelodabgaaGreatDoor
set_option maxRecDepth 100000
namespace Go.Proofs.YtbmbanelodabgaaGreatDoor
open Go.RowKit Go.Fin1
end Go.Proofs.YtbmbanelodabgaaGreatDoor
set_option maxRecDepth 100000
namespace Go.Proofs.YtbmbanelodabgaaGreatDoor
open Go.RowKit Go.Fin1
end Go.Proofs.YtbmbanelodabgaaGreatDoor
set_option maxRecDepth 100000
set_option linter.unusedVariables false
namespace Go.Proofs.YtbmbanelodabgaaGreatDoor
open Go.RowKit Go.Fin1
@[irreducible] def seesL (l:List Jb) (x:Lab):List Jb:=(sortedJ l).filter (fun j=>blw j.l x)
end Go.Proofs.YtbmbanelodabgaaGreatDoor
set_option maxRecDepth 100000
set_option linter.unusedVariables false
namespace Go.Proofs.YtbmbanelodabgaaGreatDoor
open Go.RowKit Go.Fin1
abbrev Bs:=List UInt8
@[irreducible] def kSubmit:Bs:=[115,117,98,109,105,116]
@[irreducible] def kDone:Bs:=[100,111,110,101]
@[irreducible] def kHold:Bs:=[104,111,108,100]
@[irreducible] def kWait:Bs:=[119,97,105,116]
@[irreducible] def kTick:Bs:=[116,105,99,107]
@[irreducible] def kSee:Bs:=[115,101,101]
@[irreducible] def kPlan:Bs:=[112,108,97,110]
def manyW (w:Bs):Nat:=if w=kSubmit then 5 else if w=kDone∨w=kHold∨w=kWait then 3 else if w=kTick∨w=kSee∨w=kPlan then 2 else 0
def rdB (t:Bs):Lab×Int:=rdL ⟨t.toArray⟩
def okW (ws:List Bs):Bool:=decide (ws.length=manyW (ws.getD 0 []))&&(if ws.getD 0 []=kTick then decide (0≤numW (ws.getD 1 [])∧numW (ws.getD 1 [])≤30) else (ws.drop 2).all (fun t=>decide (0≤numW t))&&decide ((rdB (ws.getD 1 [])).2=0))
def letS (st:Int):UInt8:=if st=1 then 119 else if st=2 then 114 else if st=3 then 100 else 104
def wordJ (j:Jb):Bs:=lblT j.l++35 :: (Lib.itoa j.id++61 :: letS j.state :: (if j.state=2 then Lib.itoa j.start else []))
def wordS (s:Slt):Bs:=lblT s.l++35 :: (Lib.itoa s.id++64 :: Lib.itoa s.start)
def joinW (l:List Bs):Bs:=if l=[] then [45] else [32].intercalate l
@[irreducible] def seeT (p:Pl) (x:Lab):Bs:=joinW ((seesL p.jobs x).map wordJ)
@[irreducible] def planT (p:Pl) (x:Lab):Bs:=joinW (((planL p.clear p.now p.jobs).filter (fun s=>blw s.l x)).map wordS)
def errT (c:Int):Bs:=[101,114,114,111,114,32]++Lib.itoa c
def tickN:Nat→Pl→Pl
 | 0,p=>p
 | n+1,p=>tickN n (advR p).1
def resT (p:Pl) (y:Pl×Int×Int) (t:Bs):Pl×Bs:=if y.2.2=0 then (y.1,t) else (p,errT y.2.2)
def okT:Bs:=[111,107]
@[irreducible] def runW (p:Pl) (ws:List Bs):Pl×Bs :=
 if ws.getD 0 []=kSee then (p,seeT p (rdB (ws.getD 1 [])).1)
 else if ws.getD 0 []=kPlan then (p,planT p (rdB (ws.getD 1 [])).1)
 else if ws.getD 0 []=kSubmit then resT p (subR p (rdB (ws.getD 1 [])).1 (numW (ws.getD 2 [])) (numW (ws.getD 3 [])) (numW (ws.getD 4 []))) (Lib.itoa (subR p (rdB (ws.getD 1 [])).1 (numW (ws.getD 2 [])) (numW (ws.getD 3 [])) (numW (ws.getD 4 []))).2.1)
 else if ws.getD 0 []=kTick then (tickN (numW (ws.getD 1 [])).toNat p,[110,111,119,32]++Lib.itoa (tickN (numW (ws.getD 1 [])).toNat p).now)
 else resT p (chR p (rdB (ws.getD 1 [])).1 (numW (ws.getD 2 [])) (if ws.getD 0 []=kDone then 3 else if ws.getD 0 []=kHold then 4 else 1)) okT
def badL:Nat→List Bs→Int
 | _,[]=>-1
 | k,[t]=>if t=[] then -1 else k
 | k,t :: r=>if k=40∨okW (splitL 32 t)=false then k else badL (k+1) r
def runL (p:Pl):List Bs→Pl×Bs
 | []=>(p,[])
 | [_]=>(p,[])
 | t :: r=>((runL (runW p (splitL 32 t)).1 r).1,(runW p (splitL 32 t)).2++10 :: (runL (runW p (splitL 32 t)).1 r).2)
def pool0:Pl:=⟨[[⟨0,0⟩,⟨1,0⟩],[⟨0,0⟩,⟨1,0⟩,⟨2,1⟩],[⟨0,0⟩]],[],0⟩
@[irreducible] def deskR (s:ByteArray):Bs×Int×Int:=if 8000 < s.size then ([],0,2) else if badL 0 (splitL 10 s.data.toList) < 0 then ((runL pool0 (splitL 10 s.data.toList)).2,0,0) else ([],badL 0 (splitL 10 s.data.toList),3)
theorem pool0_right:poolR pool0=true:=by decide +kernel
end Go.Proofs.YtbmbanelodabgaaGreatDoor
set_option maxRecDepth 100000
set_option linter.unusedVariables false
namespace Go.Proofs.YtbmbanelodabgaaGreatDoor
open Go.RowKit Go.Fin1
theorem str_data9 {n:Nat} (h:n < 10):(strOfNums [48+(n:Int)]).data.toList=[UInt8.ofNat (48+n)]:=by
 have:n=0∨n=1∨n=2∨n=3∨n=4∨n=5∨n=6∨n=7∨n=8∨n=9:=by omega
 rcases this with rfl | rfl | rfl | rfl | rfl | rfl | rfl | rfl | rfl | rfl<;>rfl
def preD (k:Nat):Bs:=if k=0 then [] else Lib.decDigits k
theorem preD_step {k:Nat} (h:0 < k):preD k=preD (k / 10)++[UInt8.ofNat (48+k % 10)]:=by
 unfold preD
 rw[if_neg (by omega)]
 by_cases h1:k < 10
 ·rw[Lib.decDigits_one h1,if_pos (by omega),Nat.mod_eq_of_lt h1];rfl
 ·rw[Lib.decDigits,dif_neg h1,if_neg (by omega)]
set_option maxHeartbeats 800000 in
theorem l01DecN_any (N:Nat) (w:World) (hN:N < 1000000000000000000) :
  Calls Tryz.prog 40 #[(.int .i64 (N:Int))] w fun e w'=>e=.returned (.string ⟨(Lib.decDigits N).toArray⟩)∧Ext w w':=by
 by_cases h0:N=0
 ·subst h0
  go_enter Tryz.func40,Tryz.ntmps40
  go_wp2
  go_ret
  exact⟨ret_str (by rw[Lib.decDigits_one (by decide)];rfl),xE⟩
 have hz:((N:Int) == 0)=false:=by simp;omega
 have hd:decide ((N:Int) < 0)=false:=decide_eq_false (by omega)
 go_enter Tryz.func40,Tryz.ntmps40
 go_wp2
 go_loopw [0,4] (fun n o wr=>∃ (k:Nat) (u:ByteArray),k≤N∧n=(.int .i64 (k:Int))∧o=.string u∧u.size+k≤N∧Hid (preD k++u.data.toList=Lib.decDigits N)∧Ext w wr) (fun n _ _=>(intOf n).toNat)
 case atStart=>exact⟨N,⟨#[]⟩,Nat.le_refl _,rfl,rfl,by simp[ByteArray.size],tH (by unfold preD;rw[if_neg h0];simp),xE⟩
 case round =>
  obtain⟨k,u,hk,rfl,rfl,hus,HM,⟨X,rfl⟩⟩:=hrel
  by_cases hk0:0 < k
  ·have hs:=run_string_own (P:=Tryz.prog) (src:=27) (dst:=9) Tryz.underlying27 Tryz.underlying5 Tryz.underlying9 (ownsOne9 (w.plus X) (48+(k:Int) % 10))
   simp only[World.size_plus] at hs
   have hsd:(strOfNums [48+(k:Int) % 10]).data.toList=[UInt8.ofNat (48+k % 10)]:=by
    rw[show ((k:Int) % 10)=((k % 10:Nat):Int) by omega];exact str_data9 (by omega)
   have hz1:(strOfNums [48+(k:Int) % 10]).size=1:=by
    show (strOfNums [48+(k:Int) % 10]).data.size=1
    rw[← Array.length_toList,hsd]
    rfl
   have HSD:=tH hsd
   clear hsd
   have hzk:((k:Int) != 0)=true:=by simp;omega
   have hr:decide ((k:Int) % 10 < 0)=false:=decide_eq_false (by omega)
   go_wp2
   exact⟨⟨k / 10,_,by omega,by go_num,rfl,(by rw[ByteArray.size_append,hz1];omega),tH (by
    rw[← HM.out,preD_step hk0,List.append_assoc,ByteArray.data_append,Array.toList_append,HSD.out]),xE⟩,by simp[intOf];omega⟩
  ·obtain rfl:k=0:=by omega
   have HT:Hid (Lib.decDigits N=u.data.toList):=tH (by rw[← HM.out];rfl)
   clear hk hk0
   go_wp2
   go_ret
   exact⟨ret_str (by rw[HT.out]),xE⟩
theorem ba_get (t:ByteArray) {i:Nat} (h:i < t.size):t.data.toList.drop i=t[i] :: t.data.toList.drop (i+1):=by
 have hl:i < t.data.toList.length:=by rw[Array.length_toList];exact h
 rw[List.drop_eq_getElem_cons hl]
 rfl
theorem ba_len (t:ByteArray):t.data.toList.length=t.size:=Array.length_toList
theorem numW_eq {t:Bs} (hl:¬ (t.length < 1∨9 < t.length∨(1 < t.length∧t.head?=some 48))):numW t=match numGo 0 t with | some n=>(n:Int) | none=>-1:=by unfold numW;rw[if_neg hl];cases numGo 0 t<;>rfl
set_option maxHeartbeats 800000 in
theorem l08Num_any (t:ByteArray) (w:World) (ht:t.size≤8000) :
  Calls Tryz.prog 33 #[.string t] w fun e w'=>e=.returned (.int .i64 (numW t.data.toList))∧Ext w w':=by
 by_cases h1:t.size < 1
 ·have hb:decide ((t.size:Int) < 1)=true:=decide_eq_true (by omega)
  have HR:=tH (show numW t.data.toList=-1 by unfold numW;rw[if_pos (.inl (by rw[ba_len];exact h1))])
  go_enter Tryz.func33,Tryz.ntmps33
  go_wp2
  go_ret
  exact⟨ret_int HR.out.symm,xE⟩
 have hb:decide ((t.size:Int) < 1)=false:=decide_eq_false (by omega)
 by_cases h9:9 < t.size
 ·have hb9:decide ((9:Int) < (t.size:Int))=true:=decide_eq_true (by omega)
  have HR:=tH (show numW t.data.toList=-1 by unfold numW;rw[if_pos (.inr (.inl (by rw[ba_len];exact h9)))])
  go_enter Tryz.func33,Tryz.ntmps33
  go_wp2
  go_ret
  exact⟨ret_int HR.out.symm,xE⟩
 have hb9:decide ((9:Int) < (t.size:Int))=false:=decide_eq_false (by omega)
 have h00:0 < t.size:=by omega
 have hlen:=ba_len t
 by_cases hz:1 < t.size∧t[0]=48
 ·have hb1:decide ((1:Int) < (t.size:Int))=true:=decide_eq_true (by omega)
  have hz0:(((t[0]).toNat:Int) == 48)=true:=by rw[hz.2];rfl
  have HR:=tH (show numW t.data.toList=-1 by
   unfold numW
   rw[if_pos (.inr (.inr ⟨by rw[hlen];exact hz.1,by
    have:=ba_get t h00
    rw[List.drop_zero] at this
    rw[this,hz.2];rfl⟩))])
  clear hlen
  go_enter Tryz.func33,Tryz.ntmps33
  go_wp2
  go_ret
  exact⟨ret_int HR.out.symm,xE⟩
 have HW:=tH (numW_eq (t:=t.data.toList) (fun h=>by
  rw[hlen] at h
  rcases h with h | h | h
  ·omega
  ·omega
  ·apply hz
   refine⟨h.1,?_⟩
   have:=ba_get t h00
   rw[List.drop_zero] at this
   rw[this] at h
   exact Option.some.inj h.2))
 clear hlen
 by_cases hs:1 < t.size
 ·have hb1:decide ((1:Int) < (t.size:Int))=true:=decide_eq_true (by omega)
  have hn0:¬ t[0]=48:=fun e=>hz ⟨hs,e⟩
  have hz0:(((t[0]).toNat:Int) == 48)=false:=by
   rw[beq_eq_false_iff_ne]
   intro e
   apply hn0
   apply UInt8.toNat_inj.1
   show (t[0]).toNat=48
   omega
  clear hz hn0
  go_enter Tryz.func33,Tryz.ntmps33
  go_wp2
  go_loopw [3,4] (fun n i wr=>∃ (j k:Nat),j≤t.size∧i=(.int .i64 (j:Int))∧n=(.int .i64 (k:Int))∧k < 10 ^ j∧Hid (numGo 0 t.data.toList=numGo k (t.data.toList.drop j))∧Ext w wr) (fun _ i _=>t.size-(intOf i).toNat)
  case atStart=>exact⟨0,0,Nat.zero_le _,rfl,rfl,by simp,tH rfl,xE⟩
  case round =>
   obtain⟨j,k,hj,rfl,rfl,hk,HM,⟨X,rfl⟩⟩:=hrel
   have hkb:k < 1000000000:=by
    have h1:10 ^ j≤10 ^ 9:=Nat.pow_le_pow_right (by decide) (by omega)
    have e9:(10:Nat) ^ 9=1000000000:=by decide
    omega
   by_cases hlt:j < t.size
   ·have hd:=ba_get t hlt
    have HD:=tH hd
    clear hd
    by_cases h48:(t[j]).toNat < 48
    ·have hc:decide (((t[j]).toNat:Int) < 48)=true:=decide_eq_true (by omega)
     have HR:=tH (show numW t.data.toList=-1 by
      rw[HW.out,HM.out,HD.out];unfold numGo;rw[if_neg (by omega)])
     go_wp2
     go_ret
     exact⟨ret_int HR.out.symm,xE⟩
    have hc:decide (((t[j]).toNat:Int) < 48)=false:=decide_eq_false (by omega)
    by_cases h57:57 < (t[j]).toNat
    ·have hc2:decide ((57:Int) < ((t[j]).toNat:Int))=true:=decide_eq_true (by omega)
     have HR:=tH (show numW t.data.toList=-1 by
      rw[HW.out,HM.out,HD.out];unfold numGo;rw[if_neg (by omega)])
     go_wp2
     go_ret
     exact⟨ret_int HR.out.symm,xE⟩
    have hc2:decide ((57:Int) < ((t[j]).toNat:Int))=false:=decide_eq_false (by omega)
    have HN:=tH (show numGo 0 t.data.toList=numGo (10*k+((t[j]).toNat-48)) (t.data.toList.drop (j+1)) by
     rw[HM.out,HD.out,numGo,if_pos ⟨by omega,by omega⟩])
    go_wp2
    exact⟨⟨j+1,10*k+((t[j]).toNat-48),by omega,by go_num,by go_num,by rw[Nat.pow_succ];omega,HN,xE⟩,by simp[intOf];omega⟩
   ·obtain rfl:j=t.size:=by omega
    have HR:=tH (show numW t.data.toList=(k:Int) by
     rw[HW.out,HM.out,List.drop_eq_nil_of_le (by rw[ba_len];exact Nat.le_refl _)];rfl)
    clear hj hlt
    go_wp2
    go_ret
    exact⟨ret_int HR.out.symm,xE⟩
 ·have hb1:decide ((1:Int) < (t.size:Int))=false:=decide_eq_false (by omega)
  clear hz
  go_enter Tryz.func33,Tryz.ntmps33
  go_wp2
  go_loopw [3,4] (fun n i wr=>∃ (j k:Nat),j≤t.size∧i=(.int .i64 (j:Int))∧n=(.int .i64 (k:Int))∧k < 10 ^ j∧Hid (numGo 0 t.data.toList=numGo k (t.data.toList.drop j))∧Ext w wr) (fun _ i _=>t.size-(intOf i).toNat)
  case atStart=>exact⟨0,0,Nat.zero_le _,rfl,rfl,by simp,tH rfl,xE⟩
  case round =>
   obtain⟨j,k,hj,rfl,rfl,hk,HM,⟨X,rfl⟩⟩:=hrel
   have hkb:k < 1000000000:=by
    have h1:10 ^ j≤10 ^ 9:=Nat.pow_le_pow_right (by decide) (by omega)
    have e9:(10:Nat) ^ 9=1000000000:=by decide
    omega
   by_cases hlt:j < t.size
   ·have hd:=ba_get t hlt
    have HD:=tH hd
    clear hd
    by_cases h48:(t[j]).toNat < 48
    ·have hc:decide (((t[j]).toNat:Int) < 48)=true:=decide_eq_true (by omega)
     have HR:=tH (show numW t.data.toList=-1 by
      rw[HW.out,HM.out,HD.out];unfold numGo;rw[if_neg (by omega)])
     go_wp2
     go_ret
     exact⟨ret_int HR.out.symm,xE⟩
    have hc:decide (((t[j]).toNat:Int) < 48)=false:=decide_eq_false (by omega)
    by_cases h57:57 < (t[j]).toNat
    ·have hc2:decide ((57:Int) < ((t[j]).toNat:Int))=true:=decide_eq_true (by omega)
     have HR:=tH (show numW t.data.toList=-1 by
      rw[HW.out,HM.out,HD.out];unfold numGo;rw[if_neg (by omega)])
     go_wp2
     go_ret
     exact⟨ret_int HR.out.symm,xE⟩
    have hc2:decide ((57:Int) < ((t[j]).toNat:Int))=false:=decide_eq_false (by omega)
    have HN:=tH (show numGo 0 t.data.toList=numGo (10*k+((t[j]).toNat-48)) (t.data.toList.drop (j+1)) by
     rw[HM.out,HD.out,numGo,if_pos ⟨by omega,by omega⟩])
    go_wp2
    exact⟨⟨j+1,10*k+((t[j]).toNat-48),by omega,by go_num,by go_num,by rw[Nat.pow_succ];omega,HN,xE⟩,by simp[intOf];omega⟩
   ·obtain rfl:j=t.size:=by omega
    have HR:=tH (show numW t.data.toList=(k:Int) by
     rw[HW.out,HM.out,List.drop_eq_nil_of_le (by rw[ba_len];exact Nat.le_refl _)];rfl)
    clear hj hlt
    go_wp2
    go_ret
    exact⟨ret_int HR.out.symm,xE⟩
end Go.Proofs.YtbmbanelodabgaaGreatDoor
set_option maxRecDepth 100000
set_option linter.unusedVariables false
namespace Go.Proofs.YtbmbanelodabgaaGreatDoor
open Go.RowKit Go.Fin1
def sCell (s:ByteArray):List Value:=[.string s]
theorem str_at {w:World} {b off n cap:Nat} {xs:List ByteArray} (h:SlR w 1 (rc sCell) (.slice (some ⟨b,off,none⟩) n cap) xs) {i:Nat} (hi:i < xs.length):w.old b∧w.cell? ⟨b,off+i,none⟩=some (.string xs[i]):=by
 obtain⟨cs,_,hc,rfl⟩:=slr_cells h hi
 have h0:=hc 0 _ rfl
 rw[Nat.mul_one] at h0
 exact⟨World.old_of_cell h0,h0⟩
end Go.Proofs.YtbmbanelodabgaaGreatDoor
