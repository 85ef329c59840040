/- What FnReplay asks of a log that is replayed. -/
import Derived.Test.YtdoeoojjabnboaaGreatKRX
set_option maxRecDepth 100000
set_option linter.unusedVariables false
namespace Go.Proofs.YtdoeoojjabnboaaGreat
open Go.RowKit Go.Fin1
theorem ext_ext {s:ByteArray} {j k:Nat} (h:j≤k):(s.extract 0 k).extract 0 j=s.extract 0 j:=by
 apply bytes_ext
 rw[extract_data,extract_data,extract_data]
 simp only[List.drop_zero,Nat.sub_zero]
 rw[List.take_take,Nat.min_eq_left h]
theorem rep_law {cl:List (List Lab)} {s:ByteArray} {P:Pl} {n:Int} (h:repR cl s=(P,n,0)) (hs:s.size≤1000) :
  ∃ m:Nat,n=(m:Int)∧m≤s.size∧poolR P=true∧repR cl (s.extract 0 m)=(P,(m:Int),0) ∧
   (∀ k:Nat,k≤m→∃ (P3:Pl) (n3:Nat),repR cl (s.extract 0 k)=(P3,(n3:Int),0)∧n3≤k∧repR cl (s.extract 0 n3)=(P3,(n3:Int),0)) ∧
   ∀ e:Ent,(actR P e).2.2=0→∃ z:Int,repR cl (s.extract 0 m++putText (entB e))=((actR P e).1,z,0):=by
 obtain⟨h8,h2,hr⟩:=repR_ok' (cl:=cl) (s:=s) (by rw[h])
 rw[h] at hr
 have hb:=repL_bd (s:=s) h2
 have hL:repL s (newP cl,0)=(P,n):=by
  have e1:=congrArg Prod.fst hr
  have e2:=congrArg (fun x=>x.2.1) hr
  exact Prod.ext e1.symm e2.symm
 rw[hL] at hb
 have hp:poolR P=true:=hb.1
 have hn0:0≤n:=hb.2.1
 have hn1:n≤s.size:=hb.2.2
 obtain⟨m,rfl⟩:∃ m:Nat,n=(m:Int):=⟨n.toNat,by omega⟩
 have hm:m≤s.size:=by omega
 have hsz:∀ k,k≤s.size→(s.extract 0 k).size=k:=fun k hk=>by rw[ByteArray.size_extract];omega
 refine⟨m,rfl,hm,hp,?_,fun k hk=>?_,fun e he=>⟨((s.extract 0 m++putText (entB e)).size:Int),?_⟩⟩
 ·exact rep_cut hL h2 (by simpa using agree_cut s hm) (by rw[hsz m hm];simp) (by rw[hsz m hm];omega)
 ·have hk1:k≤s.size:=by omega
  have hkz:=hsz k hk1
  obtain⟨⟨P3,n3⟩,h3⟩:∃ R,repL (s.extract 0 k) (newP cl,0)=R:=⟨_,rfl⟩
  have hb3:=repL_bd (s:=s.extract 0 k) h2
  rw[h3] at hb3
  have h30:0≤n3:=hb3.2.1
  have h31:n3≤(s.extract 0 k).size:=hb3.2.2
  obtain⟨n4,rfl⟩:∃ m:Nat,n3=(m:Int):=⟨n3.toNat,by omega⟩
  have hn4:n4≤k:=by omega
  have hA:=agree_cut (s.extract 0 k) (m:=n4) (by omega)
  rw[ext_ext hn4] at hA
  refine⟨P3,n4,by rw[repR_at (by omega) h2,h3],hn4,?_⟩
  exact rep_cut h3 h2 (by simpa using hA) (by rw[hsz n4 (by omega)];simp) (by rw[hsz n4 (by omega)];omega)
 ·have:=rep_again (e:=e) hL h2 (by omega) he
  simpa using this
end Go.Proofs.YtdoeoojjabnboaaGreat
