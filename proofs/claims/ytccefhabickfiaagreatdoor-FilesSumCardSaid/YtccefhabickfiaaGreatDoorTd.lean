/-
  Files: the chapter's examples, run by the kernel.
  Files: the check sequence by its definition; the law FilesSum.
-/
import Derived.Test.YtccefhabickfiaaGreatDoorQ7
set_option linter.unusedSimpArgs false
set_option linter.unusedVariables false
set_option linter.unusedSectionVars false
set_option linter.unnecessarySimpa false
namespace Go.Vm
namespace X
open W
theorem lives11:law11_lives fuel ()=some true:=by kernel_rfl
end X
end Go.Vm
namespace Go.Vm
namespace X
open W Go.RowKit
theorem getN_at {s:List Nat} {i:Nat} (h:i<s.length):s.getD ((i:Int)).toNat 0=s[i]:=by
 simp[List.getD,List.getElem?_eq_getElem h]
theorem ref11_Sum_ok {s:List Nat} (hl:s.length≤1000000000) (hb:∀x∈s,x<256):ref11_Sum fuel s=some (sumC s):=by
 apply Ret.eq
 unfold ref11_Sum
 refine Ret_loop (fun p:Int×Int=>∃i:Nat,i≤s.length∧(s.take i).foldl (refStep s.length) (17,0)=p∧p.2=i∧0≤p.1∧p.1<65521) (fun p=>s.length-p.2.toNat) ?_ fuel (17,0) ⟨0,Nat.zero_le _,rfl,rfl,by decide,by decide⟩ (by simp only[fuel];omega)
 rintro ⟨n,i'⟩ rec ⟨i,hi,hf,e,h0,h1⟩ ih
 simp only at e h0 h1 ⊢
 subst e
 refine Ret_dec (fun hlt=>?_) fun hge=>Ret_some ?_
 ·have hlt:i<s.length:=by omega
  rw[getN_at hlt]
  have hx:=hb _ (List.getElem_mem hlt)
  obtain⟨c,hc⟩:∃c:Nat,c=s[i] * (17+s.length-i):=⟨_,rfl⟩
  have e1:((s[i]:Nat):Int)* (17+ (s.length:Int)-(i:Int))=(c:Int):=by
   rw[hc,Int.natCast_mul]
   congr 1
   omega
  have hcb:c≤255*1000000017:=by
   rw[hc]
   exact Nat.mul_le_mul (by omega) (by omega)
  rw[e1]
  refine Ret_chk (i64b_t (by omega) (by omega)) (Ret_chk (inb_t (by omega) (by omega)) (Ret_chk (i64b_t (by omega) (by omega)) (Ret_chk (i64b_t (by omega) (by omega)) (Ret_chk (i64b_t (by omega) (by omega)) (Ret_chk (i64b_t (by omega) (by omega)) (Ret_chk (i64b_t (by omega) (by omega)) (Ret_chk (by simp;omega) (Ret_chk (i64b_t (by omega) (by omega)) ?_))))))))
  refine ih _ ⟨i+1,hlt,?_,by simp,by simp only;omega,by simp only;omega⟩ (by simp only;omega)
  rw[List.take_add_one,List.getElem?_eq_getElem hlt,Option.toList_some,List.foldl_append,hf]
  simp only[List.foldl_cons,List.foldl_nil,refStep]
  rw[e1]
 ·have:i=s.length:=by omega
  subst this
  rw[List.take_length] at hf
  rw[sum_ref,hf]
  omega
theorem sumR_ok {s:List Nat} (hl:s.length≤1000000000):sumR s=some (sumC s):=by
 unfold sumR
 rw[ble_dec,decide_eq_true hl];rfl
theorem lives_b:Ret ((law11_lives fuel ()).bind fun r=>some r) fun x=>x=true:=by rw[lives11];exact Ret_some rfl
theorem FilesSum_true {s:List Nat} (hb:∀x∈s,x<256):law11_FilesSum fuel s=some true:=by
 apply Ret.eq
 unfold law11_FilesSum
 refine Ret_dec (fun _=>Ret_some rfl) fun hl=>?_
 have hl:s.length≤1000000000:=by omega
 rw[show files_Sum fuel s=sumR s from rfl,sumR_ok hl,Option.bind_some]
 have hs:=sumC_bd s
 refine Ret_chk (i64b_t (by omega) (by omega)) ?_
 rw[ref11_Sum_ok hl hb,Option.bind_some]
 exact Ret_dec (fun _=>lives_b) fun g=>absurd rfl g
end X
end Go.Vm
