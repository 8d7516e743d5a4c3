/-
  A law's call in the model, out of what the machine's text shows.
-/
import Derived.Test.YtonohffniohehaaGreatDoorVmWF
set_option linter.unusedSimpArgs false
set_option linter.unusedVariables false
set_option linter.unusedSectionVars false
set_option linter.unnecessarySimpa false
namespace Go.Vm
namespace W
open Go Go.RowKit
variable {P:Program} {gl:List Nat} {B:Base}
theorem kcq:∀ {es:List (Nat×List AV)} {n:Nat},(es.all fun e=>decide (e.1<n))=true→WF (jjx es) n:=by
 intro es n h b hb
 obtain⟨k,hk⟩:=Option.isSome_iff_exists.1 hb
 obtain⟨l,h1,_⟩:=jkk hk
 simpa using List.all_eq_true.1 h _ h1
def jjz (a b:jn7):jn7:=fun f as=>match a f as with
 | some g=>some g
 | none=>b f as
theorem jht {a b:jn7} (ha:jhz P gl B a) (hb:jhz P gl B b):jhz P gl B (jjz a b):=by
 intro f as g h
 unfold jjz at h
 split at h
 ·rename_i hg
  cases h
  exact ha f as g hg
 ·exact hb f as g h
def lkE:List (Nat×List AV)→Nat→Option (List AV)
 | [],_=>none
 | (g,l)::r,n=>bif Nat.beq g n then some l else lkE r n
theorem j1v:∀ {es:List (Nat×List AV)} {g:Nat} {l:List AV},lkE es g=some l→(jjx es).get g=some (.cells (put l 0 .e) l.length)
 | [],_,_,h=>by cases h
 | (g',l')::r,g,l,h=>by
   simp only[lkE,jaa] at h
   simp only[jjx,Tr.get_set]
   by_cases e:g'=g
   ·subst e
    simp only[decide_true,cond_true,Option.some.injEq] at h
    subst h
    rw[if_pos rfl]
   ·simp only[e,decide_false,cond_false] at h
    rw[if_neg (fun h=>e h.symm)]
    exact j1v h
theorem kjk {es:List (Nat×List AV)} (hB:B.H0=jjx es) {g:Nat} {l:List AV} (hg:g<B.nx0) (hl:lkE es g=some l):kst B g l:=by
 refine⟨hg,put l 0 .e,by rw[hB];exact j1v hl,fun i hi=>?_⟩
 rw[jgk,if_pos (by omega)]
 rfl
def ksc (P:Program) (gl:List Nat) (its:Its):List (Nat×CFn)→Prop
 | []=>True
 | x::r=>(∃fn,P.funcs[x.1]?=some fn∧(cfn P gl fn=some x.2∨cfn P gl fn its=some x.2∨∃i,j3q P gl i∧cfn P gl fn i=some x.2))∧ksc P gl its r
theorem j6j:j3q P gl []:=fun f it h=>by cases h
def gk:Option CFn→CFn
 | some c=>c
 | none=>⟨0,[],.bad⟩
theorem jap:∀ {o:Option CFn},o.isSome=true→o=some (gk o)
 | some c,_=>rfl
def ofK:List (Nat×CFn)→Tr CFn
 | []=>.e
 | x::r=>(ofK r).set x.1 x.2
theorem ju2 {its:Its} (hi:j3q P gl its):∀ {l:List (Nat×CFn)},ksc P gl its l→j3l P gl (ofK l)
 | [],_=>fun f c h=>by simp[ofK,Tr.get] at h
 | x::r,⟨h1,h2⟩=>fun f c h=>by
   simp only[ofK,Tr.get_set] at h
   split at h
   ·rename_i e
    cases h
    rw[e]
    obtain⟨fn,k1,k2⟩:=h1
    rcases k2 with k2 | k2 | ⟨i,k3,k2⟩
    ·exact⟨fn,k1,[],j6j,k2⟩
    ·exact⟨fn,k1,its,hi,k2⟩
    ·exact⟨fn,k1,i,k3,k2⟩
   ·exact ju2 hi h2 f c h
end W
end Go.Vm
