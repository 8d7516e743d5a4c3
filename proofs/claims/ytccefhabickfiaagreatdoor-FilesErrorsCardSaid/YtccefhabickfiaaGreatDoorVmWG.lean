/-
  A law's call in the model, out of what the machine's text shows.
-/
import Derived.Test.YtccefhabickfiaaGreatDoorVmWF
set_option linter.unusedSimpArgs false
set_option linter.unusedVariables false
set_option linter.unusedSectionVars false
set_option linter.unnecessarySimpa false
namespace Go.Vm
namespace W
open Go Go.RowKit
variable {P:Program} {gl:List Nat} {B:Base}
theorem jyf:∀ {es:List (Nat×List AV)} {n:Nat},(es.all λe=>decide (e.1<n))=true->WF (d6 es) n:=by
 intro es n h b hb;obtain⟨k,hk⟩:=uQ.1 hb;obtain⟨l,h1,_⟩:=jk6 hk;simpa using cI.1 h _ h1
def tG (a b:kT):kT:=λf as=>match a f as with
 | some g=>some g
 | none=>b f as
theorem v7 {a b:kT} (ha:rB P gl B a) (hb:rB P gl B b):rB P gl B (tG a b):=by
 intro f as g h;unfold tG at h;split at h
 ·rename_i hg;cases h;exact ha f as g hg
 ·exact hb f as g h
def lkE:List (Nat×List AV)->Nat->Option (List AV)
 | [],_=>none
 | (g,l)::r,n=>bif Nat.beq g n then some l else lkE r n
theorem j3j:∀ {es:List (Nat×List AV)} {g:Nat} {l:List AV},lkE es g=some l->(d6 es).get g=some (.cells (put l 0 .e) l.length)
 | [],_,_,h=>by cases h
 | (g',l')::r,g,l,h=>by
   simp only[lkE,bQ] at h;simp only[d6,Tr.get_set];by_cases e:g'=g
   ·subst e;simp only[aU,aH,bA] at h;subst h;rw[aK rfl]
   ·simp only[e,aT,aJ] at h;rw[aF (λh=>e h.symm)];exact j3j h
theorem j9b {es:List (Nat×List AV)} (hB:B.H0=d6 es) {g:Nat} {l:List AV} (hg:g<B.nx0) (hl:lkE es g=some l):j9a B g l:=by
 refine⟨hg,put l 0 .e,by rw[hB];exact j3j hl,λi hi=>?_⟩;rw[xD,aK (by omega)];rfl
def jrl (P:Program) (gl:List Nat) (its:o5):List (Nat×CFn)->Prop
 | []=>True
 | x::r=>(∃fn,P.funcs[x.1]?=some fn/\(cfn P gl fn=some x.2\/cfn P gl fn its=some x.2\/∃i,ja6 P gl i/\cfn P gl fn i=some x.2))/\jrl P gl its r
theorem j2t:ja6 P gl []:=λf it h=>by cases h
def gk:Option CFn->CFn
 | some c=>c
 | none=>⟨0,[],.bad⟩
theorem cX:∀ {o:Option CFn},o.isSome=true->o=some (gk o)
 | some c,_=>rfl
def ofK:List (Nat×CFn)->Tr CFn
 | []=>.e
 | x::r=>(ofK r).set x.1 x.2
theorem jvi {its:o5} (hi:ja6 P gl its):∀ {l:List (Nat×CFn)},jrl P gl its l->jiv P gl (ofK l)
 | [],_=>λf c h=>by simp[ofK,Tr.get] at h
 | x::r,⟨h1,h2⟩=>λf c h=>by
   simp only[ofK,Tr.get_set] at h;split at h
   ·rename_i e;cases h;rw[e];obtain⟨fn,k1,k2⟩:=h1;rcases k2 with k2 | k2 | ⟨i,k3,k2⟩
    ·exact⟨fn,k1,[],j2t,k2⟩
    ·exact⟨fn,k1,its,hi,k2⟩
    ·exact⟨fn,k1,i,k3,k2⟩
   ·exact jvi hi h2 f c h
end W
end Go.Vm
