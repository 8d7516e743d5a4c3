/- A law's call in the model, out of what the machine's text shows. -/
import Derived.Test.YtccefhabickfiaaGreatDoorVmWF
set_option linter.unusedSimpArgs false
set_option linter.unusedVariables false
namespace Go.Vm
namespace W
open Go Go.RowKit
variable {P:Program} {gl:List Nat} {B:Base}
theorem jxk:∀ {es:List (Nat×List AV)} {n:Nat},(es.all λe=>decide (e.1<n))=true->WF (wD es) n:=by
 intro es n h b hb;obtain⟨k,hk⟩:=rB.1 hb;obtain⟨l,h1,_⟩:=jin hk;simpa using cJ.1 h _ h1
def qD (a b:iP):iP:=λf as=>match a f as with
 | some g=>some g
 | none=>b f as
theorem xF {a b:iP} (ha:oE P gl B a) (hb:oE P gl B b):oE P gl B (qD a b):=by
 intro f as g h;unfold qD at h;split at h
 ·rename_i hg;cases h;exact ha f as g hg
 ·exact hb f as g h
def lkE:List (Nat×List AV)->Nat->Option (List AV)
 | [],_=>none
 | (g,l)::r,n=>bif Nat.beq g n then some l else lkE r n
theorem j2u:∀ {es:List (Nat×List AV)} {g:Nat} {l:List AV},lkE es g=some l->(wD es).get g=some (.cells (put l 0 .e) l.length)
 | [],_,_,h=>by cases h
 | (g',l')::r,g,l,h=>by
   simp only[lkE,bE] at h;simp only[wD,Tr.get_set];by_cases e:g'=g
   ·subst e;simp only[aZ,aF,aS] at h;subst h;rw[aH rfl]
   ·simp only[e,bA,aG] at h;rw[aC (λh=>e h.symm)];exact j2u h
theorem j85 {es:List (Nat×List AV)} (hB:B.H0=wD es) {g:Nat} {l:List AV} (hg:g<B.nx0) (hl:lkE es g=some l):j84 B g l:=by
 refine⟨hg,put l 0 .e,by rw[hB];exact j2u hl,λi hi=>?_⟩;rw[sM,aH (by omega)];rfl
def jqr (P:Program) (gl:List Nat) (its:wO):List (Nat×CFn)->Prop
 | []=>True
 | x::r=>(∃fn,P.funcs[x.1]?=some fn/\(cfn P gl fn=some x.2\/cfn P gl fn its=some x.2\/∃i,S8 P gl i/\cfn P gl fn i=some x.2))/\jqr P gl its r
theorem j1y:S8 P gl []:=λf it h=>by cases h
def gk:Option CFn->CFn
 | some c=>c
 | none=>⟨0,[],.bad⟩
theorem cL:∀ {o:Option CFn},o.isSome=true->o=some (gk o)
 | some c,_=>rfl
def ofK:List (Nat×CFn)->Tr CFn
 | []=>.e
 | x::r=>(ofK r).set x.1 x.2
theorem juk {its:wO} (hi:S8 P gl its):∀ {l:List (Nat×CFn)},jqr P gl its l->jge P gl (ofK l)
 | [],_=>λf c h=>by simp[ofK,Tr.get] at h
 | x::r,⟨h1,h2⟩=>λf c h=>by
   simp only[ofK,Tr.get_set] at h;split at h
   ·rename_i e;cases h;rw[e];obtain⟨fn,k1,k2⟩:=h1;rcases k2 with k2 | k2 | ⟨i,k3,k2⟩
    ·exact⟨fn,k1,[],j1y,k2⟩
    ·exact⟨fn,k1,its,hi,k2⟩
    ·exact⟨fn,k1,i,k3,k2⟩
   ·exact juk hi h2 f c h
end W
end Go.Vm
