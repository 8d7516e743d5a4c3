/- Parts of the proof. -/
import Derived.Test.YtccefhabickfiaaGreatDoorVmWF
set_option linter.unusedSimpArgs false
set_option linter.unusedVariables false
namespace Go.Vm
namespace W
open Go Go.RowKit
variable {P:Program} {gl:List Nat} {B:Base}
theorem jgn:∀ {es:List (Nat×List AV)} {n:Nat},(es.all λe=>decide (e.1<n))=true->WF (oG es) n:=by
 intro es n h b hb;obtain⟨k,hk⟩:=lN.1 hb;obtain⟨l,h1,_⟩:=Kq hk;simpa using bS.1 h _ h1
def kS (a b:dX):dX:=λf as=>match a f as with
 | some g=>some g
 | none=>b f as
theorem pK {a b:dX} (ha:iX P gl B a) (hb:iX P gl B b):iX P gl B (kS a b):=by
 intro f as g h;unfold kS at h;split at h
 ·rename_i hg;cases h;exact ha f as g hg
 ·exact hb f as g h
def En:List (Nat×List AV)->Nat->Option (List AV)
 | [],_=>none
 | (g,l)::r,n=>bif Nat.beq g n then some l else En r n
theorem jnn:∀ {es:List (Nat×List AV)} {g:Nat} {l:List AV},En es g=some l->(oG es).get g=some (.cells (put l 0 .e) l.length)
 | [],_,_,h=>by cases h
 | (g',l')::r,g,l,h=>by
   simp only[En,aL] at h;simp only[oG,Tr.get_set];by_cases e:g'=g
   ·subst e;simp only[bA,aB,aG] at h;subst h;rw[aK rfl]
   ·simp only[e,bM,aF] at h;rw[aD (λh=>e h.symm)];exact jnn h
theorem jue {es:List (Nat×List AV)} (hB:B.H0=oG es) {g:Nat} {l:List AV} (hg:g<B.nx0) (hl:En es g=some l):jud B g l:=by
 refine⟨hg,put l 0 .e,by rw[hB];exact jnn hl,λi hi=>?_⟩;rw[mP,aK (by omega)];rfl
def Ht (P:Program) (gl:List Nat) (its:nV):List (Nat×CFn)->Prop
 | []=>True
 | x::r=>(∃fn,P.funcs[x.1]?=some fn/\(cfn P gl fn=some x.2\/cfn P gl fn its=some x.2\/∃i,wL P gl i/\cfn P gl fn i=some x.2))/\Ht P gl its r
theorem jmt:wL P gl []:=λf it h=>by cases h
def gk:Option CFn->CFn
 | some c=>c
 | none=>⟨0,[],.bad⟩
theorem qR:∀ {o:Option CFn},o.isSome=true->o=some (gk o)
 | some c,_=>rfl
def Fe:List (Nat×CFn)->Tr CFn
 | []=>.e
 | x::r=>(Fe r).set x.1 x.2
theorem jcq {its:nV} (hi:wL P gl its):∀ {l:List (Nat×CFn)},Ht P gl its l->Ib P gl (Fe l)
 | [],_=>λf c h=>by simp[Fe,Tr.get] at h
 | x::r,⟨h1,h2⟩=>λf c h=>by
   simp only[Fe,Tr.get_set] at h;split at h
   ·rename_i e;cases h;rw[e];obtain⟨fn,k1,k2⟩:=h1;rcases k2 with k2 | k2 | ⟨i,k3,k2⟩
    ·exact⟨fn,k1,[],jmt,k2⟩
    ·exact⟨fn,k1,its,hi,k2⟩
    ·exact⟨fn,k1,i,k3,k2⟩
   ·exact jcq hi h2 f c h
def okK (P:Program) (gl:List Nat):List (Nat×Func)->Bool
 | []=>true
 | x::r=>(cfn P gl x.2).isSome&&okK P gl r
def klK (P:Program) (gl:List Nat) (l:List (Nat×Func)):List (Nat×CFn):=l.map λx=>(x.1,gk (cfn P gl x.2))
def FsK (P:Program):List (Nat×Func)->Prop
 | []=>True
 | x::r=>P.funcs[x.1]?=some x.2/\FsK P r
theorem jfh {P:Program} {gl:List Nat} {its:nV} {m:List (Nat×CFn)} (hm:Ht P gl its m):∀ {l:List (Nat×Func)},okK P gl l=true->FsK P l->Ht P gl its (klK P gl l++m)
 | [],_,_=>hm
 | x::r,h,⟨h1,h2⟩=>by
   simp only[okK,aN] at h;exact⟨⟨x.2,h1,.inl (qR h.1)⟩,jfh hm h.2 h2⟩
end W
end Go.Vm
