/-
  Variables of the start that hold an interface: what is known of them.
-/
import Derived.Test.YtahplmacekfjgaaGreatDoorVmWF
set_option linter.unusedSimpArgs false
set_option linter.unusedVariables false
set_option linter.unusedSectionVars false
set_option linter.unnecessarySimpa false
namespace Go.Vm
namespace W
open Go Go.RowKit
variable {P:Program}
def j3m (w:World) (G:Nat) (ps:List Loc):RM:=fun b=>if b<G then ket w G b else ps[b-G]?
theorem j5h {w:World} {G b:Nat} {ps:List Loc} (h:b<G):∃l,j3m w G ps b=some l∧l.blk=b∧l.base=0:=by
 unfold j3m
 rw[if_pos h]
 exact kbo h
theorem j5g {w:World} {G n:Nat} {ps:List Loc} (h:G+ps.length≤n):∀b,n≤b→j3m w G ps b=none:=fun b hb=>by
 unfold j3m
 rw[if_neg (by omega),List.getElem?_eq_none (by omega)]
theorem kdm {laid ls:List (String×DataW Unit)} {w:World} (h:laidMet P laid w) (hs:∀x∈ls,x∈laid) {es ex:List (Nat×List AV)} (he:ju5 P ls=some es) (G:Nat) (ps:List Loc) (hG:∀e∈es,e.1<G)
  (hx:∀e∈ex,e.1<G∧∃cs t,w.heap[e.1]?=some (.cells cs t (0,0))∧VRs (j3m w G ps) e.2 cs.toList):HR (j3m w G ps) (jkm (ex++es)) w:=by
 have all:∀e∈ex++es,e.1<G∧∃cs t,w.heap[e.1]?=some (.cells cs t (0,0))∧VRs (j3m w G ps) e.2 cs.toList:=by
  intro e hm
  rcases List.mem_append.1 hm with hm | hm
  ·exact hx e hm
  ·obtain⟨x,h2,h3⟩:=ju4 he _ hm
   exact⟨hG e hm,j6x h (hs x h2) h3 _⟩
 have lt:∀ {b:Nat},((jkm (ex++es)).get b).isSome→b<G:=by
  intro b hb
  obtain⟨k,hk⟩:=Option.isSome_iff_exists.1 hb
  obtain⟨as,h1,_⟩:=jl8 hk
  exact(all _ h1).1
 have key:∀ {b:Nat} {l:Loc},b<G→j3m w G ps b=some l→l.blk=b:=by
  intro b l hb hl
  obtain⟨l',h1,h2,_⟩:=j5h (w:=w) (ps:=ps) hb
  rw[h1] at hl
  cases hl
  exact h2
 refine⟨fun b k l hk hl=>?_,fun b b' l l' i1 i2 e1 e2 e=>by left;rw[←key (lt i1) e1,←key (lt i2) e2,e]⟩
 obtain⟨as,h1,rfl⟩:=jl8 hk
 obtain⟨hb,cs,t,h4,h5⟩:=all _ h1
 simp only at hb h4 h5
 have hl2:ket w G b=some l:=by rw[←hl];unfold j3m;rw[if_pos hb]
 unfold ket at hl2
 rw[if_pos hb,h4] at hl2
 simp only[Option.some.injEq] at hl2
 subst hl2
 have h6:=h5.length
 simp only[Array.length_toList] at h6
 refine⟨cs,t,(0,0),h4,by simp;omega,Nat.le_refl _,fun i _ _=>by simp,fun i hi=>?_⟩
 obtain⟨a,ha⟩:∃a,as[i]?=some a:=⟨as[i],by simp[hi]⟩
 obtain⟨v,hv,hr⟩:=h5.get ha
 exact⟨a,v,by rw[je7,if_pos (by omega)];exact ha,by simpa using hv,hr⟩
end W
end Go.Vm
