/- Parts of the proof. -/
import Derived.Test.YtccefhabickfiaaGreatDoorVmWC
set_option linter.unusedSimpArgs false
set_option linter.unusedVariables false
namespace Go.Vm
namespace W
open Classical
variable {P:Program} {gl:List Nat} {B:Base}
structure Quiet (w w':World):Prop where
 os:w'.os=w.os
 tape:w'.tape=w.tape
 output:w'.output=w.output
 size:w.heap.size<=w'.heap.size
 keep:∀x,x<w.heap.size->w'.heap[x]?=w.heap[x]?
theorem Quiet.step {ρ:RM} {H:Tr Blk} {nx ro:Nat} {w w':World} (q:Quiet w w'):Step ρ H nx ro w ρ H nx w':=
 ⟨q.os,q.tape,q.output,q.size,aU _,λ_ _=>rfl,λx hx _=>q.keep x hx,λb l h h'=>by omega,λ_ h=>.inr h,λ_ _ _=>rfl⟩
theorem Quiet.hr {ρ:RM} {H:Tr Blk} {w w':World} (q:Quiet w w') (h:HR ρ H w):HR ρ H w':=
 ⟨λb k l hb hl=>(h.blk b k l hb hl).mono (RM.Le.refl _) (q.keep _ (h.blk b k l hb hl).lt),h.inj⟩
abbrev dX:=FuncId->List AV->Option (Tr Blk->Nat->Nat->bN)
def iX (P:Program) (gl:List Nat) (B:Base) (memo:dX):Prop:=
 ∀f as g,memo f as=some g->∀H nx v H' nx' ro,g H nx ro=some (v,H',nx')->(∀b,b<B.nx0->H.get b=B.H0.get b)->Syn H nx ro H' nx'/\
  ∀(ρ:RM) (w:World) (args:Array Value),HR ρ H w->Free ρ nx nx'->ro<=nx->GLok gl ρ->WF H nx->VRs ρ as args.toList->
  (∃fn,P.funcs[f]?=some fn/\(fn.name== "runtime.NumGoroutine")=false/\fn.body.isSome=true)/\Calls P f args w (λen w'=>∃v',en=.returned v'/\Ends ρ H nx ro w v H' nx' v' w')
noncomputable def iH (B:Base) (memo:dX) (prog:Tr CFn):Nat->FuncId->List AV->Tr Blk->Nat->Nat->bN
 | 0,_,_,_,_,_=>none
 | n+1,f,as,H,nx,ro=>match memo f as with
   | some g=>if ∀b,b<B.nx0->H.get b=B.H0.get b then g H nx ro else none
   | none=>match prog.get f with
     | none=>none
     | some c=>tL (iH B memo prog n) ro c as H nx
theorem Gl {memo:dX} (hmemo:iX P gl B memo) (hm:P.follows .mixedOrders=true) {prog:Tr CFn} (hp:Ib P gl prog):∀n,lS P gl (iH B memo prog n)/\iY (iH B memo prog n)
 | 0=>⟨λf as H nx ro v H' nx' h=>by simp[iH] at h,λf as H nx ro v H' nx' h=>by simp[iH] at h⟩
 | n+1=>by
   obtain⟨ih1,ih2⟩:=Gl hmemo hm hp n;have sy:iY (iH B memo prog (n+1)):=by
    intro f as H nx ro v H' nx' h;simp only[iH] at h;split at h
    ·rename_i g hg;split at h
     ·rename_i hb;exact(hmemo f as g hg H nx v H' nx' ro h hb).1
     ·cases h
    ·split at h
     ·cases h
     ·exact jxa ih2 h
   refine⟨λf as H nx ro v H' nx' h=>⟨(sy _ _ _ _ _ _ _ _ h).up,λρ w args hr hf hro hgl hwf ha=>?_⟩,sy⟩;simp only[iH] at h;split at h
   ·rename_i g hg;split at h
    ·rename_i hb;exact(hmemo f as g hg H nx v H' nx' ro h hb).2 ρ w args hr hf hro hgl hwf ha
    ·cases h
   ·split at h
    ·cases h
    ·rename_i c hc;obtain⟨fn,h1,its,hits,h2⟩:=hp f c hc;exact jw9 ih1 ih2 hm h1 hits h2 h hro hr hf hgl hwf ha
def cut (ρ:RM) (n:Nat):RM:=λb=>if b<n then ρ b else none
end W
end Go.Vm
