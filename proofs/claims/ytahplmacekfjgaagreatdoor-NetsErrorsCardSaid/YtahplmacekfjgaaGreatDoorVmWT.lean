/-
  Functions of the library that are jn7: strconv.Atoi, strconv.ParseUint(s, 10, 8), strings.Split, out of the library's contracts.
  A jn7 function that ranges over a function: strips.Ends; new cells behind a walk of the model.
  Told functions: strings.Join.
-/
import Derived.Test.YtahplmacekfjgaaGreatDoorVmWG
import Derived.Lib.ParseIntB
import Derived.Lib.SplitLaws
import Derived.Lib.AtoiErrMem
import Derived.Lib.ItoaNum
import Derived.Lib.Join
set_option linter.unusedSimpArgs false
set_option linter.unusedVariables false
set_option linter.unusedSectionVars false
set_option linter.unnecessarySimpa false
namespace Go.Vm
namespace W
open Go Go.RowKit
variable {P:Program} {gl:List Nat} {B:Base}
theorem Below.quiet {w w':World} (h:Below w.heap.size w w'):Quiet w w':=⟨h.os,h.tape,h.output,h.size,h.block⟩
def u8 (s:List Nat):List UInt8:=s.map UInt8.ofNat
theorem kio {b:ByteArray} {s:List Nat} (h:b.data.toList.map UInt8.toNat=s):b.data.toList=u8 s:=by
 subst h
 unfold u8
 rw[List.map_map]
 have:(UInt8.ofNat∘UInt8.toNat)=id:=by funext x;simp
 rw[this,List.map_id]
theorem ju6 {ρ:RM} {H:Tr Blk} {nx ro:Nat} {w w':World} {v:AV} {v':Value} (q:Quiet w w') (hr:HR ρ H w) (hv:VR ρ v v'):Ends ρ H nx ro w v H nx v' w':=⟨ρ,q.step,q.hr hr,hv⟩
def khy (P:Program) (f:FuncId):Prop:=∃fn,P.funcs[f]?=some fn∧(fn.name== "runtime.NumGoroutine")=false∧fn.body.isSome=true
def kbc (f:FuncId):jm7:=fun g as=>bif Nat.beq g f then(match as with
 | [.int .u64 x]=>if 0≤x∧x≤18446744073709551615 then some fun H nx _=>some (.int .i64 (Lib.bitLen x.toNat),H,nx) else none
 | _=>none) else none
theorem j52 {ρ:RM} {k:IntKind} {x:Int} {args:Array Value} (h:VRs ρ [.int k x] args.toList):args=#[.int k x]:=by
 simp only[VRs,VR] at h
 obtain⟨v,vs,h1,rfl,rfl⟩:=h
 apply Array.toList_inj.1
 exact h1
theorem kba {f:FuncId} (hfn:khy P f) (c1:∀(x:Int) (w:World) (_:0≤x) (_:x≤18446744073709551615),Calls P f #[.int .u64 x] w fun e w'=>e=.returned (.int .i64 (Lib.bitLen x.toNat))∧w'=w):jiw P gl B (kbc f):=by
 intro g as k hk H nx v H' nx' ro hv hb
 unfold kbc at hk
 obtain⟨e,hk2⟩:=jag hk
 rw[jaa,decide_eq_true_eq] at e
 clear hk
 subst e
 split at hk2<;>try (cases hk2;done)
 rename_i x
 split at hk2<;>try (cases hk2;done)
 rename_i hx
 cases hk2
 simp only[Option.some.injEq,Prod.mk.injEq] at hv
 obtain⟨rfl,rfl,rfl⟩:=hv
 refine⟨Syn.refl _ _ _,fun ρ w args hr _ _ _ _ ha=>⟨hfn,?_⟩⟩
 obtain rfl:=j52 ha
 refine(c1 x w hx.1 hx.2).mono ?_
 rintro e w' ⟨rfl,rfl⟩
 exact⟨_,rfl,ju6 (Below.quiet (Below.refl _ _)) hr (by simp[VR])⟩
def ka9 (f:FuncId):jm7:=fun g as=>bif Nat.beq g f then(match as with
 | [.int .i64 x]=>if 0≤x∧x≤64 then some fun H nx _=>some (.int .i64 (Lib.l10 x.toNat),H,nx) else none
 | _=>none) else none
theorem ka7 {f:FuncId} (hfn:khy P f) (c1:∀(x:Nat) (_:x≤64) (w:World),Calls P f #[.int .i64 x] w fun e w'=>e=.returned (.int .i64 (Lib.l10 x))∧w'=w):jiw P gl B (ka9 f):=by
 intro g as k hk H nx v H' nx' ro hv hb
 unfold ka9 at hk
 obtain⟨e,hk2⟩:=jag hk
 rw[jaa,decide_eq_true_eq] at e
 clear hk
 subst e
 split at hk2<;>try (cases hk2;done)
 rename_i x
 split at hk2<;>try (cases hk2;done)
 rename_i hx
 cases hk2
 simp only[Option.some.injEq,Prod.mk.injEq] at hv
 obtain⟨rfl,rfl,rfl⟩:=hv
 refine⟨Syn.refl _ _ _,fun ρ w args hr _ _ _ _ ha=>⟨hfn,?_⟩⟩
 obtain rfl:=j52 ha
 have:=c1 x.toNat (by omega) w
 rw[Int.toNat_of_nonneg hx.1] at this
 refine this.mono ?_
 rintro e w' ⟨rfl,rfl⟩
 exact⟨_,rfl,ju6 (Below.quiet (Below.refl _ _)) hr (by simp[VR])⟩
end W
end Go.Vm
namespace Go.Vm
namespace W
open Go Go.RowKit
variable {P:Program} {gl:List Nat} {B:Base}
end W
end Go.Vm
namespace Go.Vm
namespace W
open Go Go.RowKit
variable {P:Program} {gl:List Nat} {B:Base}
def mkB (s:List Nat):ByteArray:=⟨(u8 s).toArray⟩
end W
end Go.Vm
