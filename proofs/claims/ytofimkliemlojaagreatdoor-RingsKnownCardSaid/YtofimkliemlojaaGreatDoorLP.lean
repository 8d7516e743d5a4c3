/-
  The law RingsKnown: the call returns true.
-/
import Derived.Test.YtofimkliemlojaaGreatDoorQ8
import Derived.Test.YtofimkliemlojaaGreatDoorRV
import Derived.Test.YtofimkliemlojaaGreatDoorTie
import Derived.Test.YtofimkliemlojaaGreatDoorCards
import Derived.Lib.SmallJoins
set_option linter.unusedSimpArgs false
set_option linter.unusedVariables false
set_option linter.unusedSectionVars false
set_option linter.unnecessarySimpa false
namespace Go.Proofs.YtofimkliemlojaaGreatDoor
open Go.ChangeShapes Go.WideShapes Go.ChangeAt Go.RowKit
namespace Vm
open Go Go.Vm Go.Vm.W Go.Vm.X
set_option maxRecDepth 100000
theorem own:ownKnob Tryz.prog.godebug=none:=by kernel_rfl
theorem khr:laidOutB Tryz.prog=true:=by kernel_rfl
theorem j4u {H:Type} {enc:TypeId×Value→H} {a:Assume} {C:Checked} {os:Os} {f:FuncId} {fn:Func} {s:ChangeSpec} {conds:List PathCond} {apart fresh handsOn j9p:Bool} {X:World→Array Value→Prop}
  (hX:∀(w w':World) (args:Array Value),w.heap=w'.heap→X w args→X w' args)
  (own:ownKnob C.prog.godebug=none) (started:os.Started) (noInit:C.prog.inits.idxOf? f=none) (hfn:C.prog.funcs[f]?=some fn)
  (witness:∃(w:World) (tape:Tape) (i:Input),w.os=os∧(w.forCall tape i).Shaped C.prog∧i.vars=[]∧Input.okWide C.prog (w.forCall tape i) .any w.heap.size f i∧
    ((s.pre enc C.prog fn conds apart (w.forCall tape i).memory i.args∧X (w.forCall tape i).memory i.args)∧sizedMet enc C.prog fn (OpenSpec.ofChange s) apart (w.forCall tape i).memory i.args)∧a.holds C.prog (lone (Frame.enter C.prog f i.args .normal) [] (w.forCall tape i)))
  (contract:∀(W:World) (base:Nat) (args:Array Value) (ds gs:List (DataW H)) (before:List MemPlace),W.ShapedOpen C.prog→
    (∀(j:Nat) t v,fn.params[j]?=some t→args[j]?=some v→Value.okWide C.prog W .any base t v)→
    DataW.Whole enc C.prog fn.params.toList s.vars apart W args.toList ds gs before→X W args→
    Calls C.prog f args W fun e W'=>∃v,e=.returned v∧s.post enc C.prog fn apart fresh handsOn j9p W args v W'):
  ReturnsInHanded a C os f .any (fun w args=>(s.pre enc C.prog fn conds apart w args∧X w args)∧sizedMet enc C.prog fn (OpenSpec.ofChange s) apart w args) (s.post enc C.prog fn apart fresh handsOn j9p):=by
 refine returnsInHanded_of_calls own started noInit witness ?_
 intro w tape i _ hsh _ hok hpre _
 obtain⟨_,_,_,fn',hfn',_,_,_,_,hval⟩:=hok
 obtain rfl:fn'=fn:=Option.some.inj (hfn'.symm.trans hfn)
 obtain⟨⟨⟨ds,gs,before,hw,_⟩,hx⟩,_⟩:=hpre
 have hw':=DataW.Whole.of_heap (w':=w.forCall tape i) (by rfl) hw
 refine(contract (w.forCall tape i) w.heap.size i.args ds gs before hsh hval hw' (hX _ _ _ (by rfl) hx)).mono fun e W' ⟨v,he,hp⟩=>?_
 subst he
 exact ChangeSpec.post_blind hp
theorem kem:∀x∈khq,x∈Rows.ringsKnownRow.laid:=by
 intro x hx
 unfold khq at hx
 obtain⟨y,hy,rfl⟩:=List.mem_map.1 hx
 exact List.fst_mem_of_mem_zipIdx (List.mem_filter.1 hy).1
theorem kop:∀e∈es,e.1<5:=by
 have:(es.all fun e=>e.1.blt 5)=true:=by kernel_rfl
 intro e he
 simpa using List.all_eq_true.1 this e he
theorem kdy {W:World} (hL:laidMet Tryz.prog Rows.ringsKnownRow.laid W) (ps:List Vm.Loc):HR (kaw W 5 ps) (BB 0).H0 W:=by
 have:=ki8 hL kem koo (ex:=ex) 5 ps kop (by intro e he;simp only[ex,List.not_mem_nil] at he)
 rw[ki9 0] at this
 exact this
theorem kdw:∀x,((BB 0).H0.get x).isSome→x<RO:=fun x hx=>by
 have:=kox 0 x hx
 exact Nat.lt_of_lt_of_le this (show nx0≤RO by decide)
theorem kdx:HK (BB 0) RO [] (BB 0).H0 RO:=⟨show nx0≤RO by decide,by decide,fun _ _=>rfl,(fun _ h=>by cases h),List.nodup_nil⟩
theorem kom {W:World} {ps:List Vm.Loc}:GLok gl (kaw W 5 ps):=fun g hg=>by
 have:∀g∈gl,g<5:=by decide
 obtain⟨l,h1,h2,h3⟩:=kav (w:=W) (ps:=ps) (this g (List.contains_iff_mem.1 hg))
 exact⟨l,h1,h2,h3⟩
theorem kn8 {m:Nat} {f:FuncId} {run:jj5 []→Option (jj5 [.d .bool])} (ho:∀mx,OKs (BB mx) (jk9 mx) prog m [⟨f,[],[.d .bool],run⟩]) (hrun:run ()=some true)
  {W:World} (hL:laidMet Tryz.prog Rows.ringsKnownRow.laid W):
  Calls Tryz.prog f #[] W fun e W'=>e=.returned (.bool true)∧Below W.heap.size W W':=
 j51 (t:=⟨f,[],[.d .bool],run⟩) (kgl 0) mixed ka2 (n:=m) (ho 0 _ (List.mem_singleton.2 rfl) m (Nat.le_refl _)) rfl (a:=()) hrun kdx (A:=[]) (fun x hx=>by cases hx) (vs:=[]) ⟨rfl,rfl⟩ (kdy hL []) kom (kau (show 5+0≤RO by decide)) kdw (by simp[VRs])
theorem jsu (os:Os) (started:os.Started) (H:Type) (enc:TypeId×Value→H):
  ReturnsInHanded {} Tryz.checked os 3 .any (fun w args=>(Rows.ringsKnownSpec.pre enc Tryz.prog Tryz.f3 Rows.ringsKnownRow.domain false w args∧laidMetH Tryz.prog Rows.ringsKnownRow.laid w)∧sizedMet enc Tryz.prog Tryz.f3 (OpenSpec.ofChange Rows.ringsKnownSpec) false w args)
   (Rows.ringsKnownSpec.post enc Tryz.prog Tryz.f3 false true false false):=by
 refine j4u (C:=Tryz.checked) (X:=fun w _=>laidMetH Tryz.prog Rows.ringsKnownRow.laid w) (fun _ _ _ hh h=>h.of_heap hh) own started (by kernel_rfl) Tryz.func3
  (ChangeSpec.witness_shaped (enc:=enc) (C:=Tryz.checked) (os:=os) (X:=fun w _=>laidMetH Tryz.prog Rows.ringsKnownRow.laid w) false (World.laidAll Tryz.prog os Rows.ringsKnownRow.laid) #[] 8 (World.laidAll_os _ _ _)
    (World.shaped_of_ZipB (by kernel_rfl) (by kernel_rfl)) (by kernel_rfl) (by kernel_rfl) (by kernel_rfl)
    (by rw[MakeChecks.laidMetH_plain _ _ _ (by kernel_rfl)];exact laidMet_laidAll _ (by kernel_rfl) (by kernel_rfl))) ?_
 intro W base args ds gs before hsh hval0 hW hL
 refine kel (C:=Tryz.checked) rfl (fun H ds h=>?_) rfl Tryz.underlying4 khr (by kernel_rfl) hW ?_
 ·rw[Tryz.params3] at h
  match ds,h with
  | [],_=>rfl
 obtain⟨p,q,hA0,_,rfl,hfz,_⟩:=hW
 have hA:DataW.TrodAll enc Tryz.prog W 0 (fun _=>true) true Tryz.f3.params.toList args.toList ds p:=hA0
 rw[Tryz.params3] at hA
 obtain⟨ha,rfl,rfl⟩:=trodAll_nil hA
 obtain rfl:args=#[]:=by cases args;simp_all
 rw[MakeChecks.laidMetH_plain _ _ _ (by kernel_rfl)] at hL
 exact kn8 jrr jnc hL
theorem juh:Rows.RingsKnownSaid:=
 OpenClaim.holds_of_wide 3 Tryz.f3 rfl rfl rfl rfl rfl rfl rfl ⟨rfl,rfl,rfl,rfl,rfl⟩ rfl rfl rfl rfl rfl (by kernel_rfl) Tryz.func3 (by kernel_rfl)
  (of_decide_eq_true (by kernel_rfl)) (by unfold Func.isWrapper;first | (rw[if_pos (by decide +kernel)];kernel_rfl) | (rw[if_neg (by decide +kernel)];exact⟨rfl,rfl⟩))
  (fun os started H enc _=>jsu os started H enc)
theorem ringsKnown_card:Rows.RingsKnownCardSaid:=
 Claim7.holds_tied_plain_at .later [] [.data,.data,.data,.widerDeep] true (true, "48297fc907a08e22d58449b2082308e358c18b550e71fe54dfa4b9697f4cf640") false
  juh (fun _ h=>by cases h) (by kernel_rfl) (fun _ h=>by cases h) ringsKnown_row_tie rfl ⟨rfl,rfl⟩ (by kernel_rfl) rfl
  (fun f fn hf hfn=>by
    obtain rfl:f=3:=Option.some.inj ((show Tryz.prog.funcNamed Rows.ringsKnownRow.func=some 3 by kernel_rfl).symm.trans hf) |>.symm
    obtain rfl:fn=Tryz.f3:=(Option.some.inj (Tryz.func3.symm.trans hfn)).symm
    exact⟨by kernel_rfl,fun j t ht=>by
     rw[Tryz.params3] at ht
     simp at ht⟩)
  (by kernel_rfl)
end Vm
#print axioms Vm.ringsKnown_card
end Go.Proofs.YtofimkliemlojaaGreatDoor
