/-
  What the rows of this chapter need: slice arguments, the start, the call.
-/
import Derived.Test.YtofimkliemlojaaQ8
import Derived.Test.YtofimkliemlojaaXG7
import Derived.Lib.SmallJoins
import Derived.ProofKit
import Derived.Handed
import Derived.ChangeMaps
import Derived.Test.YtofimkliemlojaaRB
set_option linter.unusedSimpArgs false
set_option linter.unusedVariables false
set_option linter.unusedSectionVars false
set_option linter.unnecessarySimpa false
namespace Go.Proofs.Ytofimkliemlojaa
open Go.ChangeShapes Go.WideShapes Go.ChangeAt Go.RowKit
namespace Vm
open Go Go.Vm Go.Vm.W Go.Vm.X
set_option maxRecDepth 100000
theorem own:ownKnob Try.prog.godebug=none:=by kernel_rfl
theorem laidOut:laidOutB Try.prog=true:=by kernel_rfl
def ArgOK (k:IntKind) (W:World) (v:Value) (l:Vm.Loc) (L:List Int):Prop:=(v=.slice none 0 0∧L=[])∨∃cap off,v=.slice (some ⟨l.blk,off,none⟩) L.length cap∧L.length≤cap∧(off=l.base∨cap=0)∧l.base+cap=l.lim∧
 ∀ρ,Blk.Rel false ρ (.cells (put (L.map (AV.int k)) 0 .e) L.length) l W
theorem arg_ok {k:IntKind} {H:Type} {enc:TypeId×Value→H} {W:World} {fuel b0:Nat} {t e:TypeId} {v:Value} {x:DataW H×List MemPlace} (ht:Try.prog.underlying t=some (.slice e)) (he:Try.prog.underlying e=some (.int k)) (hc:Try.prog.cellsOf e=1)
  (h:DataW.trod enc Try.prog W 0 (fun _=>true) true fuel t [v]=some x) (hok:Cell.okWide Try.prog W .any b0 t v) (hfz:W.noneFrozen x.2):∃l L,(∀z∈L,(Lit.int k z).wf=true)∧ArgOK k W v l L:=by
 rcases slice_arg ht he hc h hok hfz with rfl | ⟨L,cap,off,blk,base,lim,h1,h2,h3,h4,h5,h6⟩
 ·exact⟨⟨0,0,0⟩,[],(fun z hz=>by cases hz),.inl ⟨rfl,rfl⟩⟩
 ·exact⟨⟨blk,base,lim⟩,L,h1,.inr ⟨cap,off,h2,h3,h4,h5,h6⟩⟩
theorem HK_lay {B:Base} {ro nx:Nat} {O:List Ent} {H:Tr Blk} (h:HK B ro O H nx) {b:Nat} (h0:B.nx0≤b) (hb:b<nx) (hn:b∉O.map Ent.b) (l:List AV):HK B ro (⟨b,false,.cells l⟩::O) (H.set b (.cells (put l 0 .e) l.length)) nx:=by
 refine⟨h.r0,h.r1,fun x hx=>by rw[Tr.get_set,if_neg (by omega),h.base x hx],fun e he=>?_,by simp only[List.map_cons,List.nodup_cons];exact⟨hn,h.nd⟩⟩
 rcases List.mem_cons.1 he with rfl | he
 ·exact⟨hb,(fun hw=>by cases hw),At_new⟩
 ·obtain⟨e1,e2,e3⟩:=h.ent e he
  refine⟨e1,e2,e3.congr ?_⟩
  rw[Tr.get_set,if_neg fun e=>hn (List.mem_map.2 ⟨_,he,e⟩)]
theorem lay_slice {k:IntKind} {B:Base} {ρ:RM} {H:Tr Blk} {W:World} {O:List Ent} {b:Nat} {v:Value} {l:Vm.Loc} {L:List Int} (ha:ArgOK k W v l L) (hl:ρ b=some l) (hR:HR ρ H W) (hlt:∀x,(H.get x).isSome→x<RO) (hk:HK B RO O H RO) (h0:B.nx0≤b) (hb:b<RO) (hn:b∉O.map Ent.b):
  ∃H' O' av A,HR ρ H' W∧(∀x,(H'.get x).isSome→x<RO)∧HK B RO O' H' RO∧(∀x∈O'.map Ent.b,x=b∨x∈O.map Ent.b)∧(∀x∈(A:Facts),Has O' x.1 x.2)∧(∀c x,Has O c x→Has O' c x)∧SlR A 1 (RelL (RelC A (.int k))) L av∧VR ρ av v:=by
 rcases ha with⟨rfl,rfl⟩ | ⟨cap,off,rfl,h1,h2,h3,h4⟩
 ·exact⟨H,O,.nils,[],hR,hlt,hk,fun x h=>.inr h,(fun x hx=>by cases hx),fun _ _ h=>h,.inl ⟨rfl,rfl⟩,by simp[VR]⟩
 ·have e1:(L.map (AV.int k)).length=L.length:=by simp
  obtain⟨q1,q2⟩:=HR_add hR hlt hb hl (h4 ρ)
  refine⟨_,⟨b,false,.cells (L.map (AV.int k))⟩::O,.sl b 0 L.length (some cap) 1,[(b,.cells (L.map (AV.int k)))],q1,q2,?_,fun x hx=>?_,fun x hx=>?_,fun _ _ h=>.there h,.inr ⟨b,0,some cap,_,rfl,List.mem_singleton.2 rfl,fun c hc=>by cases hc;exact h1,by simp,?_⟩,?_⟩
  ·have:=HK_lay hk h0 hb hn (L.map (AV.int k))
   rw[e1] at this
   exact this
  ·simpa using hx
  ·rw[List.mem_singleton.1 hx];exact .here
  ·rw[List.drop_zero,Nat.mul_one,List.take_of_length_le (by simp)]
   exact RelL_of_map (P:=RelC _ (.int k)) (f:=AV.int k) (fun _=>rfl) L
  ·simp only[VR]
   exact⟨l,cap,off,hl,rfl,h1,by omega,by omega,.inl ⟨rfl,by omega⟩⟩
theorem start (W:World) (ps:List Vm.Loc):HR (rho1 W 0 ps) (BB 0).H0 W:=⟨fun b k l hk _=>by simp[BB,H0,Tr.get] at hk,fun b b' l l' hk _ _ _ _=>by simp[BB,H0,Tr.get] at hk⟩
theorem start_lt:∀x,((BB 0).H0.get x).isSome→x<RO:=fun x hx=>by simp[BB,H0,Tr.get] at hx
theorem start_hk:HK (BB 0) RO [] (BB 0).H0 RO:=⟨show nx0≤RO by decide,by decide,fun _ _=>rfl,(fun _ h=>by cases h),List.nodup_nil⟩
theorem gl_ok {ρ:RM}:GLok gl ρ:=fun g hg=>by simp[gl] at hg
theorem u8_bd {z:Int} (h:(Lit.int .u8 z).wf=true):0≤z∧z≤255:=by
 simp[Lit.wf,IntKind.min,IntKind.max,IntKind.signed,IntKind.bits] at h
 omega
theorem noneFrozen_of {W:World} {p q:List MemPlace} (h:W.noneFrozen p) (hq:∀x∈q,x∈p):W.noneFrozen q:=fun b o hm=>h b o (hq _ hm)
end Vm
end Go.Proofs.Ytofimkliemlojaa
