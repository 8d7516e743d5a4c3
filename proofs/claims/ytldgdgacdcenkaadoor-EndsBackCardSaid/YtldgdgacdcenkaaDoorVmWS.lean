/-
  A told function that ranges over a function: strips.Ends; new cells behind a walk of the model.
  Told functions: strings.Join.
-/
import Derived.Test.YtldgdgacdcenkaaDoorVmWT
import Derived.Lib.Join
set_option linter.unusedSimpArgs false
set_option linter.unusedVariables false
set_option linter.unusedSectionVars false
set_option linter.unnecessarySimpa false
namespace Go.Vm
namespace W
open Go Go.RowKit
variable {P:Program} {gl:List Nat} {B:Base}
def rdInts (c:Tr AV):Nat→Nat→Option (List Int)
 | _,0=>some []
 | o,n+1=>match c.get o with
   | some (.int .i64 x)=>(match rdInts c (o+1) n with
     | some L=>some (x::L)
     | none=>none)
   | _=>none
theorem rdInts_at {c:Tr AV}:∀ {n o:Nat} {L:List Int},rdInts c o n=some L→L.length=n∧∀i (h:i<L.length),c.get (o+i)=some (.int .i64 L[i])
 | 0,o,L,h=>by cases h;exact⟨rfl,fun i h=>by simp at h⟩
 | n+1,o,L,h=>by
   unfold rdInts at h
   split at h<;>try (cases h;done)
   rename_i x hx
   split at h<;>try (cases h;done)
   rename_i M hM
   cases h
   obtain⟨h1,h2⟩:=rdInts_at hM
   refine⟨by simp[h1],fun i hi=>?_⟩
   cases i with
   | zero=>exact hx
   | succ i=>
     have:=h2 i (by simpa using hi)
     rw[show o+1+i=o+ (i+1) by omega] at this
     exact this
def okL (L:List Int):Bool:=L.all (fun x=>decide (1≤x∧x≤64))&&(1:Nat).ble L.length&&L.length.ble 32
def endsOut (call:FuncId→List AV→Tr Blk→Nat→Nat→Out) (fc:FuncId) (E:List Int→List Int) (as:List AV) (rd:Tr Blk→Option (List Int)):Tr Blk→Nat→Nat→Out:=fun H nx _=>match call fc as H nx nx with
 | some (.int .i64 e,_,nxc)=>if e=0 then(match rd H with
    | some L=>bif okL L then some (.tup [.sl nxc 0 (E L).length (some (E L).length) 1,.int .i64 0],H.set nxc (.cells (put ((E L).map (AV.int .i64)) 0 .e) ((E L).map (AV.int .i64)).length),nxc+1) else none
    | none=>none)
   else some (.tup [.nils,.int .i64 e],H,nxc)
 | _=>none
def tEnds (call:FuncId→List AV→Tr Blk→Nat→Nat→Out) (f fc:FuncId) (E:List Int→List Int):Memo:=fun g as=>bif Nat.beq g f then(match as with
 | [.agg [.sl b o n _ 1,_]]=>some (endsOut call fc E as fun H=>match H.get b with
   | some (.cells c m)=>bif(o+n).ble m then rdInts c o n else none
   | _=>none)
 | [.agg [.nils,_]]=>some (endsOut call fc E as fun _=>none)
 | _=>none) else none
end W
end Go.Vm
namespace Go.Vm
namespace W
open Go Go.RowKit
variable {P:Program} {gl:List Nat} {B:Base}
def rdStrs (c:Tr AV):Nat→Nat→Option (List (List Nat))
 | _,0=>some []
 | o,n+1=>match c.get o with
   | some (.str x)=>(match rdStrs c (o+1) n with
     | some L=>some (x::L)
     | none=>none)
   | _=>none
theorem rdStrs_at {c:Tr AV}:∀ {n o:Nat} {L:List (List Nat)},rdStrs c o n=some L→L.length=n∧∀i (h:i<L.length),c.get (o+i)=some (.str L[i])
 | 0,o,L,h=>by cases h;exact⟨rfl,fun i h=>by simp at h⟩
 | n+1,o,L,h=>by
   unfold rdStrs at h
   split at h<;>try (cases h;done)
   rename_i x hx
   split at h<;>try (cases h;done)
   rename_i M hM
   cases h
   obtain⟨h1,h2⟩:=rdStrs_at hM
   refine⟨by simp[h1],fun i hi=>?_⟩
   cases i with
   | zero=>exact hx
   | succ i=>
     have:=h2 i (by simpa using hi)
     rw[show o+1+i=o+ (i+1) by omega] at this
     exact this
def joinS (S:List (List Nat)) (sep:List Nat):List Nat:=(Lib.join (S.map u8) (u8 sep)).map UInt8.toNat
def tJoin (f:FuncId):Memo:=fun g as=>bif Nat.beq g f then(match as with
 | [.sl b o n _ 1,.str sep]=>some fun H nx _=>match H.get b with
   | some (.cells c m)=>bif(o+n).ble m then(match rdStrs c o n with
     | some S=>bif(joinS S sep).length.ble 1000000&&S.length.ble 1000000 then some (.str (joinS S sep),H,nx) else none
     | none=>none) else none
   | _=>none
 | [.nils,.str _]=>some fun H nx _=>some (.str [],H,nx)
 | _=>none) else none
def mkB (s:List Nat):ByteArray:=⟨(u8 s).toArray⟩
theorem tJoin_ok {f:FuncId} (hfn:FnOK P f)
  (c0:∀(a:Option Addr) (c:Nat) (sep:ByteArray) (w:World),Calls P f #[.slice a 0 c,.string sep] w fun e w'=>e=.returned (.string ⟨#[]⟩)∧w'=w)
  (c1:∀(bk o c:Nat) (xs:List ByteArray) (sep:ByteArray) (w:World) (_:∀(j:Nat) x,xs[j]?=some x→w.cell? ⟨bk,o+j,none⟩=some (.string x)) (_:bk<w.heap.size) (_:xs.length≤140737488355328) (_:xs.length≤c)
    (_:(Lib.join (xs.map (·.data.toList)) sep.data.toList).length≤140737488355328),
    Calls P f #[.slice (some ⟨bk,o,none⟩) xs.length c,.string sep] w fun e w'=>e=.returned (.string ⟨(Lib.join (xs.map (·.data.toList)) sep.data.toList).toArray⟩)∧Below w.heap.size w w'):
  MemoOK P gl B (tJoin f):=by
 intro g as k hk H nx v H' nx' ro hv hb
 unfold tJoin at hk
 obtain⟨e,hk2⟩:=of_bif hk
 rw[beq_dec,decide_eq_true_eq] at e
 clear hk
 subst e
 split at hk2
 ·rename_i b o n cap sep
  cases hk2
  simp only at hv
  split at hv<;>try (cases hv;done)
  rename_i c m hcm
  obtain⟨hom,hv⟩:=of_bif hv
  rw[ble_dec,decide_eq_true_eq] at hom
  split at hv<;>try (cases hv;done)
  rename_i S hS
  obtain⟨hlen,hv⟩:=of_bif hv
  rw[Bool.and_eq_true,ble_dec,ble_dec,decide_eq_true_eq,decide_eq_true_eq] at hlen
  simp only[Option.some.injEq,Prod.mk.injEq] at hv
  obtain⟨rfl,rfl,rfl⟩:=hv
  obtain⟨hSn,hSc⟩:=rdStrs_at hS
  refine⟨Syn.refl _ _ _,fun ρ w args hr hf hro hgl hwf ha=>⟨hfn,?_⟩⟩
  simp only[VRs,VR] at ha
  obtain⟨v,vs,h1,⟨l,cp,off,g1,rfl,g2,_,g3,_⟩,v2,vs2,rfl,⟨sb,rfl,hsb⟩,rfl⟩:=ha
  obtain rfl:args=#[.slice (some ⟨l.blk,off,none⟩) n cp,.string sb]:=Array.toList_inj.1 h1
  have hsep:=u8_of hsb
  by_cases hn:n=0
  ·subst hn
   have:S=[]:=List.length_eq_zero_iff.1 hSn
   subst this
   refine(c0 _ _ _ _).mono ?_
   rintro e w' ⟨rfl,rfl⟩
   exact⟨_,rfl,ends_quiet (Below.quiet (Below.refl _ _)) hr (by simp only[VR];exact⟨⟨#[]⟩,rfl,rfl⟩)⟩
  ·obtain rfl:off=l.base+o:=by rcases g3 with h | h;exact h;omega
   obtain⟨cs,elem,fr,q1,_,_,_,q5⟩:=hr.blk b _ l hcm g1
   have hm:(S.map mkB).map (fun x=>x.data.toList)=S.map u8:=by
    rw[List.map_map]
    apply List.map_congr_left
    intro s _
    simp[mkB]
   have:=c1 l.blk (l.base+o) cp (S.map mkB) sb w (fun j x hx=>?_) (Array.getElem?_eq_some_iff.1 q1).1 (by rw[List.length_map];omega) (by rw[List.length_map];omega) (by rw[hm,hsep];have:=hlen.1;simp only[joinS,List.length_map] at this;omega)
   ·rw[List.length_map,hSn] at this
    refine this.mono ?_
    rintro e w' ⟨rfl,hB⟩
    refine⟨_,rfl,ends_quiet (Below.quiet hB) hr ?_⟩
    rw[hm,hsep]
    simp only[VR]
    exact⟨_,rfl,rfl⟩
   ·rw[List.getElem?_map] at hx
    simp only[Option.map_eq_some_iff] at hx
    obtain⟨s,hs,rfl⟩:=hx
    obtain⟨hj,hs⟩:=List.getElem?_eq_some_iff.1 hs
    obtain⟨a,v,a1,a2,a3⟩:=q5 (o+j) (by omega)
    rw[hSc j hj,hs] at a1
    cases a1
    simp only[VR] at a3
    obtain⟨bs,rfl,hbs⟩:=a3
    have:bs=mkB s:=by
     have:=u8_of hbs
     unfold mkB
     rw[←this]
    rw[←this]
    simp only[World.cell?,q1]
    simpa[Nat.add_assoc] using a2
 ·cases hk2
  simp only[Option.some.injEq,Prod.mk.injEq] at hv
  obtain⟨rfl,rfl,rfl⟩:=hv
  refine⟨Syn.refl _ _ _,fun ρ w args hr hf hro hgl hwf ha=>⟨hfn,?_⟩⟩
  simp only[VRs,VR] at ha
  obtain⟨v,vs,h1,rfl,v2,vs2,rfl,⟨sb,rfl,hsb⟩,rfl⟩:=ha
  obtain rfl:args=#[.slice none 0 0,.string sb]:=Array.toList_inj.1 h1
  refine(c0 _ _ _ _).mono ?_
  rintro e w' ⟨rfl,rfl⟩
  exact⟨_,rfl,ends_quiet (Below.quiet (Below.refl _ _)) hr (by simp only[VR];exact⟨⟨#[]⟩,rfl,rfl⟩)⟩
 ·cases hk2
end W
end Go.Vm
