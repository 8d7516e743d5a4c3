/-
  The model's walks, carried over into the rounds of a range over a function.
-/
import Derived.Test.YtonohffniohehaaGreatDoorVmZL
import Derived.LoopNIn
import Derived.OwnWalkIn
import Derived.Scope
set_option linter.unusedSimpArgs false
set_option linter.unusedVariables false
set_option linter.unusedSectionVars false
set_option linter.unnecessarySimpa false
namespace Go.Vm
abbrev Fr (r:Option Nat):Fence:={ Fence.wide with round:=r }
variable {P:Program} {r:Option Nat} {n:Nat}
theorem j0b {f:FuncId} {args:Array Value} {w:World} {R:Ending→World→Prop} (h:Calls P f args w R):CallsIn (Fr r) n P f args w R:=(callsIn_wide (n:=n)).2 h
theorem kb9 {f:FuncId} {args:Array Value} {w:World} {R:Ending→World→Prop} (h:CallsIn (Fr r) n P f args w R):Calls P f args w R:=(callsIn_wide (n:=n)).1 h
theorem kkr {f:String} {args:Array Value} {w:World} {R:Value→World→Prop} (h:Rows P f args w R):RowsIn (Fr r) n P f args w R:=fun c cs _=>
 let ⟨v,w',q,s⟩:=h c cs;⟨v,w',q,stepsIn_wide.2 s⟩
variable {ops:Array Oper} {Q:Exit→Act→World→Prop}
theorem kkw {o:Oper} (hd:j1t o.op=true) {a:Act} {w:World} {K:Act→World→Prop} (h:o.wp P a w K Q):o.wpIn (Fr r) n P a w K Q:=by
 refine⟨fun _ _=>trivial,?_⟩
 rw[Oper.semAt_plain (Fr r) _ _ (by intro c hc;rw[hc] at hd;cases hd)]
 unfold Oper.wp at h
 generalize (execOp a.eval o).run P w=x at h ⊢
 cases x with
 | ok y w'=>
   cases y<;>simp only[Oper.upon] at h<;>simp only[Oper.uponIn]
   all_goals first
    | exact h
    | exact h.elim
    | exact⟨(fun h=>by cases h),j0b h⟩
    | exact⟨(fun h=>by cases h),kkr h⟩
 | halt y w'=>cases y<;>simp only[Oper.upon] at h<;>simp only[Oper.uponIn]<;>first | exact h | exact h.elim
theorem jzl (hQ:¬LetsOut Q):∀(l:List Oper),l.all (fun o=>j1t o.op)=true→∀(a:Act) (w:World),wpList P ops Q l a w→wpListIn (Fr r) n P ops Q l a w
 | [],_,a,w,h=>h
 | o::l,hl,a,w,h=>by
   simp only[List.all_cons,Bool.and_eq_true] at hl
   unfold wpList at h
   unfold wpListIn
   split
   ·rename_i hw
    rw[if_pos hw] at h
    rcases h with h | h
    ·exact Oper.wpIn_mono (fun a w=>jzl hQ l hl.2 a w) (kkw hl.1 h)
    ·exact absurd h.2 hQ
   ·rename_i hw
    rw[if_neg hw] at h
    exact⟨fun _ _=>trivial,jzl hQ l hl.2 _ _ h⟩
theorem j3e (hQ:¬LetsOut Q) (hl:ops.toList.all (fun o=>j1t o.op)=true):∀(fuel:Nat) (listed:Array Bool) (a:Act) (w:World),wpAny P .any ops Q fuel listed a w→wpAnyIn (Fr r) n P .any ops Q fuel listed a w
 | 0,_,_,_,h=>h
 | fuel+1,listed,a,w,h=>by
   refine⟨h.1,fun i hi=>?_⟩
   have h2:=h.2 i hi
   unfold wpOp at h2
   unfold wpOpIn
   cases ho:ops[i]? with
   | none=>rw[ho] at h2;exact j3e hQ hl fuel _ _ _ h2
   | some o=>
     rw[ho] at h2
     have hc:j1t o.op=true:=List.all_eq_true.1 hl o (by rw[←Array.getElem?_toList] at ho;exact List.mem_of_getElem? ho)
     simp only at h2 ⊢
     split
     ·rename_i hw
      rw[if_pos hw] at h2
      rcases h2 with h2 | h2
      ·exact Oper.wpIn_mono (fun a w=>j3e hQ hl fuel _ a w) (kkw hc h2)
      ·exact absurd h2.2 hQ
     ·rename_i hw
      rw[if_neg hw] at h2
      exact⟨fun _ _=>trivial,j3e hQ hl fuel _ _ _ h2⟩
section
variable {b:Frame} {a:Act} {k:List Item} {cs:List Frame} {w:World}
theorem jg1 {c:Code}:step P (lone (b.atR a (.code (.scope c)::k)) cs w)=.next (lone (b.atR a (.code c:: .inScope c::k)) cs w):=
 step_lone_go (by simp[stepG,stepG.exec,Frame.atR])
theorem jym {c:Code}:step P (lone (b.atR a (.inScope c::k)) cs w)=.next (lone (b.atR a k) cs w):=
 step_lone_go (by simp[stepG,stepG.exec,Frame.atR])
end
theorem kds {F:Fence} {c:Code} {a:Act} {w:World} (h:c.wpIn F n P (Exit.noGoto Q) a w):(Code.scope c).wpIn F n P Q a w:=by
 intro b k cs hro hb hr
 have h0:(lone (b.atR a (.code (.scope c)::k)) cs w).fenced P F:=fenced_calm hb hr rfl
 obtain⟨e,a₁,w₁,hq,harr⟩:=h b (.inScope c::k) cs hro hb hr
 cases e with
 | normal=>exact⟨.normal,a₁,w₁,hq,.head h0 jg1 (StepsIn.trans harr (.one (fenced_calm hb hr rfl) jym))⟩
 | exit id=>
   have hx:exitTo id (.inScope c::k)=exitTo id k:=by simp[exitTo]
   exact⟨.exit id,a₁,w₁,hq,fun k' hk=>.head h0 jg1 (harr.1 k' (by rw[hx];exact hk)),
    fun hr' hk=>let ⟨k₁,h1,h2⟩:=harr.2 hr' (by rw[hx];exact hk);⟨k₁,h1,.head h0 jg1 h2⟩⟩
 | goto l=>exact hq.elim
 | ret=>exact⟨_,a₁,w₁,hq,.of_steps (.one h0 jg1) harr⟩
 | panic ch=>exact⟨_,a₁,w₁,hq,.of_steps (.one h0 jg1) harr⟩
 | outgrown=>exact⟨_,a₁,w₁,hq,.of_steps (.one h0 jg1) harr⟩
end Go.Vm
