/- Parts of the proof. -/
import Derived.Test.YtccefhabickfiaaGreatDoorVmZL
import Derived.LoopNIn
import Derived.OwnWalkIn
import Derived.Scope
set_option linter.unusedSimpArgs false
set_option linter.unusedVariables false
namespace Go.Vm
abbrev Fr (r:Option Nat):Fence:={ Fence.wide with round:=r }
variable {P:Program} {r:Option Nat} {n:Nat}
theorem Dg {f:FuncId} {args:Array Value} {w:World} {R:Ending->World->Prop} (h:Calls P f args w R):CallsIn (Fr r) n P f args w R:=(callsIn_wide (n:=n)).2 h
theorem Ys {f:FuncId} {args:Array Value} {w:World} {R:Ending->World->Prop} (h:CallsIn (Fr r) n P f args w R):Calls P f args w R:=(callsIn_wide (n:=n)).1 h
theorem j63 {f:String} {args:Array Value} {w:World} {R:Value->World->Prop} (h:Rows P f args w R):RowsIn (Fr r) n P f args w R:=λc cs _=>
 let ⟨v,w',q,s⟩:=h c cs;⟨v,w',q,stepsIn_wide.2 s⟩
variable {ops:Array Oper} {Q:Exit->Act->World->Prop}
theorem jnq {o:Oper} (hd:Ku o.op=true) {a:Act} {w:World} {K:Act->World->Prop} (h:o.wp P a w K Q):o.wpIn (Fr r) n P a w K Q:=by
 refine⟨λ_ _=>trivial,?_⟩;rw[Oper.semAt_plain (Fr r) _ _ (by intro c hc;rw[hc] at hd;cases hd)];unfold Oper.wp at h;generalize (execOp a.eval o).run P w=x at h ⊢;cases x with
 | ok y w'=>
   cases y<;>simp only[Oper.upon] at h<;>simp only[Oper.uponIn]
   all_goals first
    | exact h
    | exact h.elim
    | exact⟨(λh=>by cases h),Dg h⟩
    | exact⟨(λh=>by cases h),j63 h⟩
 | halt y w'=>cases y<;>simp only[Oper.upon] at h<;>simp only[Oper.uponIn]<;>first | exact h | exact h.elim
theorem Kk (hQ:¬LetsOut Q):∀(l:List Oper),l.all (λo=>Ku o.op)=true->∀(a:Act) (w:World),wpList P ops Q l a w->wpListIn (Fr r) n P ops Q l a w
 | [],_,a,w,h=>h
 | o::l,hl,a,w,h=>by
   simp only[vS,aN] at hl;unfold wpList at h;unfold wpListIn;split
   ·rename_i hw;rw[aK hw] at h;rcases h with h | h
    ·exact Oper.wpIn_mono (λa w=>Kk hQ l hl.2 a w) (jnq hl.1 h)
    ·exact absurd h.2 hQ
   ·rename_i hw;rw[aD hw] at h;exact⟨λ_ _=>trivial,Kk hQ l hl.2 _ _ h⟩
theorem Im (hQ:¬LetsOut Q) (hl:ops.toList.all (λo=>Ku o.op)=true):∀(fuel:Nat) (listed:Array Bool) (a:Act) (w:World),wpAny P .any ops Q fuel listed a w->wpAnyIn (Fr r) n P .any ops Q fuel listed a w
 | 0,_,_,_,h=>h
 | fuel+1,listed,a,w,h=>by
   refine⟨h.1,λi hi=>?_⟩;have h2:=h.2 i hi;unfold wpOp at h2;unfold wpOpIn;cases ho:ops[i]? with
   | none=>rw[ho] at h2;exact Im hQ hl fuel _ _ _ h2
   | some o=>
     rw[ho] at h2;have hc:Ku o.op=true:=bS.1 hl o (by rw[<-lZ] at ho;exact rC ho);simp only at h2 ⊢;split
     ·rename_i hw;rw[aK hw] at h2;rcases h2 with h2 | h2
      ·exact Oper.wpIn_mono (λa w=>Im hQ hl fuel _ a w) (jnq hc h2)
      ·exact absurd h2.2 hQ
     ·rename_i hw;rw[aD hw] at h2;exact⟨λ_ _=>trivial,Im hQ hl fuel _ _ _ h2⟩
section
variable {b:Frame} {a:Act} {k:List Item} {cs:List Frame} {w:World}
theorem Gw {c:Code}:step P (lone (b.atR a (.code (.scope c)::k)) cs w)=.next (lone (b.atR a (.code c:: .inScope c::k)) cs w):=
 step_lone_go (by simp[stepG,stepG.exec,Frame.atR])
theorem j73 {c:Code}:step P (lone (b.atR a (.inScope c::k)) cs w)=.next (lone (b.atR a k) cs w):=
 step_lone_go (by simp[stepG,stepG.exec,Frame.atR])
end
theorem j7b {F:Fence} {c:Code} {a:Act} {w:World} (h:c.wpIn F n P (Exit.noGoto Q) a w):(Code.scope c).wpIn F n P Q a w:=by
 intro b k cs hro hb hr;have h0:(lone (b.atR a (.code (.scope c)::k)) cs w).fenced P F:=fenced_calm hb hr rfl;obtain⟨e,a₁,w₁,hq,harr⟩:=h b (.inScope c::k) cs hro hb hr;cases e with
 | normal=>exact⟨.normal,a₁,w₁,hq,.head h0 Gw (StepsIn.trans harr (.one (fenced_calm hb hr rfl) j73))⟩
 | exit id=>
   have hx:exitTo id (.inScope c::k)=exitTo id k:=by simp[exitTo]
   exact⟨.exit id,a₁,w₁,hq,λk' hk=>.head h0 Gw (harr.1 k' (by rw[hx];exact hk)),
    λhr' hk=>let ⟨k₁,h1,h2⟩:=harr.2 hr' (by rw[hx];exact hk);⟨k₁,h1,.head h0 Gw h2⟩⟩
 | goto l=>exact hq.elim
 | ret=>exact⟨_,a₁,w₁,hq,.of_steps (.one h0 Gw) harr⟩
 | panic ch=>exact⟨_,a₁,w₁,hq,.of_steps (.one h0 Gw) harr⟩
 | outgrown=>exact⟨_,a₁,w₁,hq,.of_steps (.one h0 Gw) harr⟩
end Go.Vm
