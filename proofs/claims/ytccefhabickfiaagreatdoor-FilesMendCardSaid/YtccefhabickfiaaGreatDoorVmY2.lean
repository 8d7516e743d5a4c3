/- Parts of the proof. -/
import Derived.Test.YtccefhabickfiaaGreatDoorVmY1
import Derived.RangeFuncFrom
set_option linter.unusedSimpArgs false
set_option linter.unusedVariables false
namespace Go.Vm
open Go.RowKit
variable {P:Program} {n:Nat}
def Kb:Obj->Bool
 | .loop _ | .deferred _=>true
 | _=>false
structure Gr (B:Nat) (W W':World):Prop where
 os:W'.os=W.os
 tape:W'.tape=W.tape
 output:W'.output=W.output
 size:W.heap.size<=W'.heap.size
 same:∀(k:Nat) (o:Obj),W.heap[k]?=some o->k<B\/Kb o=false->W'.heap[k]?=some o
theorem Gr.refl (B:Nat) (W:World):Gr B W W:=⟨rfl,rfl,rfl,aU _,λ_ _ h _=>h⟩
theorem Gr.trans {B:Nat} {X Y Z:World} (h:Gr B X Y) (k:Gr B Y Z):Gr B X Z:=
 ⟨k.os.trans h.os,k.tape.trans h.tape,k.output.trans h.output,eA h.size k.size,λi o hi hc=>k.same i o (h.same i o hi hc) hc⟩
theorem Gr.alloc (B:Nat) (W:World) (o:Obj):Gr B W (W.alloc o):=
 ⟨rfl,rfl,rfl,by simp,λk o' hk _=>by
   have hlt:=(eJ.1 hk).1;exact(Below.heap_alloc _ _ _ hlt).trans hk⟩
theorem Gr.putObj {B:Nat} {W:World} {l:Nat} {o:Obj} (o':Obj) (hB:B<=l) (hl:W.heap[l]?=some o) (ho:Kb o=true):Gr B W (W.putObj l o'):=
 ⟨rfl,rfl,rfl,by simp[World.putObj],λk u hk hc=>by
   by_cases e:k=l
   ·subst e;rw[hl] at hk;cases hk;rcases hc with hc | hc
    ·omega
    ·rw[ho] at hc;cases hc
   ·exact(World.putObj_heap_other (by omega)).trans hk⟩
theorem Gr.below {B:Nat} {W W':World} (h:Below W.heap.size W W') (h1:W'.os=W.os) (h2:W'.tape=W.tape) (h3:W'.output=W.output):Gr B W W':=
 ⟨h1,h2,h3,h.size,λk o hk _=>by
   have hlt:=(eJ.1 hk).1;exact(h.block k hlt).trans hk⟩
theorem Gr.ofBelow {B:Nat} {W W':World} (h:Below W.heap.size W W'):Gr B W W':=Gr.below h h.os h.tape h.output
def pZ (W W':World):Prop:=∀(k:Nat) (o:Obj),W.heap[k]?=some o->Kb o=true->W'.heap[k]?=some o
def Xe (P:Program) (g:Nat) (lb:Array Value) (zs:List (Array Value)) (Rdy:World->Prop) (w:World):Prop:=
 ∀(l:Nat) (J:Nat->World->Prop) (Jx:World->Prop) (W:World),Below w.heap.size w W->
  (∀i W1 W2,J i W1->Below W1.heap.size W1 W2->J i W2)->(∀W1 W2,Jx W1->Below W1.heap.size W1 W2->Jx W2)->
  (∀i x W1,zs[i]?=some x->J i W1->YieldAt (Fr none) 2 P l x W1 λe W'=>(e=.returned (.bool true)/\J (i+1) W')\/(e=.returned (.bool false)/\Jx W'))->
  (∀i W1,J i W1->Rdy W1)->J 0 W->
  CallsIn (Fr none) 3 P g (#[.func (.yield l) #[] #[]]++lb) W λe W'=>(∃v,e=.returned v)/\(J zs.length W'\/Jx W')
def jji:Ex->Option Code
 | .normal=>none
 | .exit id=>some (.exit id)
 | .ret=>some .ret
def Ex.to:Ex->Exit
 | .normal=>.normal
 | .exit id=>.exit id
 | .ret=>.ret
def j6z (I:Nat->World->Prop) (Ix:Ex->World->Prop) (i:Nat) (W:World):Exit->Act->World->Prop
 | .normal,_,W'=>pZ W W'/\I (i+1) W'
 | .ret,_,W'=>pZ W W'/\Ix .ret W'
 | .exit id,_,W'=>pZ W W'/\Ix (.exit id) W'
 | _,_,_=>False
theorem j5h {g:Operand} {ps:Array Tmp} {assign body:Code} {Q:Exit->Act->World->Prop} {a:Act} {w:World} {gf:Nat} {lb:Array Value} {zs:List (Array Value)} {Rdy:World->Prop}
  (hg:a.eval g=.func (.func gf) #[] lb) (eg:∀args w,(callFunc gf args).run P w=.ok (.enter gf args) w) (hps:∀x∈zs,x.size=ps.size) (hsp:Xe P gf lb zs Rdy w)
  (I:Nat->World->Prop) (Ix:Ex->World->Prop) (hI:∀i W W',I i W->Gr w.heap.size W W'->I i W') (hIx:∀e W W',Ix e W->Gr w.heap.size W W'->Ix e W')
  (hR:∀i W,I i W->Rdy W) (h0:I 0 w)
  (hround:∀(l i:Nat) (x:Array Value) (W:World),zs[i]?=some x->I i W->
    assign.wpIn (Fr (some l)) 2 P (Exit.then (λa1 W1=>pZ W W1/\∀W2,Gr w.heap.size W1 W2->body.wpIn (Fr (some l)) 2 P (j6z I Ix i W2) a1 W2) (λ_ _ _=>False))
     { tmps:=(ps.zip x).foldl (λt (p,v)=>t.setIfInBounds p v) a.tmps,defers:=[] } W)
  (hdone:∀(D:Nat) (W:World),w.heap.size<=D->I zs.length W->W.heap[D]?=some (.deferred (some []))->Q .normal { a with defers:={ target:=.collected D,args:=#[] }::a.defers } W)
  (hstop:∀(D:Nat) (e:Ex) (W:World),w.heap.size<=D->e≠ .normal->Ix e W->W.heap[D]?=some (.deferred (some []))->Q e.to { a with defers:={ target:=.collected D,args:=#[] }::a.defers } W):
  (Code.rangeFunc g ps assign body).wpIn (Fr none) n P Q a w:=by
 refine wpIn_rangeFunc ?_;intro fn hfn;obtain⟨rec,hrec⟩:∃rec:LoopState->Option Code->Loop,rec=λst pe=>{ state:=st,pending:=pe,fn,tmps:=a.tmps,params:=ps,assign,body,defers:=w.heap.size }:=⟨_,rfl⟩
 obtain⟨W1,hW1⟩:∃W1,(w.alloc (.deferred (some []))).alloc (.loop (rec .ready none))=W1:=⟨_,rfl⟩
 have hL1:W1.heap[w.heap.size+1]?=some (.loop (rec .ready none)):=by
  rw[<-hW1];have:=World.alloc_heap_new (w.alloc (.deferred (some []))) (.loop (rec .ready none));rwa[World.size_alloc] at this
 have hK1:W1.heap[w.heap.size]?=some (.deferred (some [])):=by
  rw[<-hW1];exact(Below.heap_alloc _ _ _ (by simp)).trans (World.alloc_heap_new w _)
 have hI1:I 0 W1:=hI _ _ _ h0 (by rw[<-hW1];exact(Gr.alloc _ _ _).trans (Gr.alloc _ _ _));have hb1:Below w.heap.size w W1:=by
  rw[<-hW1];exact((Below.refl _ w).alloc (aU _) _).alloc (by simp) _
 refine⟨w.heap.size+1,[{ target:=.collected w.heap.size,args:=#[] }],W1,{ target:=.fn (.func gf) lb,args:=#[.func (.yield (w.heap.size+1)) #[] #[]] },W1,gf,
  #[.func (.yield (w.heap.size+1)) #[] #[]]++lb,W1,?_,?_,?_,?_,(λh=>by cases h),?_⟩
 ·rw[<-hW1,hrec];exact run_enterLoop_outer _ _ _ _ _
 ·simp only[resolve,hg];simp[go_sem]
 ·intro f' hf';trivial
 ·simp[invoke,go_sem,eg]
 ·have keepB:∀ {A B:World},Below A.heap.size A B->∀ {k:Nat} {o:Obj},A.heap[k]?=some o->B.heap[k]?=some o:=λh k o hk=>
   (h.block k (eJ.1 hk).1).trans hk
  refine(Dg (Ys (hsp (w.heap.size+1)
   (λi W=>I i W/\W.heap[w.heap.size+1]?=some (.loop (rec .ready none))/\W.heap[w.heap.size]?=some (.deferred (some [])))
   (λW=>∃e c,jji e=some c/\Ix e W/\W.heap[w.heap.size+1]?=some (.loop (rec .done (some c)))/\W.heap[w.heap.size]?=some (.deferred (some [])))
   W1 hb1 (λi A B hA hB=>⟨hI _ _ _ hA.1 (Gr.ofBelow hB),keepB hB hA.2.1,keepB hB hA.2.2⟩)
   (λA B hA hB=>by obtain⟨e,c,h1,h2,h3,h4⟩:=hA;exact⟨e,c,h1,hIx _ _ _ h2 (Gr.ofBelow hB),keepB hB h3,keepB hB h4⟩)
   ?_ (λi W h=>hR i W h.1) ⟨hI1,hL1,hK1⟩))).mono ?_
  ·
   rintro i x W hx ⟨hi,hl,hk⟩;have hy:=run_yield (P:=P) (args:=x) hl (by rw[hrec];exact hps x (rC hx));rw[hrec] at hy;refine⟨fn,_,assign,body,hy,roundIn_of_wpIn hfn (wpIn_mono (hround _ i x W hx hi) ?_)⟩;rintro e a1 W2 hp;cases e with
   | normal=>
     obtain⟨hkp,hb⟩:=hp;have hl1:=hkp _ _ hl rfl;have hk1:=hkp _ _ hk rfl;have hlt:w.heap.size+1<W2.heap.size:=(eJ.1 hl1).1;refine⟨_,run_beginRound hl1 (by rw[hrec]),?_⟩;have hl2:(W2.putObj (w.heap.size+1) (.loop { rec .ready none with state:=.busy })).heap[w.heap.size+1]?=some (.loop { rec .ready none with state:=.busy }):=World.putObj_heap_same hlt;have hk2:(W2.putObj (w.heap.size+1) (.loop { rec .ready none with state:=.busy })).heap[w.heap.size]?=some (.deferred (some [])):=(World.putObj_heap_other (by omega)).trans hk1;refine wpIn_mono (hb _ (Gr.putObj _ (by omega) hl1 rfl)) ?_
     have fin:∀(jump:Option Code) (W3:World),pZ (W2.putObj (w.heap.size+1) (.loop { rec .ready none with state:=.busy })) W3->
       (Instr.endRound (w.heap.size+1) jump).run P W3=.ok (.bool jump.isNone) (W3.putObj (w.heap.size+1) (.loop (rec (if jump.isNone then .ready else .done) jump)))/\
       W3.heap[w.heap.size+1]?=some (.loop { rec .ready none with state:=.busy })/\
       (W3.putObj (w.heap.size+1) (.loop (rec (if jump.isNone then .ready else .done) jump))).heap[w.heap.size+1]?=some (.loop (rec (if jump.isNone then .ready else .done) jump))/\
       (W3.putObj (w.heap.size+1) (.loop (rec (if jump.isNone then .ready else .done) jump))).heap[w.heap.size]?=some (.deferred (some [])):=λjump W3 hk3=>by
      have hl3:=hk3 _ _ hl2 rfl;have:=run_endRound (P:=P) jump hl3;rw[hrec] at this ⊢;exact⟨this,by rw[hrec] at hl3;exact hl3,World.putObj_heap_same (eJ.1 hl3).1,(World.putObj_heap_other (by omega)).trans (hk3 _ _ hk2 rfl)⟩
     rintro e a3 W3 hp;cases e with
     | normal=>
       obtain⟨hk3,hi3⟩:=hp;obtain⟨hr,hl3,hl4,hk4⟩:=fin none W3 hk3;exact⟨_,_,hr,.inl ⟨rfl,hI _ _ _ hi3 (Gr.putObj _ (by omega) hl3 rfl),hl4,hk4⟩⟩
     | ret=>
       obtain⟨hk3,hi3⟩:=hp;obtain⟨hr,hl3,hl4,hk4⟩:=fin (some .ret) W3 hk3;exact⟨_,_,hr,.inr ⟨rfl,.ret,.ret,rfl,hIx _ _ _ hi3 (Gr.putObj _ (by omega) hl3 rfl),hl4,hk4⟩⟩
     | exit id=>
       obtain⟨hk3,hi3⟩:=hp;obtain⟨hr,hl3,hl4,hk4⟩:=fin (some (.exit id)) W3 hk3;exact⟨_,_,hr,.inr ⟨rfl,.exit id,.exit id,rfl,hIx _ _ _ hi3 (Gr.putObj _ (by omega) hl3 rfl),hl4,hk4⟩⟩
     | goto t=>exact hp.elim
     | panic ch=>exact hp.elim
     | outgrown=>exact hp.elim
   | exit id=>exact hp.elim
   | goto l=>exact hp.elim
   | ret=>exact hp.elim
   | panic ch=>exact hp.elim
   | outgrown=>exact hp.elim
  ·
   rintro e W2 ⟨⟨v,rfl⟩,(⟨hi,hl,hk⟩ | ⟨e,c,hec,hi,hl,hk⟩)⟩
   ·exact⟨none,_,by have:=run_endLoop (P:=P) hl (by rw[hrec];simp);rw[hrec] at this;exact this,hdone _ _ (aU _) (hI _ _ _ hi (Gr.putObj _ (by omega) hl rfl)) ((World.putObj_heap_other (by omega)).trans hk)⟩
   ·refine⟨some c,_,by have:=run_endLoop (P:=P) hl (by rw[hrec];simp);rw[hrec] at this;exact this,?_⟩;cases e with
    | normal=>cases hec
    | exit id=>cases hec;exact wpIn_exit (hstop _ (.exit id) _ (aU _) (by simp) (hIx _ _ _ hi (Gr.putObj _ (by omega) hl rfl)) ((World.putObj_heap_other (by omega)).trans hk))
    | ret=>cases hec;exact wpIn_ret (hstop _ .ret _ (aU _) (by simp) (hIx _ _ _ hi (Gr.putObj _ (by omega) hl rfl)) ((World.putObj_heap_other (by omega)).trans hk))
end Go.Vm
namespace Go.Vm
open Go.RowKit
variable {P:Program} {n:Nat}
inductive Itm where
 | row (k:IntKind) (L:List Int)
 | val (b:Nat) (v:AV)
def ItemAt:Itm->Array Value->Nat->World->Prop
 | .row k L,x,b,W=>∃off c cs elem,x=#[.slice (some ⟨b,off,none⟩) L.length c]/\W.heap[b]?=some (.cells cs elem (0,0))/\L.length<=c/\off+c<=cs.size/\c<9223372036854775808/\
   ∀i z,L[i]?=some z->cs[off+i]?=some (.int k z)
 | .val _ v,x,b,W=>b=W.heap.size/\∃u,x=#[u]/\∀ρ,VR ρ v u
theorem ItemAt.size {r:Itm} {x:Array Value} {b:Nat} {W:World} (h:ItemAt r x b W):x.size=1:=by
 cases r with
 | row k L=>obtain⟨_,_,_,_,e,_⟩:=h;rw[e];rfl
 | val c v=>obtain⟨_,u,e,_⟩:=h;rw[e];rfl
structure Off (S:Nat->Prop) (b:Nat) (W:World) (S':Nat->Prop) (W':World):Prop where
 size:W.heap.size<=W'.heap.size
 own:∀k,k<W.heap.size->¬S k->k≠b->¬S' k
 keep:∀(k:Nat) (o:Obj),W.heap[k]?=some o->¬S k->k≠b->Kb o=false->W'.heap[k]?=some o
 os:W'.os=W.os
 tape:W'.tape=W.tape
 output:W'.output=W.output
theorem Off.gr {S S':Nat->Prop} {b B:Nat} {W W' W2:World} (h:Off S b W S' W') (g:Gr B W' W2):Off S b W S' W2:=
 ⟨eA h.size g.size,h.own,λk o hk h1 h2 h3=>g.same k o (h.keep k o hk h1 h2 h3) (.inr h3),g.os.trans h.os,g.tape.trans h.tape,g.output.trans h.output⟩
structure Own (bx:Nat->Prop) (W W':World):Prop where
 os:W'.os=W.os
 tape:W'.tape=W.tape
 output:W'.output=W.output
 size:W.heap.size<=W'.heap.size
 same:∀(k:Nat) (o:Obj),W.heap[k]?=some o->¬bx k->W'.heap[k]?=some o
def Xf (P:Program) (g:Nat) (lb:Array Value) (bx:Nat->Prop) (rows:List Itm) (Rdy:(Nat->Prop)->World->Prop) (w:World):Prop:=
 ∀(l:Nat) (J:Nat->(Nat->Prop)->World->Prop) (Jx:World->Prop) (W:World),Below w.heap.size w W->
  (∀i S W1 W2,J i S W1->Own bx W1 W2->J i S W2)->(∀W1 W2,Jx W1->Own bx W1 W2->Jx W2)->(∀i S W1 k,J i S W1->S k->k<W1.heap.size/\¬bx k)->
  (∀i S r x b W1,rows[i]?=some r->J i S W1->ItemAt r x b W1->w.heap.size<=b->¬S b->
    YieldAt (Fr none) 2 P l x W1 λe W'=>(e=.returned (.bool true)/\∃S',J (i+1) S' W'/\Off S b W1 S' W')\/(e=.returned (.bool false)/\Jx W'))->
  (∀i S W1,J i S W1->Rdy S W1)->∀S,J 0 S W->
  CallsIn (Fr none) 3 P g (#[.func (.yield l) #[] #[]]++lb) W λe W'=>(∃v,e=.returned v)/\((∃S,J rows.length S W')\/Jx W')
def j60 (I:Nat->(Nat->Prop)->World->Prop) (Ix:Ex->World->Prop) (i:Nat) (S:Nat->Prop) (b:Nat) (W0 W:World):Exit->Act->World->Prop
 | .normal,_,W'=>pZ W W'/\∃S',I (i+1) S' W'/\Off S b W0 S' W'
 | .ret,_,W'=>pZ W W'/\Ix .ret W'
 | .exit id,_,W'=>pZ W W'/\Ix (.exit id) W'
 | _,_,_=>False
theorem j5g {g:Operand} {ps:Array Tmp} {assign body:Code} {Q:Exit->Act->World->Prop} {a:Act} {w:World} {gf:Nat} {lb:Array Value} {rows:List Itm} {bx:Nat->Prop} {Rdy:(Nat->Prop)->World->Prop}
  (hg:a.eval g=.func (.func gf) #[] lb) (eg:∀args w,(callFunc gf args).run P w=.ok (.enter gf args) w) (hps:∀r∈rows,ps.size=1) (hbx:∀k,bx k->k<w.heap.size) (hsp:Xf P gf lb bx rows Rdy w)
  (I:Nat->(Nat->Prop)->World->Prop) (Ix:Ex->World->Prop) (hI:∀i S W W',I i S W->Gr w.heap.size W W'->I i S W') (hIx:∀e W W',Ix e W->Gr w.heap.size W W'->Ix e W')
  (hO:∀i S W W',I i S W->Own bx W W'->I i S W') (hOx:∀e W W',Ix e W->Own bx W W'->Ix e W')
  (hS:∀i S W k,I i S W->S k->k<W.heap.size/\¬bx k) (hR:∀i S W,I i S W->Rdy S W) (S0:Nat->Prop) (h0:I 0 S0 w)
  (hround:∀(l i:Nat) (S:Nat->Prop) (r:Itm) (x:Array Value) (b:Nat) (W:World),rows[i]?=some r->I i S W->ItemAt r x b W->w.heap.size<=b->¬S b->
    assign.wpIn (Fr (some l)) 2 P (Exit.then (λa1 W1=>pZ W W1/\∀W2,Gr w.heap.size W1 W2->body.wpIn (Fr (some l)) 2 P (j60 I Ix i S b W W2) a1 W2) (λ_ _ _=>False))
     { tmps:=(ps.zip x).foldl (λt (p,v)=>t.setIfInBounds p v) a.tmps,defers:=[] } W)
  (hdone:∀(D:Nat) (S:Nat->Prop) (W:World),w.heap.size<=D->I rows.length S W->W.heap[D]?=some (.deferred (some []))->Q .normal { a with defers:={ target:=.collected D,args:=#[] }::a.defers } W)
  (hstop:∀(D:Nat) (e:Ex) (W:World),w.heap.size<=D->e≠ .normal->Ix e W->W.heap[D]?=some (.deferred (some []))->Q e.to { a with defers:={ target:=.collected D,args:=#[] }::a.defers } W):
  (Code.rangeFunc g ps assign body).wpIn (Fr none) n P Q a w:=by
 refine wpIn_rangeFunc ?_;intro fn hfn;obtain⟨rec,hrec⟩:∃rec:LoopState->Option Code->Loop,rec=λst pe=>{ state:=st,pending:=pe,fn,tmps:=a.tmps,params:=ps,assign,body,defers:=w.heap.size }:=⟨_,rfl⟩
 obtain⟨W1,hW1⟩:∃W1,(w.alloc (.deferred (some []))).alloc (.loop (rec .ready none))=W1:=⟨_,rfl⟩
 have hL1:W1.heap[w.heap.size+1]?=some (.loop (rec .ready none)):=by
  rw[<-hW1];have:=World.alloc_heap_new (w.alloc (.deferred (some []))) (.loop (rec .ready none));rwa[World.size_alloc] at this
 have hK1:W1.heap[w.heap.size]?=some (.deferred (some [])):=by
  rw[<-hW1];exact(Below.heap_alloc _ _ _ (by simp)).trans (World.alloc_heap_new w _)
 have hI1:I 0 S0 W1:=hI _ _ _ _ h0 (by rw[<-hW1];exact(Gr.alloc _ _ _).trans (Gr.alloc _ _ _));have hb1:Below w.heap.size w W1:=by
  rw[<-hW1];exact((Below.refl _ w).alloc (aU _) _).alloc (by simp) _
 refine⟨w.heap.size+1,[{ target:=.collected w.heap.size,args:=#[] }],W1,{ target:=.fn (.func gf) lb,args:=#[.func (.yield (w.heap.size+1)) #[] #[]] },W1,gf,
  #[.func (.yield (w.heap.size+1)) #[] #[]]++lb,W1,?_,?_,?_,?_,(λh=>by cases h),?_⟩
 ·rw[<-hW1,hrec];exact run_enterLoop_outer _ _ _ _ _
 ·simp only[resolve,hg];simp[go_sem]
 ·intro f' hf';trivial
 ·simp[invoke,go_sem,eg]
 ·have keepB:∀ {A B:World},Own bx A B->∀ {k:Nat} {o:Obj},w.heap.size<=k->A.heap[k]?=some o->B.heap[k]?=some o:=λh k o hk ho=>
   h.same k o ho λhb=>absurd (hbx k hb) (by omega)
  refine(Dg (Ys (hsp (w.heap.size+1)
   (λi S W=>I i S W/\W.heap[w.heap.size+1]?=some (.loop (rec .ready none))/\W.heap[w.heap.size]?=some (.deferred (some [])))
   (λW=>∃e c,jji e=some c/\Ix e W/\W.heap[w.heap.size+1]?=some (.loop (rec .done (some c)))/\W.heap[w.heap.size]?=some (.deferred (some [])))
   W1 hb1 (λi S A B hA hB=>⟨hO _ _ _ _ hA.1 hB,keepB hB (by omega) hA.2.1,keepB hB (aU _) hA.2.2⟩)
   (λA B hA hB=>by obtain⟨e,c,h1,h2,h3,h4⟩:=hA;exact⟨e,c,h1,hOx _ _ _ h2 hB,keepB hB (by omega) h3,keepB hB (aU _) h4⟩)
   (λi S W k h=>hS i S W k h.1) ?_ (λi S W h=>hR i S W h.1) S0 ⟨hI1,hL1,hK1⟩))).mono ?_
  ·
   rintro i S r x b W hx ⟨hi,hl,hk⟩ hrow hbw hbS;have hxs:x.size=ps.size:=by rw[hps r (rC hx)];exact hrow.size
   have hy:=run_yield (P:=P) (args:=x) hl (by rw[hrec];exact hxs);rw[hrec] at hy;refine⟨fn,_,assign,body,hy,roundIn_of_wpIn hfn (wpIn_mono (hround _ i S r x b W hx hi hrow hbw hbS) ?_)⟩;rintro e a1 W2 hp;cases e with
   | normal=>
     obtain⟨hkp,hb⟩:=hp;have hl1:=hkp _ _ hl rfl;have hk1:=hkp _ _ hk rfl;have hlt:w.heap.size+1<W2.heap.size:=(eJ.1 hl1).1;refine⟨_,run_beginRound hl1 (by rw[hrec]),?_⟩;have hl2:(W2.putObj (w.heap.size+1) (.loop { rec .ready none with state:=.busy })).heap[w.heap.size+1]?=some (.loop { rec .ready none with state:=.busy }):=World.putObj_heap_same hlt;have hk2:(W2.putObj (w.heap.size+1) (.loop { rec .ready none with state:=.busy })).heap[w.heap.size]?=some (.deferred (some [])):=(World.putObj_heap_other (by omega)).trans hk1;refine wpIn_mono (hb _ (Gr.putObj _ (by omega) hl1 rfl)) ?_
     have fin:∀(jump:Option Code) (W3:World),pZ (W2.putObj (w.heap.size+1) (.loop { rec .ready none with state:=.busy })) W3->
       (Instr.endRound (w.heap.size+1) jump).run P W3=.ok (.bool jump.isNone) (W3.putObj (w.heap.size+1) (.loop (rec (if jump.isNone then .ready else .done) jump)))/\
       W3.heap[w.heap.size+1]?=some (.loop { rec .ready none with state:=.busy })/\
       (W3.putObj (w.heap.size+1) (.loop (rec (if jump.isNone then .ready else .done) jump))).heap[w.heap.size+1]?=some (.loop (rec (if jump.isNone then .ready else .done) jump))/\
       (W3.putObj (w.heap.size+1) (.loop (rec (if jump.isNone then .ready else .done) jump))).heap[w.heap.size]?=some (.deferred (some [])):=λjump W3 hk3=>by
      have hl3:=hk3 _ _ hl2 rfl;have:=run_endRound (P:=P) jump hl3;rw[hrec] at this ⊢;exact⟨this,by rw[hrec] at hl3;exact hl3,World.putObj_heap_same (eJ.1 hl3).1,(World.putObj_heap_other (by omega)).trans (hk3 _ _ hk2 rfl)⟩
     rintro e a3 W3 hp;cases e with
     | normal=>
       obtain⟨hk3,S',hi3,hoff⟩:=hp;obtain⟨hr,hl3,hl4,hk4⟩:=fin none W3 hk3;exact⟨_,_,hr,.inl ⟨rfl,S',⟨hI _ _ _ _ hi3 (Gr.putObj _ (by omega) hl3 rfl),hl4,hk4⟩,hoff.gr (Gr.putObj _ (aU _) hl3 rfl)⟩⟩
     | ret=>
       obtain⟨hk3,hi3⟩:=hp;obtain⟨hr,hl3,hl4,hk4⟩:=fin (some .ret) W3 hk3;exact⟨_,_,hr,.inr ⟨rfl,.ret,.ret,rfl,hIx _ _ _ hi3 (Gr.putObj _ (by omega) hl3 rfl),hl4,hk4⟩⟩
     | exit id=>
       obtain⟨hk3,hi3⟩:=hp;obtain⟨hr,hl3,hl4,hk4⟩:=fin (some (.exit id)) W3 hk3;exact⟨_,_,hr,.inr ⟨rfl,.exit id,.exit id,rfl,hIx _ _ _ hi3 (Gr.putObj _ (by omega) hl3 rfl),hl4,hk4⟩⟩
     | goto t=>exact hp.elim
     | panic ch=>exact hp.elim
     | outgrown=>exact hp.elim
   | exit id=>exact hp.elim
   | goto l=>exact hp.elim
   | ret=>exact hp.elim
   | panic ch=>exact hp.elim
   | outgrown=>exact hp.elim
  ·
   rintro e W2 ⟨⟨v,rfl⟩,(⟨S,hi,hl,hk⟩ | ⟨e,c,hec,hi,hl,hk⟩)⟩
   ·exact⟨none,_,by have:=run_endLoop (P:=P) hl (by rw[hrec];simp);rw[hrec] at this;exact this,hdone _ _ _ (aU _) (hI _ _ _ _ hi (Gr.putObj _ (by omega) hl rfl)) ((World.putObj_heap_other (by omega)).trans hk)⟩
   ·refine⟨some c,_,by have:=run_endLoop (P:=P) hl (by rw[hrec];simp);rw[hrec] at this;exact this,?_⟩;cases e with
    | normal=>cases hec
    | exit id=>cases hec;exact wpIn_exit (hstop _ (.exit id) _ (aU _) (by simp) (hIx _ _ _ hi (Gr.putObj _ (by omega) hl rfl)) ((World.putObj_heap_other (by omega)).trans hk))
    | ret=>cases hec;exact wpIn_ret (hstop _ .ret _ (aU _) (by simp) (hIx _ _ _ hi (Gr.putObj _ (by omega) hl rfl)) ((World.putObj_heap_other (by omega)).trans hk))
end Go.Vm
