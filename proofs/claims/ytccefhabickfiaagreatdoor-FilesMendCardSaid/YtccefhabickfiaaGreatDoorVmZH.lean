/- Parts of the proof. -/
import Derived.Test.YtccefhabickfiaaGreatDoorVmZG
set_option linter.unusedSimpArgs false
set_option linter.defProp false
set_option linter.unusedVariables false
namespace Go.Vm
structure Syn (H:Tr Blk) (nx ro:Nat) (H':Tr Blk) (nx':Nat):Prop where
 up:nx<=nx'
 live:∀b,(H'.get b).isSome->(nx<=b/\b<nx')\/(H.get b).isSome
 old:∀b,b<ro->b<nx->H'.get b=H.get b
def Syn.refl (H:Tr Blk) (nx ro:Nat):Syn H nx ro H nx:=⟨aU _,λ_ h=>.inr h,λ_ _ _=>rfl⟩
def Syn.trans {H H1 H2:Tr Blk} {nx nx1 nx2 ro:Nat} (s:Syn H nx ro H1 nx1) (t:Syn H1 nx1 ro H2 nx2):Syn H nx ro H2 nx2 where
 up:=eA s.up t.up
 live b h:=by
  have a1:=s.up;have a2:=t.up
  rcases t.live b h with h1 | h1
  ·exact .inl (by omega)
  ·rcases s.live b h1 with h2 | h2
   ·exact .inl (by omega)
   ·exact .inr h2
 old b h h':=by rw[t.old b h (kB h' s.up),s.old b h h']
def Syn.new (H:Tr Blk) (nx ro:Nat) (k:Blk):Syn H nx ro (H.set nx k) (nx+1) where
 up:=by omega
 live b h:=by
  rw[Tr.get_set] at h;by_cases e:b=nx
  ·exact .inl (by omega)
  ·rw[aD e] at h;exact .inr h
 old b h h':=by rw[Tr.get_set,aD (by omega)]
def Syn.set {H:Tr Blk} {nx ro b:Nat} {k:Blk} (hb:(H.get b).isSome) (hro:rx ro<=b):Syn H nx ro (H.set b k) nx where
 up:=by omega
 live x h:=by
  rw[Tr.get_set] at h;by_cases e:x=b
  ·rw[e];exact .inr hb
  ·rw[aD e] at h;exact .inr h
 old x h h':=by have:=jC hro;rw[Tr.get_set,aD (by omega)]
def Syn.del {H:Tr Blk} {nx ro b:Nat} (hro:rx ro<=b):Syn H nx ro (H.del b) nx where
 up:=by omega
 live x h:=by
  rw[Tr.get_del] at h;by_cases e:x=b
  ·rw[aK e] at h;cases h
  ·rw[aD e] at h;exact .inr h
 old x h h':=by have:=jC hro;rw[Tr.get_del,aD (by omega)]
def Syn.wf {H H':Tr Blk} {nx nx' ro:Nat} (s:Syn H nx ro H' nx') (h:WF H nx):WF H' nx':=λb hb=>by
 have:=s.up;rcases s.live b hb with h1 | h1
 ·omega
 ·have:=h b h1;omega
def iY (call:FuncId->List AV->Tr Blk->Nat->Nat->bN):Prop:=∀f as H nx ro v H' nx',call f as H nx ro=some (v,H',nx')->Syn H nx ro H' nx'
def Cd {l:List AV} {f:Nat->AV} {H H':Tr Blk} {nx nx' ro:Nat} {v:AV} (h:pN l f H nx=some (v,H',nx')):Syn H nx ro H' nx':=by
 simp only[iA,aG,aM] at h;obtain⟨_,rfl,rfl⟩:=h;exact Syn.new _ _ _ _
def jvd {z ro:Nat} {H H':Tr Blk} {nx nx':Nat} {x:AV} {k:Nat} {new:List AV} {v:AV} (h:jM z ro H nx x k new=some (v,H',nx')):Syn H nx ro H' nx':=by
 unfold jM at h;split at h
 ·cases hk:k.beq 0<;>simp only[hk,aB,aF] at h
  ·exact Cd h
  ·simp only[aG,aM] at h;obtain⟨_,rfl,rfl⟩:=h;exact Syn.refl _ _ _
 ·rename_i b o len cap z';cases hz:(!(z'.beq z))<;>simp only[hz,aB,aF] at h
  ·cases hk:k.beq 0<;>simp only[hk,aB,aF] at h
   ·split at h
    ·rename_i c m hb;have hbs:(H.get b).isSome:=by rw[hb];rfl
     rcases mR h with⟨hcd,h⟩ | ⟨hcd,h⟩
     rotate_left
     ·split at h
      ·cases h
      ·split at h
       ·exact Cd h
       ·obtain⟨hq,h⟩:=aR h;rw[aP,aH] at hq;rw[Tr.delK_eq] at h;exact(Syn.del hq).trans (Cd h)
     ·obtain⟨hq,h⟩:=aR h;simp only[aN,aP,aH] at hq;simp only[jP,kJ,aG,aM] at h;obtain⟨_,rfl,rfl⟩:=h;exact Syn.set hbs hq.1
    ·cases h
   ·simp only[aG,aM] at h;obtain⟨_,rfl,rfl⟩:=h;exact Syn.refl _ _ _
  ·cases h
 ·cases h
def jkh {call:FuncId->List AV->Tr Blk->Nat->Nat->bN} (hcall:iY call) {g:Opd->AV} {H H':Tr Blk} {nx nx' ro:Nat} {v:AV} {i:I} (h:hop call ro g H nx i=some (v,H',nx')):Syn H nx ro H' nx':=by
 cases i<;>simp only[hop] at h
 case box x=>exact Cd h
 case alloc z=>exact Cd h
 case bsl z n zs ps=>
  cases hq:(z.beq 0|| !((n*z).ble 1000000))<;>simp only[hq,aB,aF] at h
  ·split at h
   ·rename_i l hl;cases hq2:l.length.beq (n*z)<;>simp only[hq2,aB,aF] at h
    ·cases h
    ·exact Cd h
   ·cases h
  ·cases h
 case load agg n x=>
  split at h
  ·split at h
   ·obtain⟨hq,h⟩:=aR h;split at h
    ·split at h
     ·simp only[aG,aM] at h;obtain⟨_,rfl,rfl⟩:=h;exact Syn.refl _ _ _
     ·cases h
    ·cases h
   ·cases h
  ·cases h
 case store n x y=>
  split at h
  ·split at h
   ·rename_i hb;obtain⟨hq,h⟩:=aR h;simp only[aN,aP,aH] at hq;simp only[jP,kJ,aG,aM] at h;obtain⟨_,rfl,rfl⟩:=h;exact Syn.set (by rw[hb];rfl) hq.1.1.1
   ·cases h
  ·cases h
 case slA n z x lo hi mx=>
  split at h
  ·split at h
   ·obtain⟨hq,h⟩:=tU h;split at h
    ·simp only[aG,aM] at h;obtain⟨_,rfl,rfl⟩:=h;exact Syn.refl _ _ _
    ·cases h
   ·cases h
  ·cases h
 case app z bytes x y=>
  split at h
  ·rename_i k len _ _;cases hq:((len+k).ble 10000000&&bytes.ble 1000&& !(z.beq 0))<;>simp only[hq,aB,aF] at h
   ·cases h
   ·split at h
    ·rename_i new _;cases hq2:new.all hZ<;>simp only[hq2,aB,aF] at h
     ·cases h
     ·exact jvd h
    ·cases h
  ·cases h
 case copy z x y=>
  split at h
  ·rename_i k b o len cap z' _ _;split at h
   ·rename_i new _;cases hq:((bif k.ble len then k else len).beq 0)<;>simp only[hq,aB,aF] at h
    ·split at h
     ·rename_i c m hb;obtain⟨hq2,h⟩:=aR h;simp only[aN,aP,aH] at hq2;simp only[jP,kJ,aG,aM] at h;obtain⟨_,rfl,rfl⟩:=h;exact Syn.set (by rw[hb];rfl) hq2.1.1.1
     ·cases h
    ·simp only[aG,aM] at h;obtain⟨_,rfl,rfl⟩:=h;exact Syn.refl _ _ _
   ·cases h
  ·split at h
   ·simp only[aG,aM] at h;obtain⟨_,rfl,rfl⟩:=h;exact Syn.refl _ _ _
   ·cases h
  ·cases h
 case mksl z bytes zs l c=>
  split at h
  ·obtain⟨hq,h⟩:=aR h;exact Cd h
  ·cases h
 case mkmap r=>
  split at h
  ·simp only[xW,aG,aM] at h;obtain⟨_,rfl,rfl⟩:=h;exact Syn.new _ _ _ _
  ·simp only[xW,aG,aM] at h;obtain⟨_,rfl,rfl⟩:=h;exact Syn.new _ _ _ _
  ·cases h
 case mlook a ks z ok x y=>
  obtain⟨_,h⟩:=aR h;split at h
  ·simp only[aG,aM] at h;obtain⟨_,rfl,rfl⟩:=h;exact Syn.refl _ _ _
  ·split at h
   ·split at h
    ·simp only[aG,aM] at h;obtain⟨_,rfl,rfl⟩:=h;exact Syn.refl _ _ _
    ·simp only[aG,aM] at h;obtain⟨_,rfl,rfl⟩:=h;exact Syn.refl _ _ _
    ·cases h
   ·cases h
  ·cases h
 case mset a ks x y z=>
  split at h
  ·split at h
   ·rename_i hb;split at h
    ·obtain⟨hq,h⟩:=aR h;simp only[aN,aP,aH] at hq;simp only[kJ,aG,aM] at h;obtain⟨_,rfl,rfl⟩:=h;exact Syn.set (by rw[hb];rfl) hq.1
    ·cases h
   ·cases h
  ·cases h
 case b2s x=>
  split at h
  ·simp only[aG,aM] at h;obtain⟨_,rfl,rfl⟩:=h;exact Syn.refl _ _ _
  ·split at h
   ·obtain⟨hq,h⟩:=aR h;split at h
    ·split at h
     ·simp only[Dw,aG,aM] at h;obtain⟨_,rfl,rfl⟩:=h;exact Syn.refl _ _ _
     ·cases h
    ·cases h
   ·cases h
  ·cases h
 case s2b x=>cases h
 case range x=>
  split at h
  ·simp only[xW,aG,aM] at h;obtain⟨_,rfl,rfl⟩:=h;exact Syn.new _ _ _ _
  ·cases h
 case next x=>
  split at h
  ·split at h
   ·rename_i hb;split at h
    ·obtain⟨hq,h⟩:=aR h;simp only[aN,aP,aH] at hq;simp only[xD,kJ,aG,aM] at h;obtain⟨_,rfl,rfl⟩:=h;exact Syn.set (by rw[hb];rfl) hq.1
    ·simp only[aG,aM] at h;obtain⟨_,rfl,rfl⟩:=h;exact Syn.refl _ _ _
   ·cases h
  ·cases h
 case call f as=>
  rw[xC] at h;exact hcall _ _ _ _ _ _ _ _ h
 case calld f as=>
  split at h
  ·rw[xC] at h;exact hcall _ _ _ _ _ _ _ _ h
  ·cases h
 case xrow n as=>
  split at h
  ·simp only[aG,aM] at h;obtain⟨_,rfl,rfl⟩:=h;exact Syn.refl _ _ _
  ·cases h
 all_goals (cases h)
def jc4 {call:FuncId->List AV->Tr Blk->Nat->Nat->bN} (hcall:iY call) {c:COp} {tm:Tr AV} {H H':Tr Blk} {nx nx' ro:Nat} {v:AV} (h:gH call ro c tm H nx=some (v,H',nx')):
  Syn H nx (roOf c nx ro) H' nx':=by
 have go:gM call ro c tm H nx=some (v,H',nx')->Syn H nx (roOf c nx ro) H' nx':=by
  intro hj;unfold gM at hj;split at hj
  ·split at hj
   ·simp only[aG,aM] at hj;obtain⟨_,rfl,rfl⟩:=hj;exact Syn.refl _ _ _
   ·cases hj
  ·rcases mR hj with⟨_,hj⟩ | ⟨_,hj⟩
   ·exact jkh hcall hj
   ·unfold wV at hj;split at hj<;>try (cases hj;done)
    obtain⟨hq,hj⟩:=tU hj;split at hj<;>try (cases hj;done)
    rename_i v1 H1 nx1 hh;simp only[cX] at hj;obtain⟨H2,hb,e1⟩:=hj;cases e1;have s:=jkh hcall hh;have hro':roOf c nx ro=ro:=by unfold roOf;rw[hq];rfl
    rw[hro'];obtain⟨k1,_⟩:=Dd hb;refine⟨s.up,λb h=>s.live b (Pj hb b h),λb h1 h2=>?_⟩;rcases k1 b with h3 | ⟨h3,_⟩
    ·rw[h3];exact s.old b h1 h2
    ·exact h3
 unfold gH at h;split at h
 ·exact go h
 ·split at h
  ·rcases mR h with⟨hcd,h⟩ | ⟨hcd,h⟩
   ·exact go h
   ·simp only[aG,aM] at h;obtain⟨_,rfl,rfl⟩:=h;exact Syn.refl _ _ _
  ·simp only[aG,aM] at h;obtain⟨_,rfl,rfl⟩:=h;exact Syn.refl _ _ _
def jc3 {call:FuncId->List AV->Tr Blk->Nat->Nat->bN} {ro:Nat} {o:COp} {r:List COp} {tm:Tr AV} {H:Tr Blk} {nx:Nat} {s:St} (h:jR call ro (o::r) (tm,H,nx)=some s):
  ∃v H' nx',gH call ro o tm H nx=some (v,H',nx')/\jR call ro r (kY o.dst v tm,H',nx')=some s:=by
 simp only[jR] at h;split at h
 ·rename_i v H' nx' hv;refine⟨v,H',nx',hv,?_⟩;split at h
  ·rename_i hd;rw[hd];exact h
  ·rename_i d hd;rw[hd];rw[Dv,Tr.setK_eq] at h;exact h
 ·cases h
def Syn.roOf {c:COp} {H H1:Tr Blk} {nx nx1 ro:Nat} (s:Syn H nx (Vm.roOf c nx ro) H1 nx1):Syn H nx ro H1 nx1:=by
 refine⟨s.up,s.live,λb h1 h2=>s.old b ?_ h2⟩;unfold Vm.roOf;cases c.q
 ·exact h1
 ·exact h2
def uE {call:FuncId->List AV->Tr Blk->Nat->Nat->bN} (hcall:iY call) {ro:Nat}:∀(l:List COp) (tm:Tr AV) (H:Tr Blk) (nx:Nat) (tm':Tr AV) (H':Tr Blk) (nx':Nat),
  jR call ro l (tm,H,nx)=some (tm',H',nx')->Syn H nx ro H' nx'
 | [],tm,H,nx,tm',H',nx',h=>by
   simp only[jR,aG,aM] at h;obtain⟨_,rfl,rfl⟩:=h;exact Syn.refl _ _ _
 | o::l,tm,H,nx,tm',H',nx',h=>by
   obtain⟨v,H1,nx1,h1,h2⟩:=jc3 h;have s1:=(jc4 hcall h1).roOf;exact s1.trans (uE hcall l _ _ _ _ _ _ h2)
section
variable {P:Program} {gl:List Nat}
structure Left (gl:List Nat) (nt:Nat) (ρ:RM) (H:Tr Blk) (nx ro:Nat) (w:World) (a:Act) (tm':Tr AV) (H':Tr Blk) (nx':Nat) (a':Act) (w':World) (ρ':RM):Prop where
 step:Step ρ H nx ro w ρ' H' nx' w'
 hr:HR ρ' H' w'
 tr:TR ρ' nt tm' a'
 gl:GLok gl ρ'
 dfr:a'.defers=a.defers
def Sp {call:FuncId->List AV->Tr Blk->Nat->Nat->bN} (hcall:lS P gl call) (hsyn:iY call) {nt:Nat} {ops:Array Oper} {ro:Nat} {Q:Exit->Act->World->Prop}:
  ∀(l:List Oper) (cs:List COp),l.mapM (tO P gl nt ops)=some cs->∀(ρ:RM) (tm:Tr AV) (H:Tr Blk) (nx:Nat) (tm':Tr AV) (H':Tr Blk) (nx':Nat) (a:Act) (w:World),
   jR call ro cs (tm,H,nx)=some (tm',H',nx')->TR ρ nt tm a->GLok gl ρ->HR ρ H w->Free ρ nx nx'->ro<=nx->WF H nx->
   (∀ρ' a' w',Left gl nt ρ H nx ro w a tm' H' nx' a' w' ρ'->Q .normal a' w')->wpList P ops Q l a w
 | [],cs,hm,ρ,tm,H,nx,tm',H',nx',a,w,h,ht,hgl,hr,hf,hro,hwf,hQ=>by
   simp only[qg9,yJ,aG] at hm;subst hm;simp only[jR,aG,aM] at h;obtain⟨rfl,rfl,rfl⟩:=h;exact hQ ρ a w ⟨Step.refl _ _ _ _ _,hr,ht,hgl,rfl⟩
 | o::l,cs,hm,ρ,tm,H,nx,tm',H',nx',a,w,h,ht,hgl,hr,hf,hro,hwf,hQ=>by
   simp only[yN,fS,dN,yJ,aG] at hm;obtain⟨c,hc,cs',hcs,rfl⟩:=hm;obtain⟨hcop,hq,hex⟩:=jik hc;obtain⟨v,H1,nx1,h1,h2⟩:=jc3 h;have s1:=jc4 hsyn h1;have hro1:=Gk (c:=c) hro;have s2:=uE (ro:=ro) hsyn cs' _ _ _ _ _ _ h2;unfold wpList;have key:=Kv (K:=wpList P ops Q l) (Q:=Q) hcall hcop h1 (λ_ _=>rfl) ht hgl hr (hf.left s2.up) hro hwf (λv' w' he=>by
    obtain⟨ρ1,e1,e2,e3⟩:=he;have e1':=e1.weaken hro1.1;have hle:=e1'.le (hf.left s2.up);refine Sp hcall hsyn l cs' hcs ρ1 _ H1 nx1 tm' H' nx' (a.put o.dst v') w' h2 ?_ (hgl.mono hle) e2 (e1'.free hf) (eA hro s1.up) (s1.wf hwf) ?_
    ·rw[<-hcop.dst];exact(ht.mono hle).put hcop.lt e3
    ·intro ρ' a' w'' L;refine hQ ρ' a' w'' ⟨e1'.trans L.step,L.hr,L.tr,L.gl,L.dfr.trans ?_⟩;cases o.dst<;>rfl)
   split
   ·rename_i hw;rw[aK hw] at key;exact .inl key
   ·rename_i hw;rw[aD hw] at key;exact key
end
end Go.Vm
