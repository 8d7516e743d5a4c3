/-
  One operation of the machine's code, and a region whose operations run in order.
-/
import Derived.Test.YtldgdgacdcenkaaGreatDoorVmZF
set_option linter.unusedSimpArgs false
set_option linter.unusedVariables false
namespace Go.Vm
section
variable {P:Program} {gl:List Nat} {ρ:RM}
theorem jdu {g g':Opd→AV} {o:Option Opd} (h:∀x∈jow o,g x=g' x):o.map g=o.map g':=by
 cases o with
 | none=>rfl
 | some x=>simp[h x (by simp[jow])]
theorem j8m {g g':Opd→AV} {ps:List (Nat×Nat×Opd)} (h:∀x∈ps.map (·.2.2),g x=g' x):(ps.map fun(o,s,x)=>(o,s,g x))=(ps.map fun(o,s,x)=>(o,s,g' x)):=by
 apply List.map_congr_left
 rintro ⟨o,s,x⟩ hx
 have:=h x (List.mem_map.2 ⟨_,hx,rfl⟩)
 simp[this]
theorem j3d {g g':Opd→AV} (i:I) (h:∀x∈i.opds,g x=g' x):pop g i=pop g' i:=by
 cases i<;>simp only[I.opds,List.mem_cons,List.mem_append,List.not_mem_nil,or_false] at h<;>simp only[pop]
 case build z ps=>rw[j8m h]
 case mkfn f a b=>
  rw[List.map_congr_left fun x hx=>h x (.inl hx),List.map_congr_left fun x hx=>h x (.inr hx)]
 case slS z x lo hi mx=>
  rw[h x (.inl rfl),jdu fun y hy=>h y (.inr (.inl (.inl hy))),jdu fun y hy=>h y (.inr (.inl (.inr hy))),jdu fun y hy=>h y (.inr (.inr hy))]
 case slT x lo hi=>
  rw[h x (.inl rfl),jdu fun y hy=>h y (.inr (.inl hy)),jdu fun y hy=>h y (.inr (.inr hy))]
 case mins x xs=>rw[h x (.inl rfl),List.map_congr_left fun y hy=>h y (.inr hy)]
 case maxs x xs=>rw[h x (.inl rfl),List.map_congr_left fun y hy=>h y (.inr hy)]
 case pick c a b=>rw[h c (.inl rfl),h a (.inr (.inl rfl)),h b (.inr (.inr rfl))]
 case bin op x y=>rw[h x (.inl rfl),h y (.inr rfl)]
 case eqf n agg ks x y=>rw[h x (.inl rfl),h y (.inr rfl)]
 case eqn n kd x y=>rw[h x (.inl rfl),h y (.inr rfl)]
 case iadA n z x y=>rw[h x (.inl rfl),h y (.inr rfl)]
 case iadS z x y=>rw[h x (.inl rfl),h y (.inr rfl)]
 case idxA agg n z x y=>rw[h x (.inl rfl),h y (.inr rfl)]
 case idxS x y=>rw[h x (.inl rfl),h y (.inr rfl)]
 all_goals first | rfl | rw[h _ rfl]
theorem j4g {call:FuncId→List AV→Tr Blk→Nat→Nat→Out} {ro:Nat} {H:Tr Blk} {nx:Nat} {g g':Opd→AV} (i:I) (h:∀x∈i.opds,g x=g' x):hop call ro g H nx i=hop call ro g' H nx i:=by
 cases i<;>simp only[I.opds,List.mem_cons,List.mem_append,List.not_mem_nil,or_false] at h<;>simp only[hop]
 case bsl z n zs ps=>rw[j8m h]
 case slA n z x lo hi mx=>
  rw[h x (.inl rfl),jdu fun y hy=>h y (.inr (.inl (.inl hy))),jdu fun y hy=>h y (.inr (.inl (.inr hy))),jdu fun y hy=>h y (.inr (.inr hy))]
 case store n x y=>rw[h x (.inl rfl),h y (.inr rfl)]
 case app z b x y=>rw[h x (.inl rfl),h y (.inr rfl)]
 case copy z x y=>rw[h x (.inl rfl),h y (.inr rfl)]
 case mksl z b zs x y=>rw[h x (.inl rfl),h y (.inr rfl)]
 case call f xs=>rw[List.map_congr_left fun y hy=>h y hy]
 case calld f xs=>rw[h f (.inl rfl),List.map_congr_left fun y hy=>h y (.inr hy)]
 case xrow n xs=>rw[List.map_congr_left fun y hy=>h y hy]
 all_goals first | rfl | rw[h _ rfl]
structure TR (ρ:RM) (nt:Nat) (tm:Tr AV) (a:Act):Prop where
 size:a.tmps.size=nt
 val:∀n,VR ρ (jbl tm (.t n)) (a.tmps.getD n undef)
theorem TR.mono {ρ ρ':RM} (h:ρ.Le ρ') {nt:Nat} {tm:Tr AV} {a:Act} (t:TR ρ nt tm a):TR ρ' nt tm a:=⟨t.size,fun n=>VR.mono h _ _ (t.val n)⟩
def jsa (d:Option Nat) (v:AV) (tm:Tr AV):Tr AV:=match d with
 | none=>tm
 | some d=>tm.set d v
theorem jdo (tm:Tr AV) (d:Nat) (v:AV) (n:Nat):jbl (tm.set d v) (.t n)=if n=d then v else jbl tm (.t n):=by
 simp only[jbl,Tr.get_set]
 split<;>rfl
theorem TR.put {nt:Nat} {tm:Tr AV} {a:Act} {d:Option Nat} {v:AV} {v':Value} (t:TR ρ nt tm a) (hd:inB d nt=true) (hv:VR ρ v v'):TR ρ nt (jsa d v tm) (a.put d v'):=by
 cases d with
 | none=>exact t
 | some d=>
   have hd':d<nt:=by simpa[inB] using hd
   refine⟨by simpa[Act.put] using t.size,fun n=>?_⟩
   simp only[jsa,jdo,Act.put,Array.getD_eq_getD_getElem?,Array.getElem?_setIfInBounds]
   by_cases h:n=d
   ·subst h
    rw[if_pos rfl,if_pos rfl,if_pos (by rw[t.size];exact hd')]
    exact hv
   ·rw[if_neg h,if_neg (Ne.symm h)]
    have:=t.val n
    rwa[Array.getD_eq_getD_getElem?] at this
theorem jk6 {nt:Nat} {tm:Tr AV} {a:Act} (t:TR ρ nt tm a) (hgl:GLok gl ρ) (x:Operand) (y:Opd) (h:opd gl x=some y):VR ρ (jbl tm y) (a.eval x):=by
 cases x with
 | tmp n=>
   simp only[opd,Option.some.injEq] at h
   subst h
   exact t.val n
 | const v=>
   simp only[opd,Option.map_eq_some_iff] at h
   obtain⟨w,h1,rfl⟩:=h
   exact joy ρ h1
 | global g=>
   simp only[opd] at h
   split at h
   ·rename_i hg
    cases h
    obtain⟨l,h1,h2,h3⟩:=hgl g hg
    simp only[jbl,VR]
    exact⟨l,h1,by rw[h2,h3];rfl⟩
   ·cases h
 | func f=>
   simp only[opd,Option.some.injEq] at h
   subst h
   simp only[jbl,VR]
   exact⟨#[],#[],rfl,rfl,rfl⟩
structure CompOp (P:Program) (gl:List Nat) (nt:Nat) (ops:Array Oper) (o:Oper) (c:COp):Prop where
 j:c.j=(cop P gl o.op).getD (.h .bad)
 dst:c.dst=o.dst
 lt:inB c.dst nt=true
 guard:o.guard=none∧c.guard=none∨∃k want t,o.guard=some (k,want)∧(ops[k]?).bind (·.dst)=some t∧t<nt∧c.guard=some (t,want)
theorem jrt {nt:Nat} {ops:Array Oper} {o:Oper} {c:COp} (h:jqt P gl nt ops o=some c):CompOp P gl nt ops o c∧c.q=false∧c.ex=[]:=by
 simp only[jqt] at h
 split at h
 ·rename_i hb
  split at h
  ·rename_i hg
   cases h
   exact⟨⟨rfl,rfl,hb,.inl ⟨hg,rfl⟩⟩,rfl,rfl⟩
  ·rename_i k want hg
   split at h
   ·rename_i t ht
    split at h
    ·rename_i hlt
     cases h
     exact⟨⟨rfl,rfl,hb,.inr ⟨k,want,t,hg,ht,hlt,rfl⟩⟩,rfl,rfl⟩
    ·cases h
   ·cases h
 ·cases h
def roOf (c:COp) (nx ro:Nat):Nat:=bif c.q then nx else ro
theorem jl3 {c:COp} {nx ro:Nat} (h:ro≤nx):ro≤roOf c nx ro∧roOf c nx ro≤nx:=by
 unfold roOf
 cases c.q
 ·exact⟨Nat.le_refl _,h⟩
 ·exact⟨h,Nat.le_refl _⟩
theorem Step.weaken {ρ':RM} {H H':Tr Blk} {nx nx' ro ro':Nat} {w w':World} (s:Step ρ H nx ro' w ρ' H' nx' w') (h:ro≤ro'):Step ρ H nx ro w ρ' H' nx' w' where
 os:=s.os
 tape:=s.tape
 output:=s.output
 size:=s.size
 up:=s.up
 ext:=s.ext
 keep x hx hk:=s.keep x hx fun b l h1 h2 h3=>by have:=hk b l h1 h2 h3;omega
 fresh b l h1 h2 h3:=(s.fresh b l h1 h2 h3).imp id fun⟨b0,l0,g1,g2⟩=>⟨b0,l0,by omega,g2⟩
 live:=s.live
 old b h1 h2:=s.old b (by omega) h2
theorem jt7 {nt:Nat} {tm:Tr AV} {a:Act} (t:TR ρ nt tm a) {ops:Array Oper} {k n:Nat} (h:(ops[k]?).bind (·.dst)=some n) (hn:n<nt):
  yielded ops a.tmps k=match jbl tm (.t n) with | .bool b=>some b | _=>none:=by
 have hv:=t.val n
 have hs:a.tmps[n]?=some (a.tmps.getD n undef):=by
  rw[Array.getD_eq_getD_getElem?,Array.getElem?_eq_getElem (by rw[t.size];exact hn)]
  rfl
 unfold yielded
 rw[h]
 simp only[Option.bind_some,hs]
 cases hq:jbl tm (.t n)<;>rw[hq] at hv<;>simp only[VR] at hv
 case bool b=>rw[hv]
 all_goals first
  | (rw[hv];done)
  | (obtain⟨_,e,_⟩:=hv;rw[e];done)
  | (obtain⟨_,_,e⟩:=hv;rw[e];done)
  | (obtain⟨_,_,e,_⟩:=hv;rw[e];done)
  | (obtain⟨_,_,_,_,e,_⟩:=hv;rw[e];done)
theorem jie {call:FuncId→List AV→Tr Blk→Nat→Nat→Out} (hcall:jg4 P gl call) {nt:Nat} {ops:Array Oper} {o:Oper} {c:COp} (hc:CompOp P gl nt ops o c)
  {tm tmS:Tr AV} {H H':Tr Blk} {nx nx' ro:Nat} {v:AV} {w:World} {a:Act} (h:jlx call ro c tm H nx=some (v,H',nx')) (hag:∀t∈c.uses,jbl tm (.t t)=jbl tmS (.t t))
  (ht:TR ρ nt tmS a) (hgl:GLok gl ρ) (hr:HR ρ H w) (hf:Free ρ nx nx') (hro:ro≤nx) (hwf:WF H nx) {K:Act→World→Prop} {Q:Exit→Act→World→Prop}
  (hK:∀v' w',Ends ρ H nx (roOf c nx ro) w v H' nx' v' w'→K (a.put o.dst v') w'):
  if Region.wanted o (yielded ops a.tmps) then o.wp P a w K Q else K (a.put o.dst undef) w:=by
 have hg:=jk6 ht hgl
 have skip:v=.tup []→H'=H→nx'=nx→K (a.put o.dst undef) w:=by
  rintro rfl rfl rfl
  refine hK _ _ (Ends.same hr ?_)
  simp only[VR]
  exact⟨#[],rfl,rfl⟩
 have agx:∀x∈c.j.i.opds,jbl tm x=jbl tmS x:=by
  intro x hx
  cases x with
  | c v=>rfl
  | t n=>
    refine hag n ?_
    unfold COp.uses
    refine List.mem_append.2 (.inl ?_)
    exact List.mem_filterMap.2 ⟨_,hx,rfl⟩
 have go:jm1 call ro c tm H nx=some (v,H',nx')→o.wp P a w K Q:=by
  intro hj
  unfold jm1 at hj
  have hcj:=hc.j
  cases hcp:cop P gl o.op with
  | none=>
    rw[hcp] at hcj
    simp only[Option.getD_none] at hcj
    rw[hcj] at hj
    simp only[hop] at hj
    cases hx:(c.ex.isEmpty||j1e (jbl tm) I.bad c.ex)<;>simp[hx] at hj
  | some j=>
    rw[hcp] at hcj
    simp only[Option.getD_some] at hcj
    rw[hcj] at hj agx
    unfold cop at hcp
    split at hcp
    ·rename_i i hi
     cases hcp
     simp only at hj
     split at hj
     ·rename_i v0 hv0
      simp only[Option.some.injEq,Prod.mk.injEq] at hj
      obtain⟨rfl,rfl,rfl⟩:=hj
      rw[j3d i agx] at hv0
      obtain⟨v',h1,h2⟩:=j3c (P:=P) w hg hi hv0
      unfold Oper.wp
      rw[h1]
      exact hK _ _ (Ends.same hr h2)
     ·cases hj
    ·simp only[Option.map_eq_some_iff] at hcp
     obtain⟨i,hi,rfl⟩:=hcp
     simp only at hj
     cases hx:(c.ex.isEmpty||j1e (jbl tm) i c.ex)<;>simp only[hx,cond_true,cond_false] at hj
     ·cases hj
     ·rw[j4g i agx] at hj
      exact(j4f hcall hg (fun f=>rfl) hi hj hr hf (jl3 (c:=c) hro).2 hgl hwf).wp hK
 unfold jlx at h
 rcases hc.guard with⟨g1,g2⟩ | ⟨k,want,t,g1,g2,g3,g4⟩
 ·rw[g2] at h
  simp only at h
  rw[show Region.wanted o (yielded ops a.tmps)=true from by simp[Region.wanted,g1]]
  simp only[if_true]
  exact go h
 ·rw[g4] at h
  simp only at h
  have hu:t∈c.uses:=by
   unfold COp.uses
   rw[g4]
   simp
  have hy:=jt7 ht g2 g3
  rw[←hag t hu] at hy
  have hw:Region.wanted o (yielded ops a.tmps)=(yielded ops a.tmps k==some want):=by simp[Region.wanted,g1]
  rw[hw,hy]
  split at h
  ·rename_i b hb
   rw[hb]
   simp only
   cases hbw:(b==want)<;>simp only[hbw,cond_true,cond_false] at h
   ·simp only[Option.some.injEq,Prod.mk.injEq] at h
    rw[show((some b:Option Bool)==some want)=false from by simpa using hbw]
    simp only[Bool.false_eq_true,if_false]
    exact skip h.1.symm h.2.1.symm h.2.2.symm
   ·rw[show((some b:Option Bool)==some want)=true from by simpa using hbw]
    simp only[if_true]
    exact go h
  ·rename_i hnb
   simp only[Option.some.injEq,Prod.mk.injEq] at h
   have:(match jbl tm (.t t) with | .bool b=>some b | _=>none)=(none:Option Bool):=by
    cases hq:jbl tm (.t t)<;>first | rfl | (exact absurd hq (hnb _))
   rw[this]
   simp only[show((none:Option Bool)==some want)=false from rfl,Bool.false_eq_true,if_false]
   exact skip h.1.symm h.2.1.symm h.2.2.symm
end
end Go.Vm
