/-
  The extraction: a law's slice of rows of plain data, as a block that is only read.
  What the rows of this chapter need: the law's net as an argument, the start, the call.
  What the row of NetsErrors needs: a net and a frame as arguments, the call.
-/
import Derived.Test.YtahplmacekfjgaaGreatDoorQ8
import Derived.Lib.SmallJoins
import Derived.Test.YtahplmacekfjgaaGreatDoorTie
import Derived.Test.YtahplmacekfjgaaGreatDoorCards
import Derived.Test.YtahplmacekfjgaaGreatDoorN4
set_option linter.unusedSimpArgs false
set_option linter.unusedVariables false
set_option linter.unusedSectionVars false
set_option linter.unnecessarySimpa false
namespace Go.Vm
namespace X
open W Go.RowKit Go.Deep Go.ChangeShapes
variable {P:Program}
def kjk:Value→Bool
 | .bool b=>b
 | _=>false
def dV:Value→AV
 | .int k z=>.int k z
 | .bool b=>.bool b
 | _=>.nils
def kid:Value→Prop
 | .int _ _=>True
 | .bool _=>True
 | _=>False
theorem kjq {ρ:RM} {v:Value} (h:kid v):VR ρ (dV v) v:=by
 cases v<;>first | (simp[VR,dV];done) | exact h.elim
def kd7 (z:Nat) (W:World) (v:Value) (l:Vm.Loc) (n:Nat) (M:List AV):Prop:=(v=.slice none 0 0∧n=0∧M=[])∨∃cap off,v=.slice (some ⟨l.blk,off,none⟩) n cap∧n≤cap∧(off=l.base∨cap=0)∧l.base+cap*z=l.lim∧M.length=n*z∧
 ∀ρ,Blk.Rel false ρ (.cells (put M 0 .e) (n*z)) l W
theorem juk {z:Nat} {OKc:Nat→Value→Prop} {H:Type} {enc:TypeId×Value→H} {W:World} {fuel b0:Nat} {t e:TypeId} {v:Value} {x:DataW H×List MemPlace} (hz0:0<z) (hD:∀i v,OKc i v→kid v) (ht:P.underlying t=some (.slice e)) (hc:P.cellsOf e=z)
  (hel:∀n (cs:List Value) y,cs.length=z→DataW.trod enc P W 0 (fun _=>true) true n e cs=some y→∀i,i<z→∃v,cs[i]?=some v∧OKc i v)
  (h:DataW.trod enc P W 0 (fun _=>true) true fuel t [v]=some x) (hok:Cell.okWide P W .any b0 t v) (hfz:W.noneFrozen x.2):
  ∃(l:Vm.Loc) (g:Nat→Value) (n:Nat),(∀q,q<n*z→OKc (q%z) (g q))∧kd7 z W v l n ((List.range (n*z)).map fun q=>dV (g q)):=by
 rcases open_slice ht h with⟨hv,_⟩ | ⟨a,len,cap,m,n,D,Pl,hv,_,hl,hm,hmm,hx,hV⟩
 ·exact⟨⟨0,0,0⟩,fun _=>.bool false,0,fun q hq=>by omega,.inl ⟨by simpa using hv,rfl,by simp⟩⟩
 have hv:v=.slice (some a) len cap:=by simpa using hv
 subst hv
 simp only[if_true] at hmm
 subst hmm
 simp only[Cell.okWide,ht,Cell.ok,World.has] at hok
 obtain⟨_,_,_,hspot,row,cells,hsh,_⟩:=hok
 obtain⟨blk,off,spot⟩:=a
 simp only at hspot hsh
 subst hspot
 unfold World.shape? at hsh
 split at hsh<;>try (cases hsh;done)
 rename_i c el fr hheap
 have hadd:∀o i,(⟨blk,o,none⟩:Addr).add i=⟨blk,o+i,none⟩:=fun o i=>by
  unfold Addr.add
  by_cases h0:i=0<;>simp[h0]
 have hcell:∀i,W.cell? (⟨blk,off+i,none⟩:Addr)=c[off+i]?:=fun i=>by
  simp only[World.cell?,hheap,Option.isSome_none,Bool.false_eq_true,if_false]
 have hz:∀q,q<m*z→∃v,c[off+q]?=some v∧OKc (q%z) v:=fun q hq=>by
  have hqz:q / z<m:=(Nat.div_lt_iff_lt_mul hz0).2 hq
  obtain⟨cs',h1,h2⟩:=hV (q / z) hqz
  rw[hc] at h1
  obtain⟨_,jbv,hget⟩:=World.cells?_some h1
  have hmod:q%z<z:=Nat.mod_lt _ hz0
  obtain⟨u,e0,w0⟩:=hel _ cs' _ jbv h2 (q%z) hmod
  have g:=hget (q%z) hmod
  rw[hadd,hadd,Nat.add_assoc,hcell,show q / z*z+q%z=q by rw[Nat.mul_comm];exact Nat.div_add_mod q z] at g
  exact⟨u,by rw[g];exact e0,w0⟩
 have hg:∀q,q<m*z→c[off+q]?=some ((c[off+q]?).getD (.bool false))∧OKc (q%z) ((c[off+q]?).getD (.bool false)):=fun q hq=>by
  obtain⟨u,e1,e2⟩:=hz q hq
  rw[e1]
  exact⟨rfl,e2⟩
 have hle:len*z≤m*z:=Nat.mul_le_mul_right z hl
 by_cases h0:m=0
 ·have hl0:len=0:=by omega
  subst hl0
  refine⟨⟨blk,0,0⟩,fun q=>(c[off+q]?).getD (.bool false),0,fun q hq=>by omega,.inr ⟨m,off,rfl,hl,.inr h0,by rw[h0];simp,by simp,fun ρ=>⟨c,el,fr,hheap,by simp,by simp,fun i h1 h2=>by have h2:=h2 rfl;simp only at h1 h2;omega,fun i hi=>by omega⟩⟩⟩
 ·have hmz:0<m*z:=Nat.mul_pos (by omega) hz0
  refine⟨⟨blk,off,off+m*z⟩,fun q=>(c[off+q]?).getD (.bool false),len,fun q hq=>(hg q (by omega)).2,.inr ⟨m,off,rfl,hl,.inl rfl,rfl,by simp,fun ρ=>⟨c,el,fr,hheap,by simp only;omega,?_,fun i h1 h2=>?_,fun i hi=>?_⟩⟩⟩
  ·have:=(Array.getElem?_eq_some_iff.1 (hg (m*z-1) (by omega)).1).1
   simp only
   omega
  ·have h2:=h2 rfl
   simp only at h1 h2
   have:=hfz blk i (by
    rw[hx,hc]
    refine List.mem_append.2 (.inl (List.mem_map.2 ⟨i-off,List.mem_range.2 (by omega),?_⟩))
    simp only
    congr 1
    omega)
   unfold World.frozen? at this
   rw[hheap] at this
   obtain⟨fl,fh⟩:=fr
   simp only[Bool.and_eq_false_iff,decide_eq_false_iff_not] at this
   simp only
   omega
  ·obtain⟨e1,e3⟩:=hg i (by omega)
   refine⟨dV ((c[off+i]?).getD (.bool false)),_,?_,e1,kjq (hD _ _ e3)⟩
   rw[je7,if_pos (by simp;omega)]
   simp[hi]
theorem j5n {α:Type} {a:Nat→α} {n z:Nat}:(List.range ((n+1)*z)).map a=(List.range (n*z)).map a++(List.range z).map fun j=>a (n*z+j):=by
 rw[Nat.add_mul,Nat.one_mul,List.range_add,List.map_append,List.map_map]
 rfl
theorem jsl {A:jah} {t:Ty} {z:Nat} {row:Nat→t.den} {a:Nat→AV}:∀n,(∀i,i<n→jbt A t (row i) ((List.range z).map fun j=>a (i*z+j)))→jcx (jbt A t) ((List.range n).map row) ((List.range (n*z)).map a)
 | 0,_=>by simp;rfl
 | n+1,h=>by
   rw[List.range_succ,List.map_append,j5n]
   exact jc2 (jsl n fun i hi=>h i (by omega)) ⟨_,[],by simp,h n (by omega),rfl⟩
theorem kdn {B:Base} {ro nx:Nat} {O:List Ent} {H:Tr Blk} (h:HK B ro O H nx) {b:Nat} (h0:B.nx0≤b) (hb:b<nx) (hn:b∉O.map Ent.b) (l:List AV):HK B ro (⟨b,false,.cells l⟩::O) (H.set b (.cells (put l 0 .e) l.length)) nx:=by
 refine⟨h.r0,h.r1,fun x hx=>by rw[Tr.get_set,if_neg (by omega),h.base x hx],fun e he=>?_,by simp only[List.map_cons,List.nodup_cons];exact⟨hn,h.nd⟩⟩
 rcases List.mem_cons.1 he with rfl | he
 ·exact⟨hb,(fun hw=>by cases hw),kay⟩
 ·obtain⟨e1,e2,e3⟩:=h.ent e he
  refine⟨e1,e2,e3.congr ?_⟩
  rw[Tr.get_set,if_neg fun e=>hn (List.mem_map.2 ⟨_,he,e⟩)]
theorem jut {t:Ty} {z:Nat} {B:Base} {ρ:RM} {H:Tr Blk} {W:World} {O:List Ent} {b n:Nat} {v:Value} {l:Vm.Loc} {M:List AV} {L:List t.den} (hz0:0<z) (hrel:∀A,jcx (jbt A t) L M) (hL:L.length=n) (ha:kd7 z W v l n M) (hl:ρ b=some l) (hR:HR ρ H W) (hlt:∀x,(H.get x).isSome→x<RO) (hk:HK B RO O H RO) (h0:B.nx0≤b) (hb:b<RO) (hn:b∉O.map Ent.b):
  ∃H' O' av A,HR ρ H' W∧(∀x,(H'.get x).isSome→x<RO)∧HK B RO O' H' RO∧(∀x∈O'.map Ent.b,x=b∨x∈O.map Ent.b)∧(∀x∈(A:jah),Has O' x.1 x.2)∧(∀c x,Has O c x→Has O' c x)∧SlR A z (jcx (jbt A t)) L av∧VR ρ av v:=by
 rcases ha with⟨rfl,rfl,rfl⟩ | ⟨cap,off,rfl,h1,h2,h3,h5,h4⟩
 ·have hL0:L=[]:=List.length_eq_zero_iff.1 hL
  subst hL0
  exact⟨H,O,.nils,[],hR,hlt,hk,fun x h=>.inr h,(fun x hx=>by cases hx),fun _ _ h=>h,.inl ⟨rfl,rfl⟩,by simp[VR]⟩
 ·subst hL
  obtain⟨q1,q2⟩:=khw hR hlt hb hl (h4 ρ)
  refine⟨_,⟨b,false,.cells M⟩::O,.sl b 0 L.length (some cap) z,[(b,.cells M)],q1,q2,?_,fun x hx=>?_,fun x hx=>?_,fun _ _ h=>.there h,.inr ⟨b,0,some cap,M,rfl,List.mem_singleton.2 rfl,fun c hc=>by cases hc;exact h1,by omega,?_⟩,?_⟩
  ·have:=kdn hk h0 hb hn M
   rw[h5] at this
   exact this
  ·simpa using hx
  ·rw[List.mem_singleton.1 hx];exact .here
  ·rw[List.drop_zero,List.take_of_length_le (by omega)]
   exact hrel _
  ·simp only[VR]
   have hcz:cap=0→cap*z=0:=fun h=>by rw[h,Nat.zero_mul]
   have hlz:L.length*z≤cap*z:=Nat.mul_le_mul_right z h1
   refine⟨l,cap,off,hl,rfl,h1,?_,?_,.inl ⟨rfl,?_⟩⟩
   ·exact hz0
   ·omega
   ·omega
theorem jza {t:Ty} {z:Nat} (hz:t.size=z) {A B:jah} (h:∀x∈A,x∈B) {L:List t.den} {v:AV} (hs:SlR A z (jcx (jbt A t)) L v):SlR B z (jcx (jbt B t)) L v:=by
 subst hz
 obtain⟨u,e,h⟩:=ja5 h (.sl t) L [v] ⟨v,rfl,hs⟩
 cases e
 exact h
end X
end Go.Vm
namespace Go.Proofs.YtahplmacekfjgaaGreatDoor
open Go.ChangeShapes Go.WideShapes Go.ChangeAt Go.RowKit Go.Deep
namespace Vm
open Go Go.Vm Go.Vm.W Go.Vm.X
set_option maxRecDepth 100000
theorem own:ownKnob Tryz.prog.godebug=none:=by kernel_rfl
theorem kcb:laidOutB Tryz.prog=true:=by kernel_rfl
theorem j3l {H:Type} {enc:TypeId×Value→H} {a:Assume} {C:Checked} {os:Os} {f:FuncId} {fn:Func} {s:ChangeSpec} {conds:List PathCond} {apart fresh handsOn j02:Bool} {X:World→Array Value→Prop}
  (hX:∀(w w':World) (args:Array Value),w.heap=w'.heap→X w args→X w' args)
  (own:ownKnob C.prog.godebug=none) (started:os.Started) (noInit:C.prog.inits.idxOf? f=none) (hfn:C.prog.funcs[f]?=some fn)
  (witness:∃(w:World) (tape:Tape) (i:Input),w.os=os∧(w.forCall tape i).Shaped C.prog∧i.vars=[]∧Input.okWide C.prog (w.forCall tape i) .any w.heap.size f i∧
    ((s.pre enc C.prog fn conds apart (w.forCall tape i).memory i.args∧X (w.forCall tape i).memory i.args)∧sizedMet enc C.prog fn (OpenSpec.ofChange s) apart (w.forCall tape i).memory i.args)∧a.holds C.prog (lone (Frame.enter C.prog f i.args .normal) [] (w.forCall tape i)))
  (contract:∀(W:World) (base:Nat) (args:Array Value) (ds gs:List (DataW H)) (before:List MemPlace),W.ShapedOpen C.prog→
    (∀(j:Nat) t v,fn.params[j]?=some t→args[j]?=some v→Value.okWide C.prog W .any base t v)→
    DataW.Whole enc C.prog fn.params.toList s.vars apart W args.toList ds gs before→X W args→
    (DataW.weightsEach C.prog (fn.params.toList++s.plain.varTypes C.prog) (ds++gs)).all (·≤reachBytes)=true→
    Calls C.prog f args W fun e W'=>∃v,e=.returned v∧s.post enc C.prog fn apart fresh handsOn j02 W args v W'):
  ReturnsInHanded a C os f .any (fun w args=>(s.pre enc C.prog fn conds apart w args∧X w args)∧sizedMet enc C.prog fn (OpenSpec.ofChange s) apart w args) (s.post enc C.prog fn apart fresh handsOn j02):=by
 refine returnsInHanded_of_calls own started noInit witness ?_
 intro w tape i _ hsh _ hok hpre _
 obtain⟨_,_,_,fn',hfn',_,_,_,_,hval⟩:=hok
 obtain rfl:fn'=fn:=Option.some.inj (hfn'.symm.trans hfn)
 obtain⟨⟨⟨ds,gs,before,hw,_⟩,hx⟩,hz⟩:=hpre
 have hw':=DataW.Whole.of_heap (w':=w.forCall tape i) (by rfl) hw
 refine(contract (w.forCall tape i) w.heap.size i.args ds gs before hsh hval hw' (hX _ _ _ (by rfl) hx) (hz.weights hw)).mono fun e W' ⟨v,he,hp⟩=>?_
 subst he
 exact ChangeSpec.post_blind hp
theorem j80:∀x∈kca,x∈Rows.netsCompareRow.laid:=by
 intro x hx
 unfold kca at hx
 obtain⟨y,hy,rfl⟩:=List.mem_map.1 hx
 exact List.fst_mem_of_mem_zipIdx (List.mem_filter.1 hy).1
theorem kjc:∀e∈es,e.1<8:=by
 have:(es.all fun e=>e.1.blt 8)=true:=by kernel_rfl
 intro e he
 simpa using List.all_eq_true.1 this e he
theorem start {W:World} (hL:laidMet Tryz.prog Rows.netsCompareRow.laid W) (ps:List Vm.Loc):HR (j3m W 8 ps) (BB 0).H0 W:=by
 have:=kdm hL j80 kjb (ex:=ex) 8 ps kjc (by intro e he;simp only[ex,List.not_mem_nil] at he)
 rw[kdo 0] at this
 exact this
theorem j8f:∀x,((BB 0).H0.get x).isSome→x<RO:=fun x hx=>by
 have:=kjx 0 x hx
 exact Nat.lt_of_lt_of_le this (show nx0≤RO by decide)
theorem j8g:HK (BB 0) RO [] (BB 0).H0 RO:=⟨show nx0≤RO by decide,by decide,fun _ _=>rfl,(fun _ h=>by cases h),List.nodup_nil⟩
theorem ki9 {W:World} {ps:List Vm.Loc}:GLok gl (j3m W 8 ps):=fun g hg=>by
 have:∀g∈gl,g<8:=by decide
 obtain⟨l,h1,h2,h3⟩:=j5h (w:=W) (ps:=ps) (this g (List.contains_iff_mem.1 hg))
 exact⟨l,h1,h2,h3⟩
theorem kip {z:Int} (h:(Lit.int .u8 z).wf=true):0≤z∧z≤255:=by
 simp[Lit.wf,IntKind.min,IntKind.max,IntKind.signed,IntKind.bits] at h
 omega
theorem jj6 {W:World} {p q:List MemPlace} (h:W.noneFrozen p) (hq:∀x∈q,x∈p):W.noneFrozen q:=fun b o hm=>h b o (hq _ hm)
theorem jlz:Tryz.prog.cellsOf 5=1:=by kernel_rfl
abbrev tN:Ty:=.prod (.sl (.arr 3 (.int .u8))) (.prod (.int .u64) (.int .u64))
end Vm
end Go.Proofs.YtahplmacekfjgaaGreatDoor
namespace Go.Proofs.YtahplmacekfjgaaGreatDoor
open Go.ChangeShapes Go.WideShapes Go.ChangeAt Go.RowKit Go.Deep
namespace Vm
open Go Go.Vm Go.Vm.W Go.Vm.X
set_option maxRecDepth 100000
theorem kc5:Tryz.prog.cellsOf 29=2:=by kernel_rfl
theorem j68:Tryz.prog.cellsOf 35=2:=by kernel_rfl
theorem kc3:Tryz.prog.cellsOf 39=4:=by kernel_rfl
theorem j0t:Tryz.prog.cellsOf 42=3:=by kernel_rfl
theorem kc2:Tryz.prog.cellsOf 44=9:=by kernel_rfl
theorem jyt:Tryz.prog.cellsOf 3=1:=by kernel_rfl
theorem khk:Tryz.prog.cellsOf 4=1:=by kernel_rfl
theorem kc4:Tryz.prog.cellsOf 37=1:=by kernel_rfl
def kkc (i:Nat) (v:Value):Prop:=∃n,v=.int .i64 n
def kj2 (i:Nat) (v:Value):Prop:=(i<2∧∃n,v=.int .i64 n)∨(i=2∧∃b,v=.bool b)∨(i=3∧∃n,v=.int .i8 n)
section
variable {H:Type} {enc:TypeId×Value→H} {W:World}
theorem j1j {n:Nat} {cs:List Value} {y:DataW H×List MemPlace} (hl:cs.length=2) (h:DataW.trod enc Tryz.prog W 0 (fun _=>true) true n 35 cs=some y):∃a b,cs=[.int .i64 a,.int .i64 b]:=by
 match cs,hl with
 | [c0,c1],_=>
   obtain⟨y0,y1,m,_,_,h0,h1⟩:=trod_struct2 Tryz.underlying35 h
   have h0:DataW.trod enc Tryz.prog W 0 (fun _=>true) true m 3 [c0]=some y0:=by simpa[jyt] using h0
   have h1:DataW.trod enc Tryz.prog W 0 (fun _=>true) true m 3 [c1]=some y1:=by simpa[jyt] using h1
   obtain⟨a,ea,_,_⟩:=DataW.trod_int Tryz.underlying3 h0
   obtain⟨b,eb,_,_⟩:=DataW.trod_int Tryz.underlying3 h1
   cases ea
   cases eb
   exact⟨a,b,rfl⟩
theorem j86 {n:Nat} {cs:List Value} {y:DataW H×List MemPlace} (hl:cs.length=4) (h:DataW.trod enc Tryz.prog W 0 (fun _=>true) true n 39 cs=some y):∃a b u d,cs=[.int .i64 a,.int .i64 b,.bool u,.int .i8 d]:=by
 match cs,hl with
 | [c0,c1,c2,c3],_=>
   obtain⟨y0,y1,y2,m,_,_,h0,h1,h2⟩:=trod_struct3 Tryz.underlying39 h
   have h0:DataW.trod enc Tryz.prog W 0 (fun _=>true) true m 35 [c0,c1]=some y0:=by simpa[j68] using h0
   have h1:DataW.trod enc Tryz.prog W 0 (fun _=>true) true m 4 [c2]=some y1:=by simpa[khk] using h1
   have h2:DataW.trod enc Tryz.prog W 0 (fun _=>true) true m 37 [c3]=some y2:=by simpa[kc4] using h2
   obtain⟨a,b,e⟩:=j1j rfl h0
   obtain⟨u,eu,_⟩:=DataW.trod_bool Tryz.underlying4 h1
   obtain⟨d,ed,_,_⟩:=DataW.trod_int Tryz.underlying37 h2
   cases e
   cases eu
   cases ed
   exact⟨a,b,u,d,rfl⟩
theorem jr9 {n:Nat} {cs:List Value} {y:DataW H×List MemPlace} (hl:cs.length=3) (h:DataW.trod enc Tryz.prog W 0 (fun _=>true) true n 42 cs=some y):∃a b c,cs=[.int .i64 a,.int .i64 b,.int .i64 c]:=by
 match cs,hl with
 | [c0,c1,c2],_=>
   obtain⟨y0,y1,y2,m,_,h0,h1,h2⟩:=trod_array3 Tryz.underlying42 jyt h
   obtain⟨a,ea,_,_⟩:=DataW.trod_int Tryz.underlying3 h0
   obtain⟨b,eb,_,_⟩:=DataW.trod_int Tryz.underlying3 h1
   obtain⟨c,ec,_,_⟩:=DataW.trod_int Tryz.underlying3 h2
   cases ea
   cases eb
   cases ec
   exact⟨a,b,c,rfl⟩
theorem kez {b0:Nat} {v:Value} {d:DataW H} {p:List MemPlace} (hv:Value.okWide Tryz.prog W .any b0 44 v) (h:DataW.Trod enc Tryz.prog W 0 (fun _=>true) true 44 v d p):
  ∃a0 a1 a2 r0 r1 r2 u0 u1 u2:Int,v=.agg #[.int .i64 a0,.int .i64 a1,.int .i64 a2,.int .i64 r0,.int .i64 r1,.int .i64 r2,.int .i64 u0,.int .i64 u1,.int .i64 u2]:=by
 obtain⟨cs,rfl,hsz⟩:=okWide_struct Tryz.underlying44 hv
 obtain⟨fu,hfu⟩:=h
 obtain⟨y0,y1,y2,m,_,_,h0,h1,h2⟩:=trod_struct3 Tryz.underlying44 hfu
 rw[kc2] at hsz
 obtain⟨l⟩:=cs
 match l,hsz with
 | [c0,c1,c2,c3,c4,c5,c6,c7,c8],_=>
   have h0:DataW.trod enc Tryz.prog W 0 (fun _=>true) true m 42 [c0,c1,c2]=some y0:=by simpa[Value.cells,j0t] using h0
   have h1:DataW.trod enc Tryz.prog W 0 (fun _=>true) true m 42 [c3,c4,c5]=some y1:=by simpa[Value.cells,j0t] using h1
   have h2:DataW.trod enc Tryz.prog W 0 (fun _=>true) true m 42 [c6,c7,c8]=some y2:=by simpa[Value.cells,j0t] using h2
   obtain⟨a0,a1,a2,e0⟩:=jr9 rfl h0
   obtain⟨r0,r1,r2,e1⟩:=jr9 rfl h1
   obtain⟨u0,u1,u2,e2⟩:=jr9 rfl h2
   cases e0
   cases e1
   cases e2
   exact⟨a0,a1,a2,r0,r1,r2,u0,u1,u2,rfl⟩
theorem j8s {b0:Nat} {v:Value} {d:DataW H} {p:List MemPlace} (hv:Value.okWide Tryz.prog W .any b0 29 v) (h:DataW.Trod enc Tryz.prog W 0 (fun _=>true) true 29 v d p) (hf:W.noneFrozen p):
  ∃(v0 v1:Value) (l0 l1:Vm.Loc) (S:List SqT) (G:List HgT) (M0 M1:List AV),v=.agg #[v0,v1]∧(∀A,jcx (jbt A tSQ) S M0)∧(∀A,jcx (jbt A tHG) G M1)∧kd7 2 W v0 l0 S.length M0∧kd7 4 W v1 l1 G.length M1:=by
 obtain⟨v0,v1,y0,y1,n,rfl,_,rfl,h0,h1⟩:=Joins.open_agg2 Tryz.underlying29 (by kernel_rfl) kc5 hv h
 have hok:∀(i:Nat) (x:Value) (u:TypeId),(#[v0,v1]:Array Value)[i]?=some x→([26,27]:List TypeId)[i]?=some u→Cell.okWide Tryz.prog W .any b0 u x:=by
  simp only[Value.okWide,Tryz.underlying29] at hv
  obtain⟨cs,e,_,ts,hts,_,hc⟩:=hv
  cases e
  have e2:Tryz.prog.cellTypes Tryz.prog.depth 29=some [26,27]:=by kernel_rfl
  rw[e2] at hts
  cases hts
  intro i x u hx hu0
  obtain⟨u',hu,hk⟩:=hc i x hx
  have hi:i<2:=by
   have:=(List.getElem?_eq_some_iff.1 hu0).1
   simpa using this
  have e:i%2=i:=Nat.mod_eq_of_lt hi
  simp only[List.length_cons,List.length_nil,Nat.zero_add] at hu
  rw[e,hu0] at hu
  cases hu
  exact hk
 have hD0:∀i v,kkc i v→kid v:=fun i v ⟨n,e⟩=>by rw[e];trivial
 have hD1:∀i v,kj2 i v→kid v:=fun i v h=>by
  rcases h with⟨_,n,e⟩ | ⟨_,n,e⟩ | ⟨_,n,e⟩<;>(rw[e];trivial)
 obtain⟨l0,g0,n0,w0,a0⟩:=juk (by decide) hD0 Tryz.underlying26 j68 (fun n cs y hl h i hi=>by
  obtain⟨a,b,rfl⟩:=j1j hl h
  rcases(by omega:i=0∨i=1) with rfl | rfl
  ·exact⟨_,rfl,_,rfl⟩
  ·exact⟨_,rfl,_,rfl⟩) h0 (hok 0 v0 26 rfl rfl) (jj6 hf fun x hx=>List.mem_append.2 (.inl hx))
 obtain⟨l1,g1,n1,w1,a1⟩:=juk (by decide) hD1 Tryz.underlying27 kc3 (fun n cs y hl h i hi=>by
  obtain⟨a,b,u,d,rfl⟩:=j86 hl h
  rcases(by omega:i=0∨i=1∨i=2∨i=3) with rfl | rfl | rfl | rfl
  ·exact⟨_,rfl,.inl ⟨by decide,_,rfl⟩⟩
  ·exact⟨_,rfl,.inl ⟨by decide,_,rfl⟩⟩
  ·exact⟨_,rfl,.inr (.inl ⟨rfl,_,rfl⟩)⟩
  ·exact⟨_,rfl,.inr (.inr ⟨rfl,_,rfl⟩)⟩) h1 (hok 1 v1 27 rfl rfl) (jj6 hf fun x hx=>List.mem_append.2 (.inr hx))
 have len:∀(α:Type) (r:Nat→α) (n:Nat),((List.range n).map r).length=n:=fun α r n=>by simp
 refine⟨v0,v1,l0,l1,(List.range n0).map fun i=>(kg5 (g0 (i*2)),kg5 (g0 (i*2+1))),(List.range n1).map fun i=>((kg5 (g1 (i*4)),kg5 (g1 (i*4+1))),(kjk (g1 (i*4+2)),kg5 (g1 (i*4+3)))),_,_,rfl,fun A=>jsl n0 fun i hi=>?_,fun A=>jsl n1 fun i hi=>?_,by rw[len];exact a0,by rw[len];exact a1⟩
 ·obtain⟨a,ea⟩:=w0 (i*2) (by omega)
  obtain⟨b,eb⟩:=w0 (i*2+1) (by omega)
  have e:((List.range 2).map fun j=>dV (g0 (i*2+j)))=[dV (g0 (i*2)),dV (g0 (i*2+1))]:=rfl
  rw[e,ea,eb]
  exact⟨[_],[_],rfl,rfl,rfl⟩
 ·have m:∀j,j<4→(i*4+j)%4=j:=fun j hj=>by omega
  have k0:=w1 (i*4) (by omega)
  have k1:=w1 (i*4+1) (by omega)
  have k2:=w1 (i*4+2) (by omega)
  have k3:=w1 (i*4+3) (by omega)
  unfold kj2 at k0 k1 k2 k3
  rw[show(i*4)%4=0 by omega] at k0
  rw[m 1 (by decide)] at k1
  rw[m 2 (by decide)] at k2
  rw[m 3 (by decide)] at k3
  have k0:∃n,g1 (i*4)=.int .i64 n:=by simpa using k0
  have k1:∃n,g1 (i*4+1)=.int .i64 n:=by simpa using k1
  have k2:∃b,g1 (i*4+2)=.bool b:=by simpa using k2
  have k3:∃n,g1 (i*4+3)=.int .i8 n:=by simpa using k3
  obtain⟨a,ea⟩:=k0
  obtain⟨b,eb⟩:=k1
  obtain⟨u,eu⟩:=k2
  obtain⟨d,ed⟩:=k3
  have e:((List.range 4).map fun j=>dV (g1 (i*4+j)))=[dV (g1 (i*4)),dV (g1 (i*4+1)),dV (g1 (i*4+2)),dV (g1 (i*4+3))]:=rfl
  rw[e,ea,eb,eu,ed]
  exact⟨[_,_],[_,_],rfl,⟨[_],[_],rfl,rfl,rfl⟩,[_],[_],rfl,rfl,rfl⟩
end
abbrev tNe:Ty:=.prod (.sl tSQ) (.sl tHG)
abbrev tFr:Ty:=.prod (.arr 3 (.int .i64)) (.prod (.arr 3 (.int .i64)) (.arr 3 (.int .i64)))
theorem ki2 {m:Nat} {f:FuncId} {run:jkt [.d tNe,.d (.int .u8),.d tFr]→Option (jkt [.d .bool])} (ho:∀mx,OKs (BB mx) (jn7 mx) prog m [⟨f,[.d tNe,.d (.int .u8),.d tFr],[.d .bool],run⟩]) {W:World} (hL:laidMet Tryz.prog Rows.netsCompareRow.laid W) {v0 v1:Value} {l0 l1:Vm.Loc} {S:List SqT} {G:List HgT} {M0 M1:List AV} {z a0 a1 a2 r0 r1 r2 q0 q1 q2:Int}
  (hrun:run ((S,G),(z,([a0,a1,a2],([r0,r1,r2],[q0,q1,q2]))))=some true) (h0:∀A,jcx (jbt A tSQ) S M0) (h1:∀A,jcx (jbt A tHG) G M1) (k0:kd7 2 W v0 l0 S.length M0) (k1:kd7 4 W v1 l1 G.length M1):
  Calls Tryz.prog f #[.agg #[v0,v1],.int .u8 z,.agg #[.int .i64 a0,.int .i64 a1,.int .i64 a2,.int .i64 r0,.int .i64 r1,.int .i64 r2,.int .i64 q0,.int .i64 q1,.int .i64 q2]] W fun e W'=>e=.returned (.bool true)∧Below W.heap.size W W':=by
 have hR:=start hL [l0,l1]
 have e0:j3m W 8 [l0,l1] 8=some l0:=rfl
 have e1:j3m W 8 [l0,l1] 9=some l1:=rfl
 obtain⟨HA,O0,u0,A0,p1,p2,p3,p4,p5,p6,p7,p8⟩:=jut (by decide) h0 rfl k0 e0 hR j8f j8g (show nx0≤8 by decide) (by decide) (by simp)
 obtain⟨HB,O1,u1,A1,s1,s2,s3,s4,s5,s6,s7,s8⟩:=jut (by decide) h1 rfl k1 e1 p1 p2 p3 (show nx0≤9 by decide) (by decide) (fun h=>by have:=p4 _ h;simp at this)
 have w0:SlR (A0++A1) 2 (jcx (jbt (A0++A1) tSQ)) S u0:=jza (t:=tSQ) rfl (fun x h=>List.mem_append.2 (.inl h)) p7
 have w1:SlR (A0++A1) 4 (jcx (jbt (A0++A1) tHG)) G u1:=jza (t:=tHG) rfl (fun x h=>List.mem_append.2 (.inr h)) s7
 have rv:∀(a b c:Int) (A:jah),jbt A (.arr 3 (.int .i64)) [a,b,c] [.int .i64 a,.int .i64 b,.int .i64 c]:=fun a b c A=>⟨rfl,[.int .i64 a],_,rfl,rfl,[.int .i64 b],_,rfl,rfl,[.int .i64 c],[],rfl,rfl,rfl⟩
 refine j0v (t:=⟨f,[.d tNe,.d (.int .u8),.d tFr],[.d .bool],run⟩) (ka6 0) mixed jvs (n:=m) (ho 0 _ (List.mem_singleton.2 rfl) m (Nat.le_refl _)) rfl (a:=((S,G),(z,([a0,a1,a2],([r0,r1,r2],[q0,q1,q2]))))) hrun s3 (A:=A0++A1) (fun x hx=>.inl ?_) (vs:=[.agg [u0,u1],.int .u8 z,.agg [.int .i64 a0,.int .i64 a1,.int .i64 a2,.int .i64 r0,.int .i64 r1,.int .i64 r2,.int .i64 q0,.int .i64 q1,.int .i64 q2]]) ?_ s1 ki9 (j5g (show 8+2≤RO by decide)) s2 ?_
 ·rcases List.mem_append.1 hx with h | h
  ·exact s6 _ _ (p5 x h)
  ·exact s5 x h
 ·exact⟨_,_,[],[],rfl,rfl,⟨[u0,u1],rfl,rfl,⟨[u0],[u1],rfl,⟨u0,rfl,w0⟩,⟨u1,rfl,w1⟩⟩,rfl⟩,_,_,[],[],rfl,rfl,⟨rfl,rfl,rfl⟩,_,rfl,⟨_,rfl,rfl,⟨_,_,rfl,rv a0 a1 a2 _,⟨_,_,rfl,rv r0 r1 r2 _,rv q0 q1 q2 _⟩⟩,rfl⟩⟩
 ·simp only[VRs,VR]
  exact⟨_,_,rfl,⟨_,rfl,_,_,rfl,p8,_,_,rfl,s8,rfl⟩,_,_,rfl,rfl,_,_,rfl,⟨_,rfl,_,_,rfl,rfl,_,_,rfl,rfl,_,_,rfl,rfl,_,_,rfl,rfl,_,_,rfl,rfl,_,_,rfl,rfl,_,_,rfl,rfl,_,_,rfl,rfl,_,_,rfl,rfl,rfl⟩,rfl⟩
end Vm
end Go.Proofs.YtahplmacekfjgaaGreatDoor
