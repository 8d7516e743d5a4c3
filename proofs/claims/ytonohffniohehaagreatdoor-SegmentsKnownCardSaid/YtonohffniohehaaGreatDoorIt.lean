/-
  A region that draws its order, whose last operations come behind all others: its first part by itself.
  A sheet's units: the iterator: what it calls.
  A sheet's units: the iterator: what it hands out.
  A sheet's units: the iterator, told: for the machine and for the extraction.
-/
import Derived.Test.YtonohffniohehaaGreatDoorIn
import Derived.Shelf.RegionOpen
import Derived.WalkKit
import Derived.LoopIn
set_option linter.unusedSimpArgs false
set_option linter.unusedVariables false
set_option linter.unusedSectionVars false
set_option linter.unnecessarySimpa false
namespace Go.Vm
open Go.RowKit
variable {P:Program} {F:Fence} {n:Nat} {ops:Array Oper} {Q Q1:Exit→Act→World→Prop} {m:Nat}
theorem getD_some {l:Array Bool} {k:Nat} (h:l.getD k false=true):l[k]?=some true:=by
 unfold Array.getD at h
 split at h
 ·rename_i hk
  rw[Array.getElem?_eq_getElem hk]
  exact congrArg some h
 ·cases h
structure Sub (m N:Nat) (l' l:Array Bool):Prop where
 s1:l'.size=m
 s2:l.size=N
 eq:∀i,i<m→l'.getD i true=l.getD i true
 late:∀i,m≤i→l.getD i false=false
end Go.Vm
namespace Go.Vm.X.In
open Go Go.Vm Go.Vm.W Go.Vm.X Go.Proofs Go.RowKit
theorem jx8 {t:TE} {m:Nat} (ht:OKs BI kd7 prog m [t]) {a:jl4 t.ins} {r:jl4 t.outs} (hr:t.run a=some r) {vs:List AV} (hv:jni [] t.ins a vs []) {v0:AV} {u0:Value}
  (h0:∀F v E,kfd F t.outs r v E→v=v0) (h1:∀ρ u,VR ρ v0 u→u=u0)
  {ρ:RM} {W:World} (hR:HR ρ BI.H0 W) (hgl:GLok gl ρ) (hfree:∀b,BI.nx0≤b→ρ b=none) {args:Array Value} (ha:VRs ρ vs args.toList):
  Calls Tryz.prog t.f args W fun e W'=>e=.returned u0∧Below W.heap.size W W':=by
 have hk:HK BI RO [] BI.H0 RO:=⟨by decide,by decide,fun _ _=>rfl,(fun _ h=>by cases h),List.nodup_nil⟩
 obtain⟨v,E,N,H',nx',F',h2,_,_,_,h3⟩:=ht t (List.mem_singleton.2 rfl) m (Nat.le_refl _) a r hr RO [] [] BI.H0 RO hk (fun _ h=>by cases h) [] (fun x hx=>by cases hx) vs hv
 obtain rfl:=h0 _ _ _ h3
 have hwf:WF BI.H0 RO:=fun b h=>by
  have:b<12:=by
   have hw:=kcq (es:=es) (n:=12) (by kernel_rfl)
   exact hw b h
  exact Nat.lt_of_lt_of_le this (by decide)
 obtain⟨_,key⟩:=(jur khp mixed ju1 m).1 _ _ _ _ _ _ _ _ h2
 refine(key ρ W args hR (fun b hb _=>hfree b (Nat.le_trans (by decide) hb)) (Nat.le_refl _) hgl hwf ha).2.mono ?_
 rintro e W' ⟨v',rfl,ρ',st,_,hv'⟩
 refine⟨by rw[h1 _ _ hv'],st.os,st.tape,st.output,st.size,fun x hx=>st.keep x hx fun b l hb _ _=>?_⟩
 apply Classical.byContradiction
 intro hn
 rw[hfree b (Nat.le_trans (by decide) (Nat.le_of_not_lt hn))] at hb
 cases hb
theorem krc {n er:Int} {F:jaj} {v:AV} {E:List Ent} (h:kfd F [.d (.int .i64),.d (.int .i64)] (n,er) v E):v=.tup [.int .i64 n,.int .i64 er]:=by
 obtain⟨vs,rfl,v1,vs',E1,E2,rfl,_,h1,v2,rfl,h2⟩:=h
 unfold js4 at h1 h2
 simp only[Rep.agg,Ty.agg,cond_false] at h1 h2
 obtain⟨_,h1,_⟩:=h1
 obtain⟨_,h2,_⟩:=h2
 simp only[jb0,List.cons.injEq,and_true] at h1 h2
 rw[h1,h2]
 rfl
theorem krd {n:Int} {F:jaj} {v:AV} {E:List Ent} (h:kfd F [.d (.int .i64)] n v E):v=.int .i64 n:=by
 obtain⟨vs,rfl,v1,rfl,h1⟩:=h
 unfold js4 at h1
 simp only[Rep.agg,Ty.agg,cond_false] at h1
 obtain⟨_,h1,_⟩:=h1
 simp only[jb0,List.cons.injEq,and_true] at h1
 rw[h1]
 rfl
theorem j1d {w h:Int}:js4 [] (.d (.prod (.int .i64) (.int .i64))) (w,h) (.agg [.int .i64 w,.int .i64 h]) []:=⟨_,rfl,rfl,⟨_,_,rfl,rfl,rfl⟩,rfl⟩
theorem kbh {k:IntKind} {n:Int}:js4 [] (.d (.int k)) n (.int k n) []:=⟨rfl,rfl,rfl⟩
structure QOn (W:World):Prop where
 ex:∃ρ:RM,HR ρ BI.H0 W∧GLok gl ρ∧∀b,BI.nx0≤b→ρ b=none
theorem j6k {w h id e n er:Int} (hv:sheets_Neighbour fuel ((w,h),(id,e))=some (n,er)) {W:World} (hq:QOn W):
  Calls Tryz.prog 91 #[.agg #[.int .i64 w,.int .i64 h],.int .i64 id,.int .u8 e] W fun en W'=>en=.returned (.tuple #[.int .i64 n,.int .i64 er])∧Below W.heap.size W W':=by
 obtain⟨ρ,h1,h2,h3⟩:=hq.ex
 refine jx8 (t:=ja5 fuel) jgh (a:=((w,h),(id,e))) hv (vs:=[.agg [.int .i64 w,.int .i64 h],.int .i64 id,.int .u8 e]) ⟨_,_,[],[],rfl,rfl,j1d,_,_,[],[],rfl,rfl,kbh,_,rfl,kbh⟩ (fun F v E h=>krc h) (fun ρ u hu=>?_) h1 h2 h3 ?_
 ·obtain⟨cs,rfl,v1,_,e1,h1,v2,_,rfl,h2,h3⟩:=hu
  simp only[VR,VRs] at h1 h2 h3
  subst h1 h2 h3
  rw[show cs=#[.int .i64 n,.int .i64 er] from Array.toList_inj.1 e1]
 ·exact⟨_,_,rfl,⟨_,rfl,_,_,rfl,rfl,_,_,rfl,rfl,rfl⟩,_,_,rfl,rfl,_,_,rfl,rfl,rfl⟩
theorem j2r {w h n:Int} (hv:sheets_Count fuel (w,h)=some n) {W:World} (hq:QOn W):
  Calls Tryz.prog 130 #[.agg #[.int .i64 w,.int .i64 h]] W fun en W'=>en=.returned (.int .i64 n)∧Below W.heap.size W W':=by
 obtain⟨ρ,h1,h2,h3⟩:=hq.ex
 refine jx8 (t:=jcg fuel) jor (a:=(w,h)) hv (vs:=[.agg [.int .i64 w,.int .i64 h]]) ⟨_,rfl,j1d⟩ (fun F v E h=>krd h) (fun ρ u hu=>hu) h1 h2 h3 ?_
 exact⟨_,_,rfl,⟨_,rfl,_,_,rfl,rfl,_,_,rfl,rfl,rfl⟩,rfl⟩
end Go.Vm.X.In
namespace Go.Proofs
open Go.RowKit Go.Shelf Go.Vm
attribute [local go_sem] Oper.semAt_some
namespace Un
open Go.Vm.X.In (j6k j2r QOn)
def kii:Value→Int
 | .int _ n=>n
 | _=>0
def nbV (w h:Int) (i:Nat):Option (Int×Int):=Go.Vm.X.In.sheets_Neighbour Go.Vm.fuel ((w,h),(((i / 3:Nat):Int),((i%3:Nat):Int)))
def unP (w h:Int) (i:Nat):Bool:=match nbV w h i with
 | some (n,er)=>decide (er=0)&&decide (((i / 3:Nat):Int)<n)
 | none=>false
def unI (w h:Int) (k:Nat):List Nat:=(List.range k).filter (unP w h)
def unV (i:Nat):Array Value:=#[.agg #[.int .i64 ((i / 3:Nat):Int),.int .u8 ((i%3:Nat):Int)]]
theorem kpn {k i:Nat} {w h:Int} (hp:unP w h i=true) (hi:i<k):
  ((unI w h k).map unV)[((List.range i).filter (unP w h)).length]?=some (unV i):=by
 have e:List.range k=List.range i++i::List.range' (i+1) (k-i-1):=by
  rw[List.range_eq_range',List.range_eq_range']
  have h1:=List.range'_append_1 (s:=0) (m:=i) (n:=k-i)
  rw[show i+ (k-i)=k by omega,Nat.zero_add] at h1
  rw[←h1,show k-i=(k-i-1)+1 by omega,List.range'_succ]
  rfl
 unfold unI
 rw[e,List.filter_append,List.filter_cons,if_pos hp,List.map_append,List.getElem?_append_right (by simp)]
 simp
structure UnRdy (b o:Nat) (w h:Int) (W:World):Prop where
 w:W.cell? ⟨b,o,none⟩=some (.int .i64 w)
 h:W.cell? ⟨b,o+1,none⟩=some (.int .i64 h)
 q:QOn W
set_option maxRecDepth 100000 in
set_option maxHeartbeats 1000000 in
theorem kdj {b o:Nat} {w h k:Int} (hk:Go.Vm.X.In.sheets_Count Go.Vm.fuel (w,h)=some k) (hk0:0≤k) (hk1:k≤100000) (hok:∀i,i<3*k.toNat→(nbV w h i).isSome) (w0:World):
  kc2 Tryz.prog 129 #[.pointer (some ⟨b,o,none⟩)] ((unI w h (3*k.toNat)).map unV) (fun W=>UnRdy b o w h W) w0:=by
 intro l J Jx W hB hJ hJx hY hR h0
 have hm:Tryz.prog.follows .mixedOrders=true:=by kernel_rfl
 refine callsIn_of_wp Tryz.func129 rfl trivial ?_ rfl
 simp only[Tryz.ntmps129,List.size_toArray,List.length_cons,List.length_nil,Nat.reduceAdd,Nat.reduceSub,Array.replicate_succ,Array.replicate_zero,List.push_toArray,List.append_toArray,List.nil_append,List.cons_append]
 have r0:=hR 0 W h0
 have r1:=r0.w
 have r2:=r0.h
 gi_wp2
 refine⟨trivial,(j0b (j2r hk r0.q)).mono ?_⟩
 rintro e W1 ⟨rfl,hB1⟩
 have j1:=hJ _ _ _ h0 hB1
 gi_wp2
 gi_loopw [9] (fun vi wr=>∃i:Nat,vi=.int .i64 i∧i≤k.toNat∧J ((List.range (3*i)).filter (unP w h)).length wr)
  (fun vi wr=>k.toNat-(kii vi).toNat)
 case atStart=>exact⟨0,rfl,by omega,j1⟩
 case round=>
  obtain⟨i,rfl,hi,hJi⟩:=hrel
  by_cases hlt:i<k.toNat
  ·have hd:decide ((i:Int)<k)=true:=decide_eq_true (by omega)
   gi_wp2
   gi_loopw [12] (fun vi wr=>∃e:Nat,vi=.int .u8 e∧e≤3∧J ((List.range (3*i+e)).filter (unP w h)).length wr)
    (fun vi wr=>3-(kii vi).toNat)
   case atStart=>exact⟨0,rfl,by omega,hJi⟩
   case round=>
    obtain⟨e,rfl,he,hJe⟩:=hrel
    by_cases hlt2:e<3
    ·have rr:=hR _ _ hJe
     have r3:=rr.w
     have r4:=rr.h
     gi_wp2
     obtain⟨⟨n,er⟩,hv⟩:=Option.isSome_iff_exists.1 (hok (3*i+e) (by omega))
     have e1:(3*i+e) / 3=i:=by omega
     have e2:(3*i+e)%3=e:=by omega
     have hP:unP w h (3*i+e)=(decide (er=0)&&decide ((i:Int)<n)):=by unfold unP;rw[hv,e1]
     have hv':=hv
     unfold nbV at hv'
     rw[e1,e2] at hv'
     refine⟨trivial,(j0b (j6k hv' rr.q)).mono ?_⟩
     rintro en W2 ⟨rfl,hB2⟩
     have hJ2:=hJ _ _ _ hJe hB2
     have hno:∀ {W':World},unP w h (3*i+e)=false→J ((List.range (3*i+e)).filter (unP w h)).length W'→J ((List.range (3*i+ (e+1))).filter (unP w h)).length W':=fun hp h=>by
      rw[show 3*i+ (e+1)=(3*i+e)+1 by omega,List.range_succ,List.filter_append,List.filter_cons,if_neg (by rw[hp];simp),List.filter_nil,List.append_nil]
      exact h
     have hwr:IntKind.u8.wrap ((e:Int)+1)=(e:Int)+1:=_root_.Go.Vm.W.wrap_in (k:=.u8) (by simp only[_root_.Go.Vm.W.inR];omega)
     by_cases he0:er=0
     ·subst he0
      by_cases hn:(i:Int)<n
      ·have hp:unP w h (3*i+e)=true:=by rw[hP];simp[hn]
       obtain⟨fn,tmps,assign,body,hy,hR1⟩:=hY _ (unV (3*i+e)) W2 (kpn hp (by omega)) hJ2
       unfold unV at hy
       rw[e1,e2] at hy
       gi_wp2
       refine RoundIn.mono hR1 ?_
       rintro en W3 (⟨rfl,hJ3⟩ | ⟨rfl,hJ3⟩)
       ·gi_wp2
        go_roundw
        case rel=>
         refine⟨e+1,by simp,by omega,?_⟩
         rw[show 3*i+ (e+1)=(3*i+e)+1 by omega,List.range_succ,List.filter_append,List.filter_cons,if_pos hp]
         simpa using hJ3
        case measure=>simp[kii];omega
       ·gi_wp2
        refine bodyPost_ret (results_none rfl _ _ _) rfl ?_
        exact⟨⟨_,rfl⟩,.inr hJ3⟩
      ·have hp:unP w h (3*i+e)=false:=by rw[hP];simp[hn]
       gi_wp2
       refine⟨fun _ h=>(by cases h),?_⟩
       gi_wp2
       go_roundw
       case rel=>exact⟨e+1,by simp,by omega,hno hp hJ2⟩
       case measure=>simp[kii];omega
     ·have he1:(er==0)=false:=by simpa using he0
      have hp:unP w h (3*i+e)=false:=by rw[hP];simp[he0]
      gi_wp2
      refine⟨fun _ h=>(by cases h),?_⟩
      gi_wp2
      go_roundw
      case rel=>exact⟨e+1,by simp,by omega,hno hp hJ2⟩
      case measure=>simp[kii];omega
    ·obtain rfl:e=3:=by omega
     have hwi:IntKind.i64.wrap ((i:Int)+1)=(i:Int)+1:=_root_.Go.Vm.W.wrap_in (k:=.i64) (by simp only[_root_.Go.Vm.W.inR];omega)
     gi_wp2
     go_roundw
     case rel=>exact⟨i+1,by simp,by omega,hJe⟩
     case measure=>simp[kii];omega
  ·obtain rfl:i=k.toNat:=by omega
   have hk2:((k.toNat:Nat):Int)=k:=by omega
   gi_wp2
   go_end0
   exact⟨⟨_,rfl⟩,.inl (by rw[List.length_map];exact hJi)⟩
end Un
end Go.Proofs
namespace Go.Vm
namespace X
open W Go.Proofs Go.Proofs.Un
def eqI:List AV→List AV→Bool
 | [],[]=>true
 | .int k x::a,.int j y::b=>decide (k=j)&&decide (x=y)&&eqI a b
 | _,_=>false
theorem kb0:∀ {a b:List AV},eqI a b=true→a=b
 | [],[],_=>rfl
 | [],_::_,h=>by simp[eqI] at h
 | x::a,[],h=>by cases x<;>simp[eqI] at h
 | x::a,y::b,h=>by
   cases x<;>cases y<;>simp only[eqI,Bool.and_eq_true,decide_eq_true_eq,Bool.false_eq_true] at h
   rw[h.1.1,h.1.2,kb0 h.2]
def qL:List AV:=(In.es.head?.map (·.2)).getD []
def qN:Nat:=68
def rd2 (H:Tr Blk) (b o n:Nat):Option (List AV):=match H.get b with
 | some (.cells c m)=>bif(o+n).ble m then take c o n else none
 | _=>none
theorem kfv {H:Tr Blk} {b:Nat} {m:List AV} {n:Nat} (h:HB.At H b (.cells m)) (hn:m.length=n):rd2 H b 0 n=some m:=by
 obtain⟨c,h1,h2⟩:=h
 have e:(0+n).ble m.length=true:=by rw[jae];simp[hn]
 simp only[rd2,h1,e,cond_true]
 rw[jgz (H:=H) (b:=b) h2 n 0 (by omega),List.drop_zero,←hn,List.take_length]
def okU (w h k:Int):Bool:=decide (0≤k)&&decide (k≤100000)&&(List.range (3*k.toNat)).all fun i=>(nbV w h i).isSome
def kfq:ItF:=fun free H=>match free with
 | [.ptr b o]=>match rd2 H b o 2,rd2 H 2 0 qN with
   | some [.int .i64 w,.int .i64 h],some q=>bif eqI q qL then(match In.sheets_Count fuel (w,h) with
     | some k=>bif okU w h k then some ((unI w h (3*k.toNat)).map (fun(i:Nat)=>[.agg [.int .i64 ((i / 3:Nat):Int),.int .u8 ((i%3:Nat):Int)]]),[.int .i64 w,.int .i64 h]) else none
     | none=>none) else none
   | _,_=>none
 | _=>none
def j54:Ty:=.prod (.int .i64) (.int .i64)
def kgv:Ty:=.prod (.int .i64) (.int .u8)
def j7x (x:kfi [j54]):Option (List (Int×Int)):=match In.sheets_Count fuel (x.1.1,x.1.2) with
 | some k=>bif okU x.1.1 x.1.2 k then some ((unI x.1.1 x.1.2 (3*k.toNat)).map fun(i:Nat)=>(((i / 3:Nat):Int),((i%3:Nat):Int))) else none
 | none=>none
theorem jt1 {F:jaj}:∀(t:Ty),t.flatK=true→∀(x:t.den) (l:List AV),jb0 F t x l→l=jh3 t x
 | .int k,_,x,l,h=>h
 | .bool,_,x,l,h=>h
 | .str,_,x,l,h=>h
 | .unit,_,x,l,h=>h
 | .prod a b,hf,x,l,⟨l1,l2,e,h1,h2⟩=>by
   simp only[Ty.flatK,Bool.and_eq_true] at hf
   rw[e,jt1 a hf.1 _ _ h1,jt1 b hf.2 _ _ h2]
   rfl
 | .arr n t,hf,x,l,⟨_,h⟩=>by
   simp only[Ty.flatK] at hf
   have key:∀(L:List t.den) (l:List AV),jd1 (jb0 F t) L l→l=L.flatMap (jh3 t):=by
    intro L
    induction L with
    | nil=>intro l h;exact h
    | cons x L ih=>
      rintro l ⟨l1,l2,rfl,h1,h2⟩
      rw[jt1 t hf _ _ h1,ih _ h2]
      rfl
   exact key _ _ h
theorem j7p {F:jaj} {t:Ty} (hf:t.flatK=true):∀(L:List t.den) (l:List AV),jd1 (jb0 F t) L l→l=L.flatMap (jh3 t)
 | [],l,h=>h
 | x::L,l,⟨l1,l2,e,h1,h2⟩=>by rw[e,jt1 t hf _ _ h1,j7p hf _ _ h2];rfl
def j9o (G:Mem):Bool:=match lkM G (gB+2) with
 | some (.fix t n L)=>t.flatK&&eqI (L.flatMap (jh3 t)) qL
 | _=>false
theorem j6e:qL.length=qN:=by kernel_rfl
theorem kpm (G:Mem) (F:jaj) (H:Tr Blk) (cap:kfi [j54]) (free:List AV) (l:List (Int×Int)) (hn:j9o G=true) (hg:GOn G H) (h:koy F H [j54] cap free) (hF:∀x∈F,x.2.At H x.1) (hr:j7x cap=some l):
  kfq free H=some (l.map (fun y=>[jzz kgv y]),[.int .i64 cap.1.1,.int .i64 cap.1.2]):=by
 obtain⟨b1,m1,_,rfl,a1,r1,hnil⟩:=h
 simp only[koy] at hnil
 subst hnil
 obtain⟨⟨w,h⟩,u⟩:=cap
 obtain⟨_,_,rfl,r1,r2⟩:=r1
 simp only[jb0] at r1 r2
 subst r1;subst r2
 unfold j9o at hn
 split at hn<;>try (cases hn;done)
 rename_i t n L hq
 simp only[Bool.and_eq_true] at hn
 obtain⟨m,hm1,_,hm2⟩:=hg 2 t n L hq
 have hm3:=j7p hn.1 _ _ hm2
 have hm4:=kb0 hn.2
 rw[hm4] at hm3
 subst hm3
 unfold j7x at hr
 split at hr<;>try (cases hr;done)
 rename_i k hk
 obtain⟨hc,hr⟩:=jah hr
 cases hr
 simp only at hk hc
 have e9:eqI qL qL=true:=by kernel_rfl
 simp only[kfq,kfv a1 (n:=2) rfl,kfv hm1 (n:=qN) j6e,List.nil_append,List.cons_append,e9,cond_true]
 rw[hk]
 simp only[hc,cond_true]
 show some _=some (List.map (fun y:Int×Int=>[jzz kgv y]) (List.map _ (unI w h (3*k.toNat))),_)
 rw[List.map_map]
 rfl
def ksr:ITE:=⟨129,[j54],kgv,j7x,kfq,fun cap=>[.int .i64 cap.1.1,.int .i64 cap.1.2],j9o,kpm⟩
theorem kai {ρ:RM} {H:Tr Blk} {w:World} {b o n:Nat} {l:List AV} {lc:Loc} (h:rd2 H b o n=some l) (hr:HR ρ H w) (hb:ρ b=some lc):
  ∃vs:List Value,VRs ρ l vs∧∀j v,vs[j]?=some v→w.cell? ⟨lc.blk,lc.base+o+j,none⟩=some v:=by
 unfold rd2 at h
 split at h<;>try (cases h;done)
 rename_i c m hc
 obtain⟨hm,h2⟩:=jah h
 rw[jae,decide_eq_true_eq] at hm
 obtain⟨vs,h3,_,h4,_⟩:=jiu (P:=Tryz.prog) hr hc hb hm h2
 refine⟨vs,h3,fun j v hv=>?_⟩
 have:=h4 j v hv
 rw[jhc] at this
 exact this
theorem keg {ρ ρ':RM} {a:AV} {v:Value} (hi:(match a with | .int _ _=>true | _=>false)=true) (h:VR ρ a v):VR ρ' a v:=by
 cases a<;>first | (cases hi;done) | exact h
theorem khg:(qL.all fun a=>match a with | .int _ _=>true | _=>false)=true:=by kernel_rfl
theorem ksm {ρ:RM} {H:Tr Blk} {w:World} {gl:List Nat} {q:List AV} (h:rd2 H 2 0 qN=some q) (hq:eqI q qL=true) (hr:HR ρ H w) (hgl:GLok gl ρ) (h2:gl.contains 2=true):In.QOn w:=by
 obtain rfl:=kb0 hq
 obtain⟨lc,hb,hblk,hbase⟩:=hgl 2 h2
 refine⟨fun b=>if b=2 then some lc else none,⟨fun b k l hk hl=>?_,fun b b' l l' h1 h2' e1 e2 _=>?_⟩,fun g hg=>?_,fun b hb=>?_⟩
 ·obtain rfl:b=2:=by
   by_cases e:b=2
   ·exact e
   ·simp only[e,if_false] at hl;cases hl
  simp only[if_true] at hl
  cases hl
  obtain⟨L,hL,rfl⟩:=jkk hk
  have hes:In.es=[(2,qL)]:=by kernel_rfl
  rw[hes] at hL
  simp only[List.mem_cons,Prod.mk.injEq,true_and,List.not_mem_nil,or_false] at hL
  subst hL
  unfold rd2 at h
  split at h<;>try (cases h;done)
  rename_i c m hc
  obtain⟨hm,ht⟩:=jah h
  rw[jae,decide_eq_true_eq] at hm
  obtain⟨cs,elem,fr,g1,g2,g3,g4,g5⟩:=hr.blk 2 _ lc hc hb
  obtain⟨t1,t2⟩:=jme _ c 0 qL ht
  refine⟨cs,elem,fr,g1,by rw[j6e];omega,g3,g4,fun i hi=>?_⟩
  rw[j6e] at hi
  obtain⟨a,v,k1,k2,k3⟩:=g5 i (by omega)
  refine⟨a,v,?_,k2,?_⟩
  ·rw[jgk,if_pos (by rw[j6e];omega),←k1,Nat.sub_zero,←t2 i (by omega),Nat.zero_add]
  ·have e:qL[i]?=some a:=by rw[←k1];have:=t2 i (by omega);simpa using this.symm
   exact keg (List.all_eq_true.1 khg a (List.mem_of_getElem? e)) k3
 ·have f1:b=2:=by
   by_cases e:b=2
   ·exact e
   ·simp only[e,if_false] at e1;cases e1
  have f2:b'=2:=by
   by_cases e:b'=2
   ·exact e
   ·simp only[e,if_false] at e2;cases e2
  exact .inl (f1.trans f2.symm)
 ·have:g=2:=by simpa[In.gl] using hg
  subst this
  exact⟨lc,by simp,hblk,hbase⟩
 ·have:b≠2:=fun e=>by subst e;revert hb;decide
  simp only[this,if_false]
theorem kfp {ρ:RM} {H:Tr Blk} {w:World} {gl:List Nat} {b o:Nat} {l1:Loc} {yk:List (List AV)×List AV} (h:kfq [.ptr b o] H=some yk) (hr:HR ρ H w) (hgl:GLok gl ρ) (h2:gl.contains 2=true) (h1:ρ b=some l1):
  ∃W0 H0 k,yk=((unI W0 H0 (3*k.toNat)).map (fun(i:Nat)=>[.agg [.int .i64 ((i / 3:Nat):Int),.int .u8 ((i%3:Nat):Int)]]),[.int .i64 W0,.int .i64 H0])∧In.sheets_Count fuel (W0,H0)=some k∧0≤k∧k≤100000∧(∀i,i<3*k.toNat→(nbV W0 H0 i).isSome)∧UnRdy l1.blk (l1.base+o) W0 H0 w:=by
 simp only[kfq] at h
 split at h<;>try (cases h;done)
 rename_i W0 H0 q e1 e2
 obtain⟨hq,h⟩:=jah h
 split at h<;>try (cases h;done)
 rename_i k hk
 obtain⟨hc,h⟩:=jah h
 cases h
 simp only[okU,Bool.and_eq_true,decide_eq_true_eq,List.all_eq_true,List.mem_range] at hc
 obtain⟨vs1,⟨w0,_,rfl,g0,w1,_,rfl,g1,g2⟩,k1⟩:=kai e1 hr h1
 simp only[VRs] at g2
 subst g2
 simp only[VR] at g0 g1
 subst g0;subst g1
 exact⟨W0,H0,k,rfl,hk,hc.1.1,hc.1.2,hc.2,⟨k1 0 _ rfl,k1 1 _ rfl,ksm e2 hq hr hgl h2⟩⟩
theorem kgr {gl:List Nat} (h2:gl.contains 2=true):ksl Tryz.prog gl 129 kfq:=by
 intro free H yk h ρ w lb hr hgl hv
 have hfree:∃b o,free=[.ptr b o]:=by
  unfold kfq at h
  split at h<;>try (cases h;done)
  exact⟨_,_,rfl⟩
 obtain⟨b,o,rfl⟩:=hfree
 obtain⟨v1,_,hl,⟨l1,h1,rfl⟩,he⟩:=hv
 simp only[VRs] at he
 subst he
 obtain rfl:lb=#[.pointer (some ⟨l1.blk,l1.base+o,none⟩)]:=Array.toList_inj.1 hl
 obtain⟨W0,H0,k,rfl,hk,hk0,hk1,hok,hrd⟩:=kfp h hr hgl h2 h1
 refine⟨⟨Tryz.f129,Tryz.func129,by kernel_rfl,by kernel_rfl⟩,(unI W0 H0 (3*k.toNat)).map unV,by simp,fun i y z hy hz=>?_,_,fun ρ' H' w' hle h' hr'=>?_,kdj hk hk0 hk1 hok w⟩
 ·simp only[List.getElem?_map,Option.map_eq_some_iff] at hy hz
  obtain⟨j,hj,rfl⟩:=hy
  obtain⟨j',hj',rfl⟩:=hz
  rw[hj] at hj'
  cases hj'
  exact⟨_,[],rfl,⟨_,rfl,_,_,rfl,rfl,_,_,rfl,rfl,rfl⟩,rfl⟩
 ·obtain⟨W1,H1,k',e1,_,_,_,_,g⟩:=kfp h' hr' (hgl.mono hle) h2 (hle _ _ h1)
  simp only[Prod.mk.injEq,List.cons.injEq,AV.int.injEq,true_and,and_true] at e1
  obtain⟨_,rfl,rfl⟩:=e1
  exact g
abbrev itsL:Its:=[(129,kfq)]
theorem itsL_ok {gl:List Nat} (h2:gl.contains 2=true:=by rfl):j3q Tryz.prog gl itsL:=fun f it h=>by
 simp only[itsL,kjw] at h
 obtain⟨h1,h2'⟩:=jah h
 rw[jaa,decide_eq_true_eq] at h1
 cases h2';subst h1
 exact kgr h2
end X
end Go.Vm
