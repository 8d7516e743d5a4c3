/-
  (rings.folded).beside: an iterator: what it hands out.
  (rings.folded).beside, told: for the machine and for the extraction.
-/
import Derived.RangeFuncFrom
import Derived.RangeFuncKeeps
import Derived.RangeFuncLeaves
import Derived.Shelf.Abstract
import Derived.Shelf.RegionOpen
import Derived.WalkKit
import Derived.OwnWalkIn
import Derived.TacticsInMore
import Derived.LoopNIn
import Derived.LoopIn
import Derived.Test.YtofimkliemlojaaVmWT
import Derived.Test.YtofimkliemlojaaVmWB
import Derived.Sort.BigQuietIn
import Derived.Test.YtofimkliemlojaaProg
import Derived.Test.YtofimkliemlojaaXG7
set_option linter.unusedSimpArgs false
set_option linter.unusedVariables false
set_option linter.unusedSectionVars false
set_option linter.unnecessarySimpa false
namespace Go.Proofs
open Go.RowKit Go.Shelf Go.Vm
attribute [local go_sem] Oper.semAt_some
namespace St
def besP (E:List Int) (cr:Nat) (i:Nat):Bool:= !decide (i=cr)&&(decide (E.getD (i+1) 0=E.getD (cr+1) 0)&&(decide (E.getD i 0 > E.getD (cr+1) 0)==decide (E.getD cr 0 > E.getD (cr+1) 0)))
def besL (k:Nat) (E:List Int) (cr:Nat):List Nat:=(List.range k).filter (besP E cr)
theorem bes_at {k i:Nat} {E:List Int} {cr:Nat} (hp:besP E cr i=true) (hi:i<k):
  ((besL k E cr).map fun(i:Nat)=>#[Value.int .i64 (i:Int)])[((List.range i).filter (besP E cr)).length]?=some #[Value.int .i64 (i:Int)]:=by
 have e:List.range k=List.range i++i::List.range' (i+1) (k-i-1):=by
  rw[List.range_eq_range',List.range_eq_range']
  have h1:=List.range'_append_1 (s:=0) (m:=i) (n:=k-i)
  rw[show i+ (k-i)=k by omega,Nat.zero_add] at h1
  rw[←h1,show k-i=(k-i-1)+1 by omega,List.range'_succ]
  rfl
 unfold besL
 rw[e,List.filter_append,List.filter_cons,if_pos hp,List.map_append,List.getElem?_append_right (by simp)]
 simp
structure BesRdy (b1 o1 b2 o2:Nat) (pk:Option Addr) (k ck b o c:Nat) (E:List Int) (cr:Nat) (W:World):Prop where
 lens:W.cell? ⟨b1,o1,none⟩=some (.slice pk k ck)
 ends:W.cell? ⟨b1,o1+2,none⟩=some (.slice (some ⟨b,o,none⟩) E.length c)
 at_:∀i (h:i<E.length),W.cell? ⟨b,o+i,none⟩=some (.int .i64 E[i])
 cr:W.cell? ⟨b2,o2,none⟩=some (.int .i64 cr)
set_option maxRecDepth 100000 in
set_option maxHeartbeats 2000000 in
theorem bes_it {b1 o1 b2 o2:Nat} {k:Nat} {E:List Int} {cr:Nat} (hk:k<E.length) (hc:cr+1<E.length) (hE:E.length≤1000000) (w:World):
  ItSpec Try.prog 71 #[.pointer (some ⟨b1,o1,none⟩),.pointer (some ⟨b2,o2,none⟩)] ((besL k E cr).map fun(i:Nat)=>#[Value.int .i64 (i:Int)]) (fun W=>∃pk ck b o c,BesRdy b1 o1 b2 o2 pk k ck b o c E cr W) w:=by
 intro l J Jx W hB hJ hJx hY hR h0
 have hm:Try.prog.follows .mixedOrders=true:=by kernel_rfl
 refine callsIn_of_wp Try.func71 rfl trivial ?_ rfl
 simp only[Try.ntmps71,List.size_toArray,List.length_cons,List.length_nil,Nat.reduceAdd,Nat.reduceSub,Array.replicate_succ,Array.replicate_zero,List.push_toArray,List.append_toArray,List.nil_append,List.cons_append]
 obtain⟨pk,ck,b0,o0,c0,hr0⟩:=hR 0 W h0
 have r0:=hr0.lens
 have r1:=hr0.ends
 have r2:=hr0.cr
 have r3:=hr0.at_ (cr+1) hc
 have j1:(0:Int)≤(cr:Int):=by omega
 have j2:(cr:Int)< (E.length:Int):=by omega
 have j3:(0:Int)≤(cr:Int)+1:=by omega
 have j4:(cr:Int)+1< (E.length:Int):=by omega
 have j5:IntKind.i64.wrap ((cr:Int)+1)=(cr:Int)+1:=_root_.Go.Vm.W.wrap_in (k:=.i64) (by simp only[_root_.Go.Vm.W.inR];omega)
 have j6:((cr:Int)+1).toNat=cr+1:=by omega
 gi_wp2
 gi_loopw [16] (fun vi wr=>∃i:Nat,vi=.int .i64 i∧i≤k∧J ((List.range i).filter (besP E cr)).length wr)
  (fun vi wr=>match vi with | .int _ i=>k-i.toNat | _=>0)
 case atStart=>exact⟨0,rfl,by omega,hJ _ _ _ h0 ⟨rfl,rfl,rfl,Nat.le_refl _,fun _ _=>rfl⟩⟩
 case round=>
  obtain⟨i,rfl,hi,hJi⟩:=hrel
  by_cases hlt:i<k
  ·obtain⟨pk',ck',b,o,c,hrd⟩:=hR _ _ hJi
   have r5:=hrd.ends
   have r6:=hrd.at_ i (by omega)
   have r7:=hrd.at_ (i+1) (by omega)
   have r8:=hrd.at_ cr (by omega)
   have r9:=hrd.cr
   have i1:(0:Int)≤(i:Int):=by omega
   have i2:(i:Int)< (E.length:Int):=by omega
   have i3:(0:Int)≤(i:Int)+1:=by omega
   have i4:(i:Int)+1< (E.length:Int):=by omega
   have i5:IntKind.i64.wrap ((i:Int)+1)=(i:Int)+1:=_root_.Go.Vm.W.wrap_in (k:=.i64) (by simp only[_root_.Go.Vm.W.inR];omega)
   have i6:((i:Int)+1).toNat=i+1:=by omega
   have hJd:∀q,J ((List.range i).filter (besP E cr)).length (wr.drewN q):=fun q=>hJ _ _ _ hJi ⟨rfl,rfl,rfl,Nat.le_refl _,fun _ _=>rfl⟩
   have ep:besP E cr i=(!decide (i=cr)&&(decide (E[i+1]=E[cr+1])&&(decide (E[i] > E[cr+1])==decide (E[cr] > E[cr+1])))):=by
    simp[besP,List.getD_eq_getElem?_getD,List.getElem?_eq_getElem (show i+1<E.length by omega),List.getElem?_eq_getElem (show i<E.length by omega),List.getElem?_eq_getElem (show cr+1<E.length by omega),List.getElem?_eq_getElem (show cr<E.length by omega)]
   gi_wp2
   rename_i Q1 K1 hK1 K2 hK2
   have hfin:∀(bv:Bool) (v19 v20 v21 v22 v23 v24 v25 v26 v27 v28 v29 v30 v31 v32 v33 v34 v35 v36 v37 v38 v39 v40 v41 v42 v43 v44 v45 v46 v47 v48 v49 v50 v51 v52 v53:Value) (W':World),((bv=true∧J ((List.range (i+1)).filter (besP E cr)).length W')∨(bv=false∧Jx W'))→
     K2 { tmps:=#[Value.func (Fn.yield l) #[] #[],Value.pointer (some ⟨b1,o1,none⟩),Value.pointer (some ⟨b2,o2,none⟩),undef,Value.int .i64 E[cr+1],Value.int .i64 i,Value.pointer (some ⟨b1,o1+2,none⟩),Value.slice (some ⟨b0,o0,none⟩) E.length c0,Value.int .i64 cr,Value.int .i64 ((cr:Int)+1),Value.pointer (some ⟨b0,o0+ (cr+1),none⟩),Value.int .i64 E[cr+1],Value.pointer (some ⟨b1,o1,none⟩),Value.pointer (some ⟨b1,o1,none⟩),Value.slice pk k ck,Value.int .i64 k,Value.int .i64 i,Value.bool true,Value.int .i64 i,v19,v20,v21,v22,v23,v24,v25,v26,v27,v28,v29,v30,v31,v32,v33,v34,v35,v36,v37,v38,v39,v40,v41,v42,v43,v44,v45,v46,v47,v48,v49,v50,v51,v52,v53,.bool (!bv),u55],defers:=[] } W':=by
    intro bv v19 v20 v21 v22 v23 v24 v25 v26 v27 v28 v29 v30 v31 v32 v33 v34 v35 v36 v37 v38 v39 v40 v41 v42 v43 v44 v45 v46 v47 v48 v49 v50 v51 v52 v53 W' hP
    refine hK2 _ _ ?_
    rcases hP with⟨rfl,hP⟩ | ⟨rfl,hP⟩
    ·gi_wp2
     go_roundw
     case rel=>exact⟨i+1,by simp,by omega,hP⟩
     case measure=>simp;omega
    ·gi_wp2
     refine bodyPost_ret (results_none rfl _ _ _) rfl ?_
     exact⟨⟨_,rfl⟩,.inr hP⟩
   have hno:besP E cr i=false→∀(v19 v20 v21 v22 v23 v24 v25 v26 v27 v28 v29 v30 v31 v32 v33 v34 v35 v36 v37 v38 v39 v40 v41 v42 v43 v44 v45 v46 v47 v48 v49 v50 v51 v52 v53:Value) (q:Nat),K2 { tmps:=#[Value.func (Fn.yield l) #[] #[],Value.pointer (some ⟨b1,o1,none⟩),Value.pointer (some ⟨b2,o2,none⟩),undef,Value.int .i64 E[cr+1],Value.int .i64 i,Value.pointer (some ⟨b1,o1+2,none⟩),Value.slice (some ⟨b0,o0,none⟩) E.length c0,Value.int .i64 cr,Value.int .i64 ((cr:Int)+1),Value.pointer (some ⟨b0,o0+ (cr+1),none⟩),Value.int .i64 E[cr+1],Value.pointer (some ⟨b1,o1,none⟩),Value.pointer (some ⟨b1,o1,none⟩),Value.slice pk k ck,Value.int .i64 k,Value.int .i64 i,Value.bool true,Value.int .i64 i,v19,v20,v21,v22,v23,v24,v25,v26,v27,v28,v29,v30,v31,v32,v33,v34,v35,v36,v37,v38,v39,v40,v41,v42,v43,v44,v45,v46,v47,v48,v49,v50,v51,v52,v53,.bool false,u55],defers:=[] } (wr.drewN q):=by
    intro hp v19 v20 v21 v22 v23 v24 v25 v26 v27 v28 v29 v30 v31 v32 v33 v34 v35 v36 v37 v38 v39 v40 v41 v42 v43 v44 v45 v46 v47 v48 v49 v50 v51 v52 v53 q
    refine hK2 _ _ ?_
    gi_wp2
    go_roundw
    case rel=>exact⟨i+1,by simp,by omega,by rw[List.range_succ,List.filter_append,List.filter_cons,if_neg (by rw[hp];simp),List.filter_nil,List.append_nil];exact hJd q⟩
    case measure=>simp;omega
   by_cases hp:besP E cr i=true
   ·have hp':=hp
    rw[ep] at hp'
    simp only[Bool.and_eq_true,Bool.not_eq_true',decide_eq_true_eq,decide_eq_false_iff_not,beq_iff_eq] at hp'
    obtain⟨p0,p1,p2⟩:=hp'
    have p00:((i:Int) != (cr:Int))=true:=by simp;omega
    refine region_split (m:=33) (d:=3) rfl hm (by kernel_rfl) rfl (by kernel_rfl) rfl (R:=fun a' w'=>(∃(v19 v20 v21 v22 v23 v24 v25 v26 v27 v28 v29 v30 v31 v32 v33 v34 v35 v36 v37 v38 v39 v40 v41 v42 v43 v44 v45 v46 v47 v48:Value),a'={ tmps:=#[Value.func (Fn.yield l) #[] #[],Value.pointer (some ⟨b1,o1,none⟩),Value.pointer (some ⟨b2,o2,none⟩),undef,Value.int .i64 E[cr+1],Value.int .i64 i,Value.pointer (some ⟨b1,o1+2,none⟩),Value.slice (some ⟨b0,o0,none⟩) E.length c0,Value.int .i64 cr,Value.int .i64 ((cr:Int)+1),Value.pointer (some ⟨b0,o0+ (cr+1),none⟩),Value.int .i64 E[cr+1],Value.pointer (some ⟨b1,o1,none⟩),Value.pointer (some ⟨b1,o1,none⟩),Value.slice pk k ck,Value.int .i64 k,Value.int .i64 i,Value.bool true,Value.int .i64 i,v19,v20,v21,v22,v23,v24,v25,v26,v27,v28,v29,v30,v31,v32,v33,v34,v35,v36,v37,v38,v39,v40,v41,v42,v43,v44,v45,v46,v47,v48,.bool true,.func (.yield l) #[] #[],.int .i64 i,u52,u53,u54,u55],defers:=[] })∧∃n,w'=wr.drewN n) ?_ ?_
    ·simp only[List.extract_toArray,List.extract_eq_take_drop,List.drop_zero,Nat.sub_zero,List.take_succ_cons,List.take_zero]
     by_cases p4:E[cr] > E[cr+1]
     ·have p7:E[cr+1] <E[cr]:=p4
      have p8:E[cr+1] <E[i]:=by
       have p6:decide (E[cr] > E[cr+1])=true:=by simpa using p4
       rw[p6] at p2
       simpa using p2
      repeat (gi_big_quiet_step (fail))
      refine wpQuietIn_nil ?_
      exact fun w' hw'=>⟨⟨_,_,_,_,_,_,_,_,_,_,_,_,_,_,_,_,_,_,_,_,_,_,_,_,_,_,_,_,_,_,rfl⟩,hw'⟩
     ·have p7:¬(E[cr+1] <E[cr]):=p4
      have p8:¬(E[cr+1] <E[i]):=by
       have p6:decide (E[cr] > E[cr+1])=false:=by simpa using p4
       rw[p6] at p2
       simpa using p2
      repeat (gi_big_quiet_step (fail))
      refine wpQuietIn_nil ?_
      exact fun w' hw'=>⟨⟨_,_,_,_,_,_,_,_,_,_,_,_,_,_,_,_,_,_,_,_,_,_,_,_,_,_,_,_,_,_,rfl⟩,hw'⟩
    ·rintro _ _ ⟨⟨v19,v20,v21,v22,v23,v24,v25,v26,v27,v28,v29,v30,v31,v32,v33,v34,v35,v36,v37,v38,v39,v40,v41,v42,v43,v44,v45,v46,v47,v48,rfl⟩,q,rfl⟩ f
     obtain⟨fn,tmps,assign,body,hy,hR1⟩:=hY _ #[Value.int .i64 (i:Int)] (wr.drewN q) (bes_at hp hlt) (hJd q)
     have hR2:RoundIn (Fr none) 2 Try.prog l fn tmps assign body (wr.drewN q) fun e W'=>∃bv,e=.returned (.bool bv)∧((bv=true∧J ((List.range (i+1)).filter (besP E cr)).length W')∨(bv=false∧Jx W')):=by
      refine hR1.mono ?_
      rintro e W' (⟨rfl,h⟩ | ⟨rfl,h⟩)
      ·refine⟨true,rfl,.inl ⟨rfl,?_⟩⟩
       rw[List.range_succ,List.filter_append,List.filter_cons,if_pos hp]
       simpa using h
      ·exact⟨false,rfl,.inr ⟨rfl,h⟩⟩
     refine wpAnyIn_ready (rs:=[33]) (by kernel_rfl) (by simp) (AllReadyIn.cons rfl (fun K hK=>?_) AllReadyIn.nil)
     go_simp
     refine RoundIn.mono hR2 ?_
     rintro e W' ⟨bv,rfl,hP⟩
     refine hK _ _ ?_
     refine wpAnyIn_ready (rs:=[34]) (by kernel_rfl) (by simp) (AllReadyIn.cons rfl (fun K hK=>?_) AllReadyIn.nil)
     go_simp
     refine hK _ _ ?_
     refine wpAnyIn_ready (rs:=[35]) (by kernel_rfl) (by simp) (AllReadyIn.cons rfl (fun K hK=>?_) AllReadyIn.nil)
     go_simp
     refine hK _ _ ?_
     exact wpAnyIn_done (by kernel_rfl) (hfin bv _ _ _ _ _ _ _ _ _ _ _ _ _ _ _ _ _ _ _ _ _ _ _ _ _ _ _ _ _ _ _ _ _ _ _ W' hP) _
   ·have hp:besP E cr i=false:=by simpa using hp
    refine region_split (m:=33) (d:=3) rfl hm (by kernel_rfl) rfl (by kernel_rfl) rfl (R:=fun a' w'=>(∃(v19 v20 v21 v22 v23 v24 v25 v26 v27 v28 v29 v30 v31 v32 v33 v34 v35 v36 v37 v38 v39 v40 v41 v42 v43 v44 v45 v46 v47 v48 v50 v51:Value),a'={ tmps:=#[Value.func (Fn.yield l) #[] #[],Value.pointer (some ⟨b1,o1,none⟩),Value.pointer (some ⟨b2,o2,none⟩),undef,Value.int .i64 E[cr+1],Value.int .i64 i,Value.pointer (some ⟨b1,o1+2,none⟩),Value.slice (some ⟨b0,o0,none⟩) E.length c0,Value.int .i64 cr,Value.int .i64 ((cr:Int)+1),Value.pointer (some ⟨b0,o0+ (cr+1),none⟩),Value.int .i64 E[cr+1],Value.pointer (some ⟨b1,o1,none⟩),Value.pointer (some ⟨b1,o1,none⟩),Value.slice pk k ck,Value.int .i64 k,Value.int .i64 i,Value.bool true,Value.int .i64 i,v19,v20,v21,v22,v23,v24,v25,v26,v27,v28,v29,v30,v31,v32,v33,v34,v35,v36,v37,v38,v39,v40,v41,v42,v43,v44,v45,v46,v47,v48,.bool false,v50,v51,u52,u53,u54,u55],defers:=[] })∧∃n,w'=wr.drewN n) ?_ ?_
    ·simp only[List.extract_toArray,List.extract_eq_take_drop,List.drop_zero,Nat.sub_zero,List.take_succ_cons,List.take_zero]
     by_cases p0:i=cr
     ·have p00:((i:Int) != (cr:Int))=false:=by simp;omega
      repeat (gi_big_quiet_step (fail))
      refine wpQuietIn_nil ?_
      exact fun w' hw'=>⟨⟨_,_,_,_,_,_,_,_,_,_,_,_,_,_,_,_,_,_,_,_,_,_,_,_,_,_,_,_,_,_,_,_,rfl⟩,hw'⟩
     ·have p00:((i:Int) != (cr:Int))=true:=by simp;omega
      by_cases p1:E[i+1]=E[cr+1]
      ·have p2:(decide (E[i] > E[cr+1])==decide (E[cr] > E[cr+1]))=false:=by rw[ep] at hp;simpa[p1,p0] using hp
       by_cases p4:E[cr] > E[cr+1]
       ·have p7:E[cr+1] <E[cr]:=p4
        have p8:¬(E[cr+1] <E[i]):=by
         have p6:decide (E[cr] > E[cr+1])=true:=by simpa using p4
         rw[p6] at p2
         simpa using p2
        repeat (gi_big_quiet_step (fail))
        refine wpQuietIn_nil ?_
        exact fun w' hw'=>⟨⟨_,_,_,_,_,_,_,_,_,_,_,_,_,_,_,_,_,_,_,_,_,_,_,_,_,_,_,_,_,_,_,_,rfl⟩,hw'⟩
       ·have p7:¬(E[cr+1] <E[cr]):=p4
        have p8:E[cr+1] <E[i]:=by
         have p6:decide (E[cr] > E[cr+1])=false:=by simpa using p4
         rw[p6] at p2
         simpa using p2
        repeat (gi_big_quiet_step (fail))
        refine wpQuietIn_nil ?_
        exact fun w' hw'=>⟨⟨_,_,_,_,_,_,_,_,_,_,_,_,_,_,_,_,_,_,_,_,_,_,_,_,_,_,_,_,_,_,_,_,rfl⟩,hw'⟩
      ·have p5:(E[i+1]==E[cr+1])=false:=by simpa using p1
       repeat (gi_big_quiet_step (fail))
       refine wpQuietIn_nil ?_
       exact fun w' hw'=>⟨⟨_,_,_,_,_,_,_,_,_,_,_,_,_,_,_,_,_,_,_,_,_,_,_,_,_,_,_,_,_,_,_,_,rfl⟩,hw'⟩
    ·rintro _ _ ⟨⟨v19,v20,v21,v22,v23,v24,v25,v26,v27,v28,v29,v30,v31,v32,v33,v34,v35,v36,v37,v38,v39,v40,v41,v42,v43,v44,v45,v46,v47,v48,v50,v51,rfl⟩,q,rfl⟩ f
     refine wpAnyIn_ready (rs:=[33]) (by kernel_rfl) (by simp) (AllReadyIn.cons rfl (fun K hK=>?_) AllReadyIn.nil)
     simp only[Region.wanted]
     refine⟨fun _ _=>trivial,hK _ _ ?_⟩
     refine wpAnyIn_ready (rs:=[34]) (by kernel_rfl) (by simp) (AllReadyIn.cons rfl (fun K hK=>?_) AllReadyIn.nil)
     go_simp
     refine hK _ _ ?_
     refine wpAnyIn_ready (rs:=[35]) (by kernel_rfl) (by simp) (AllReadyIn.cons rfl (fun K hK=>?_) AllReadyIn.nil)
     go_simp
     refine hK _ _ ?_
     exact wpAnyIn_done (by kernel_rfl) (hno hp _ _ _ _ _ _ _ _ _ _ _ _ _ _ _ _ _ _ _ _ _ _ _ _ _ _ _ _ _ _ _ _ _ _ _ q) _
  ·have hik:i=k:=by omega
   subst hik
   gi_wp2
   go_end0
   exact⟨⟨_,rfl⟩,.inl (by rw[List.length_map];exact hJi)⟩
end St
end Go.Proofs
namespace Go.Vm
namespace X
open W Go.Proofs Go.Proofs.St
def slLen:AV→Option Nat
 | .sl _ _ k _ _=>some k
 | .nils=>some 0
 | _=>none
def rd1 (H:Tr Blk) (b o n:Nat):Option (List AV):=match H.get b with
 | some (.cells c m)=>bif(o+n).ble m then take c o n else none
 | _=>none
def rdI (H:Tr Blk) (b o n:Nat):Option (List Int):=match H.get b with
 | some (.cells c m)=>bif(o+n).ble m then rdInts c o n else none
 | _=>none
def besMF:ItF:=fun free H=>match free with
 | [.ptr b1 o1,.ptr b2 o2]=>match rd1 H b1 o1 3,rd1 H b2 o2 1 with
   | some [K,_,.sl b o n cap z],some [.int .i64 (.ofNat cr)]=>match slLen K,rdI H b o n with
     | some k,some E=>bif z.beq 1&&k.blt n&&(cr+1).blt n&&n.ble 1000000 then some ((besL k E cr).map (fun(i:Nat)=>[.int .i64 (i:Int)]),.int .i64 k:: .int .i64 cr::E.map (AV.int .i64)) else none
     | _,_=>none
   | _,_=>none
 | _=>none
theorem take_atR {c:Tr AV} {l:List AV} (h:∀i,i<l.length→c.get i=l[i]?):∀n o,o+n≤l.length→take c o n=some ((l.drop o).take n)
 | 0,o,_=>by simp[take]
 | n+1,o,hn=>by
   have ih:=take_atR h n (o+1) (by omega)
   simp only[take]
   rw[h o (by omega),List.getElem?_eq_getElem (show o<l.length by omega)]
   simp only[ih]
   rw[List.drop_eq_getElem_cons (show o<l.length by omega),List.take_succ_cons]
theorem rd1_at {H:Tr Blk} {b:Nat} {m:List AV} {n:Nat} (h:HB.At H b (.cells m)) (hn:m.length=n):rd1 H b 0 n=some m:=by
 obtain⟨c,h1,h2⟩:=h
 have e:(0+n).ble m.length=true:=by rw[ble_dec];simp[hn]
 simp only[rd1,h1,e,cond_true]
 rw[take_atR h2 n 0 (by omega),List.drop_zero,←hn,List.take_length]
def tFold:Ty:=.prod (.prod (.sl (.int .i64)) (.sl (.int .u8))) (.sl (.int .i64))
def besRun (x:CapD [tFold,.int .i64]):Option (List Int):=
 bif Nat.blt (List.length (α:=Int) x.1.1.1) (List.length (α:=Int) x.1.2)&&decide ((0:Int)≤x.2.1)&&Nat.blt (x.2.1.toNat+1) (List.length (α:=Int) x.1.2)&&Nat.ble (List.length (α:=Int) x.1.2) 1000000 then some ((besL (List.length (α:=Int) x.1.1.1) x.1.2 x.2.1.toNat).map fun(i:Nat)=>(i:Int)) else none
theorem blt_of {a b:Nat} (h:a.blt b=true):a<b:=by
 have:(a+1).ble b=true:=h
 rw[ble_dec,decide_eq_true_eq] at this
 exact this
theorem bes_ok (F:Facts) (H:Tr Blk) (cap:CapD [tFold,.int .i64]) (free:List AV) (l:List Int) (h:CapR F H [tFold,.int .i64] cap free) (hF:∀x∈F,x.2.At H x.1) (hr:besRun cap=some l):
  besMF free H=some (l.map (fun y=>[encV (.int .i64) y]),.int .i64 (List.length (α:=Int) cap.1.1.1):: .int .i64 cap.2.1::cap.1.2.map (AV.int .i64)):=by
 obtain⟨b1,m1,_,rfl,a1,r1,b2,m2,_,rfl,a2,r2,hn⟩:=h
 simp only[CapR] at hn
 subst hn
 obtain⟨⟨⟨L,K⟩,E⟩,t,u⟩:=cap
 obtain⟨_,_,rfl,⟨_,_,rfl,⟨vL,rfl,hL⟩,vK,rfl,hK⟩,vE,rfl,hE⟩:=r1
 simp only[RelC] at r2
 subst r2
 unfold besRun at hr
 obtain⟨hc,hr⟩:=of_bif hr
 cases hr
 simp only[Bool.and_eq_true] at hc
 obtain⟨⟨⟨hc1,hc0⟩,hc3⟩,hc2⟩:=hc
 have hc0:(0:Int)≤t:=of_decide_eq_true hc0
 obtain⟨cr,rfl⟩:∃m:Nat,t=(m:Int):=⟨t.toNat,(Int.toNat_of_nonneg hc0).symm⟩
 have hlt:List.length (α:=Int) L<List.length (α:=Int) E:=blt_of hc1
 have eK:slLen vL=some (List.length (α:=Int) L):=by
  rcases hL with⟨h1,rfl⟩ | ⟨_,_,_,_,rfl,_⟩
  ·rw[show L=[] from h1];rfl
  ·rfl
 rcases hE with⟨h1,_⟩ | ⟨b,o,cp,c,rfl,hf,_,hb,hR⟩
 ·rw[show E=[] from h1] at hlt;simp at hlt
 ·have hat:=hF _ hf
  obtain⟨tc,g1,g2⟩:=hat
  have eE:rdI H b o (List.length (α:=Int) E)=some E:=by
   have e1:(o+List.length (α:=Int) E).ble c.length=true:=by
    rw[ble_dec]
    have hb':o+List.length (α:=Int) E*1≤c.length:=hb
    simp;omega
   simp only[rdI,g1,e1,cond_true]
   refine rdInts_of (L:=E) (o:=o) (c:=tc) fun i hi=>?_
   have hR':∀(E:List Int) (cs:List AV),RelL (RelC F (.int .i64)) E cs→cs=E.map (AV.int .i64):=by
    intro E
    induction E with
    | nil=>intro cs h;exact h
    | cons x E ih=>
      rintro cs ⟨l1,l2,rfl,h1,h2⟩
      simp only[RelC] at h1
      rw[h1,ih _ h2];rfl
   have:=hR' E _ hR
   have hb':o+List.length (α:=Int) E*1≤c.length:=hb
   rw[g2 (o+i) (by omega)]
   have e3:c[o+i]?=((c.drop o).take (List.length (α:=Int) E*1))[i]?:=by
    rw[List.getElem?_take,if_pos (by omega),List.getElem?_drop]
   rw[e3]
   have e4:(c.drop o).take (List.length (α:=Int) E*1)=E.map (AV.int .i64):=this
   rw[e4,List.getElem?_map,List.getElem?_eq_getElem hi]
   rfl
  have e9:((1:Nat).beq 1&&(List.length (α:=Int) L).blt (List.length (α:=Int) E)&&(cr+1).blt (List.length (α:=Int) E)&&(List.length (α:=Int) E).ble 1000000)=true:=by
   have hc3:(cr+1).blt (List.length (α:=Int) E)=true:=hc3
   rw[hc1,hc2,hc3];rfl
  show besMF [.ptr b1 0,.ptr b2 0] H=_
  simp only[besMF,rd1_at a1 (n:=3) rfl,rd1_at a2 (n:=1) rfl,eK,List.nil_append,List.cons_append]
  show(match some (List.length (α:=Int) L),rdI H b o (List.length (α:=Int) E) with
   | some k,some E'=>_
   | _,_=>none)=_
  erw[eE]
  simp only[Ty.size]
  erw[e9]
  simp only[cond_true,List.map_map]
  rfl
def itBes:ITE:=⟨71,[tFold,.int .i64],.int .i64,besRun,besMF,fun cap=>.int .i64 (List.length (α:=Int) cap.1.1.1):: .int .i64 cap.2.1::cap.1.2.map (AV.int .i64),bes_ok⟩
theorem rd1_sound {ρ:RM} {H:Tr Blk} {w:World} {b o n:Nat} {l:List AV} {lc:Loc} (h:rd1 H b o n=some l) (hr:HR ρ H w) (hb:ρ b=some lc):
  ∃vs:List Value,VRs ρ l vs∧∀j v,vs[j]?=some v→w.cell? ⟨lc.blk,lc.base+o+j,none⟩=some v:=by
 unfold rd1 at h
 split at h<;>try (cases h;done)
 rename_i c m hc
 obtain⟨hm,h2⟩:=of_bif h
 rw[ble_dec,decide_eq_true_eq] at hm
 obtain⟨vs,h3,_,h4,_⟩:=cells_read (P:=Try.prog) hr hc hb hm h2
 refine⟨vs,h3,fun j v hv=>?_⟩
 have:=h4 j v hv
 rw[add_off] at this
 exact this
theorem rdI_sound {ρ:RM} {H:Tr Blk} {w:World} {b o n:Nat} {E:List Int} {lc:Loc} (h:rdI H b o n=some E) (hr:HR ρ H w) (hb:ρ b=some lc):
  E.length=n∧∀i (h:i<E.length),w.cell? ⟨lc.blk,lc.base+o+i,none⟩=some (.int .i64 E[i]):=by
 unfold rdI at h
 split at h<;>try (cases h;done)
 rename_i c m hc
 obtain⟨hm,h2⟩:=of_bif h
 rw[ble_dec,decide_eq_true_eq] at hm
 obtain⟨g1,g2⟩:=rdInts_at h2
 refine⟨g1,fun i hi=>?_⟩
 obtain⟨cs,elem,fr,q1,_,_,_,q5⟩:=hr.blk b _ lc hc hb
 obtain⟨a,v,a1,a2,a3⟩:=q5 (o+i) (by omega)
 rw[g2 i hi] at a1
 cases a1
 simp only[VR] at a3
 simp only[World.cell?,q1]
 subst a3
 simpa[Nat.add_assoc] using a2
theorem slLen_sound {ρ:RM} {a:AV} {k:Nat} {v:Value} (h:slLen a=some k) (hv:VR ρ a v):∃pk ck,v=.slice pk k ck:=by
 cases a<;>simp only[slLen,reduceCtorEq,Option.some.injEq] at h
 ·subst h
  obtain⟨l,c,off,_,rfl,_⟩:=hv
  exact⟨_,_,rfl⟩
 ·subst h
  simp only[VR] at hv
  exact⟨_,_,hv⟩
theorem bes_rdy {ρ:RM} {H:Tr Blk} {w:World} {b1 o1 b2 o2:Nat} {l1 l2:Loc} {yk:List (List AV)×List AV} (h:besMF [.ptr b1 o1,.ptr b2 o2] H=some yk) (hr:HR ρ H w) (h1:ρ b1=some l1) (h2:ρ b2=some l2):
  ∃k E cr,yk=((besL k E cr).map (fun(i:Nat)=>[AV.int .i64 (i:Int)]),.int .i64 k:: .int .i64 cr::E.map (AV.int .i64))∧k<E.length∧cr+1<E.length∧E.length≤1000000∧
   ∃pk ck b o c,BesRdy l1.blk (l1.base+o1) l2.blk (l2.base+o2) pk k ck b o c E cr w:=by
 simp only[besMF] at h
 split at h<;>try (cases h;done)
 rename_i vL K b o n cap z cr e1 e2
 split at h<;>try (cases h;done)
 rename_i k E e4 e5
 obtain⟨hc,h⟩:=of_bif h
 cases h
 simp only[Bool.and_eq_true,ble_dec,decide_eq_true_eq] at hc
 obtain⟨⟨⟨_,hc1⟩,hc3⟩,hc2⟩:=hc
 have hlt:=blt_of hc1
 have hlt3:=blt_of hc3
 obtain⟨vs1,⟨w0,_,rfl,g0,w1,_,rfl,g1,w2,_,rfl,g2,g3⟩,k1⟩:=rd1_sound e1 hr h1
 simp only[VRs] at g3
 subst g3
 obtain⟨vs2,⟨u0,_,rfl,q0,q1⟩,k2⟩:=rd1_sound e2 hr h2
 simp only[VRs] at q1
 subst q1
 simp only[VR] at q0
 subst q0
 obtain⟨pk,ck,rfl⟩:=slLen_sound e4 g0
 obtain⟨lb,c,off,hb,rfl,hnc,_,hoff,_⟩:=g2
 obtain⟨n1,n2⟩:=rdI_sound e5 hr hb
 subst n1
 obtain rfl:off=lb.base+o:=by rcases hoff with h | h;exact h;omega
 exact⟨k,E,cr,rfl,hlt,hlt3,hc2,pk,ck,lb.blk,lb.base+o,c,k1 0 _ rfl,k1 2 _ rfl,n2,k2 0 _ rfl⟩
theorem bes_itok {gl:List Nat}:ItOK Try.prog gl 71 besMF:=by
 intro free H yk h ρ w lb hr hgl hv
 have hfree:∃b1 o1 b2 o2,free=[.ptr b1 o1,.ptr b2 o2]:=by
  unfold besMF at h
  split at h<;>try (cases h;done)
  exact⟨_,_,_,_,rfl⟩
 obtain⟨b1,o1,b2,o2,rfl⟩:=hfree
 obtain⟨v1,_,hl,⟨l1,h1,rfl⟩,v2,_,rfl,⟨l2,h2,rfl⟩,he⟩:=hv
 simp only[VRs] at he
 subst he
 obtain rfl:lb=#[.pointer (some ⟨l1.blk,l1.base+o1,none⟩),.pointer (some ⟨l2.blk,l2.base+o2,none⟩)]:=Array.toList_inj.1 hl
 obtain⟨k,E,cr,rfl,hk,hc,hE,hrd⟩:=bes_rdy h hr h1 h2
 refine⟨⟨Try.f71,Try.func71,by kernel_rfl,by kernel_rfl⟩,(besL k E cr).map (fun(i:Nat)=>#[Value.int .i64 (i:Int)]),by simp,fun i y z hy hz=>?_,_,fun ρ' H' w' hle h' hr'=>?_,bes_it hk hc hE w⟩
 ·simp only[List.getElem?_map,Option.map_eq_some_iff] at hy hz
  obtain⟨j,hj,rfl⟩:=hy
  obtain⟨j',hj',rfl⟩:=hz
  rw[hj] at hj'
  cases hj'
  exact⟨_,[],rfl,rfl,rfl⟩
 ·obtain⟨k',E',cr',e1,_,_,_,g⟩:=bes_rdy h' hr' (hle _ _ h1) (hle _ _ h2)
  simp only[Prod.mk.injEq,List.cons.injEq,AV.int.injEq,true_and] at e1
  obtain⟨_,ek,ec,eE⟩:=e1
  have ek':k'=k:=by omega
  have ec':cr'=cr:=by omega
  subst ek';subst ec'
  have:E'=E:=by
   have:=congrArg (List.map fun a=>match a with | AV.int _ n=>n | _=>0) eE
   simpa[List.map_map,Function.comp_def] using this.symm
  subst this
  exact g
abbrev itsL:Its:=[(71,besMF)]
theorem itsL_ok {gl:List Nat}:ItsOK Try.prog gl itsL:=fun f it h=>by
 simp only[itsL,itOf] at h
 obtain⟨h1,h2⟩:=of_bif h
 rw[beq_dec,decide_eq_true_eq] at h1
 cases h2;subst h1
 exact bes_itok
end X
end Go.Vm
