/-
  (rings.folded).beside: an iterator: what it hands out.
  (rings.folded).beside, jk9: for the machine and for the extraction.
  piles.loops: an iterator: what it hands out.
  piles.loops, jk9: for the machine and for the extraction.
  The iterators of the chapter.
-/
import Derived.Shelf.RegionOpen
import Derived.WalkKit
import Derived.LoopIn
import Derived.Test.YtofimkliemlojaaGreatDoorProg
import Derived.Test.YtofimkliemlojaaGreatDoorXG7
set_option linter.unusedSimpArgs false
set_option linter.unusedVariables false
set_option linter.unusedSectionVars false
set_option linter.unnecessarySimpa false
namespace Go.Proofs
open Go.RowKit Go.Shelf Go.Vm
attribute [local go_sem] Oper.semAt_some
namespace St
def j9m (E:List Int) (cr:Nat) (i:Nat):Bool:= !decide (i=cr)&&(decide (E.getD (i+1) 0=E.getD (cr+1) 0)&&(decide (E.getD i 0 > E.getD (cr+1) 0)==decide (E.getD cr 0 > E.getD (cr+1) 0)))
def kdi (k:Nat) (E:List Int) (cr:Nat):List Nat:=(List.range k).filter (j9m E cr)
theorem km0 {k i:Nat} {E:List Int} {cr:Nat} (hp:j9m E cr i=true) (hi:i<k):
  ((kdi k E cr).map fun(i:Nat)=>#[Value.int .i64 (i:Int)])[((List.range i).filter (j9m E cr)).length]?=some #[Value.int .i64 (i:Int)]:=by
 have e:List.range k=List.range i++i::List.range' (i+1) (k-i-1):=by
  rw[List.range_eq_range',List.range_eq_range']
  have h1:=List.range'_append_1 (s:=0) (m:=i) (n:=k-i)
  rw[show i+ (k-i)=k by omega,Nat.zero_add] at h1
  rw[←h1,show k-i=(k-i-1)+1 by omega,List.range'_succ]
  rfl
 unfold kdi
 rw[e,List.filter_append,List.filter_cons,if_pos hp,List.map_append,List.getElem?_append_right (by simp)]
 simp
structure BesRdy (b1 o1 b2 o2:Nat) (pk:Option Addr) (k ck b o c:Nat) (E:List Int) (cr:Nat) (W:World):Prop where
 lens:W.cell? ⟨b1,o1,none⟩=some (.slice pk k ck)
 ends:W.cell? ⟨b1,o1+2,none⟩=some (.slice (some ⟨b,o,none⟩) E.length c)
 at_:∀i (h:i<E.length),W.cell? ⟨b,o+i,none⟩=some (.int .i64 E[i])
 cr:W.cell? ⟨b2,o2,none⟩=some (.int .i64 cr)
set_option maxRecDepth 100000 in
set_option maxHeartbeats 2000000 in
theorem kmz {b1 o1 b2 o2:Nat} {k:Nat} {E:List Int} {cr:Nat} (hk:k<E.length) (hc:cr+1<E.length) (hE:E.length≤1000000) (w:World):
  j8j Tryz.prog 90 #[.pointer (some ⟨b1,o1,none⟩),.pointer (some ⟨b2,o2,none⟩)] ((kdi k E cr).map fun(i:Nat)=>#[Value.int .i64 (i:Int)]) (fun W=>∃pk ck b o c,BesRdy b1 o1 b2 o2 pk k ck b o c E cr W) w:=by
 intro l J Jx W hB hJ hJx hY hR h0
 have hm:Tryz.prog.follows .mixedOrders=true:=by kernel_rfl
 refine callsIn_of_wp Tryz.func90 rfl trivial ?_ rfl
 simp only[Tryz.ntmps90,List.size_toArray,List.length_cons,List.length_nil,Nat.reduceAdd,Nat.reduceSub,Array.replicate_succ,Array.replicate_zero,List.push_toArray,List.append_toArray,List.nil_append,List.cons_append]
 obtain⟨pk,ck,b0,o0,c0,hr0⟩:=hR 0 W h0
 have r0:=hr0.lens
 have r1:=hr0.ends
 have r2:=hr0.cr
 have r3:=hr0.at_ (cr+1) hc
 have j1:(0:Int)≤(cr:Int):=by omega
 have j2:(cr:Int)< (E.length:Int):=by omega
 have j3:(0:Int)≤(cr:Int)+1:=by omega
 have j4:(cr:Int)+1< (E.length:Int):=by omega
 have j5:IntKind.i64.wrap ((cr:Int)+1)=(cr:Int)+1:=_root_.Go.Vm.W.wrap_in (k:=.i64) (by simp only[_root_.Go.Vm.W.inR];omega)
 have j6:((cr:Int)+1).toNat=cr+1:=by omega
 gi_wp2
 gi_loopw [16] (fun vi wr=>∃i:Nat,vi=.int .i64 i∧i≤k∧J ((List.range i).filter (j9m E cr)).length wr)
  (fun vi wr=>match vi with | .int _ i=>k-i.toNat | _=>0)
 case atStart=>exact⟨0,rfl,by omega,hJ _ _ _ h0 ⟨rfl,rfl,rfl,Nat.le_refl _,fun _ _=>rfl⟩⟩
 case round=>
  obtain⟨i,rfl,hi,hJi⟩:=hrel
  by_cases hlt:i<k
  ·obtain⟨pk',ck',b,o,c,hrd⟩:=hR _ _ hJi
   have r5:=hrd.ends
   have r6:=hrd.at_ i (by omega)
   have r7:=hrd.at_ (i+1) (by omega)
   have r8:=hrd.at_ cr (by omega)
   have r9:=hrd.cr
   have i1:(0:Int)≤(i:Int):=by omega
   have i2:(i:Int)< (E.length:Int):=by omega
   have i3:(0:Int)≤(i:Int)+1:=by omega
   have i4:(i:Int)+1< (E.length:Int):=by omega
   have i5:IntKind.i64.wrap ((i:Int)+1)=(i:Int)+1:=_root_.Go.Vm.W.wrap_in (k:=.i64) (by simp only[_root_.Go.Vm.W.inR];omega)
   have i6:((i:Int)+1).toNat=i+1:=by omega
   have hJd:∀q,J ((List.range i).filter (j9m E cr)).length (wr.drewN q):=fun q=>hJ _ _ _ hJi ⟨rfl,rfl,rfl,Nat.le_refl _,fun _ _=>rfl⟩
   have ep:j9m E cr i=(!decide (i=cr)&&(decide (E[i+1]=E[cr+1])&&(decide (E[i] > E[cr+1])==decide (E[cr] > E[cr+1])))):=by
    simp[j9m,List.getD_eq_getElem?_getD,List.getElem?_eq_getElem (show i+1<E.length by omega),List.getElem?_eq_getElem (show i<E.length by omega),List.getElem?_eq_getElem (show cr+1<E.length by omega),List.getElem?_eq_getElem (show cr<E.length by omega)]
   gi_wp2
   rename_i Q1 K1 hK1 K2 hK2
   have hfin:∀(bv:Bool) (v19 v20 v21 v22 v23 v24 v25 v26 v27 v28 v29 v30 v31 v32 v33 v34 v35 v36 v37 v38 v39 v40 v41 v42 v43 v44 v45 v46 v47 v48 v49 v50 v51 v52 v53:Value) (W':World),((bv=true∧J ((List.range (i+1)).filter (j9m E cr)).length W')∨(bv=false∧Jx W'))→
     K2 { tmps:=#[Value.func (Fn.yield l) #[] #[],Value.pointer (some ⟨b1,o1,none⟩),Value.pointer (some ⟨b2,o2,none⟩),undef,Value.int .i64 E[cr+1],Value.int .i64 i,Value.pointer (some ⟨b1,o1+2,none⟩),Value.slice (some ⟨b0,o0,none⟩) E.length c0,Value.int .i64 cr,Value.int .i64 ((cr:Int)+1),Value.pointer (some ⟨b0,o0+ (cr+1),none⟩),Value.int .i64 E[cr+1],Value.pointer (some ⟨b1,o1,none⟩),Value.pointer (some ⟨b1,o1,none⟩),Value.slice pk k ck,Value.int .i64 k,Value.int .i64 i,Value.bool true,Value.int .i64 i,v19,v20,v21,v22,v23,v24,v25,v26,v27,v28,v29,v30,v31,v32,v33,v34,v35,v36,v37,v38,v39,v40,v41,v42,v43,v44,v45,v46,v47,v48,v49,v50,v51,v52,v53,.bool (!bv),u55],defers:=[] } W':=by
    intro bv v19 v20 v21 v22 v23 v24 v25 v26 v27 v28 v29 v30 v31 v32 v33 v34 v35 v36 v37 v38 v39 v40 v41 v42 v43 v44 v45 v46 v47 v48 v49 v50 v51 v52 v53 W' hP
    refine hK2 _ _ ?_
    rcases hP with⟨rfl,hP⟩ | ⟨rfl,hP⟩
    ·gi_wp2
     go_roundw
     case rel=>exact⟨i+1,by simp,by omega,hP⟩
     case measure=>simp;omega
    ·gi_wp2
     refine bodyPost_ret (results_none rfl _ _ _) rfl ?_
     exact⟨⟨_,rfl⟩,.inr hP⟩
   have hno:j9m E cr i=false→∀(v19 v20 v21 v22 v23 v24 v25 v26 v27 v28 v29 v30 v31 v32 v33 v34 v35 v36 v37 v38 v39 v40 v41 v42 v43 v44 v45 v46 v47 v48 v49 v50 v51 v52 v53:Value) (q:Nat),K2 { tmps:=#[Value.func (Fn.yield l) #[] #[],Value.pointer (some ⟨b1,o1,none⟩),Value.pointer (some ⟨b2,o2,none⟩),undef,Value.int .i64 E[cr+1],Value.int .i64 i,Value.pointer (some ⟨b1,o1+2,none⟩),Value.slice (some ⟨b0,o0,none⟩) E.length c0,Value.int .i64 cr,Value.int .i64 ((cr:Int)+1),Value.pointer (some ⟨b0,o0+ (cr+1),none⟩),Value.int .i64 E[cr+1],Value.pointer (some ⟨b1,o1,none⟩),Value.pointer (some ⟨b1,o1,none⟩),Value.slice pk k ck,Value.int .i64 k,Value.int .i64 i,Value.bool true,Value.int .i64 i,v19,v20,v21,v22,v23,v24,v25,v26,v27,v28,v29,v30,v31,v32,v33,v34,v35,v36,v37,v38,v39,v40,v41,v42,v43,v44,v45,v46,v47,v48,v49,v50,v51,v52,v53,.bool false,u55],defers:=[] } (wr.drewN q):=by
    intro hp v19 v20 v21 v22 v23 v24 v25 v26 v27 v28 v29 v30 v31 v32 v33 v34 v35 v36 v37 v38 v39 v40 v41 v42 v43 v44 v45 v46 v47 v48 v49 v50 v51 v52 v53 q
    refine hK2 _ _ ?_
    gi_wp2
    go_roundw
    case rel=>exact⟨i+1,by simp,by omega,by rw[List.range_succ,List.filter_append,List.filter_cons,if_neg (by rw[hp];simp),List.filter_nil,List.append_nil];exact hJd q⟩
    case measure=>simp;omega
   by_cases hp:j9m E cr i=true
   ·have hp':=hp
    rw[ep] at hp'
    simp only[Bool.and_eq_true,Bool.not_eq_true',decide_eq_true_eq,decide_eq_false_iff_not,beq_iff_eq] at hp'
    obtain⟨p0,p1,p2⟩:=hp'
    have p00:((i:Int) != (cr:Int))=true:=by simp;omega
    refine jjj (m:=33) (d:=3) rfl hm (by kernel_rfl) rfl (by kernel_rfl) rfl (R:=fun a' w'=>(∃(v19 v20 v21 v22 v23 v24 v25 v26 v27 v28 v29 v30 v31 v32 v33 v34 v35 v36 v37 v38 v39 v40 v41 v42 v43 v44 v45 v46 v47 v48:Value),a'={ tmps:=#[Value.func (Fn.yield l) #[] #[],Value.pointer (some ⟨b1,o1,none⟩),Value.pointer (some ⟨b2,o2,none⟩),undef,Value.int .i64 E[cr+1],Value.int .i64 i,Value.pointer (some ⟨b1,o1+2,none⟩),Value.slice (some ⟨b0,o0,none⟩) E.length c0,Value.int .i64 cr,Value.int .i64 ((cr:Int)+1),Value.pointer (some ⟨b0,o0+ (cr+1),none⟩),Value.int .i64 E[cr+1],Value.pointer (some ⟨b1,o1,none⟩),Value.pointer (some ⟨b1,o1,none⟩),Value.slice pk k ck,Value.int .i64 k,Value.int .i64 i,Value.bool true,Value.int .i64 i,v19,v20,v21,v22,v23,v24,v25,v26,v27,v28,v29,v30,v31,v32,v33,v34,v35,v36,v37,v38,v39,v40,v41,v42,v43,v44,v45,v46,v47,v48,.bool true,.func (.yield l) #[] #[],.int .i64 i,u52,u53,u54,u55],defers:=[] })∧∃n,w'=wr.drewN n) ?_ ?_
    ·simp only[List.extract_toArray,List.extract_eq_take_drop,List.drop_zero,Nat.sub_zero,List.take_succ_cons,List.take_zero]
     by_cases p4:E[cr] > E[cr+1]
     ·have p7:E[cr+1] <E[cr]:=p4
      have p8:E[cr+1] <E[i]:=by
       have p6:decide (E[cr] > E[cr+1])=true:=by simpa using p4
       rw[p6] at p2
       simpa using p2
      repeat (gi_big_quiet_step (fail))
      refine wpQuietIn_nil ?_
      exact fun w' hw'=>⟨⟨_,_,_,_,_,_,_,_,_,_,_,_,_,_,_,_,_,_,_,_,_,_,_,_,_,_,_,_,_,_,rfl⟩,hw'⟩
     ·have p7:¬(E[cr+1] <E[cr]):=p4
      have p8:¬(E[cr+1] <E[i]):=by
       have p6:decide (E[cr] > E[cr+1])=false:=by simpa using p4
       rw[p6] at p2
       simpa using p2
      repeat (gi_big_quiet_step (fail))
      refine wpQuietIn_nil ?_
      exact fun w' hw'=>⟨⟨_,_,_,_,_,_,_,_,_,_,_,_,_,_,_,_,_,_,_,_,_,_,_,_,_,_,_,_,_,_,rfl⟩,hw'⟩
    ·rintro _ _ ⟨⟨v19,v20,v21,v22,v23,v24,v25,v26,v27,v28,v29,v30,v31,v32,v33,v34,v35,v36,v37,v38,v39,v40,v41,v42,v43,v44,v45,v46,v47,v48,rfl⟩,q,rfl⟩ f
     obtain⟨fn,tmps,assign,body,hy,hR1⟩:=hY _ #[Value.int .i64 (i:Int)] (wr.drewN q) (km0 hp hlt) (hJd q)
     have hR2:RoundIn (Fr none) 2 Tryz.prog l fn tmps assign body (wr.drewN q) fun e W'=>∃bv,e=.returned (.bool bv)∧((bv=true∧J ((List.range (i+1)).filter (j9m E cr)).length W')∨(bv=false∧Jx W')):=by
      refine hR1.mono ?_
      rintro e W' (⟨rfl,h⟩ | ⟨rfl,h⟩)
      ·refine⟨true,rfl,.inl ⟨rfl,?_⟩⟩
       rw[List.range_succ,List.filter_append,List.filter_cons,if_pos hp]
       simpa using h
      ·exact⟨false,rfl,.inr ⟨rfl,h⟩⟩
     refine wpAnyIn_ready (rs:=[33]) (by kernel_rfl) (by simp) (AllReadyIn.cons rfl (fun K hK=>?_) AllReadyIn.nil)
     go_simp
     refine RoundIn.mono hR2 ?_
     rintro e W' ⟨bv,rfl,hP⟩
     refine hK _ _ ?_
     refine wpAnyIn_ready (rs:=[34]) (by kernel_rfl) (by simp) (AllReadyIn.cons rfl (fun K hK=>?_) AllReadyIn.nil)
     go_simp
     refine hK _ _ ?_
     refine wpAnyIn_ready (rs:=[35]) (by kernel_rfl) (by simp) (AllReadyIn.cons rfl (fun K hK=>?_) AllReadyIn.nil)
     go_simp
     refine hK _ _ ?_
     exact wpAnyIn_done (by kernel_rfl) (hfin bv _ _ _ _ _ _ _ _ _ _ _ _ _ _ _ _ _ _ _ _ _ _ _ _ _ _ _ _ _ _ _ _ _ _ _ W' hP) _
   ·have hp:j9m E cr i=false:=by simpa using hp
    refine jjj (m:=33) (d:=3) rfl hm (by kernel_rfl) rfl (by kernel_rfl) rfl (R:=fun a' w'=>(∃(v19 v20 v21 v22 v23 v24 v25 v26 v27 v28 v29 v30 v31 v32 v33 v34 v35 v36 v37 v38 v39 v40 v41 v42 v43 v44 v45 v46 v47 v48 v50 v51:Value),a'={ tmps:=#[Value.func (Fn.yield l) #[] #[],Value.pointer (some ⟨b1,o1,none⟩),Value.pointer (some ⟨b2,o2,none⟩),undef,Value.int .i64 E[cr+1],Value.int .i64 i,Value.pointer (some ⟨b1,o1+2,none⟩),Value.slice (some ⟨b0,o0,none⟩) E.length c0,Value.int .i64 cr,Value.int .i64 ((cr:Int)+1),Value.pointer (some ⟨b0,o0+ (cr+1),none⟩),Value.int .i64 E[cr+1],Value.pointer (some ⟨b1,o1,none⟩),Value.pointer (some ⟨b1,o1,none⟩),Value.slice pk k ck,Value.int .i64 k,Value.int .i64 i,Value.bool true,Value.int .i64 i,v19,v20,v21,v22,v23,v24,v25,v26,v27,v28,v29,v30,v31,v32,v33,v34,v35,v36,v37,v38,v39,v40,v41,v42,v43,v44,v45,v46,v47,v48,.bool false,v50,v51,u52,u53,u54,u55],defers:=[] })∧∃n,w'=wr.drewN n) ?_ ?_
    ·simp only[List.extract_toArray,List.extract_eq_take_drop,List.drop_zero,Nat.sub_zero,List.take_succ_cons,List.take_zero]
     by_cases p0:i=cr
     ·have p00:((i:Int) != (cr:Int))=false:=by simp;omega
      repeat (gi_big_quiet_step (fail))
      refine wpQuietIn_nil ?_
      exact fun w' hw'=>⟨⟨_,_,_,_,_,_,_,_,_,_,_,_,_,_,_,_,_,_,_,_,_,_,_,_,_,_,_,_,_,_,_,_,rfl⟩,hw'⟩
     ·have p00:((i:Int) != (cr:Int))=true:=by simp;omega
      by_cases p1:E[i+1]=E[cr+1]
      ·have p2:(decide (E[i] > E[cr+1])==decide (E[cr] > E[cr+1]))=false:=by rw[ep] at hp;simpa[p1,p0] using hp
       by_cases p4:E[cr] > E[cr+1]
       ·have p7:E[cr+1] <E[cr]:=p4
        have p8:¬(E[cr+1] <E[i]):=by
         have p6:decide (E[cr] > E[cr+1])=true:=by simpa using p4
         rw[p6] at p2
         simpa using p2
        repeat (gi_big_quiet_step (fail))
        refine wpQuietIn_nil ?_
        exact fun w' hw'=>⟨⟨_,_,_,_,_,_,_,_,_,_,_,_,_,_,_,_,_,_,_,_,_,_,_,_,_,_,_,_,_,_,_,_,rfl⟩,hw'⟩
       ·have p7:¬(E[cr+1] <E[cr]):=p4
        have p8:E[cr+1] <E[i]:=by
         have p6:decide (E[cr] > E[cr+1])=false:=by simpa using p4
         rw[p6] at p2
         simpa using p2
        repeat (gi_big_quiet_step (fail))
        refine wpQuietIn_nil ?_
        exact fun w' hw'=>⟨⟨_,_,_,_,_,_,_,_,_,_,_,_,_,_,_,_,_,_,_,_,_,_,_,_,_,_,_,_,_,_,_,_,rfl⟩,hw'⟩
      ·have p5:(E[i+1]==E[cr+1])=false:=by simpa using p1
       repeat (gi_big_quiet_step (fail))
       refine wpQuietIn_nil ?_
       exact fun w' hw'=>⟨⟨_,_,_,_,_,_,_,_,_,_,_,_,_,_,_,_,_,_,_,_,_,_,_,_,_,_,_,_,_,_,_,_,rfl⟩,hw'⟩
    ·rintro _ _ ⟨⟨v19,v20,v21,v22,v23,v24,v25,v26,v27,v28,v29,v30,v31,v32,v33,v34,v35,v36,v37,v38,v39,v40,v41,v42,v43,v44,v45,v46,v47,v48,v50,v51,rfl⟩,q,rfl⟩ f
     refine wpAnyIn_ready (rs:=[33]) (by kernel_rfl) (by simp) (AllReadyIn.cons rfl (fun K hK=>?_) AllReadyIn.nil)
     simp only[Region.wanted]
     refine⟨fun _ _=>trivial,hK _ _ ?_⟩
     refine wpAnyIn_ready (rs:=[34]) (by kernel_rfl) (by simp) (AllReadyIn.cons rfl (fun K hK=>?_) AllReadyIn.nil)
     go_simp
     refine hK _ _ ?_
     refine wpAnyIn_ready (rs:=[35]) (by kernel_rfl) (by simp) (AllReadyIn.cons rfl (fun K hK=>?_) AllReadyIn.nil)
     go_simp
     refine hK _ _ ?_
     exact wpAnyIn_done (by kernel_rfl) (hno hp _ _ _ _ _ _ _ _ _ _ _ _ _ _ _ _ _ _ _ _ _ _ _ _ _ _ _ _ _ _ _ _ _ _ _ q) _
  ·have hik:i=k:=by omega
   subst hik
   gi_wp2
   go_end0
   exact⟨⟨_,rfl⟩,.inl (by rw[List.length_map];exact hJi)⟩
end St
end Go.Proofs
namespace Go.Vm
namespace X
open W Go.Proofs Go.Proofs.St
def j8t:AV→Option Nat
 | .sl _ _ k _ _=>some k
 | .nils=>some 0
 | _=>none
def rd1 (H:Tr Blk) (b o n:Nat):Option (List AV):=match H.get b with
 | some (.cells c m)=>bif(o+n).ble m then take c o n else none
 | _=>none
def rdI (H:Tr Blk) (b o n:Nat):Option (List Int):=match H.get b with
 | some (.cells c m)=>bif(o+n).ble m then jt1 c o n else none
 | _=>none
def j09:ItF:=fun free H=>match free with
 | [.ptr b1 o1,.ptr b2 o2]=>match rd1 H b1 o1 3,rd1 H b2 o2 1 with
   | some [K,_,.sl b o n cap z],some [.int .i64 (.ofNat cr)]=>match j8t K,rdI H b o n with
     | some k,some E=>bif z.beq 1&&k.blt n&&(cr+1).blt n&&n.ble 1000000 then some ((kdi k E cr).map (fun(i:Nat)=>[.int .i64 (i:Int)]),.int .i64 k:: .int .i64 cr::E.map (AV.int .i64)) else none
     | _,_=>none
   | _,_=>none
 | _=>none
theorem j6g {c:Tr AV} {l:List AV} (h:∀i,i<l.length→c.get i=l[i]?):∀n o,o+n≤l.length→take c o n=some ((l.drop o).take n)
 | 0,o,_=>by simp[take]
 | n+1,o,hn=>by
   have ih:=j6g h n (o+1) (by omega)
   simp only[take]
   rw[h o (by omega),List.getElem?_eq_getElem (show o<l.length by omega)]
   simp only[ih]
   rw[List.drop_eq_getElem_cons (show o<l.length by omega),List.take_succ_cons]
theorem j2k {H:Tr Blk} {b:Nat} {m:List AV} {n:Nat} (h:HB.At H b (.cells m)) (hn:m.length=n):rd1 H b 0 n=some m:=by
 obtain⟨c,h1,h2⟩:=h
 have e:(0+n).ble m.length=true:=by rw[jad];simp[hn]
 simp only[rd1,h1,e,cond_true]
 rw[j6g h2 n 0 (by omega),List.drop_zero,←hn,List.take_length]
def j1y:Ty:=.prod (.prod (.sl (.int .i64)) (.sl (.int .u8))) (.sl (.int .i64))
def jy3 (x:kdc [j1y,.int .i64]):Option (List Int):=
 bif Nat.blt (List.length (α:=Int) x.1.1.1) (List.length (α:=Int) x.1.2)&&decide ((0:Int)≤x.2.1)&&Nat.blt (x.2.1.toNat+1) (List.length (α:=Int) x.1.2)&&Nat.ble (List.length (α:=Int) x.1.2) 1000000 then some ((kdi (List.length (α:=Int) x.1.1.1) x.1.2 x.2.1.toNat).map fun(i:Nat)=>(i:Int)) else none
theorem kcp {a b:Nat} (h:a.blt b=true):a<b:=by
 have:(a+1).ble b=true:=h
 rw[jad,decide_eq_true_eq] at this
 exact this
theorem kmy (F:jal) (H:Tr Blk) (cap:kdc [j1y,.int .i64]) (free:List AV) (l:List Int) (h:kjb F H [j1y,.int .i64] cap free) (hF:∀x∈F,x.2.At H x.1) (hr:jy3 cap=some l):
  j09 free H=some (l.map (fun y=>[jtb (.int .i64) y]),.int .i64 (List.length (α:=Int) cap.1.1.1):: .int .i64 cap.2.1::cap.1.2.map (AV.int .i64)):=by
 obtain⟨b1,m1,_,rfl,a1,r1,b2,m2,_,rfl,a2,r2,hn⟩:=h
 simp only[kjb] at hn
 subst hn
 obtain⟨⟨⟨L,K⟩,E⟩,t,u⟩:=cap
 obtain⟨_,_,rfl,⟨_,_,rfl,⟨vL,rfl,hL⟩,vK,rfl,hK⟩,vE,rfl,hE⟩:=r1
 simp only[jb5] at r2
 subst r2
 unfold jy3 at hr
 obtain⟨hc,hr⟩:=jaf hr
 cases hr
 simp only[Bool.and_eq_true] at hc
 obtain⟨⟨⟨hc1,hc0⟩,hc3⟩,hc2⟩:=hc
 have hc0:(0:Int)≤t:=of_decide_eq_true hc0
 obtain⟨cr,rfl⟩:∃m:Nat,t=(m:Int):=⟨t.toNat,(Int.toNat_of_nonneg hc0).symm⟩
 have hlt:List.length (α:=Int) L<List.length (α:=Int) E:=kcp hc1
 have eK:j8t vL=some (List.length (α:=Int) L):=by
  rcases hL with⟨h1,rfl⟩ | ⟨_,_,_,_,rfl,_⟩
  ·rw[show L=[] from h1];rfl
  ·rfl
 rcases hE with⟨h1,_⟩ | ⟨b,o,cp,c,rfl,hf,_,hb,hR⟩
 ·rw[show E=[] from h1] at hlt;simp at hlt
 ·have hat:=hF _ hf
  obtain⟨tc,g1,g2⟩:=hat
  have eE:rdI H b o (List.length (α:=Int) E)=some E:=by
   have e1:(o+List.length (α:=Int) E).ble c.length=true:=by
    rw[jad]
    have hb':o+List.length (α:=Int) E*1≤c.length:=hb
    simp;omega
   simp only[rdI,g1,e1,cond_true]
   refine jkg (L:=E) (o:=o) (c:=tc) fun i hi=>?_
   have hR':∀(E:List Int) (cs:List AV),jc6 (jb5 F (.int .i64)) E cs→cs=E.map (AV.int .i64):=by
    intro E
    induction E with
    | nil=>intro cs h;exact h
    | cons x E ih=>
      rintro cs ⟨l1,l2,rfl,h1,h2⟩
      simp only[jb5] at h1
      rw[h1,ih _ h2];rfl
   have:=hR' E _ hR
   have hb':o+List.length (α:=Int) E*1≤c.length:=hb
   rw[g2 (o+i) (by omega)]
   have e3:c[o+i]?=((c.drop o).take (List.length (α:=Int) E*1))[i]?:=by
    rw[List.getElem?_take,if_pos (by omega),List.getElem?_drop]
   rw[e3]
   have e4:(c.drop o).take (List.length (α:=Int) E*1)=E.map (AV.int .i64):=this
   rw[e4,List.getElem?_map,List.getElem?_eq_getElem hi]
   rfl
  have e9:((1:Nat).beq 1&&(List.length (α:=Int) L).blt (List.length (α:=Int) E)&&(cr+1).blt (List.length (α:=Int) E)&&(List.length (α:=Int) E).ble 1000000)=true:=by
   have hc3:(cr+1).blt (List.length (α:=Int) E)=true:=hc3
   rw[hc1,hc2,hc3];rfl
  show j09 [.ptr b1 0,.ptr b2 0] H=_
  simp only[j09,j2k a1 (n:=3) rfl,j2k a2 (n:=1) rfl,eK,List.nil_append,List.cons_append]
  show(match some (List.length (α:=Int) L),rdI H b o (List.length (α:=Int) E) with
   | some k,some E'=>_
   | _,_=>none)=_
  erw[eE]
  simp only[Ty.size]
  erw[e9]
  simp only[cond_true,List.map_map]
  rfl
def kok:ITE:=⟨90,[j1y,.int .i64],.int .i64,jy3,j09,fun cap=>.int .i64 (List.length (α:=Int) cap.1.1.1):: .int .i64 cap.2.1::cap.1.2.map (AV.int .i64),kmy⟩
theorem jmv {ρ:RM} {H:Tr Blk} {w:World} {b o n:Nat} {l:List AV} {lc:Loc} (h:rd1 H b o n=some l) (hr:HR ρ H w) (hb:ρ b=some lc):
  ∃vs:List Value,VRs ρ l vs∧∀j v,vs[j]?=some v→w.cell? ⟨lc.blk,lc.base+o+j,none⟩=some v:=by
 unfold rd1 at h
 split at h<;>try (cases h;done)
 rename_i c m hc
 obtain⟨hm,h2⟩:=jaf h
 rw[jad,decide_eq_true_eq] at hm
 obtain⟨vs,h3,_,h4,_⟩:=jh8 (P:=Tryz.prog) hr hc hb hm h2
 refine⟨vs,h3,fun j v hv=>?_⟩
 have:=h4 j v hv
 rw[jgt] at this
 exact this
theorem j2j {ρ:RM} {H:Tr Blk} {w:World} {b o n:Nat} {E:List Int} {lc:Loc} (h:rdI H b o n=some E) (hr:HR ρ H w) (hb:ρ b=some lc):
  E.length=n∧∀i (h:i<E.length),w.cell? ⟨lc.blk,lc.base+o+i,none⟩=some (.int .i64 E[i]):=by
 unfold rdI at h
 split at h<;>try (cases h;done)
 rename_i c m hc
 obtain⟨hm,h2⟩:=jaf h
 rw[jad,decide_eq_true_eq] at hm
 obtain⟨g1,g2⟩:=jmu h2
 refine⟨g1,fun i hi=>?_⟩
 obtain⟨cs,elem,fr,q1,_,_,_,q5⟩:=hr.blk b _ lc hc hb
 obtain⟨a,v,a1,a2,a3⟩:=q5 (o+i) (by omega)
 rw[g2 i hi] at a1
 cases a1
 simp only[VR] at a3
 simp only[World.cell?,q1]
 subst a3
 simpa[Nat.add_assoc] using a2
theorem jvp {ρ:RM} {a:AV} {k:Nat} {v:Value} (h:j8t a=some k) (hv:VR ρ a v):∃pk ck,v=.slice pk k ck:=by
 cases a<;>simp only[j8t,reduceCtorEq,Option.some.injEq] at h
 ·subst h
  obtain⟨l,c,off,_,rfl,_⟩:=hv
  exact⟨_,_,rfl⟩
 ·subst h
  simp only[VR] at hv
  exact⟨_,_,hv⟩
theorem kcr {ρ:RM} {H:Tr Blk} {w:World} {b1 o1 b2 o2:Nat} {l1 l2:Loc} {yk:List (List AV)×List AV} (h:j09 [.ptr b1 o1,.ptr b2 o2] H=some yk) (hr:HR ρ H w) (h1:ρ b1=some l1) (h2:ρ b2=some l2):
  ∃k E cr,yk=((kdi k E cr).map (fun(i:Nat)=>[AV.int .i64 (i:Int)]),.int .i64 k:: .int .i64 cr::E.map (AV.int .i64))∧k<E.length∧cr+1<E.length∧E.length≤1000000∧
   ∃pk ck b o c,BesRdy l1.blk (l1.base+o1) l2.blk (l2.base+o2) pk k ck b o c E cr w:=by
 simp only[j09] at h
 split at h<;>try (cases h;done)
 rename_i vL K b o n cap z cr e1 e2
 split at h<;>try (cases h;done)
 rename_i k E e4 e5
 obtain⟨hc,h⟩:=jaf h
 cases h
 simp only[Bool.and_eq_true,jad,decide_eq_true_eq] at hc
 obtain⟨⟨⟨_,hc1⟩,hc3⟩,hc2⟩:=hc
 have hlt:=kcp hc1
 have hlt3:=kcp hc3
 obtain⟨vs1,⟨w0,_,rfl,g0,w1,_,rfl,g1,w2,_,rfl,g2,g3⟩,k1⟩:=jmv e1 hr h1
 simp only[VRs] at g3
 subst g3
 obtain⟨vs2,⟨u0,_,rfl,q0,q1⟩,k2⟩:=jmv e2 hr h2
 simp only[VRs] at q1
 subst q1
 simp only[VR] at q0
 subst q0
 obtain⟨pk,ck,rfl⟩:=jvp e4 g0
 obtain⟨lb,c,off,hb,rfl,hnc,_,hoff,_⟩:=g2
 obtain⟨n1,n2⟩:=j2j e5 hr hb
 subst n1
 obtain rfl:off=lb.base+o:=by rcases hoff with h | h;exact h;omega
 exact⟨k,E,cr,rfl,hlt,hlt3,hc2,pk,ck,lb.blk,lb.base+o,c,k1 0 _ rfl,k1 2 _ rfl,n2,k2 0 _ rfl⟩
theorem kfg {gl:List Nat}:kov Tryz.prog gl 90 j09:=by
 intro free H yk h ρ w lb hr hgl hv
 have hfree:∃b1 o1 b2 o2,free=[.ptr b1 o1,.ptr b2 o2]:=by
  unfold j09 at h
  split at h<;>try (cases h;done)
  exact⟨_,_,_,_,rfl⟩
 obtain⟨b1,o1,b2,o2,rfl⟩:=hfree
 obtain⟨v1,_,hl,⟨l1,h1,rfl⟩,v2,_,rfl,⟨l2,h2,rfl⟩,he⟩:=hv
 simp only[VRs] at he
 subst he
 obtain rfl:lb=#[.pointer (some ⟨l1.blk,l1.base+o1,none⟩),.pointer (some ⟨l2.blk,l2.base+o2,none⟩)]:=Array.toList_inj.1 hl
 obtain⟨k,E,cr,rfl,hk,hc,hE,hrd⟩:=kcr h hr h1 h2
 refine⟨⟨Tryz.f90,Tryz.func90,by kernel_rfl,by kernel_rfl⟩,(kdi k E cr).map (fun(i:Nat)=>#[Value.int .i64 (i:Int)]),by simp,fun i y z hy hz=>?_,_,fun ρ' H' w' hle h' hr'=>?_,kmz hk hc hE w⟩
 ·simp only[List.getElem?_map,Option.map_eq_some_iff] at hy hz
  obtain⟨j,hj,rfl⟩:=hy
  obtain⟨j',hj',rfl⟩:=hz
  rw[hj] at hj'
  cases hj'
  exact⟨_,[],rfl,rfl,rfl⟩
 ·obtain⟨k',E',cr',e1,_,_,_,g⟩:=kcr h' hr' (hle _ _ h1) (hle _ _ h2)
  simp only[Prod.mk.injEq,List.cons.injEq,AV.int.injEq,true_and] at e1
  obtain⟨_,ek,ec,eE⟩:=e1
  have ek':k'=k:=by omega
  have ec':cr'=cr:=by omega
  subst ek';subst ec'
  have:E'=E:=by
   have:=congrArg (List.map fun a=>match a with | AV.int _ n=>n | _=>0) eE
   simpa[List.map_map,Function.comp_def] using this.symm
  subst this
  exact g
abbrev itsL:Its:=[(90,j09)]
theorem itsL_ok {gl:List Nat}:j1l Tryz.prog gl itsL:=fun f it h=>by
 simp only[itsL,kh7] at h
 obtain⟨h1,h2⟩:=jaf h
 rw[jac,decide_eq_true_eq] at h1
 cases h2;subst h1
 exact kfg
end X
end Go.Vm
namespace Go.Proofs
open Go.RowKit Go.Shelf Go.Vm
attribute [local go_sem] Oper.semAt_some
namespace St
def js3 (E:List Int) (t:Int) (right:Bool) (i:Nat):Bool:=decide (E.getD (i+1) 0=t)&&(decide (E.getD i 0 > t)==right)
def jz9 (k:Nat) (E:List Int) (t:Int) (right:Bool):List Nat:=(List.range k).filter (js3 E t right)
theorem kho {k i:Nat} {E:List Int} {t:Int} {right:Bool} (hp:js3 E t right i=true) (hi:i<k):
  ((jz9 k E t right).map fun(i:Nat)=>#[Value.int .i64 (i:Int)])[((List.range i).filter (js3 E t right)).length]?=some #[Value.int .i64 (i:Int)]:=by
 have e:List.range k=List.range i++i::List.range' (i+1) (k-i-1):=by
  rw[List.range_eq_range',List.range_eq_range']
  have h1:=List.range'_append_1 (s:=0) (m:=i) (n:=k-i)
  rw[show i+ (k-i)=k by omega,Nat.zero_add] at h1
  rw[←h1,show k-i=(k-i-1)+1 by omega,List.range'_succ]
  rfl
 unfold jz9
 rw[e,List.filter_append,List.filter_cons,if_pos hp,List.map_append,List.getElem?_append_right (by simp)]
 simp
structure LoopRdy (b1 o1 b2 o2 b3 o3:Nat) (pk:Option Addr) (k ck b o c:Nat) (E:List Int) (t:Int) (right:Bool) (W:World):Prop where
 kinds:W.cell? ⟨b1,o1+1,none⟩=some (.slice pk k ck)
 ends:W.cell? ⟨b1,o1+2,none⟩=some (.slice (some ⟨b,o,none⟩) E.length c)
 at_:∀i (h:i<E.length),W.cell? ⟨b,o+i,none⟩=some (.int .i64 E[i])
 t:W.cell? ⟨b2,o2,none⟩=some (.int .i64 t)
 right:W.cell? ⟨b3,o3,none⟩=some (.bool right)
set_option maxRecDepth 100000 in
set_option maxHeartbeats 1000000 in
theorem kej {b1 o1 b2 o2 b3 o3:Nat} {k:Nat} {E:List Int} {t:Int} {right:Bool} (hk:k<E.length) (hE:E.length≤1000000) (w:World):
  j8j Tryz.prog 105 #[.pointer (some ⟨b1,o1,none⟩),.pointer (some ⟨b2,o2,none⟩),.pointer (some ⟨b3,o3,none⟩)] ((jz9 k E t right).map fun(i:Nat)=>#[Value.int .i64 (i:Int)]) (fun W=>∃pk ck b o c,LoopRdy b1 o1 b2 o2 b3 o3 pk k ck b o c E t right W) w:=by
 intro l J Jx W hB hJ hJx hY hR h0
 have hm:Tryz.prog.follows .mixedOrders=true:=by kernel_rfl
 refine callsIn_of_wp Tryz.func105 rfl trivial ?_ rfl
 simp only[Tryz.ntmps105,List.size_toArray,List.length_cons,List.length_nil,Nat.reduceAdd,Nat.reduceSub,Array.replicate_succ,Array.replicate_zero,List.push_toArray,List.append_toArray,List.nil_append,List.cons_append]
 obtain⟨pk,ck,b0,o0,c0,hr0⟩:=hR 0 W h0
 have r1:=hr0.kinds
 gi_wp2
 gi_loopw [10] (fun vi wr=>∃i:Nat,vi=.int .i64 i∧i≤k∧J ((List.range i).filter (js3 E t right)).length wr)
  (fun vi wr=>match vi with | .int _ i=>k-i.toNat | _=>0)
 case atStart=>exact⟨0,rfl,by omega,h0⟩
 case round=>
  obtain⟨i,rfl,hi,hJi⟩:=hrel
  by_cases hlt:i<k
  ·obtain⟨pk',ck',b,o,c,hrd⟩:=hR _ _ hJi
   have r2:=hrd.ends
   have r3:=hrd.at_ i (by omega)
   have r4:=hrd.at_ (i+1) (by omega)
   have r5:=hrd.t
   have r6:=hrd.right
   have i1:(0:Int)≤(i:Int):=by omega
   have i2:(i:Int)< (E.length:Int):=by omega
   have i3:(0:Int)≤(i:Int)+1:=by omega
   have i4:(i:Int)+1< (E.length:Int):=by omega
   have i5:IntKind.i64.wrap ((i:Int)+1)=(i:Int)+1:=_root_.Go.Vm.W.wrap_in (k:=.i64) (by simp only[_root_.Go.Vm.W.inR];omega)
   have i6:((i:Int)+1).toNat=i+1:=by omega
   have hJd:∀q,J ((List.range i).filter (js3 E t right)).length (wr.drewN q):=fun q=>hJ _ _ _ hJi ⟨rfl,rfl,rfl,Nat.le_refl _,fun _ _=>rfl⟩
   have ep:js3 E t right i=(decide (E[i+1]=t)&&(decide (E[i] > t)==right)):=by
    simp[js3,List.getD_eq_getElem?_getD,List.getElem?_eq_getElem (show i+1<E.length by omega),List.getElem?_eq_getElem (show i<E.length by omega)]
   gi_wp2
   rename_i Q1 K1 hK1 K2 hK2
   have hfin:∀(bv:Bool) (v13 v14 v15 v16 v17 v18 v19 v20 v21 v22 v23 v24 v25 v26 v27 v28 v29 v30 v31 v32 v33 v34 v35 v36:Value) (W':World),((bv=true∧J ((List.range (i+1)).filter (js3 E t right)).length W')∨(bv=false∧Jx W'))→
     K2 { tmps:=#[Value.func (Fn.yield l) #[] #[],Value.pointer (some ⟨b1,o1,none⟩),Value.pointer (some ⟨b2,o2,none⟩),Value.pointer (some ⟨b3,o3,none⟩),undef,Value.int .i64 i,Value.pointer (some ⟨b1,o1,none⟩),Value.pointer (some ⟨b1,o1+1,none⟩),Value.slice pk k ck,Value.int .i64 k,Value.int .i64 i,Value.bool true,Value.int .i64 i,v13,v14,v15,v16,v17,v18,v19,v20,v21,v22,v23,v24,v25,v26,v27,v28,v29,v30,v31,v32,v33,v34,v35,v36,.bool (!bv),u38],defers:=[] } W':=by
    intro bv v13 v14 v15 v16 v17 v18 v19 v20 v21 v22 v23 v24 v25 v26 v27 v28 v29 v30 v31 v32 v33 v34 v35 v36 W' hP
    refine hK2 _ _ ?_
    rcases hP with⟨rfl,hP⟩ | ⟨rfl,hP⟩
    ·gi_wp2
     go_roundw
     case rel=>exact⟨i+1,by simp,by omega,hP⟩
     case measure=>simp;omega
    ·gi_wp2
     refine bodyPost_ret (results_none rfl _ _ _) rfl ?_
     exact⟨⟨_,rfl⟩,.inr hP⟩
   have hno:js3 E t right i=false→∀(v13 v14 v15 v16 v17 v18 v19 v20 v21 v22 v23 v24 v25 v26 v27 v28 v29 v30 v31 v32 v33 v34 v35 v36:Value) (q:Nat),K2 { tmps:=#[Value.func (Fn.yield l) #[] #[],Value.pointer (some ⟨b1,o1,none⟩),Value.pointer (some ⟨b2,o2,none⟩),Value.pointer (some ⟨b3,o3,none⟩),undef,Value.int .i64 i,Value.pointer (some ⟨b1,o1,none⟩),Value.pointer (some ⟨b1,o1+1,none⟩),Value.slice pk k ck,Value.int .i64 k,Value.int .i64 i,Value.bool true,Value.int .i64 i,v13,v14,v15,v16,v17,v18,v19,v20,v21,v22,v23,v24,v25,v26,v27,v28,v29,v30,v31,v32,v33,v34,v35,v36,.bool false,u38],defers:=[] } (wr.drewN q):=by
    intro hp v13 v14 v15 v16 v17 v18 v19 v20 v21 v22 v23 v24 v25 v26 v27 v28 v29 v30 v31 v32 v33 v34 v35 v36 q
    refine hK2 _ _ ?_
    gi_wp2
    go_roundw
    case rel=>exact⟨i+1,by simp,by omega,by rw[List.range_succ,List.filter_append,List.filter_cons,if_neg (by rw[hp];simp),List.filter_nil,List.append_nil];exact hJd q⟩
    case measure=>simp;omega
   by_cases hp:js3 E t right i=true
   ·have hp':=hp
    rw[ep] at hp'
    simp only[Bool.and_eq_true,decide_eq_true_eq,beq_iff_eq] at hp'
    obtain⟨p1,p2⟩:=hp'
    refine jjj (m:=22) (d:=3) rfl hm (by kernel_rfl) rfl (by kernel_rfl) rfl (R:=fun a' w'=>(∃(v13 v14 v15 v16 v17 v18 v19 v20 v21 v22 v23 v24 v25 v26 v27 v28 v29 v30 v31:Value),a'={ tmps:=#[Value.func (Fn.yield l) #[] #[],Value.pointer (some ⟨b1,o1,none⟩),Value.pointer (some ⟨b2,o2,none⟩),Value.pointer (some ⟨b3,o3,none⟩),undef,Value.int .i64 i,Value.pointer (some ⟨b1,o1,none⟩),Value.pointer (some ⟨b1,o1+1,none⟩),Value.slice pk k ck,Value.int .i64 k,Value.int .i64 i,Value.bool true,Value.int .i64 i,v13,v14,v15,v16,v17,v18,v19,v20,v21,v22,v23,v24,v25,v26,v27,v28,v29,v30,v31,.bool true,.func (.yield l) #[] #[],.int .i64 i,u35,u36,u37,u38],defers:=[] })∧∃n,w'=wr.drewN n) ?_ ?_
    ·simp only[List.extract_toArray,List.extract_eq_take_drop,List.drop_zero,Nat.sub_zero,List.take_succ_cons,List.take_zero]
     repeat (gi_big_quiet_step (fail))
     refine wpQuietIn_nil ?_
     exact fun w' hw'=>⟨⟨_,_,_,_,_,_,_,_,_,_,_,_,_,_,_,_,_,_,_,rfl⟩,hw'⟩
    ·rintro _ _ ⟨⟨v13,v14,v15,v16,v17,v18,v19,v20,v21,v22,v23,v24,v25,v26,v27,v28,v29,v30,v31,rfl⟩,q,rfl⟩ f
     obtain⟨fn,tmps,assign,body,hy,hR1⟩:=hY _ #[Value.int .i64 (i:Int)] (wr.drewN q) (kho hp hlt) (hJd q)
     have hR2:RoundIn (Fr none) 2 Tryz.prog l fn tmps assign body (wr.drewN q) fun e W'=>∃bv,e=.returned (.bool bv)∧((bv=true∧J ((List.range (i+1)).filter (js3 E t right)).length W')∨(bv=false∧Jx W')):=by
      refine hR1.mono ?_
      rintro e W' (⟨rfl,h⟩ | ⟨rfl,h⟩)
      ·refine⟨true,rfl,.inl ⟨rfl,?_⟩⟩
       rw[List.range_succ,List.filter_append,List.filter_cons,if_pos hp]
       simpa using h
      ·exact⟨false,rfl,.inr ⟨rfl,h⟩⟩
     refine wpAnyIn_ready (rs:=[22]) (by kernel_rfl) (by simp) (AllReadyIn.cons rfl (fun K hK=>?_) AllReadyIn.nil)
     go_simp
     refine RoundIn.mono hR2 ?_
     rintro e W' ⟨bv,rfl,hP⟩
     refine hK _ _ ?_
     refine wpAnyIn_ready (rs:=[23]) (by kernel_rfl) (by simp) (AllReadyIn.cons rfl (fun K hK=>?_) AllReadyIn.nil)
     go_simp
     refine hK _ _ ?_
     refine wpAnyIn_ready (rs:=[24]) (by kernel_rfl) (by simp) (AllReadyIn.cons rfl (fun K hK=>?_) AllReadyIn.nil)
     go_simp
     refine hK _ _ ?_
     exact wpAnyIn_done (by kernel_rfl) (hfin bv _ _ _ _ _ _ _ _ _ _ _ _ _ _ _ _ _ _ _ _ _ _ _ _ W' hP) _
   ·have hp:js3 E t right i=false:=by simpa using hp
    refine jjj (m:=22) (d:=3) rfl hm (by kernel_rfl) rfl (by kernel_rfl) rfl (R:=fun a' w'=>(∃(v13 v14 v15 v16 v17 v18 v19 v20 v21 v22 v23 v24 v25 v26 v27 v28 v29 v30 v31 v33 v34:Value),a'={ tmps:=#[Value.func (Fn.yield l) #[] #[],Value.pointer (some ⟨b1,o1,none⟩),Value.pointer (some ⟨b2,o2,none⟩),Value.pointer (some ⟨b3,o3,none⟩),undef,Value.int .i64 i,Value.pointer (some ⟨b1,o1,none⟩),Value.pointer (some ⟨b1,o1+1,none⟩),Value.slice pk k ck,Value.int .i64 k,Value.int .i64 i,Value.bool true,Value.int .i64 i,v13,v14,v15,v16,v17,v18,v19,v20,v21,v22,v23,v24,v25,v26,v27,v28,v29,v30,v31,.bool false,v33,v34,u35,u36,u37,u38],defers:=[] })∧∃n,w'=wr.drewN n) ?_ ?_
    ·simp only[List.extract_toArray,List.extract_eq_take_drop,List.drop_zero,Nat.sub_zero,List.take_succ_cons,List.take_zero]
     by_cases p1:E[i+1]=t
     ·have p2:(decide (E[i] > t)==right)=false:=by rw[ep] at hp;simpa[p1] using hp
      by_cases p4:E[i] > t
      ·obtain rfl:right=false:=by
        have p6:decide (E[i] > t)=true:=by simpa using p4
        rw[p6] at p2
        cases right
        ·rfl
        ·cases p2
       have p7:t<E[i]:=p4
       repeat (gi_big_quiet_step (fail))
       refine wpQuietIn_nil ?_
       exact fun w' hw'=>⟨⟨_,_,_,_,_,_,_,_,_,_,_,_,_,_,_,_,_,_,_,_,_,rfl⟩,hw'⟩
      ·obtain rfl:right=true:=by
        have p6:decide (E[i] > t)=false:=by simpa using p4
        rw[p6] at p2
        cases right
        ·cases p2
        ·rfl
       repeat (gi_big_quiet_step (fail))
       refine wpQuietIn_nil ?_
       exact fun w' hw'=>⟨⟨_,_,_,_,_,_,_,_,_,_,_,_,_,_,_,_,_,_,_,_,_,rfl⟩,hw'⟩
     ·have p5:(E[i+1]==t)=false:=by simpa using p1
      repeat (gi_big_quiet_step (fail))
      refine wpQuietIn_nil ?_
      exact fun w' hw'=>⟨⟨_,_,_,_,_,_,_,_,_,_,_,_,_,_,_,_,_,_,_,_,_,rfl⟩,hw'⟩
    ·rintro _ _ ⟨⟨v13,v14,v15,v16,v17,v18,v19,v20,v21,v22,v23,v24,v25,v26,v27,v28,v29,v30,v31,v33,v34,rfl⟩,q,rfl⟩ f
     refine wpAnyIn_ready (rs:=[22]) (by kernel_rfl) (by simp) (AllReadyIn.cons rfl (fun K hK=>?_) AllReadyIn.nil)
     simp only[Region.wanted]
     refine⟨fun _ _=>trivial,hK _ _ ?_⟩
     refine wpAnyIn_ready (rs:=[23]) (by kernel_rfl) (by simp) (AllReadyIn.cons rfl (fun K hK=>?_) AllReadyIn.nil)
     go_simp
     refine hK _ _ ?_
     refine wpAnyIn_ready (rs:=[24]) (by kernel_rfl) (by simp) (AllReadyIn.cons rfl (fun K hK=>?_) AllReadyIn.nil)
     go_simp
     refine hK _ _ ?_
     exact wpAnyIn_done (by kernel_rfl) (hno hp _ _ _ _ _ _ _ _ _ _ _ _ _ _ _ _ _ _ _ _ _ _ _ _ q) _
  ·have hik:i=k:=by omega
   subst hik
   gi_wp2
   go_end0
   exact⟨⟨_,rfl⟩,.inl (by rw[List.length_map];exact hJi)⟩
end St
end Go.Proofs
namespace Go.Vm
namespace X
open W Go.Proofs Go.Proofs.St
def jru:ItF:=fun free H=>match free with
 | [.ptr b1 o1,.ptr b2 o2,.ptr b3 o3]=>match rd1 H b1 o1 3,rd1 H b2 o2 1,rd1 H b3 o3 1 with
   | some [_,K,.sl b o n cap z],some [.int .i64 t],some [.bool r]=>match j8t K,rdI H b o n with
     | some k,some E=>bif z.beq 1&&k.blt n&&n.ble 1000000 then some ((jz9 k E t r).map (fun(i:Nat)=>[.int .i64 (i:Int)]),.int .i64 k:: .int .i64 t:: .bool r::E.map (AV.int .i64)) else none
     | _,_=>none
   | _,_,_=>none
 | _=>none
def jwh (x:kdc [j1y,.int .i64,.bool]):Option (List Int):=
 bif Nat.blt (List.length (α:=Int) x.1.1.2) (List.length (α:=Int) x.1.2)&&Nat.ble (List.length (α:=Int) x.1.2) 1000000 then some ((jz9 (List.length (α:=Int) x.1.1.2) x.1.2 x.2.1 x.2.2.1).map fun(i:Nat)=>(i:Int)) else none
theorem khn (F:jal) (H:Tr Blk) (cap:kdc [j1y,.int .i64,.bool]) (free:List AV) (l:List Int) (h:kjb F H [j1y,.int .i64,.bool] cap free) (hF:∀x∈F,x.2.At H x.1) (hr:jwh cap=some l):
  jru free H=some (l.map (fun y=>[jtb (.int .i64) y]),.int .i64 (List.length (α:=Int) cap.1.1.2):: .int .i64 cap.2.1:: .bool cap.2.2.1::cap.1.2.map (AV.int .i64)):=by
 obtain⟨b1,m1,_,rfl,a1,r1,b2,m2,_,rfl,a2,r2,b3,m3,_,rfl,a3,r3,hn⟩:=h
 simp only[kjb] at hn
 subst hn
 obtain⟨⟨⟨L,K⟩,E⟩,t,r,u⟩:=cap
 obtain⟨_,_,rfl,⟨_,_,rfl,⟨vL,rfl,hL⟩,vK,rfl,hK⟩,vE,rfl,hE⟩:=r1
 simp only[jb5] at r2 r3
 subst r2;subst r3
 unfold jwh at hr
 obtain⟨hc,hr⟩:=jaf hr
 cases hr
 simp only[Bool.and_eq_true] at hc
 obtain⟨hc1,hc2⟩:=hc
 have hlt:List.length (α:=Int) K<List.length (α:=Int) E:=by
  have:(List.length (α:=Int) K+1).ble (List.length (α:=Int) E)=true:=hc1
  rw[jad,decide_eq_true_eq] at this
  exact this
 have eK:j8t vK=some (List.length (α:=Int) K):=by
  rcases hK with⟨h1,rfl⟩ | ⟨_,_,_,_,rfl,_⟩
  ·rw[show K=[] from h1];rfl
  ·rfl
 rcases hE with⟨h1,_⟩ | ⟨b,o,cp,c,rfl,hf,_,hb,hR⟩
 ·rw[show E=[] from h1] at hlt;simp at hlt
 ·have hat:=hF _ hf
  obtain⟨tc,g1,g2⟩:=hat
  have eE:rdI H b o (List.length (α:=Int) E)=some E:=by
   have e1:(o+List.length (α:=Int) E).ble c.length=true:=by
    rw[jad]
    have hb':o+List.length (α:=Int) E*1≤c.length:=hb
    simp;omega
   simp only[rdI,g1,e1,cond_true]
   refine jkg (L:=E) (o:=o) (c:=tc) fun i hi=>?_
   have hR':∀(E:List Int) (cs:List AV),jc6 (jb5 F (.int .i64)) E cs→cs=E.map (AV.int .i64):=by
    intro E
    induction E with
    | nil=>intro cs h;exact h
    | cons x E ih=>
      rintro cs ⟨l1,l2,rfl,h1,h2⟩
      simp only[jb5] at h1
      rw[h1,ih _ h2];rfl
   have:=hR' E _ hR
   have hb':o+List.length (α:=Int) E*1≤c.length:=hb
   rw[g2 (o+i) (by omega)]
   have e3:c[o+i]?=((c.drop o).take (List.length (α:=Int) E*1))[i]?:=by
    rw[List.getElem?_take,if_pos (by omega),List.getElem?_drop]
   rw[e3]
   have e4:(c.drop o).take (List.length (α:=Int) E*1)=E.map (AV.int .i64):=this
   rw[e4,List.getElem?_map,List.getElem?_eq_getElem hi]
   rfl
  have e9:((1:Nat).beq 1&&(List.length (α:=Int) K).blt (List.length (α:=Int) E)&&(List.length (α:=Int) E).ble 1000000)=true:=by
   rw[hc1,hc2];rfl
  show jru [.ptr b1 0,.ptr b2 0,.ptr b3 0] H=_
  simp only[jru,j2k a1 (n:=3) rfl,j2k a2 (n:=1) rfl,j2k a3 (n:=1) rfl,eK,List.nil_append,List.cons_append]
  erw[eE]
  simp only[Ty.size]
  erw[e9]
  simp only[cond_true,List.map_map]
  rfl
def kh8:ITE:=⟨105,[j1y,.int .i64,.bool],.int .i64,jwh,jru,fun cap=>.int .i64 (List.length (α:=Int) cap.1.1.2):: .int .i64 cap.2.1:: .bool cap.2.2.1::cap.1.2.map (AV.int .i64),khn⟩
theorem j69 {ρ:RM} {H:Tr Blk} {w:World} {b1 o1 b2 o2 b3 o3:Nat} {l1 l2 l3:Loc} {yk:List (List AV)×List AV} (h:jru [.ptr b1 o1,.ptr b2 o2,.ptr b3 o3] H=some yk) (hr:HR ρ H w) (h1:ρ b1=some l1) (h2:ρ b2=some l2) (h3:ρ b3=some l3):
  ∃k E t r,yk=((jz9 k E t r).map (fun(i:Nat)=>[AV.int .i64 (i:Int)]),.int .i64 k:: .int .i64 t:: .bool r::E.map (AV.int .i64))∧k<E.length∧E.length≤1000000∧
   ∃pk ck b o c,LoopRdy l1.blk (l1.base+o1) l2.blk (l2.base+o2) l3.blk (l3.base+o3) pk k ck b o c E t r w:=by
 simp only[jru] at h
 split at h<;>try (cases h;done)
 rename_i vL K b o n cap z t r e1 e2 e3
 split at h<;>try (cases h;done)
 rename_i k E e4 e5
 obtain⟨hc,h⟩:=jaf h
 cases h
 simp only[Bool.and_eq_true,jad,decide_eq_true_eq] at hc
 obtain⟨⟨_,hc1⟩,hc2⟩:=hc
 have hlt:k<n:=by
  have:(k+1).ble n=true:=hc1
  rw[jad,decide_eq_true_eq] at this
  exact this
 obtain⟨vs1,⟨w0,_,rfl,g0,w1,_,rfl,g1,w2,_,rfl,g2,g3⟩,k1⟩:=jmv e1 hr h1
 simp only[VRs] at g3
 subst g3
 obtain⟨vs2,⟨u0,_,rfl,q0,q1⟩,k2⟩:=jmv e2 hr h2
 simp only[VRs] at q1
 subst q1
 obtain⟨vs3,⟨x0,_,rfl,p0,p1⟩,k3⟩:=jmv e3 hr h3
 simp only[VRs] at p1
 subst p1
 simp only[VR] at q0 p0
 subst q0;subst p0
 obtain⟨pk,ck,rfl⟩:=jvp e4 g1
 obtain⟨lb,c,off,hb,rfl,hnc,_,hoff,_⟩:=g2
 obtain⟨n1,n2⟩:=j2j e5 hr hb
 subst n1
 obtain rfl:off=lb.base+o:=by rcases hoff with h | h;exact h;omega
 exact⟨k,E,t,r,rfl,hlt,hc2,pk,ck,lb.blk,lb.base+o,c,k1 1 _ rfl,k1 2 _ rfl,n2,k2 0 _ rfl,k3 0 _ rfl⟩
theorem kbp {gl:List Nat}:kov Tryz.prog gl 105 jru:=by
 intro free H yk h ρ w lb hr hgl hv
 have hfree:∃b1 o1 b2 o2 b3 o3,free=[.ptr b1 o1,.ptr b2 o2,.ptr b3 o3]:=by
  unfold jru at h
  split at h<;>try (cases h;done)
  exact⟨_,_,_,_,_,_,rfl⟩
 obtain⟨b1,o1,b2,o2,b3,o3,rfl⟩:=hfree
 obtain⟨v1,_,hl,⟨l1,h1,rfl⟩,v2,_,rfl,⟨l2,h2,rfl⟩,v3,_,rfl,⟨l3,h3,rfl⟩,he⟩:=hv
 simp only[VRs] at he
 subst he
 obtain rfl:lb=#[.pointer (some ⟨l1.blk,l1.base+o1,none⟩),.pointer (some ⟨l2.blk,l2.base+o2,none⟩),.pointer (some ⟨l3.blk,l3.base+o3,none⟩)]:=Array.toList_inj.1 hl
 obtain⟨k,E,t,r,rfl,hk,hE,hrd⟩:=j69 h hr h1 h2 h3
 refine⟨⟨Tryz.f105,Tryz.func105,by kernel_rfl,by kernel_rfl⟩,(jz9 k E t r).map (fun(i:Nat)=>#[Value.int .i64 (i:Int)]),by simp,fun i y z hy hz=>?_,_,fun ρ' H' w' hle h' hr'=>?_,kej hk hE w⟩
 ·simp only[List.getElem?_map,Option.map_eq_some_iff] at hy hz
  obtain⟨j,hj,rfl⟩:=hy
  obtain⟨j',hj',rfl⟩:=hz
  rw[hj] at hj'
  cases hj'
  exact⟨_,[],rfl,rfl,rfl⟩
 ·obtain⟨k',E',t',r',e1,_,_,g⟩:=j69 h' hr' (hle _ _ h1) (hle _ _ h2) (hle _ _ h3)
  simp only[Prod.mk.injEq,List.cons.injEq,AV.int.injEq,AV.bool.injEq,true_and] at e1
  obtain⟨_,ek,rfl,rfl,eE⟩:=e1
  have ek':k'=k:=by omega
  subst ek'
  have:E'=E:=by
   have:=congrArg (List.map fun a=>match a with | AV.int _ n=>n | _=>0) eE
   simpa[List.map_map,Function.comp_def] using this.symm
  subst this
  exact g
abbrev itsLl:Its:=[(105,jru)]
theorem itsLl_ok {gl:List Nat}:j1l Tryz.prog gl itsLl:=fun f it h=>by
 simp only[itsLl,kh7] at h
 obtain⟨h1,h2⟩:=jaf h
 rw[jac,decide_eq_true_eq] at h1
 cases h2;subst h1
 exact kbp
end X
end Go.Vm
