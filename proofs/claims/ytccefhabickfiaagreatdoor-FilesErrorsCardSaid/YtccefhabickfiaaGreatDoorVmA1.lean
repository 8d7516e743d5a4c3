/-
  A small machine for closed runs: its data (values, tries), with what they stand for in the model.
  The machine's memory and what it stands for: how the relation is kept.
  The machine's arithmetic: what it computes is what the model computes.
  The machine's operations that only compute: what they are made of, how they run, and that the model does the same.
  The operations that only compute: the model does what the machine does.
  The operations that only compute: parts of structs, equality, and all of them.
-/
import Derived.LoopN
import Derived.Orders
import Derived.Below
import Derived.Laws.IdiomCopy
import Derived.Lib.Strings
import Derived.ChangeKeysEq
set_option linter.unusedSimpArgs false
set_option linter.unusedVariables false
set_option linter.unusedSectionVars false
set_option linter.unnecessarySimpa false
abbrev aC:=@Option.bind_some
abbrev aQ:=@decide_eq_true_eq
abbrev aW:=@Bool.and_eq_true
abbrev aJ:=@cond_false
abbrev bA:=@Option.some.injEq
abbrev bN:=@Nat.le_of_ble_eq_true
abbrev bL:=@List.mem_cons_of_mem
abbrev aH:=@cond_true
abbrev bH:=@List.mem_cons_self
abbrev aT:=@decide_false
abbrev bD:=@decide_eq_true
abbrev aU:=@decide_true
abbrev cD:=@List.mem_singleton
abbrev dE:=@List.getElem?_eq_getElem
abbrev bU:=@List.mem_append
abbrev bC:=@List.mem_map
abbrev bX:=@List.getElem_mem
abbrev bJ:=@List.mem_cons
abbrev bK:=@Prod.mk.injEq
abbrev aF:=@if_neg
abbrev cK:=@Int.toNat_natCast
abbrev cI:=@List.all_eq_true
abbrev cL:=@List.length_cons
abbrev dU:=@List.length_singleton
abbrev cZ:=@List.length_append
abbrev aK:=@if_pos
abbrev bV:=@Nat.le_refl
abbrev fV:=@List.pairwise_iff_getElem
abbrev cY:=@List.length_map
abbrev dX:=@List.append_assoc
abbrev gP:=@List.getD_eq_getElem?_getD
abbrev fR:=@Option.map_eq_some_iff
abbrev fH:=@List.getElem_of_mem
abbrev dA:=@List.map_cons
abbrev iJ:=@List.drop_eq_getElem_cons
abbrev eI:=@List.map_append
abbrev fB:=@List.nil_append
abbrev iM:=@List.take_of_length_le
abbrev fN:=@List.cons_append
abbrev iU:=@decide_eq_false_iff_not
abbrev fX:=@Go.Result.andThen_ok
abbrev eZ:=@List.mem_range
abbrev jR:=@Option.bind_eq_some_iff
abbrev lD:=@Array.getElem?_eq_some_iff
abbrev gQ:=@not_true_eq_false
abbrev gV:=@List.not_mem_nil
abbrev iF:=@Classical.not_not
abbrev fW:=@List.drop_zero
abbrev kI:=@List.Perm.append_left
abbrev iK:=@not_false_eq_true
abbrev fS:=@Bool.not_true
abbrev eW:=@Nat.zero_le
abbrev jH:=@List.pairwise_cons
abbrev gL:=@Nat.mul_le_mul
abbrev iL:=@List.take_length
abbrev iD:=@List.length_nil
abbrev nJ:=@Classical.byContradiction
abbrev jD:=@List.flatMap_cons
abbrev lZ:=@List.drop_of_length_le
abbrev jU:=@Option.toList_some
abbrev kM:=@List.map_congr_left
abbrev iV:=@List.mem_flatMap
abbrev oM:=@List.getElem?_eq_some_iff
abbrev cM:=@if_true
abbrev iS:=@Option.map_some
abbrev jM:=@List.drop_length
abbrev gE:=@Nat.le_trans
abbrev kH:=@List.flatten_cons
abbrev lC:=@Bool.false_eq_true
abbrev kL:=@Bool.not_eq_true'
abbrev gK:=@Go.Sem.run_bind
abbrev mN:=@Nat.pow_le_pow_right
abbrev dR:=@if_false
abbrev jS:=@List.mem_filter
abbrev mO:=@Option.bind_eq_bind
abbrev tJ:=@List.eq_nil_of_length_eq_zero
abbrev kN:=@decide_eq_false
abbrev kO:=@List.append_nil
abbrev mP:=@List.find?_eq_none
abbrev mG:=@List.getElem?_map
abbrev nK:=@Nat.lt_of_lt_of_le
abbrev iQ:=@List.map_map
abbrev oG:=@Array.length_toList
abbrev mA:=@List.length_drop
abbrev oT:=@Nat.mul_le_mul_right
abbrev iW:=@Nat.beq_refl
abbrev jE:=@Go.Sem.run_pure
abbrev lV:=@Option.some.inj
abbrev tK:=@List.mem_of_find?_eq_some
abbrev kP:=@Bool.and_self
abbrev nL:=@Array.toList_inj
abbrev nM:=@List.length_take
abbrev uQ:=@Option.isSome_iff_exists
abbrev oN:=@Nat.lt_trichotomy
abbrev wC:=@Array.getElem?_eq_getElem
abbrev rM:=@List.mem_of_mem_drop
abbrev pQ:=@List.getElem_range
abbrev pR:=@Option.toList_none
abbrev rL:=@List.filterMap_cons
abbrev pB:=@List.pairwise_map
abbrev nW:=@Int.natCast_mul
abbrev qK:=@List.mem_filterMap
abbrev pO:=@List.getElem_drop
abbrev lM:=@List.map_nil
abbrev uP:=@List.getElem?_eq_none
abbrev qM:=@List.nodup_append
abbrev pP:=@Bool.cond_decide
abbrev wB:=@Array.getElem?_toList
abbrev wD:=@Nat.eq_of_beq_eq_true
abbrev gR:=@or_false
abbrev pC:=@Bool.or_eq_true
abbrev nN:=@Nat.mul_assoc
abbrev qO:=@Option.getD_some
abbrev wE:=@List.mem_of_mem_take
abbrev uR:=@Function.comp_apply
abbrev mV:=@Nat.zero_add
abbrev E9:=@List.getElem?_append_right
abbrev F0:=@List.perm_ext_iff_of_nodup
abbrev rP:=@List.length_set
abbrev nX:=@Nat.add_zero
abbrev z7:=@List.getElem?_cons_zero
abbrev mQ:=@Nat.add_mul
abbrev yR:=@List.mem_of_getElem?
abbrev yS:=@Bool.or_eq_false_iff
abbrev iN:=@Prod.ext
abbrev uS:=@List.take_add_one
abbrev oH:=@Nat.pow_succ
abbrev N9:=@List.mem_or_eq_of_mem_set
abbrev sL:=@Option.map_none
abbrev sM:=@List.cons.injEq
abbrev z8:=@Nat.div_lt_iff_lt_mul
abbrev tM:=@List.find?_some
abbrev F5:=@Nat.div_div_eq_div_mul
abbrev qdz:=@Array.getElem?_setIfInBounds
abbrev g9:=@List.take_succ_cons
abbrev rN:=@Bool.and_true
abbrev E7:=@List.mem_of_mem_head?
abbrev rZ:=@Nat.add_assoc
abbrev tL:=@Go.DataW.trod_int
abbrev z6:=@List.flatten_append
abbrev E8:=@List.Pairwise.of_map
abbrev sJ:=@Int.mul_assoc
abbrev sK:=@Bool.true_and
abbrev qd9:=@List.getElem?_append_left
abbrev O2:=@Array.getElem?_modify
abbrev O3:=@List.take_append_drop
abbrev wF:=@Bool.not_false
abbrev qP:=@Int.le_refl
abbrev sN:=@Nat.sub_zero
abbrev F8:=@Option.isSome_none
abbrev F9:=@List.getElem?_take
abbrev qeh:=@List.getElem?_cons_succ
abbrev O4:=@List.getD_cons_succ
abbrev qej:=@List.drop_eq_nil_of_le
abbrev qek:=@List.Perm.append_right
abbrev m5:=@Nat.min_eq_left
abbrev O5:=@List.getElem?_drop
abbrev qen:=@Bool.and_eq_false_iff
abbrev qeo:=@List.length_replicate
abbrev qep:=@List.perm_append_comm
abbrev qeq:=@Go.RowKit.Below.heap_alloc
abbrev qer:=@List.length_eq_zero_iff
abbrev sO:=@List.map_id
abbrev X3:=@List.length_pos_iff
abbrev O6:=@List.getElem?_set
abbrev O7:=@List.foldl_append
abbrev qew:=@List.sublist_append_right
abbrev G0:=@List.filter_map
abbrev O8:=@List.ext_getElem
abbrev O9:=@List.getElem_map
abbrev i7:=@Bool.false_or
abbrev qe1:=@Int.eq_ofNat_of_zero_le
abbrev F6:=@List.drop_drop
abbrev qe3:=@List.mem_take_iff_getElem
abbrev O1:=@List.foldl_cons
abbrev F7:=@Option.mem_def
abbrev X2:=@Nat.mod_eq_of_lt
abbrev qe7:=@List.replicate_succ
abbrev qe8:=@Array.mem_of_getElem?
abbrev l9:=@Nat.add_comm
abbrev qfa:=@List.filterMap_eq_filter
abbrev qfb:=@List.filterMap_filterMap
abbrev qfc:=@List.singleton_append
abbrev P1:=@List.take_take
abbrev X4:=@UInt8.toNat_inj
abbrev qff:=@List.Pairwise.filterMap
abbrev qfg:=@Option.isSome_some
abbrev qfh:=@List.filter_cons_of_neg
abbrev qfi:=@List.filter_cons_of_pos
abbrev qfj:=@List.pairwise_singleton
abbrev qfk:=@List.drop_succ_cons
abbrev qfl:=@UInt8.toNat_ofNat
abbrev qfm:=@List.map_eq_nil_iff
abbrev P2:=@Sum.inr.injEq
abbrev qfo:=@Array.getElem_setIfInBounds_ne
abbrev qfp:=@List.filterMap_eq_map
abbrev qfq:=@List.length_filter_le
abbrev qfr:=@List.mem_append_right
abbrev qfs:=@Bool.eq_iff_iff
abbrev qft:=@List.getElem?_toArray
abbrev qfu:=@Int.natCast_nonneg
abbrev qfv:=@List.mem_replicate
abbrev qfw:=@List.take_append_of_le_length
abbrev qfx:=@List.drop_eq_nil_iff
abbrev qfy:=@List.mem_append_left
abbrev X5:=@List.all_cons
abbrev P0:=@Nat.zero_mul
abbrev qf1:=@List.ext_getElem?
abbrev G1:=@Nat.pow_pos
abbrev G2:=@Nat.pow_add
abbrev qf4:=@List.filter_sublist
abbrev qf5:=@List.length_flatMap
abbrev qf6:=@Option.pure_def
abbrev qf7:=@Array.getD_eq_getD_getElem?
abbrev qf8:=@Array.getElem?_eq_none
abbrev qf9:=@Int.tmod_eq_emod_of_nonneg
abbrev qga:=@List.filter_cons
abbrev qgb:=@List.flatten_nil
abbrev qgc:=@List.mem_flatten
abbrev uT:=@and_true
abbrev qge:=@UInt8.toNat_ofNat'
abbrev qgf:=@List.filterMap_nil
abbrev qgg:=@List.map_filterMap
abbrev qgh:=@List.map_singleton
abbrev qgi:=@List.Pairwise.sublist
abbrev qgj:=@List.nodup_nil
abbrev qgk:=@List.drop_left
abbrev qgl:=@List.mapM_cons
abbrev qgm:=@Go.MapKept.run_getObj_map
abbrev qgn:=@List.drop_take
abbrev qgo:=@List.getElem?_of_mem
abbrev qgp:=@Array.size_setIfInBounds
abbrev qgq:=@List.getElem_take
abbrev qgr:=@List.find?_append
abbrev qgs:=@List.find?_filter
abbrev qgt:=@List.length_range
abbrev qgu:=@List.all_append
abbrev qgv:=@Nat.mul_comm
abbrev qgw:=@Array.getElem?_push
abbrev qgx:=@List.any_eq_true
abbrev qgy:=@List.take_append
abbrev qgz:=@List.flatMap_nil
abbrev qg0:=@List.Sublist.map
abbrev qg1:=@List.take_zero
abbrev qg2:=@Option.map_map
abbrev yT:=@and_self
abbrev qg4:=@List.set_cons_succ
abbrev qg5:=@Array.size_push
abbrev qg6:=@Classical.choose_spec
abbrev qg7:=@Nat.div_le_self
abbrev qg8:=@List.eq_nil_or_concat
abbrev qg9:=@List.nodup_cons
abbrev qha:=@List.Sublist.refl
abbrev qhb:=@Function.comp_def
abbrev qhc:=@Bool.or_false
abbrev X6:=@Array.ext'
abbrev qhe:=@Array.toList_extract
abbrev qhf:=@List.extract_eq_take_drop
abbrev qhg:=@List.foldl_nil
abbrev qhh:=@Option.isNone_iff_eq_none
abbrev qhi:=@List.nil_sublist
abbrev qhj:=@List.drop_append
abbrev qhk:=@Array.getElem?_replicate
abbrev qhl:=@Prod.ext_iff
abbrev qhm:=@List.sublist_append_left
abbrev qhn:=@List.append_cancel_left
abbrev qho:=@Nat.ne_of_beq_eq_false
abbrev qhp:=@List.length_eq_one_iff
abbrev qhq:=@List.size_toArray
abbrev qhr:=@Nat.div_one
abbrev qhs:=@Nat.pow_zero
abbrev qht:=@List.map_id'
abbrev qhu:=@Nat.lt_of_not_le
abbrev qhv:=@List.getElem_set
abbrev qhw:=@List.range_eq_range'
abbrev qhx:=@List.getElem?_append
abbrev qhy:=@Int.ofNat_eq_natCast
abbrev qhz:=@List.map_take
abbrev qh0:=@Go.ByteArray.toList_eq
abbrev qh1:=@Bool.decide_and
abbrev qh2:=@Int.tmod_nonneg
abbrev qh3:=@Go.Sem.run_ite
abbrev qh4:=@Nat.not_lt_zero
abbrev qh5:=@List.idxOf_lt_length_of_mem
abbrev qh6:=@Nat.mul_one
abbrev qh7:=@Array.toList_setIfInBounds
abbrev qh8:=@List.filter_append
abbrev qh9:=@Bool.not_eq_false'
abbrev qia:=@Int.emod_lt_of_pos
abbrev qib:=@Array.foldl_toList
abbrev qic:=@Array.getElem?_map
abbrev qid:=@Nat.succ_mul
abbrev qie:=@Go.ChangeMaps.open_string
abbrev qif:=@Bool.and_assoc
abbrev qig:=@List.take_left
abbrev qih:=@Array.mapM_eq_mapM_toList
abbrev qii:=@Go.MapKept.run_setObj_map
abbrev qij:=@List.Perm.refl
abbrev qik:=@Nat.ble_eq
abbrev qil:=@List.Sublist.append_left
abbrev qim:=@List.sum_cons
abbrev qin:=@List.any_cons
abbrev qio:=@List.filter_append_perm
abbrev qip:=@List.range'_succ
abbrev qiq:=@List.isEmpty_iff
abbrev qir:=@Nat.lt_or_ge
abbrev qis:=@List.range_succ
abbrev qit:=@Ne.symm
abbrev qiu:=@and_false
abbrev qiv:=@Int.emod_nonneg
abbrev qiw:=@Nat.sub_self
abbrev qix:=@Bool.or_self
abbrev qiy:=@List.count_cons
abbrev qiz:=@Bool.false_and
abbrev qi0:=@Nat.le_succ
abbrev qi1:=@Int.mul_add
abbrev qi2:=@List.mapM_nil
namespace Go.Vm
inductive Tr (α:Type) where
 | e
 | n (l:Tr α) (v:Option α) (r:Tr α)
namespace Tr
variable {α:Type}
def get:Tr α->Nat->Option α
 | .e,_=>none
 | .n l v r,i=>bif i.beq 0 then v else bif(i%2).beq 1 then l.get ((i-1) / 2) else r.get ((i-1) / 2)
def setK {β:Type} (a:α):Nat->Tr α->Nat->(Tr α->β)->β
 | 0,t,_,k=>k t
 | f+1,.e,i,k=>
   bif i.beq 0 then k (.n .e (some a) .e)
   else bif(i%2).beq 1 then setK a f .e ((i-1) / 2) λl=>k (.n l none .e)
   else setK a f .e ((i-1) / 2) λr=>k (.n .e none r)
 | f+1,.n l v r,i,k=>
   bif i.beq 0 then k (.n l (some a) r)
   else bif(i%2).beq 1 then setK a f l ((i-1) / 2) λl'=>k (.n l' v r)
   else setK a f r ((i-1) / 2) λr'=>k (.n l v r')
def xN (a:α) (f:Nat) (t:Tr α) (i:Nat):Tr α:=setK a f t i id
def set (t:Tr α) (i:Nat) (a:α):Tr α:=xN a (i+1) t i
def delK {β:Type}:Tr α->Nat->(Tr α->β)->β
 | .e,_,k=>k .e
 | .n l v r,i,k=>
   bif i.beq 0 then k (.n l none r)
   else bif(i%2).beq 1 then delK l ((i-1) / 2) λl'=>k (.n l' v r)
   else delK r ((i-1) / 2) λr'=>k (.n l v r')
def del (t:Tr α) (i:Nat):Tr α:=delK t i id
theorem setK_eq (a:α):∀(f:Nat) (β:Type) (t:Tr α) (i:Nat) (k:Tr α->β),setK a f t i k=k (xN a f t i):=by
 intro f;induction f with
 | zero=>intro β t i k;rfl
 | succ f ih=>
   intro β t i k;cases t with
   | e=>
     unfold xN setK;cases h0:i.beq 0<;>simp only[aH,aJ]
     ·cases h1:(i%2).beq 1<;>simp only[aH,aJ]<;>rw[ih,ih (Tr α)]<;>rfl
     ·rfl
   | n l v r=>
     unfold xN setK;cases h0:i.beq 0<;>simp only[aH,aJ]
     ·cases h1:(i%2).beq 1<;>simp only[aH,aJ]<;>rw[ih,ih (Tr α)]<;>rfl
     ·rfl
theorem delK_eq:∀(t:Tr α) (β:Type) (i:Nat) (k:Tr α->β),delK t i k=k (del t i):=by
 intro t;induction t with
 | e=>intro β i k;rfl
 | n l v r ihl ihr=>
   intro β i k;unfold del delK;cases h0:i.beq 0<;>simp only[aH,aJ]
   ·cases h1:(i%2).beq 1<;>simp only[aH,aJ]
    ·rw[ihr,ihr (Tr α)];rfl
    ·rw[ihl,ihl (Tr α)];rfl
   ·rfl
theorem knv (a:α) (f i:Nat):xN a (f+1) .e i=bif i.beq 0 then .n .e (some a) .e else bif(i%2).beq 1 then .n (xN a f .e ((i-1) / 2)) none .e else .n .e none (xN a f .e ((i-1) / 2)):=by
 show setK a (f+1) .e i id=_;rw[setK];cases i.beq 0<;>simp only[aH,aJ]
 ·cases (i%2).beq 1<;>simp only[aH,aJ]<;>rw[setK_eq]<;>rfl
 ·rfl
theorem knw (a:α) (f i:Nat) (l:Tr α) (v:Option α) (r:Tr α):xN a (f+1) (.n l v r) i=bif i.beq 0 then .n l (some a) r else bif(i%2).beq 1 then .n (xN a f l ((i-1) / 2)) v r else .n l v (xN a f r ((i-1) / 2)):=by
 show setK a (f+1) (.n l v r) i id=_;rw[setK];cases i.beq 0<;>simp only[aH,aJ]
 ·cases (i%2).beq 1<;>simp only[aH,aJ]<;>rw[setK_eq]<;>rfl
 ·rfl
theorem keg (a:α):∀(f:Nat) (t:Tr α) (i j:Nat),i<f->(xN a f t i).get j=if j=i then some a else t.get j:=by
 intro f;induction f with
 | zero=>intro t i j h;omega
 | succ f ih=>
   intro t i j h;have bq:∀x y:Nat,x.beq y=decide (x=y):=λx y=>by
    rcases hxy:x.beq y with _ | _
    ·have:=qho hxy;simp[this]
    ·have:=wD hxy;simp[this]
   have go:∀(l:Tr α) (v:Option α) (r:Tr α),(bif i.beq 0 then Tr.n l (some a) r else bif(i%2).beq 1 then Tr.n (xN a f l ((i-1) / 2)) v r else Tr.n l v (xN a f r ((i-1) / 2))).get j
     =if j=i then some a else(Tr.n l v r).get j:=by
    intro l v r;by_cases hi:i=0
    ·subst hi;simp only[bq,aU,aH];by_cases hj:j=0
     ·subst hj;simp[get]
     ·simp[get,bq,hj]
    ·have e0:i.beq 0=false:=by simp[bq,hi]
     simp only[e0,aJ];by_cases h1:i%2=1
     ·have e1:(i%2).beq 1=true:=by simp[bq,h1]
      simp only[e1,aH,get,bq];by_cases hj:j=0
      ·subst hj;simp;omega
      ·simp only[hj,aT,aJ];by_cases hj1:j%2=1
       ·simp only[hj1,aU,aH];rw[ih l _ _ (by omega)];by_cases hji:j=i
        ·subst hji;simp
        ·rw[aF (by omega),aF hji]
       ·simp only[hj1,aT,aJ];rw[aF (by omega)]
     ·have e1:(i%2).beq 1=false:=by simp[bq,h1]
      simp only[e1,aJ,get,bq];by_cases hj:j=0
      ·subst hj;simp;omega
      ·simp only[hj,aT,aJ];by_cases hj1:j%2=1
       ·simp only[hj1,aU,aH];rw[aF (by omega)]
       ·simp only[hj1,aT,aJ];rw[ih r _ _ (by omega)];by_cases hji:j=i
        ·subst hji;simp
        ·rw[aF (by omega),aF hji]
   cases t with
   | e=>
     have h1:=go .e none .e;have h2:(Tr.n .e none .e:Tr α).get j=(Tr.e:Tr α).get j:=by
      simp only[get];cases j.beq 0<;>cases (j%2).beq 1<;>rfl
     rw[h2] at h1;rw[<-h1,knv]
   | n l v r=>
     rw[<-go l v r,knw]
theorem get_set (t:Tr α) (i j:Nat) (a:α):(t.set i a).get j=if j=i then some a else t.get j:=keg a (i+1) t i j (by omega)
theorem get_del:∀(t:Tr α) (i j:Nat),(t.del i).get j=if j=i then none else t.get j:=by
 have bq:∀x y:Nat,x.beq y=decide (x=y):=λx y=>by
  rcases hxy:x.beq y with _ | _
  ·have:=qho hxy;simp[this]
  ·have:=wD hxy;simp[this]
 intro t;induction t with
 | e=>intro i j;simp[del,delK,get]
 | n l v r ihl ihr=>
   intro i j;unfold del delK;by_cases hi:i=0
   ·subst hi;by_cases hj:j=0
    ·subst hj;simp[bq,get]
    ·simp[bq,get,hj]
   ·by_cases h1:i%2=1
    ·simp only[bq,hi,h1,aT,aU,aJ,aH,delK_eq,id,get];by_cases hj:j=0
     ·subst hj;simp;omega
     ·simp only[hj,aT,aJ];by_cases hj1:j%2=1
      ·simp only[hj1,aU,aH,ihl];by_cases hji:j=i
       ·subst hji;simp
       ·rw[aF (by omega),aF hji]
      ·simp only[hj1,aT,aJ];rw[aF (by omega)]
    ·simp only[bq,hi,h1,aT,aJ,delK_eq,id,get];by_cases hj:j=0
     ·subst hj;simp;omega
     ·simp only[hj,aT,aJ];by_cases hj1:j%2=1
      ·simp only[hj1,aU,aH];rw[aF (by omega)]
      ·simp only[hj1,aT,aJ,ihr];by_cases hji:j=i
       ·subst hji;simp
       ·rw[aF (by omega),aF hji]
end Tr
inductive AV where
 | bool (b:Bool)
 | int (k:IntKind) (n:Int)
 | str (s:List Nat)
 | ptr (b o:Nat)
 | nilp
 | sl (b o len:Nat) (cap:Option Nat) (z:Nat)
 | nils
 | fn (f:Fn) (first capt:List AV)
 | nilf
 | ifc (t:TypeId) (v:AV)
 | nili
 | mp (b:Nat)
 | nilm
 | agg (l:List AV)
 | tup (l:List AV)
structure Loc where
 blk:Nat
 base:Nat
 lim:Nat
def RM:=Nat->Option Loc
def RO:Nat:=64
mutual
def VR (ρ:RM):AV->Value->Prop
 | .bool b,v=>v=.bool b
 | .int k n,v=>v=.int k n
 | .str s,v=>∃bs:ByteArray,v=.string bs/\bs.data.toList.map UInt8.toNat=s
 | .ptr b o,v=>∃l,ρ b=some l/\v=.pointer (some ⟨l.blk,l.base+o,none⟩)
 | .nilp,v=>v=.pointer none
 | .sl b o len cap z,v=>∃l c off,ρ b=some l/\v=.slice (some ⟨l.blk,off,none⟩) len c/\len<=c/\0<z/\(off=l.base+o\/c=0)/\
     (cap=some c/\l.base+o+c*z<=l.lim/\(RO<=b->c<9223372036854775808)\/cap=none/\l.base+o+c*z=l.lim/\c<9223372036854775808)
 | .nils,v=>v=.slice none 0 0
 | .fn f a b,v=>∃xs ys,v=.func f xs ys/\VRs ρ a xs.toList/\VRs ρ b ys.toList
 | .nilf,v=>v=.nilFunc
 | .ifc t x,v=>∃y,v=.iface t y/\VR ρ x y
 | .nili,v=>v=.nilIface
 | .mp b,v=>∃l,ρ b=some l/\v=.map (some l.blk)
 | .nilm,v=>v=.map none
 | .agg l,v=>∃cs,v=.agg cs/\VRs ρ l cs.toList
 | .tup l,v=>∃cs,v=.tuple cs/\VRs ρ l cs.toList
def VRs (ρ:RM):List AV->List Value->Prop
 | [],vs=>vs=[]
 | a::l,vs=>∃v vs',vs=v::vs'/\VR ρ a v/\VRs ρ l vs'
end
def RM.Le (ρ ρ':RM):Prop:=∀b l,ρ b=some l->ρ' b=some l
theorem RM.Le.refl (ρ:RM):ρ.Le ρ:=λ_ _ h=>h
theorem RM.Le.trans {a b c:RM} (h:a.Le b) (k:b.Le c):a.Le c:=λx l e=>k x l (h x l e)
mutual
theorem VR.mono {ρ ρ':RM} (h:ρ.Le ρ'):∀(a:AV) (v:Value),VR ρ a v->VR ρ' a v
 | .bool b,v,e=>by simpa[VR] using e
 | .int k n,v,e=>by simpa[VR] using e
 | .str s,v,e=>by simpa[VR] using e
 | .ptr b o,v,e=>by
   simp only[VR] at *;obtain⟨l,e1,e2⟩:=e;exact⟨l,h _ _ e1,e2⟩
 | .nilp,v,e=>by simpa[VR] using e
 | .sl b o len cap z,v,e=>by
   simp only[VR] at *;obtain⟨l,c,off,e1,e2⟩:=e;exact⟨l,c,off,h _ _ e1,e2⟩
 | .nils,v,e=>by simpa[VR] using e
 | .fn f a b,v,e=>by
   simp only[VR] at *;obtain⟨xs,ys,e1,e2,e3⟩:=e;exact⟨xs,ys,e1,VRs.mono h _ _ e2,VRs.mono h _ _ e3⟩
 | .nilf,v,e=>by simpa[VR] using e
 | .ifc t x,v,e=>by
   simp only[VR] at *;obtain⟨y,e1,e2⟩:=e;exact⟨y,e1,VR.mono h _ _ e2⟩
 | .nili,v,e=>by simpa[VR] using e
 | .mp b,v,e=>by
   simp only[VR] at *;obtain⟨l,e1,e2⟩:=e;exact⟨l,h _ _ e1,e2⟩
 | .nilm,v,e=>by simpa[VR] using e
 | .agg l,v,e=>by
   simp only[VR] at *;obtain⟨y,e1,e2⟩:=e;exact⟨y,e1,VRs.mono h _ _ e2⟩
 | .tup l,v,e=>by
   simp only[VR] at *;obtain⟨y,e1,e2⟩:=e;exact⟨y,e1,VRs.mono h _ _ e2⟩
theorem VRs.mono {ρ ρ':RM} (h:ρ.Le ρ'):∀(a:List AV) (v:List Value),VRs ρ a v->VRs ρ' a v
 | [],v,e=>by simpa[VRs] using e
 | a::l,v,e=>by
   simp only[VRs] at *;obtain⟨x,xs,e1,e2,e3⟩:=e;exact⟨x,xs,e1,VR.mono h _ _ e2,VRs.mono h _ _ e3⟩
end
theorem I3 (ρ:RM):∀(l:List AV) (vs:List Value),VRs ρ l vs↔l.length=vs.length/\∀(i:Nat) (a:AV) (v:Value),l[i]?=some a->vs[i]?=some v->VR ρ a v
 | [],vs=>by cases vs<;>simp[VRs]
 | a::l,vs=>by
   simp only[VRs];constructor
   ·rintro ⟨v,vs',rfl,h1,h2⟩;rw[I3 ρ l vs'] at h2;refine⟨by simp[h2.1],λi x y hx hy=>?_⟩;cases i with
    | zero=>simp at hx hy;subst hx;subst hy;exact h1
    | succ i=>exact h2.2 i x y (by simpa using hx) (by simpa using hy)
   ·rintro ⟨h1,h2⟩;cases vs with
    | nil=>simp at h1
    | cons v vs'=>
      refine⟨v,vs',rfl,h2 0 a v rfl rfl,(I3 ρ l vs').2 ⟨by simpa using h1,λi x y hx hy=>h2 (i+1) x y (by simpa using hx) (by simpa using hy)⟩⟩
theorem VRs.get {ρ:RM} {l:List AV} {vs:List Value} (h:VRs ρ l vs) {i:Nat} {a:AV} (ha:l[i]?=some a):∃v,vs[i]?=some v/\VR ρ a v:=by
 obtain⟨h1,h2⟩:=(I3 ρ l vs).1 h;have hi:i<vs.length:=by rw[<-h1];exact(oM.1 ha).1
 exact⟨vs[i],by simp[hi],h2 i a _ ha (by simp[hi])⟩
theorem VRs.length {ρ:RM} {l:List AV} {vs:List Value} (h:VRs ρ l vs):l.length=vs.length:=((I3 ρ l vs).1 h).1
theorem VRs.append {ρ:RM} {l l':List AV} {vs vs':List Value} (h:VRs ρ l vs) (h':VRs ρ l' vs'):VRs ρ (l++l') (vs++vs'):=by
 induction l generalizing vs with
 | nil=>simp only[VRs] at h;subst h;simpa using h'
 | cons a l ih=>
   simp only[VRs] at h;obtain⟨v,r,rfl,h1,h2⟩:=h;exact⟨v,r++vs',rfl,h1,ih h2⟩
theorem VRs.take {ρ:RM} {l:List AV} {vs:List Value} (h:VRs ρ l vs) (n:Nat):VRs ρ (l.take n) (vs.take n):=by
 rw[I3] at *;refine⟨by simp[h.1],λi a v ha hv=>?_⟩;rw[F9] at ha hv;split at ha
 ·rename_i hi;rw[aK hi] at hv;exact h.2 i a v ha hv
 ·cases ha
theorem VRs.drop {ρ:RM} {l:List AV} {vs:List Value} (h:VRs ρ l vs) (n:Nat):VRs ρ (l.drop n) (vs.drop n):=by
 rw[I3] at *;refine⟨by simp[h.1],λi a v ha hv=>?_⟩;rw[O5] at ha hv;exact h.2 _ a v ha hv
def nA:AV->List AV
 | .agg l=>l
 | v=>[v]
theorem VR.cells {ρ:RM} {a:AV} {v:Value} (h:VR ρ a v):VRs ρ (nA a) v.cells.toList:=by
 cases a<;>simp only[VR] at h<;>simp only[nA]
 case agg l=>obtain⟨cs,rfl,h⟩:=h;exact h
 all_goals
  refine⟨v,[],?_,?_,rfl⟩
  ·first
   | (subst h;rfl)
   | (obtain⟨_,rfl,_⟩:=h;rfl)
   | (obtain⟨_,_,rfl⟩:=h;rfl)
   | (obtain⟨_,_,rfl,_⟩:=h;rfl)
   | (obtain⟨_,_,_,_,rfl,_⟩:=h;rfl)
  ·simp only[VR];exact h
def oR:AV->Bool
 | .agg _ | .tup _=>false
 | _=>true
theorem VR.one {ρ:RM} {a:AV} {v:Value} (h:VR ρ a v):v.oneCell'=oR a:=by
 cases a<;>simp only[VR] at h<;>first
  | (subst h;rfl)
  | (obtain⟨_,rfl,_⟩:=h;rfl)
  | (obtain⟨_,_,rfl⟩:=h;rfl)
  | (obtain⟨_,_,rfl,_⟩:=h;rfl)
  | (obtain⟨_,_,_,_,rfl,_⟩:=h;rfl)
end Go.Vm
namespace Go.Vm
inductive Blk where
 | cells (c:Tr AV) (n:Nat)
 | iter (s:List Nat) (pos:Nat)
 | mp (m:List (AV×AV))
def Blk.Rel (pl:Bool) (ρ:RM):Blk->Loc->World->Prop
 | .cells c n,l,w=>∃cs elem fr,w.heap[l.blk]?=some (.cells cs elem fr)/\l.base+n<=l.lim/\l.lim<=cs.size/\
     (∀i,l.base<=i->(pl=false->i<l.lim)->¬(fr.1<=i/\i<fr.2))/\∀i,i<n->∃a v,c.get i=some a/\cs[l.base+i]?=some v/\VR ρ a v
 | .iter s pos,l,w=>∃bs,w.heap[l.blk]?=some (.stringIter bs pos)/\bs.data.toList.map UInt8.toNat=s/\l.base=0
 | .mp m,l,w=>∃es clock,w.heap[l.blk]?=some (.map es clock)/\VRs ρ (m.map (·.1)) (es.toList.map (·.key))/\VRs ρ (m.map (·.2)) (es.toList.map (·.val))
def rx (ro:Nat):Nat:=max ro RO
theorem rJ {ro b:Nat} (h:rx ro<=b):ro<=b/\RO<=b:=Nat.max_le.1 h
structure HR (ρ:RM) (H:Tr Blk) (w:World):Prop where
 blk:∀b k l,H.get b=some k->ρ b=some l->k.Rel (RO.ble b) ρ l w
 inj:∀b b' l l',(H.get b).isSome->(H.get b').isSome->ρ b=some l->ρ b'=some l'->l.blk=l'.blk->b=b'\/(b<RO/\b'<RO)
structure Step (ρ:RM) (H:Tr Blk) (nx ro:Nat) (w:World) (ρ':RM) (H':Tr Blk) (nx':Nat) (w':World):Prop where
 os:w'.os=w.os
 tape:w'.tape=w.tape
 output:w'.output=w.output
 size:w.heap.size<=w'.heap.size
 up:nx<=nx'
 ext:∀b,(b<nx\/nx'<=b)->ρ' b=ρ b
 keep:∀x,x<w.heap.size->(∀b l,ρ b=some l->l.blk=x->(H.get b).isSome->b<ro)->w'.heap[x]?=w.heap[x]?
 fresh:∀b l,nx<=b->b<nx'->ρ' b=some l->(w.heap.size<=l.blk/\l.blk<w'.heap.size)\/∃b0 l0,ro<=b0/\(H.get b0).isSome/\ρ b0=some l0/\l0.blk=l.blk
 live:∀b,(H'.get b).isSome->(nx<=b/\b<nx')\/(H.get b).isSome
 old:∀b,b<ro->b<nx->H'.get b=H.get b
theorem Step.refl (ρ:RM) (H:Tr Blk) (nx ro:Nat) (w:World):Step ρ H nx ro w ρ H nx w:=
 ⟨rfl,rfl,rfl,bV _,bV _,λ_ _=>rfl,λ_ _ _=>rfl,λb l h h'=>by omega,λ_ h=>.inr h,λ_ _ _=>rfl⟩
theorem Step.trans {ρ ρ1 ρ2:RM} {H H1 H2:Tr Blk} {nx nx1 nx2 ro:Nat} {w w1 w2:World}
  (s:Step ρ H nx ro w ρ1 H1 nx1 w1) (t:Step ρ1 H1 nx1 ro w1 ρ2 H2 nx2 w2):Step ρ H nx ro w ρ2 H2 nx2 w2 where
 os:=t.os.trans s.os
 tape:=t.tape.trans s.tape
 output:=t.output.trans s.output
 size:=gE s.size t.size
 up:=gE s.up t.up
 ext b h:=by
  have h1:=s.up;have h2:=t.up
  rw[t.ext b (by omega),s.ext b (by omega)]
 keep x hx h:=by
  rw[t.keep x (nK hx s.size) ?_,s.keep x hx h];intro b l hb hl hs;by_cases hbn:b<nx
  ·refine h b l ((s.ext b (.inl hbn))▸hb) hl ?_;rcases s.live b hs with h1 | h1
   ·omega
   ·exact h1
  ·by_cases hbn':b<nx1
   ·rcases s.fresh b l (by omega) hbn' hb with⟨h1,_⟩ | ⟨b0,l0,h1,h2,h3,h4⟩
    ·omega
    ·have:=h b0 l0 h3 (h4.trans hl) h2;omega
   ·rcases s.live b hs with h1 | h1
    ·omega
    ·exact h b l ((s.ext b (.inr (by omega)))▸hb) hl h1
 fresh b l h1 h2 hb:=by
  have a1:=s.up;have a2:=t.up;have a3:=s.size;have a4:=t.size
  by_cases hbn:b<nx1
  ·rcases s.fresh b l h1 hbn ((t.ext b (.inl hbn))▸hb) with⟨h3,h4⟩ | h3
   ·exact .inl ⟨h3,by omega⟩
   ·exact .inr h3
  ·rcases t.fresh b l (by omega) h2 hb with⟨h3,h4⟩ | ⟨b0,l0,h3,h4,h5,h6⟩
   ·exact .inl ⟨by omega,h4⟩
   ·by_cases hb0:nx<=b0/\b0<nx1
    ·rcases s.fresh b0 l0 hb0.1 hb0.2 h5 with⟨h7,h8⟩ | ⟨b1,l1,h7,h8,h9,h10⟩
     ·exact .inl ⟨by omega,by omega⟩
     ·exact .inr ⟨b1,l1,h7,h8,h9,h10.trans h6⟩
    ·have e:=s.ext b0 (by omega);rcases s.live b0 h4 with h7 | h7
     ·omega
     ·exact .inr ⟨b0,l0,h3,h7,e▸h5,h6⟩
 live b h:=by
  have a1:=s.up;have a2:=t.up
  rcases t.live b h with h1 | h1
  ·exact .inl (by omega)
  ·rcases s.live b h1 with h2 | h2
   ·exact .inl (by omega)
   ·exact .inr h2
 old b h h':=by
  rw[t.old b h (nK h' s.up),s.old b h h']
def Free (ρ:RM) (nx nx':Nat):Prop:=∀b,nx<=b->b<nx'->ρ b=none
theorem Step.le {ρ ρ':RM} {H H':Tr Blk} {nx nx' ro:Nat} {w w':World} (s:Step ρ H nx ro w ρ' H' nx' w') (hf:Free ρ nx nx'):ρ.Le ρ':=by
 intro b l hb;by_cases h:nx<=b/\b<nx'
 ·have:=hf b h.1 h.2;rw[this] at hb;cases hb
 ·rw[s.ext b (by omega)];exact hb
theorem Step.free {ρ ρ':RM} {H H':Tr Blk} {nx nx' nx'' ro:Nat} {w w':World} (s:Step ρ H nx ro w ρ' H' nx' w') (hf:Free ρ nx nx''):Free ρ' nx' nx'':=by
 intro b h1 h2;rw[s.ext b (.inr h1)];exact hf b (gE s.up h1) h2
theorem Free.left {ρ:RM} {a b c:Nat} (h:Free ρ a c) (hb:b<=c):Free ρ a b:=λx h1 h2=>h x h1 (by omega)
theorem Blk.Rel.mono {pl:Bool} {ρ ρ':RM} (h:ρ.Le ρ') {k:Blk} {l:Loc} {w w':World} (hk:k.Rel pl ρ l w) (hw:w'.heap[l.blk]?=w.heap[l.blk]?):k.Rel pl ρ' l w':=by
 cases k with
 | cells c n=>
   obtain⟨cs,e,fr,h1,h2,h3,h4,h5⟩:=hk;refine⟨cs,e,fr,hw.trans h1,h2,h3,h4,λi hi=>?_⟩;obtain⟨a,v,h6,h7,h8⟩:=h5 i hi;exact⟨a,v,h6,h7,VR.mono h _ _ h8⟩
 | iter s pos=>
   obtain⟨bs,h1,h2⟩:=hk;exact⟨bs,hw.trans h1,h2⟩
 | mp m=>
   obtain⟨es,clock,h1,h2,h3⟩:=hk;exact⟨es,clock,hw.trans h1,VRs.mono h _ _ h2,VRs.mono h _ _ h3⟩
theorem Blk.Rel.lt {pl:Bool} {ρ:RM} {k:Blk} {l:Loc} {w:World} (hk:k.Rel pl ρ l w):l.blk<w.heap.size:=by
 cases k with
 | cells c n=>
   obtain⟨cs,e,fr,h1,_⟩:=hk;exact(lD.1 h1).1
 | iter s pos=>
   obtain⟨bs,h1,h2⟩:=hk;exact(lD.1 h1).1
 | mp m=>
   obtain⟨es,clock,h1,_⟩:=hk;exact(lD.1 h1).1
def RM.upd (ρ:RM) (b:Nat) (l:Loc):RM:=λx=>if x=b then some l else ρ x
theorem RM.le_upd {ρ:RM} {b:Nat} {l:Loc} (h:ρ b=none):ρ.Le (ρ.upd b l):=by
 intro x y hx;unfold RM.upd;split
 ·subst x;rw[h] at hx;cases hx
 ·exact hx
theorem HR.alloc {ρ:RM} {H:Tr Blk} {w:World} {nx ro:Nat} (h:HR ρ H w) (hn:ρ nx=none) (o:Obj) (k:Blk) (l:Loc) (hl:l.blk=w.heap.size)
  (hk:k.Rel (RO.ble nx) (ρ.upd nx l) l (w.alloc o)) (hro:ro<=nx):
  HR (ρ.upd nx l) (H.set nx k) (w.alloc o)/\Step ρ H nx ro w (ρ.upd nx l) (H.set nx k) (nx+1) (w.alloc o):=by
 have hle:=RM.le_upd (l:=l) hn;have hold:∀x,x<w.heap.size->(w.alloc o).heap[x]?=w.heap[x]?:=λx hx=>qeq w o x hx
 have ne:∀b k' l',H.get b=some k'->ρ b=some l'->l'.blk<w.heap.size:=λb k' l' h1 h2=>(h.blk b k' l' h1 h2).lt
 refine⟨⟨?_,?_⟩,?_⟩
 ·intro b k' l' hb hl';rw[Tr.get_set] at hb;unfold RM.upd at hl';by_cases e:b=nx
  ·simp only[e,cM] at hb hl';cases hb;cases hl';rw[e];exact hk
  ·simp only[e,dR] at hb hl';have hr:=h.blk b k' l' hb hl';exact hr.mono hle (hold _ hr.lt)
 ·intro b b' l1 l2 h1 h2 e1 e2 e;rw[Tr.get_set] at h1 h2;unfold RM.upd at e1 e2;by_cases hb:b=nx
  ·by_cases hb':b'=nx
   ·exact .inl (hb.trans hb'.symm)
   ·simp only[hb,hb',cM,dR] at h1 h2 e1 e2;cases e1;obtain⟨k2,hk2⟩:=uQ.1 h2;have:=ne b' k2 l2 hk2 e2;omega
  ·by_cases hb':b'=nx
   ·simp only[hb,hb',cM,dR] at h1 h2 e1 e2;cases e2;obtain⟨k1,hk1⟩:=uQ.1 h1;have:=ne b k1 l1 hk1 e1;omega
   ·simp only[hb,hb',dR] at h1 h2 e1 e2;exact h.inj b b' l1 l2 h1 h2 e1 e2 e
 ·refine⟨rfl,rfl,rfl,by simp,by omega,?_,?_,?_,?_,?_⟩
  ·intro b hb;unfold RM.upd;rw[aF (by omega)]
  ·intro x hx _;exact hold x hx
  ·intro b l' h1 h2 hb;have:b=nx:=by omega
   subst this;simp only[RM.upd,cM] at hb;cases hb;exact .inl ⟨by omega,by simp;omega⟩
  ·intro b hb;rw[Tr.get_set] at hb;by_cases e:b=nx
   ·exact .inl (by omega)
   ·simp only[e,dR] at hb;exact .inr hb
  ·intro b hb hb';rw[Tr.get_set,aF (by omega)]
theorem HR.write {ρ:RM} {H:Tr Blk} {w w':World} {nx ro b:Nat} (h:HR ρ H w) (k:Blk) (l:Loc) (hs:(H.get b).isSome) (hl:ρ b=some l) (hrx:rx ro<=b)
  (os:w'.os=w.os) (tape:w'.tape=w.tape) (out:w'.output=w.output) (size:w'.heap.size=w.heap.size)
  (hold:∀x,x≠l.blk->w'.heap[x]?=w.heap[x]?) (hk:k.Rel (RO.ble b) ρ l w'):
  HR ρ (H.set b k) w'/\Step ρ H nx ro w ρ (H.set b k) nx w':=by
 obtain⟨hro,hRO⟩:=rJ hrx;refine⟨⟨?_,?_⟩,⟨os,tape,out,by omega,bV _,λ_ _=>rfl,?_,λb l h1 h2=>by omega,?_,?_⟩⟩
 ·intro b' k' l' hb hl';rw[Tr.get_set] at hb;by_cases e:b'=b
  ·subst e;rw[hl] at hl';simp only[cM] at hb;cases hb;cases hl';exact hk
  ·simp only[e,dR] at hb;have hr:=h.blk b' k' l' hb hl';refine hr.mono (RM.Le.refl _) (hold _ λe'=>e ?_);rcases h.inj b' b l' l (by rw[hb];rfl) hs hl' hl e' with h1 | h1
   ·exact h1
   ·omega
 ·intro x y l1 l2 h1 h2 e1 e2 e;rw[Tr.get_set] at h1 h2;refine h.inj x y l1 l2 ?_ ?_ e1 e2 e
  ·by_cases ex:x=b
   ·rw[ex];exact hs
   ·simpa[ex] using h1
  ·by_cases ey:y=b
   ·rw[ey];exact hs
   ·simpa[ey] using h2
 ·intro x _ hk;refine hold x λe=>?_
  have:=hk b l hl e.symm hs;omega
 ·intro x hx;rw[Tr.get_set] at hx;by_cases e:x=b
  ·rw[e];exact .inr hs
  ·exact .inr (by simpa[e] using hx)
 ·intro x hx _;rw[Tr.get_set,aF (by omega)]
theorem HR.drew {ρ:RM} {H:Tr Blk} {w:World} (n:Nat) (h:HR ρ H w):HR ρ H { w with drawn:=n }:=by
 refine⟨λb k l hb hl=>?_,h.inj⟩;have:=h.blk b k l hb hl;exact this.mono (RM.Le.refl _) rfl
theorem Step.drew (ρ:RM) (H:Tr Blk) (nx ro:Nat) (w:World) (n:Nat):Step ρ H nx ro w ρ H nx { w with drawn:=n }:=
 ⟨rfl,rfl,rfl,bV _,bV _,λ_ _=>rfl,λ_ _ _=>rfl,λb l h h'=>by omega,λ_ h=>.inr h,λ_ _ _=>rfl⟩
end Go.Vm
namespace Go.Vm
def s7 {β:Type} (n:Nat) (k:Nat->β):β:=match n with | 0=>k 0 | m+1=>k (m+1)
def jtu {β:Type} (n:Int) (k:Int->β):β:=match n with
 | .ofNat n=>s7 n λn=>k (.ofNat n)
 | .negSucc n=>s7 n λn=>k (.negSucc n)
theorem jbj {β:Type} (n:Nat) (k:Nat->β):s7 n k=k n:=by cases n<;>rfl
theorem kd9 {β:Type} (n:Int) (k:Int->β):jtu n k=k n:=by cases n<;>simp[jtu,jbj]
def jju {β:Type}:List Nat->(List Nat->β)->β
 | [],k=>k []
 | x::l,k=>s7 x λx=>jju l λl=>k (x::l)
theorem jfh:∀(l:List Nat) (β:Type) (k:List Nat->β),jju l k=k l
 | [],_,_=>rfl
 | x::l,β,k=>by simp[jju,jbj,jfh l]
def jjs {β:Type} (v:AV) (k:AV->β):β:=match v with
 | .int d n=>jtu n λn=>k (.int d n)
 | .bool b=>match b with | true=>k (.bool true) | false=>k (.bool false)
 | .str s=>jju s λs=>k (.str s)
 | .ptr b o=>s7 b λb=>s7 o λo=>k (.ptr b o)
 | .sl b o len cap z=>s7 b λb=>s7 o λo=>s7 len λlen=>match cap with
   | none=>k (.sl b o len none z)
   | some c=>s7 c λc=>k (.sl b o len (some c) z)
 | v=>k v
theorem jfg {β:Type} (v:AV) (k:AV->β):jjs v k=k v:=by
 cases v<;>simp[jjs,kd9,jfh,jbj]
 case bool b=>cases b<;>rfl
 case sl b o len cap z=>cases cap<;>simp[jbj]
def jjt {β:Type}:List AV->(List AV->β)->β
 | [],k=>k []
 | x::l,k=>jjs x λx=>jjt l λl=>k (x::l)
theorem jbi:∀(l:List AV) (β:Type) (k:List AV->β),jjt l k=k l
 | [],_,_=>rfl
 | x::l,β,k=>by simp[jjt,jfg,jbi l]
def yE:Int->Int->Bool
 | .ofNat a,.ofNat b=>a.beq b
 | .negSucc a,.negSucc b=>a.beq b
 | _,_=>false
def tF:Int->Int->Bool
 | .ofNat a,.ofNat b=>a.ble b
 | .negSucc a,.negSucc b=>b.ble a
 | .negSucc _,.ofNat _=>true
 | .ofNat _,.negSucc _=>false
theorem bQ (x y:Nat):x.beq y=decide (x=y):=by
 rcases hxy:x.beq y with _ | _
 ·have:=qho hxy;simp[this]
 ·have:=wD hxy;simp[this]
theorem bE (x y:Nat):x.ble y=decide (x<=y):=by
 rcases hxy:x.ble y with _ | _
 ·have:¬x<=y:=λh=>by have:=Nat.ble_eq_true_of_le h;simp[hxy] at this
  simp[this]
 ·have:=bN hxy;simp[this]
theorem jbm (a b:Int):yE a b=(a==b):=by
 rw[qfs,beq_iff_eq];cases a<;>cases b<;>simp[yE,bQ]<;>omega
theorem K2 (a b:Int):tF a b=decide (a<=b):=by
 rw[qfs,decide_eq_true_iff];cases a with
 | ofNat a=>cases b with
   | ofNat b=>simp[tF,bE]
   | negSucc b=>simp[tF];omega
 | negSucc a=>cases b with
   | ofNat b=>simp[tF];omega
   | negSucc b=>simp[tF,bE];omega
def kix:IntKind->Nat
 | .i8=>0 | .i16=>1 | .i32=>2 | .i64=>3 | .u8=>4 | .u16=>5 | .u32=>6 | .u64=>7
def rV (a b:IntKind):Bool:=(kix a).beq (kix b)
theorem t7 {a b:IntKind}:rV a b=true↔a=b:=by cases a<;>cases b<;>simp[rV,kix]
def D1:IntKind->Nat
 | .i8=>128 | .i16=>32768 | .i32=>2147483648 | .i64=>9223372036854775808
 | .u8=>256 | .u16=>65536 | .u32=>4294967296 | .u64=>18446744073709551616
def jpl:IntKind->Bool
 | .i8 | .i16 | .i32 | .i64=>true
 | _=>false
def Z0 (k:IntKind) (n:Int):Int:=match n with
 | .ofNat m=>bif(D1 k).ble m then k.wrap n else n
 | .negSucc m=>bif jpl k&& !((D1 k).ble m) then n else k.wrap n
theorem jrk (k:IntKind) (n:Int) (h0:0<=n) (h:n< (D1 k:Int)):k.wrap n=n:=by
 unfold IntKind.wrap;cases k<;>simp only[D1,Int.cast_ofNat_Int] at h<;>simp only[IntKind.bits,IntKind.signed,sK,qiz]<;>simp<;>omega
theorem j6g (k:IntKind) (n:Int) (hk:jpl k=true) (h0:n<0) (h: -(D1 k:Int)<=n):k.wrap n=n:=by
 unfold IntKind.wrap;cases k<;>simp only[jpl,reduceCtorEq] at hk<;>simp only[D1,Int.cast_ofNat_Int] at h<;>simp only[IntKind.bits,IntKind.signed,sK]<;>simp<;>omega
theorem A9 (k:IntKind) (n:Int):Z0 k n=k.wrap n:=by
 cases n with
 | ofNat m=>
   simp only[Z0,bE];by_cases h:D1 k<=m
   ·simp only[h,aU,aH]
   ·simp only[h,aT,aJ];rw[jrk k (Int.ofNat m) (qfu m) (by simp;omega)]
 | negSucc m=>
   simp only[Z0,bE];by_cases h:D1 k<=m
   ·simp only[h,aU,fS,Bool.and_false,aJ]
   ·simp only[h,aT,wF,rN];cases hk:jpl k
    ·rfl
    ·rw[j6g k _ hk (by omega) (by omega)];rfl
def uK:List Nat->List Nat->Bool
 | [],[]=>true
 | a::x,b::y=>a.beq b&&uK x y
 | _,_=>false
def u6:List Nat->List Nat->Bool
 | _,[]=>false
 | [],_::_=>true
 | a::x,b::y=>bif a.beq b then u6 x y else a.ble b
theorem jui:∀(x y:List Nat),uK x y=true↔x=y
 | [],[]=>by simp[uK]
 | [],_::_=>by simp[uK]
 | _::_,[]=>by simp[uK]
 | a::x,b::y=>by simp[uK,bQ,jui x y]
theorem kiw {x y:List UInt8} (h:x.map UInt8.toNat=y.map UInt8.toNat):x=y:=
 List.map_inj_right (λ_ _ e=>X4.1 e) |>.1 h
theorem juh (x y:List UInt8):uK (x.map UInt8.toNat) (y.map UInt8.toNat)=(x==y):=by
 rw[qfs,jui,beq_iff_eq];exact⟨kiw,λh=>h▸rfl⟩
theorem j19:∀(x y:List UInt8),u6 (x.map UInt8.toNat) (y.map UInt8.toNat)=Op.bytesLess x y
 | x,[]=>by cases x<;>rfl
 | [],_::_=>rfl
 | a::x,b::y=>by
   simp only[dA,u6,Op.bytesLess,j19 x y,bQ,bE];by_cases h:a=b
   ·subst h;simp
   ·have h1:a.toNat≠b.toNat:=λe=>h (X4.1 e)
    have h2:(a==b)=false:=by simp[h]
    simp only[h1,aT,aJ,h2,qiz,qhc];rw[qfs];simp[UInt8.lt_iff_toNat_lt];omega
def vD (op:BinOp) (a b:AV):Option AV:=
 match a,b with
 | .int k x,.int k' y=>
   match op with
   | .shl=>bif tF 0 y then some (.int k (Z0 k (x*2^ (min y.toNat k.bits)))) else none
   | .shr=>bif tF 0 y then some (.int k (x.fdiv (2^ (min y.toNat k.bits)))) else none
   | op=>bif rV k k' then(match op with
     | .add=>some (.int k (Z0 k (x+y)))
     | .sub=>some (.int k (Z0 k (x-y)))
     | .mul=>some (.int k (Z0 k (x*y)))
     | .quo=>bif yE y 0 then none else some (.int k (Z0 k (x.tdiv y)))
     | .rem=>bif yE y 0 then none else some (.int k (x.tmod y))
     | .and=>some (.int k (k.wrap (BitVec.ofInt k.bits x &&& BitVec.ofInt k.bits y).toNat))
     | .or=>some (.int k (k.wrap (BitVec.ofInt k.bits x ||| BitVec.ofInt k.bits y).toNat))
     | .xor=>some (.int k (k.wrap (BitVec.ofInt k.bits x ^^^ BitVec.ofInt k.bits y).toNat))
     | .andNot=>some (.int k (k.wrap (BitVec.ofInt k.bits x &&& ~~~ BitVec.ofInt k.bits y).toNat))
     | .eql=>some (.bool (yE x y))
     | .neq=>some (.bool (!yE x y))
     | .lss=>some (.bool (!tF y x))
     | .leq=>some (.bool (tF x y))
     | .gtr=>some (.bool (!tF x y))
     | .geq=>some (.bool (tF y x))
     | _=>none) else none
 | .str s,.str t=>
   match op with
   | .add=>bif(s.length+t.length).ble 4000000000 then some (.str (s++t)) else none
   | .eql=>some (.bool (uK s t))
   | .neq=>some (.bool (!uK s t))
   | .lss=>some (.bool (u6 s t))
   | .leq=>some (.bool (u6 s t||uK s t))
   | .gtr=>some (.bool (!(u6 s t||uK s t)))
   | .geq=>some (.bool (!u6 s t))
   | _=>none
 | _,_=>none
theorem j9r {ρ:RM} {P:Program} {op:BinOp} {a b v:AV} {x y:Value} (w:World) (t:TypeId) (h:vD op a b=some v) (ha:VR ρ a x) (hb:VR ρ b y):
  ∃v',(binOp op t x y).run P w=.ok v' w/\VR ρ v v':=by
 unfold vD at h;split at h
 ·rename_i k n k' m;simp only[VR] at ha hb;subst ha;subst hb;split at h
  ·cases h0:tF 0 m<;>simp only[h0,aH,aJ] at h
   ·cases h
   ·cases h;rw[K2] at h0;have h1:¬m<0:=by have:=of_decide_eq_true h0;omega
    refine⟨_,by simp[binOp,Op.shift,h1];rfl,by simp[VR,A9]⟩
  ·cases h0:tF 0 m<;>simp only[h0,aH,aJ] at h
   ·cases h
   ·cases h;rw[K2] at h0;have h1:¬m<0:=by have:=of_decide_eq_true h0;omega
    refine⟨_,by simp[binOp,Op.shift,h1];rfl,by simp[VR]⟩
  ·rename_i hn1 hn2;cases h0:rV k k'<;>simp only[h0,aH,aJ] at h
   ·cases h
   ·have hk:=t7.1 h0;subst hk;cases op<;>simp only[reduceCtorEq,gQ] at h hn1 hn2<;>try (cases h)
    case quo=>
     rw[jbm] at h;cases h2:(m==0)<;>simp only[h2,aH,aJ] at h
     ·cases h;have:¬m=0:=by simpa using h2
      exact⟨_,by simp[binOp,Op.intDiv,this];rfl,by simp[VR,A9]⟩
     ·cases h
    case rem=>
     rw[jbm] at h;cases h2:(m==0)<;>simp only[h2,aH,aJ] at h
     ·cases h;have:¬m=0:=by simpa using h2
      exact⟨_,by simp[binOp,Op.intDiv,this];rfl,by simp[VR]⟩
     ·cases h
    all_goals
     refine⟨_,by simp[binOp,Op.intArith,Op.intBits,Op.intCmp];rfl,?_⟩
     first
      | (simp[VR,A9,jbm,K2,bne];done)
      | (simp only[VR,K2,Value.bool.injEq];rw[qfs];simp)
 ·rename_i s t';simp only[VR] at ha hb;obtain⟨s',rfl,rfl⟩:=ha;obtain⟨t',rfl,rfl⟩:=hb;have e1:=juh s'.data.toList t'.data.toList;have e2:=j19 s'.data.toList t'.data.toList;cases op<;>simp only[reduceCtorEq] at h<;>try (cases h)
  case add=>
   simp only[bE,cY] at h;by_cases h3:s'.data.toList.length+t'.data.toList.length<=4000000000
   ·simp only[h3,aU,aH] at h;cases h;have h4:¬((s'.size+t'.size:Nat):Int) > IntKind.i64.max:=by
     have:s'.size+t'.size<=4000000000:=by simpa using h3
     simp[IntKind.max,IntKind.signed,IntKind.bits];omega
    refine⟨.string (s'++t'),by simp only[binOp,Op.stringOp,h4,dR];rfl,?_⟩;simp[VR]
   ·simp only[h3,aT,aJ,reduceCtorEq] at h
  all_goals
   refine⟨_,by simp only[binOp,Op.stringOp,qh0,jE];rfl,?_⟩;simp only[VR,e1,e2]
 ·cases h
end Go.Vm
namespace Go.Vm
inductive Opd where
 | t (n:Nat)
 | c (v:AV)
inductive I where
 | mov (x:Opd)
 | pick (c a b:Opd)
 | build (z:List AV) (ps:List (Nat×Nat×Opd))
 | nilck (x:Opd)
 | bin (op:BinOp) (x y:Opd)
 | eqf (neg agg:Bool) (ks:List Nat) (x y:Opd)
 | eqn (neg:Bool) (kd:Nat) (x y:Opd)
 | neg (x:Opd)
 | cpl (x:Opd)
 | not (x:Opd)
 | cvi (k:IntKind) (x:Opd)
 | cvs (x:Opd)
 | mkif (t:TypeId) (x:Opd)
 | mkfn (f:Fn) (first capt:List Opd)
 | fad (off:Nat) (x:Opd)
 | fld (agg:Bool) (size off:Nat) (x:Opd)
 | iadA (n z:Nat) (x i:Opd)
 | iadS (z:Nat) (x i:Opd)
 | idxA (agg:Bool) (n z:Nat) (x i:Opd)
 | idxS (x i:Opd)
 | slS (z:Nat) (x:Opd) (lo hi mx:Option Opd)
 | slT (x:Opd) (lo hi:Option Opd)
 | ext (n:Nat) (x:Opd)
 | len (x:Opd)
 | lenS (x:Opd)
 | lenc (n:Nat)
 | cap (x:Opd)
 | mins (x:Opd) (xs:List Opd)
 | maxs (x:Opd) (xs:List Opd)
 | box (x:Opd)
 | alloc (z:List AV)
 | bsl (z:Nat) (n:Nat) (zs:List AV) (ps:List (Nat×Nat×Opd))
 | load (agg:Bool) (n:Nat) (x:Opd)
 | store (n:Nat) (x v:Opd)
 | slA (n z:Nat) (x:Opd) (lo hi mx:Option Opd)
 | app (z bytes:Nat) (x y:Opd)
 | copy (z:Nat) (x y:Opd)
 | mksl (z bytes:Nat) (zs:List AV) (l c:Opd)
 | b2s (x:Opd)
 | s2b (x:Opd)
 | range (x:Opd)
 | next (x:Opd)
 | call (f:FuncId) (args:List Opd)
 | calld (f:Opd) (args:List Opd)
 | xrow (name:Nat) (args:List Opd)
 | mkmap (r:Option Opd)
 | mlook (agg:Bool) (ks:List Nat) (z:AV) (ok:Bool) (x k:Opd)
 | mset (agg:Bool) (ks:List Nat) (x k v:Opd)
 | bad
section compile
variable (P:Program) (gl:List Nat)
def jbz:Value->Option AV
 | .bool b=>some (.bool b)
 | .int k n=>some (.int k n)
 | .string bs=>some (.str (bs.data.toList.map UInt8.toNat))
 | .pointer none=>some .nilp
 | .slice none 0 0=>some .nils
 | .nilFunc=>some .nilf
 | .nilIface=>some .nili
 | .map none=>some .nilm
 | .iface t (.int k n)=>some (.ifc t (.int k n))
 | .iface t (.string bs)=>some (.ifc t (.str (bs.data.toList.map UInt8.toNat)))
 | .tuple vs=>match vs.toList with | []=>some (.tup []) | _=>none
 | _=>none
theorem ju8 (ρ:RM) {v:Value} {a:AV} (h:jbz v=some a):VR ρ a v:=by
 unfold jbz at h;split at h<;>try (cases h;done)
 all_goals first
  | (cases h;simp[VR];done)
  | (cases h;exact⟨_,rfl,by simp[VR]⟩)
  | skip
 ·split at h
  ·rename_i hvs;cases h;exact⟨_,rfl,by rw[hvs];rfl⟩
  ·cases h
def kla (v:Value):Option (List AV):=v.cells.toList.mapM jbz
theorem jpt (ρ:RM):∀(vs:List Value) (l:List AV),vs.mapM jbz=some l->VRs ρ l vs
 | [],l,h=>by simp at h;subst h;rfl
 | v::vs,l,h=>by
   simp only[qgl,mO,jR,qf6,bA] at h;obtain⟨a,h1,l',h2,rfl⟩:=h;exact⟨v,vs,rfl,ju8 ρ h1,jpt ρ vs l' h2⟩
def fJ:Operand->Option Opd
 | .tmp n=>some (.t n)
 | .const v=>(jbz v).map .c
 | .global g=>if gl.contains g then some (.c (.ptr g 0)) else none
 | .func f=>some (.c (.fn (.func f) [] []))
def opds (xs:Array Operand):Option (List Opd):=xs.toList.mapM (fJ gl)
def N3:Option Operand->Option (Option Opd)
 | none=>some none
 | some x=>(fJ gl x).map some
def uI:TypeDesc->Bool
 | .struct _ | .array _ _=>true
 | _=>false
def lay (t:TypeId):Option (Nat×Bool):=
 match P.info? t,P.underlying t with
 | some i,some d=>some (i.size,uI d)
 | _,_=>none
def ja5 (t:TypeId):Option (List AV):=
 match P.info? t with
 | some i=>match i.zero with
   | some v=>kla v
   | none=>none
 | none=>none
def xC (r:TypeId->Option (List Nat)):List Field->Nat->Nat->Option (List Nat)
 | [],off,size=>if off==size then some [] else none
 | f::fs,off,size=>if f.name != "_" &&f.offset==off then match r f.type,xC r fs (off+P.cellsOf f.type) size with
   | some l,some m=>if l.length==P.cellsOf f.type then some (l++m) else none
   | _,_=>none else none
def flat:Nat->TypeId->Option (List Nat)
 | 0,_=>none
 | d+1,t=>
   match P.info? t,P.underlying t with
   | some i,some .bool=>if i.size==1 then some [0] else none
   | some i,some (.int _)=>if i.size==1 then some [1] else none
   | some i,some .string=>if i.size==1 then some [2] else none
   | some i,some (.struct fs)=>if P.stoodInHeld t then none else xC P (flat d) fs.toList 0 i.size
   | some i,some (.array n e)=>match flat d e with
     | some l=>if i.size==n*P.cellsOf e&&l.length==P.cellsOf e then some (List.replicate n l).flatten else none
     | none=>none
   | _,_=>none
end compile
def jba:List AV->List (Nat×Nat×AV)->Option (List AV)
 | l,[]=>some l
 | l,(off,size,v)::r=>bif(nA v).length.beq size&&(off+size).ble l.length then jba (l.take off++(nA v++l.drop (off+size))) r else none
def yM (agg:Bool) (l:List AV):Option AV:=bif agg then some (.agg l) else match l with
 | [x]=>some x
 | _=>none
def sZ:Nat->AV->AV->Option Bool
 | 1,.int k a,.int k' b=>bif rV k k' then some (yE a b) else none
 | 0,.bool a,.bool b=>some (a==b)
 | 2,.str a,.str b=>some (uK a b)
 | _,_,_=>none
def mD:List Nat->List AV->List AV->Option Bool
 | [],[],[]=>some true
 | k::ks,a::l,b::m=>match sZ k a b with
   | some true=>mD ks l m
   | some false=>some false
   | none=>none
 | _,_,_=>none
def sF (agg:Bool) (ks:List Nat) (a b:AV):Option Bool:=
 bif agg then(match a,b with
  | .agg l,.agg m=>bif l.length.beq ks.length&&m.length.beq ks.length then mD ks l m else none
  | _,_=>none) else mD ks [a] [b]
def p7:Nat->AV->AV->Option Bool
 | 0,.nili,.nili | 1,.nilp,.nilp | 2,.nils,.nils | 3,.nilf,.nilf=>some true
 | 0,.nili,.ifc _ _ | 0,.ifc _ _,.nili | 1,.nilp,.ptr _ _ | 1,.ptr _ _,.nilp | 2,.nils,.sl _ _ _ _ _ | 2,.sl _ _ _ _ _,.nils | 3,.nilf,.fn _ _ _ | 3,.fn _ _ _,.nilf=>some false
 | _,_,_=>none
def C1 (y:Nat):AV->Option Nat
 | .int _ (.ofNat i)=>bif i.ble y then some i else none
 | _=>none
def xW (len:Nat) (cap:Nat) (lo hi mx:Option AV):Option (Nat×Nat×Nat):=
 match (match mx with | some v=>C1 cap v | none=>some cap) with
 | none=>none
 | some m=>match (match hi,mx with | some v,_=>C1 m v | none,none=>some len | none,some _=>none) with
   | none=>none
   | some h=>match (match lo with | some v=>C1 h v | none=>some 0) with
     | none=>none
     | some l=>some (l,h,m)
def pJ (z:Nat) (a:AV) (lo hi mx:Option AV):Option AV:=
 match a with
 | .sl b o len cap z'=>bif z'.beq z then(match cap with
   | some c=>match xW len c lo hi mx with
     | some (l,h,m)=>some (.sl b (o+l*z) (h-l) (some (m-l)) z)
     | none=>none
   | none=>match xW len len lo hi mx with
     | some (l,h,m)=>match mx with
       | some _=>some (.sl b (o+l*z) (h-l) (some (m-l)) z)
       | none=>some (.sl b (o+l*z) (h-l) none z)
     | none=>none) else none
 | .nils=>match xW 0 0 lo hi mx with
   | some _=>some .nils
   | none=>none
 | _=>none
def jct:AV->List AV->Option AV
 | x,[]=>some x
 | .int k x,.int _ y::r=>jct (.int k (bif tF x y then x else y)) r
 | _,_=>none
def jcs:AV->List AV->Option AV
 | x,[]=>some x
 | .int k x,.int _ y::r=>jcs (.int k (bif tF y x then x else y)) r
 | _,_=>none
def dQ (g:Opd->AV):I->Option AV
 | .mov x=>some (g x)
 | .pick c a b=>match g c with | .bool true=>some (g a) | .bool false=>some (g b) | _=>none
 | .build z ps=>(jba z (ps.map fun(o,s,x)=>(o,s,g x))).map .agg
 | .nilck x=>match g x with
   | .nilp | .nili | .nilf=>none
   | .fn (.method _) _ _=>none
   | v=>some v
 | .bin op x y=>vD op (g x) (g y)
 | .eqf n agg ks x y=>match sF agg ks (g x) (g y) with
   | some b=>some (.bool (n ^^ b))
   | none=>none
 | .eqn n kd x y=>match p7 kd (g x) (g y) with
   | some b=>some (.bool (n ^^ b))
   | none=>none
 | .neg x=>match g x with | .int k n=>some (.int k (Z0 k (0-n))) | _=>none
 | .cpl x=>match g x with
   | .int k n=>some (.int k (k.wrap (BitVec.ofInt k.bits (if k.signed then -1 else k.max) ^^^ BitVec.ofInt k.bits n).toNat))
   | _=>none
 | .not x=>match g x with | .bool b=>some (.bool !b) | _=>none
 | .cvi k x=>match g x with | .int _ n=>some (.int k (Z0 k n)) | _=>none
 | .cvs x=>match g x with | .str s=>some (.str s) | .int _ (.ofNat n)=>(bif n.ble 127 then some (.str [n]) else none) | _=>none
 | .mkif t x=>some (.ifc t (g x))
 | .mkfn f a b=>some (.fn f (a.map g) (b.map g))
 | .fad off x=>match g x with | .ptr b o=>some (.ptr b (o+off)) | _=>none
 | .fld agg size off x=>match g x with
   | .agg l=>bif(off+size).ble l.length then yM agg ((l.drop off).take size) else none
   | _=>none
 | .iadA n z x i=>match g x,g i with
   | .ptr b o,.int _ (.ofNat i)=>bif n.ble i then none else some (.ptr b (o+i*z))
   | _,_=>none
 | .iadS z x i=>match g x,g i with
   | .sl b o len _ z',.int _ (.ofNat i)=>bif !(z'.beq z)||len.ble i then none else some (.ptr b (o+i*z))
   | _,_=>none
 | .idxA agg n z x i=>match g x,g i with
   | .agg l,.int _ (.ofNat i)=>bif n.ble i|| !((i*z+z).ble l.length) then none else yM agg ((l.drop (i*z)).take z)
   | _,_=>none
 | .idxS x i=>match g x,g i with
   | .str s,.int _ (.ofNat i)=>match s[i]? with
     | some c=>some (.int .u8 c)
     | none=>none
   | _,_=>none
 | .slS z x lo hi mx=>pJ z (g x) (lo.map g) (hi.map g) (mx.map g)
 | .slT x lo hi=>match g x with
   | .str s=>match xW s.length s.length (lo.map g) (hi.map g) none with
     | some (l,h,_)=>some (.str ((s.drop l).take (h-l)))
     | none=>none
   | _=>none
 | .ext n x=>match g x with | .tup l=>l[n]? | _=>none
 | .lenS x=>match g x with
   | .str s=>some (.int .i64 s.length)
   | _=>none
 | .len x=>match g x with
   | .sl _ _ len _ _=>some (.int .i64 len)
   | .nils=>some (.int .i64 0)
   | _=>none
 | .lenc n=>some (.int .i64 n)
 | .cap x=>match g x with
   | .sl _ _ _ (some c) _=>some (.int .i64 c)
   | .nils=>some (.int .i64 0)
   | _=>none
 | .mins x xs=>jct (g x) (xs.map g)
 | .maxs x xs=>jcs (g x) (xs.map g)
 | _=>none
section compile
variable (P:Program) (gl:List Nat)
def jl1 (fs:Array Field) (i:Nat):Option (Nat×Nat):=
 match fs[i]? with
 | some f=>match P.info? f.type with
   | some j=>some (f.offset,j.size)
   | none=>none
 | none=>none
def jdr (place:Nat->Option (Nat×Nat)):List (Nat×Operand)->Option (List (Nat×Nat×Opd))
 | []=>some []
 | (i,x)::r=>match place i,fJ gl x,jdr place r with
   | some (o,s),some y,some l=>some ((o,s,y)::l)
   | _,_,_=>none
def b8:BinOp->Bool
 | .neq=>true
 | _=>false
def isC:Operand->Bool
 | .const _=>true
 | _=>false
def s6 (op:BinOp) (t:TypeId) (x y:Operand) (x' y':Opd):Option I:=
 match P.underlying t with
 | some (.int _) | some .string=>some (.bin op x' y')
 | some .bool=>match flat P 20 t with | some ks=>some (.eqf (b8 op) false ks x' y') | none=>none
 | some (.struct _) | some (.array _ _)=>if P.eqGuardType P.depth t then none else match flat P 20 t with | some ks=>some (.eqf (b8 op) true ks x' y') | none=>none
 | some (.interface _)=>if isC x||isC y then some (.eqn (b8 op) 0 x' y') else none
 | some (.pointer _)=>some (.eqn (b8 op) 1 x' y')
 | some (.slice _)=>some (.eqn (b8 op) 2 x' y')
 | some (.func _ _ _)=>some (.eqn (b8 op) 3 x' y')
 | _=>none
def arI (op:BinOp) (t:TypeId) (x' y':Opd):Option I:=
 match P.underlying t with
 | some (.int _) | some .string=>some (.bin op x' y')
 | _=>none
def oY:Op->Option I
 | .move x | .assign x=>(fJ gl x).map .mov
 | .pick c a b=>do some (.pick (<-fJ gl c) (<-fJ gl a) (<-fJ gl b))
 | .build t ps=>match P.underlying t with
   | some (.struct fs)=>if fs.toList.all (λf=>(P.info? f.type).isSome) then do some (.build (<-ja5 P t) (<-jdr gl (jl1 P fs) ps.toList)) else none
   | some (.array _ e)=>do
     let s <-lay P e
     some (.build (<-ja5 P t) (<-jdr gl (λi=>some (i*s.1,s.1)) ps.toList))
   | _=>none
 | .nilCheck x=>(fJ gl x).map .nilck
 | .binOp op t x y _=>do
   let x' <-fJ gl x
   let y' <-fJ gl y
   match op with
   | .eql | .neq=>s6 P op t x y x' y'
   | _=>arI P op t x' y'
 | .unOp .neg _ x=>(fJ gl x).map .neg
 | .unOp .xor _ x=>(fJ gl x).map .cpl
 | .unOp .not _ x=>(fJ gl x).map .not
 | .convert s t x=>match P.underlying s,P.underlying t with
   | some (.int _),some (.int k)=>(fJ gl x).map (.cvi k)
   | some .string,some .string=>(fJ gl x).map .cvs
   | some (.int _),some .string=>(fJ gl x).map .cvs
   | _,_=>none
 | .makeInterface t x=>match P.underlying t with
   | some (.interface _)=>none
   | some _=>(fJ gl x).map (.mkif t)
   | none=>none
 | .makeFunc f a b=>do some (.mkfn f (<-opds gl a) (<-opds gl b))
 | .fieldAddr t x i=>match P.underlying t with
   | some (.struct fs)=>match jl1 P fs i with
     | some (off,s+1)=>(fJ gl x).map (.fad off)
     | _=>none
   | _=>none
 | .field t x i=>match P.underlying t with
   | some (.struct fs)=>match fs[i]? with
     | some f=>do
       let s <-lay P f.type
       (fJ gl x).map (.fld s.2 s.1 f.offset)
     | none=>none
   | _=>none
 | .indexAddr t x i=>match P.underlying t with
   | some (.array n e)=>do
     let s <-lay P e
     some (.iadA n s.1 (<-fJ gl x) (<-fJ gl i))
   | some (.slice e)=>do
     let s <-lay P e
     some (.iadS s.1 (<-fJ gl x) (<-fJ gl i))
   | _=>none
 | .index t x i=>match P.underlying t with
   | some (.array n e)=>do
     let s <-lay P e
     some (.idxA s.2 n s.1 (<-fJ gl x) (<-fJ gl i))
   | some .string=>do some (.idxS (<-fJ gl x) (<-fJ gl i))
   | _=>none
 | .slice t x lo hi mx=>match P.underlying t with
   | some (.slice e)=>do
     let s <-lay P e
     some (.slS s.1 (<-fJ gl x) (<-N3 gl lo) (<-N3 gl hi) (<-N3 gl mx))
   | some .string=>match mx with
     | none=>do some (.slT (<-fJ gl x) (<-N3 gl lo) (<-N3 gl hi))
     | some _=>none
   | _=>none
 | .extract x n=>(fJ gl x).map (.ext n)
 | .call { callee:=.builtin .len,args,argTypes }=>match args.toList,argTypes.toList with
   | [x],t::_=>match P.underlying t with
     | some .string=>(fJ gl x).map .lenS
     | some (.slice _)=>(fJ gl x).map .len
     | some (.array n _)=>some (.lenc n)
     | some (.pointer e)=>match P.underlying e with
       | some (.array n _)=>some (.lenc n)
       | _=>none
     | _=>none
   | _,_=>none
 | .call { callee:=.builtin .cap,args,argTypes }=>match args.toList,argTypes.toList with
   | [x],t::_=>match P.underlying t with
     | some (.slice _)=>(fJ gl x).map .cap
     | _=>none
   | _,_=>none
 | .call { callee:=.builtin .min,args, .. }=>match args.toList with
   | x::xs=>do some (.mins (<-fJ gl x) (<-xs.mapM (fJ gl)))
   | _=>none
 | .call { callee:=.builtin .max,args, .. }=>match args.toList with
   | x::xs=>do some (.maxs (<-fJ gl x) (<-xs.mapM (fJ gl)))
   | _=>none
 | _=>none
end compile
end Go.Vm
namespace Go.Vm
section
variable {P:Program} {gl:List Nat} {ρ:RM} {g:Opd->AV} {e:Operand->Value}
theorem jb1 (hg:∀x y,fJ gl x=some y->VR ρ (g y) (e x)):∀(xs:List Operand) (ys:List Opd),xs.mapM (fJ gl)=some ys->VRs ρ (ys.map g) (xs.map e)
 | [],ys,h=>by simp at h;subst h;rfl
 | x::xs,ys,h=>by
   simp only[qgl,mO,jR,qf6,bA] at h;obtain⟨a,h1,l,h2,rfl⟩:=h;exact⟨_,_,rfl,hg _ _ h1,jb1 hg xs l h2⟩
theorem D2 {t:TypeId} {s:Nat×Bool} (h:lay P t=some s):∃i d,P.info? t=some i/\P.underlying t=some d/\s=(i.size,uI d):=by
 unfold lay at h;split at h
 ·rename_i i d h1 h2;cases h;exact⟨i,d,h1,h2,rfl⟩
 ·cases h
theorem jqj {t:TypeId} {i:TypeInfo} (h:P.info? t=some i) (w:World):(typeInfo t).run P w=.ok i w:=by
 simp[typeInfo,h]
theorem pT {t:TypeId} {i:TypeInfo} (h:P.info? t=some i) (w:World):(sizeOf t).run P w=.ok i.size w:=by
 simp[sizeOf,jqj h]
theorem jhf {t:TypeId} {d:TypeDesc} (h:P.underlying t=some d) (w:World):(isAgg t).run P w=.ok (uI d) w:=by
 simp only[isAgg,gK,run_underlying h,fX];cases d<;>rfl
theorem jip {t:TypeId} {z:List AV} (h:ja5 P t=some z):∃i v,P.info? t=some i/\i.zero=some v/\VRs ρ z v.cells.toList:=by
 unfold ja5 at h;split at h
 ·rename_i i hi;split at h
  ·rename_i v hv;exact⟨i,v,hi,hv,jpt ρ _ _ h⟩
  ·cases h
 ·cases h
theorem jb9 {t:TypeId} {i:TypeInfo} {v:Value} (h:P.info? t=some i) (hv:i.zero=some v) (w:World):(zeroValue t).run P w=.ok v w:=by
 simp[zeroValue,jqj h,hv]
theorem juo {agg:Bool} {l:List AV} {a:AV} {vs:List Value} (h:yM agg l=some a) (hl:VRs ρ l vs):
  (agg=true/\VR ρ a (.agg vs.toArray))\/(agg=false/\∃v,vs=[v]/\VR ρ a v):=by
 unfold yM at h;cases agg
 ·simp only[aJ] at h;split at h
  ·cases h;simp only[VRs] at hl;obtain⟨v,_,rfl,h1,rfl⟩:=hl;exact .inr ⟨rfl,v,rfl,h1⟩
  ·cases h
 ·simp only[aH] at h;cases h;exact .inl ⟨rfl,⟨_,rfl,by simpa using hl⟩⟩
theorem j3r {t:TypeId} {s:Nat×Bool} {l:List AV} {cs:Array Value} {off:Nat} {a:AV} (w:World) (hs:lay P t=some s) (hl:VRs ρ l cs.toList) (hb:off+s.1<=l.length)
  (h:yM s.2 ((l.drop off).take s.1)=some a):∃v,(part t cs off).run P w=.ok v w/\VR ρ a v:=by
 obtain⟨i,d,h1,h2,rfl⟩:=D2 hs;simp only at h hb;have hv:=(hl.drop off).take i.size;have hlen:=hl.length;simp only[part,gK,jhf h2,pT h1,fX];rcases juo h hv with⟨e1,h3⟩ | ⟨e1,v,h3,h4⟩
 ·simp only[e1,cM,gK,pT h1,fX,jE];refine⟨_,rfl,?_⟩;have:cs.extract off (off+i.size)=(List.take i.size (List.drop off cs.toList)).toArray:=by
   apply X6;simp[qhe,List.extract]
  rw[this];exact h3
 ·have hc:cs[off]?=some v:=by
   have h5:(List.take i.size (List.drop off cs.toList))[0]?=some v:=by rw[h3];rfl
   rw[F9] at h5;split at h5
   ·simpa[O5] using h5
   ·cases h5
  simp only[e1,lC,dR,hc,jE];exact⟨v,rfl,h4⟩
theorem jez {y i:Nat} {a:AV} {v:Value} (h:C1 y a=some i) (hv:VR ρ a v):∃k,v=.int k (i:Int)/\i<=y:=by
 unfold C1 at h;split at h
 ·rename_i k j;simp only[VR] at hv;subst hv;rw[bE] at h;by_cases hj:j<=y
  ·simp only[hj,aU,aH,bA] at h;subst h;exact⟨k,rfl,hj⟩
  ·simp[hj] at h
 ·cases h
theorem jay {y i:Nat} {k:IntKind} (hi:i<=y) (c:BoundsCode) (w:World):(Instr.sliceBound (.int k (i:Int)) y c).run P w=.ok i w:=by
 simp only[Instr.sliceBound,asIntOf,gK,jE,fX];rw[aK (by omega)];simp
def tZ (ρ:RM):Option AV->Option Value->Prop
 | none,none=>True
 | some a,some v=>VR ρ a v
 | _,_=>False
theorem jb0 (hg:∀x y,fJ gl x=some y->VR ρ (g y) (e x)) {x:Option Operand} {y:Option Opd} (h:N3 gl x=some y):tZ ρ (y.map g) (x.map e):=by
 cases x with
 | none=>simp[N3] at h;subst h;exact True.intro
 | some x=>
   simp only[N3,fR] at h;obtain⟨a,h1,rfl⟩:=h;exact hg _ _ h1
theorem jjc {len cap cap':Nat} {lo hi mx:Option AV} {lo' hi' mx':Option Value} {l h m:Nat} (b:Bool) (w:World) (hb:xW len cap lo hi mx=some (l,h,m))
  (h1:tZ ρ lo lo') (h2:tZ ρ hi hi') (h3:tZ ρ mx mx') (hc:cap<=cap') (hl:len<=cap):
  l<=h/\h<=m/\m<=cap/\(mx=none->m=cap)/\(Instr.sliceBounds b len cap' lo' hi' mx').run P w=.ok (l,h,if mx.isSome then m else cap') w:=by
 unfold xW at hb;cases mx with
 | none=>
   have e3:mx'=none:=by cases mx'<;>simp[tZ] at h3 ⊢
   subst e3;simp only at hb;cases hi with
   | none=>
     have e2:hi'=none:=by cases hi'<;>simp[tZ] at h2 ⊢
     subst e2;simp only at hb;cases lo with
     | none=>
       have e1:lo'=none:=by cases lo'<;>simp[tZ] at h1 ⊢
       subst e1;simp only[bA,bK] at hb;obtain⟨rfl,rfl,rfl⟩:=hb;exact⟨by omega,hl,bV _,λ_=>rfl,by simp[Instr.sliceBounds]⟩
     | some v=>
       obtain⟨v',rfl⟩:∃v',lo'=some v':=by cases lo'<;>simp[tZ] at h1 ⊢
       split at hb
       ·cases hb
       ·rename_i l' hl';obtain⟨k,rfl,hle⟩:=jez hl' h1;simp only[bA,bK] at hb;obtain⟨rfl,rfl,rfl⟩:=hb;exact⟨hle,hl,bV _,λ_=>rfl,by simp[Instr.sliceBounds,jay hle]⟩
   | some u=>
     obtain⟨u',rfl⟩:∃u',hi'=some u':=by cases hi'<;>simp[tZ] at h2 ⊢
     simp only at hb;split at hb
     ·cases hb
     ·rename_i h' hh';obtain⟨k',rfl,hle'⟩:=jez hh' h2;cases lo with
      | none=>
        have e1:lo'=none:=by cases lo'<;>simp[tZ] at h1 ⊢
        subst e1;simp only[bA,bK] at hb;obtain⟨rfl,rfl,rfl⟩:=hb;exact⟨by omega,hle',bV _,λ_=>rfl,by simp[Instr.sliceBounds,jay (gE hle' hc)]⟩
      | some v=>
        obtain⟨v',rfl⟩:∃v',lo'=some v':=by cases lo'<;>simp[tZ] at h1 ⊢
        split at hb
        ·cases hb
        ·rename_i l' hl';obtain⟨k,rfl,hle⟩:=jez hl' h1;simp only[bA,bK] at hb;obtain⟨rfl,rfl,rfl⟩:=hb;exact⟨hle,hle',bV _,λ_=>rfl,by simp[Instr.sliceBounds,jay (gE hle' hc),jay hle]⟩
 | some t=>
   obtain⟨t',rfl⟩:∃t',mx'=some t':=by cases mx'<;>simp[tZ] at h3 ⊢
   simp only at hb;split at hb
   ·cases hb
   ·rename_i m' hm';obtain⟨k'',rfl,hle''⟩:=jez hm' h3;cases hi with
    | none=>simp at hb
    | some u=>
      obtain⟨u',rfl⟩:∃u',hi'=some u':=by cases hi'<;>simp[tZ] at h2 ⊢
      simp only at hb;split at hb
      ·cases hb
      ·rename_i h' hh';obtain⟨k',rfl,hle'⟩:=jez hh' h2;cases lo with
       | none=>
         have e1:lo'=none:=by cases lo'<;>simp[tZ] at h1 ⊢
         subst e1;simp only[bA,bK] at hb;obtain⟨rfl,rfl,rfl⟩:=hb;exact⟨by omega,hle',hle'',by simp,by simp[Instr.sliceBounds,jay (gE hle'' hc),jay hle']⟩
       | some v=>
         obtain⟨v',rfl⟩:∃v',lo'=some v':=by cases lo'<;>simp[tZ] at h1 ⊢
         split at hb
         ·cases hb
         ·rename_i l' hl';obtain⟨k,rfl,hle⟩:=jez hl' h1;simp only[bA,bK] at hb;obtain⟨rfl,rfl,rfl⟩:=hb;exact⟨hle,hle',hle'',by simp,by simp[Instr.sliceBounds,jay (gE hle'' hc),jay hle',jay hle]⟩
end
end Go.Vm
namespace Go.Vm
section
variable {P:Program} {gl:List Nat} {ρ:RM} {g:Opd->AV} {e:Operand->Value}
theorem j01 (off:Nat):∀(vs:List Value) (k:Nat) (cells:Array Value),off+k+vs.length<=cells.size->
  ((vs.zipIdx k).foldl (λcs (p:Value×Nat)=>cs.setIfInBounds (off+p.2) p.1) cells).toList=cells.toList.take (off+k)++(vs++cells.toList.drop (off+k+vs.length))
 | [],k,cells,h=>by simp
 | v::vs,k,cells,h=>by
   simp only[cL] at h;simp only[List.zipIdx_cons,O1];rw[j01 off vs (k+1) (cells.setIfInBounds (off+k) v) (by simp;omega)];apply qf1;intro i;simp only[qh7,qhx,nM,rP,oG,F9,O6,O5,cL];rw[show min (off+ (k+1)) cells.size=off+ (k+1) by omega,show min (off+k) cells.size=off+k by omega];rcases oN i (off+k) with hi | hi | hi
   ·rw[aK (show i<off+ (k+1) by omega),aK (show i<off+ (k+1) by omega),aF (show ¬off+k=i by omega),aK (show i<off+k by omega),aK (show i<off+k by omega)]
   ·subst hi;rw[aK (show off+k<off+ (k+1) by omega),aK (show off+k<off+ (k+1) by omega),aK rfl,aK (show off+k<cells.size by omega),aF (show ¬off+k<off+k by omega),aK (show off+k-(off+k)<vs.length+1 by omega)];rw[qiw];rfl
   ·rw[aF (show ¬i<off+ (k+1) by omega),aF (show ¬i<off+k by omega)];by_cases h2:i-(off+ (k+1))<vs.length
    ·rw[aK h2,aK (show i-(off+k)<vs.length+1 by omega),show i-(off+k)=i-(off+ (k+1))+1 by omega];rfl
    ·rw[aF h2,aF (show ¬i-(off+k)<vs.length+1 by omega),aF (by omega)]
     congr 1
     omega
theorem joq {place:Nat->Option (Nat×Nat)} (hg:∀x y,fJ gl x=some y->VR ρ (g y) (e x)):∀(ops:List (Nat×Operand)) (ps:List (Nat×Nat×Opd)) (z z':List AV) (cells:Array Value),
  jdr gl place ops=some ps->jba z (ps.map fun(o,s,x)=>(o,s,g x))=some z'->VRs ρ z cells.toList->
  ∃cells',Instr.fill place cells (ops.map fun(i,x)=>(i,e x))=some cells'/\VRs ρ z' cells'.toList
 | [],ps,z,z',cells,h1,h2,h3=>by
   simp only[jdr,bA] at h1;subst h1;simp only[lM,jba,bA] at h2;subst h2;exact⟨cells,rfl,h3⟩
 | (i,x)::ops,ps,z,z',cells,h1,h2,h3=>by
   simp only[jdr] at h1;split at h1
   ·rename_i o s y l hp hy hl;simp only[bA] at h1;subst h1;simp only[dA,jba,bQ,bE] at h2;by_cases hc:(nA (g y)).length=s/\o+s<=z.length
    ·simp only[hc.1,hc.2,aU,kP,aH] at h2;have hv:=(hg x y hy).cells;have hlen:=hv.length;have hzl:=h3.length;simp only[oG] at hlen hzl;have e1:¬((e x).cells.size≠s\/o+ (e x).cells.size > cells.size):=by omega
     have e2:(decide ((e x).cells.size≠s)||decide (o+ (e x).cells.size > cells.size))=false:=by simpa using e1
     simp only[dA,Instr.fill,hp,e2,lC,dR];refine joq hg ops l _ z' _ hl h2 ?_
     have e3:(Array.foldl (λcs (x:Value×Nat)=>match x with | (c,j)=>cs.setIfInBounds (o+j) c) cells (e x).cells.zipIdx).toList=
       cells.toList.take o++((e x).cells.toList++cells.toList.drop (o+s)):=by
      rw[<-qib,Array.toList_zipIdx];have:=j01 o (e x).cells.toList 0 cells (by simp;omega);simp only[nX,oG] at this;rw[show o+ (e x).cells.size=o+s by omega] at this;exact this
     rw[e3];exact(h3.take o).append (hv.append (h3.drop (o+s)))
    ·have:(decide ((nA (g y)).length=s)&&decide (o+s<=z.length))=false:=by
      rw[qen];simp;omega
     simp[this] at h2
   ·cases h1
theorem j4e (w:World):∀(fs:List Field),fs.all (λf=>(P.info? f.type).isSome)=true->
  (fs.mapM (fun(f:Field)=>(do pure (f.offset,<-sizeOf f.type):Sem (Nat×Nat)))).run P w=.ok (fs.map λf=>(f.offset,P.cellsOf f.type)) w
 | [],_=>rfl
 | f::fs,h=>by
   simp only[X5,aW] at h;obtain⟨i,hi⟩:=uQ.1 h.1;simp only[qgl,gK,pT hi,fX,jE,j4e w fs h.2,dA];simp[Program.cellsOf,hi]
theorem kad {t:TypeId} {ps:List (Nat×Operand)} {c:I} {v:AV} (w:World) (hg:∀x y,fJ gl x=some y->VR ρ (g y) (e x))
  (hc:oY P gl (.build t ps.toArray)=some c) (h:dQ g c=some v):∃v',(Instr.build t (ps.toArray.map fun(i,x)=>(i,e x))).run P w=.ok v' w/\VR ρ v v':=by
 simp only[oY] at hc;split at hc
 ·rename_i fs hu;split at hc
  ·rename_i hall;simp only[mO,jR,bA] at hc;obtain⟨z,hz,l,hl,rfl⟩:=hc;simp only[dQ,fR] at h;obtain⟨z',hz',rfl⟩:=h;obtain⟨i,zv,h1,h2,h3⟩:=jip hz;obtain⟨cells',h4,h5⟩:=joq hg ps l z z' zv.cells hl hz' h3;have h6:(fs.mapM (fun(f:Field)=>(do pure (f.offset,<-sizeOf f.type):Sem (Nat×Nat)))).run P w=.ok (fs.map λf=>(f.offset,P.cellsOf f.type)) w:=by
    rw[qih];simp only[Sem.run_map,j4e w fs.toList hall,fX]
    congr 1
    apply X6;simp
   have h7:(λx:Nat=>(fs.map λf=>(f.offset,P.cellsOf f.type))[x]?)=jl1 P fs:=by
    funext x
    simp only[qic,jl1];cases hx:fs[x]? with
    | none=>rfl
    | some f=>
      have:f∈fs.toList:=by simpa using qe8 hx
      obtain⟨j,hj⟩:=uQ.1 (cI.1 hall f this);simp[hj,Program.cellsOf]
   refine⟨.agg cells',?_,?_⟩
   ·simp only[Instr.build,gK,jb9 h1 h2,fX,run_underlying hu,h6,h7];simp only[List.map_toArray,h4,jE]
   ·simp only[VR];exact⟨_,rfl,h5⟩
  ·cases hc
 ·rename_i n el hu;simp only[mO,jR,bA] at hc;obtain⟨s,hs,z,hz,l,hl,rfl⟩:=hc;simp only[dQ,fR] at h;obtain⟨z',hz',rfl⟩:=h;obtain⟨i,zv,h1,h2,h3⟩:=jip hz;obtain⟨j,d,k1,k2,rfl⟩:=D2 hs;obtain⟨cells',h4,h5⟩:=joq hg ps l z z' zv.cells hl hz' h3;refine⟨.agg cells',?_,?_⟩
  ·simp only[Instr.build,gK,jb9 h1 h2,fX,run_underlying hu,pT k1];simp only[List.map_toArray,h4,jE]
  ·simp only[VR];exact⟨_,rfl,h5⟩
 ·cases hc
end
end Go.Vm
