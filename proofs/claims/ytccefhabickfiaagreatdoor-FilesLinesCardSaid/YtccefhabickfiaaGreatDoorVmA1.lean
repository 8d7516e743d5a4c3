/- A small machine for closed runs: its data (values, tries), with what they stand for in the model. -/
import Derived.LoopN
import Derived.Orders
import Derived.Below
import Derived.Laws.IdiomCopy
import Derived.Lib.Strings
import Derived.ChangeKeysEq
set_option linter.unusedSimpArgs false
set_option linter.unusedVariables false
abbrev aB:=@Option.bind_some
abbrev aO:=@decide_eq_true_eq
abbrev aS:=@Option.some.injEq
abbrev aT:=@Bool.and_eq_true
abbrev aG:=@cond_false
abbrev bN:=@List.mem_cons_of_mem
abbrev aF:=@cond_true
abbrev bM:=@List.mem_cons_self
abbrev bW:=@List.mem_singleton
abbrev bC:=@Prod.mk.injEq
abbrev bO:=@List.mem_append
abbrev dI:=@List.getElem?_eq_getElem
abbrev bJ:=@decide_eq_true
abbrev bA:=@decide_false
abbrev bK:=@List.mem_cons
abbrev aZ:=@decide_true
abbrev bY:=@List.getElem_mem
abbrev aC:=@if_neg
abbrev bH:=@List.mem_map
abbrev cJ:=@List.all_eq_true
abbrev cM:=@List.length_cons
abbrev cZ:=@Int.toNat_natCast
abbrev dG:=@List.length_append
abbrev dU:=@List.length_singleton
abbrev bQ:=@Nat.le_refl
abbrev aH:=@if_pos
abbrev dL:=@List.append_assoc
abbrev eW:=@Option.map_eq_some_iff
abbrev gH:=@List.getD_eq_getElem?_getD
abbrev dM:=@List.length_map
abbrev dE:=@List.map_cons
abbrev gZ:=@List.pairwise_iff_getElem
abbrev hZ:=@List.drop_eq_getElem_cons
abbrev eO:=@Go.Result.andThen_ok
abbrev iA:=@Option.bind_eq_some_iff
abbrev iB:=@decide_eq_false_iff_not
abbrev jI:=@Array.getElem?_eq_some_iff
abbrev fZ:=@List.getElem_of_mem
abbrev eI:=@List.map_append
abbrev fB:=@List.cons_append
abbrev eP:=@List.nil_append
abbrev iN:=@List.Perm.append_left
abbrev jD:=@List.take_of_length_le
abbrev fN:=@List.mem_range
abbrev gS:=@List.not_mem_nil
abbrev fY:=@List.drop_zero
abbrev iO:=@not_true_eq_false
abbrev fQ:=@Bool.not_true
abbrev iQ:=@Classical.not_not
abbrev fC:=@Go.Sem.run_bind
abbrev eJ:=@Nat.zero_le
abbrev nC:=@List.getElem?_eq_some_iff
abbrev gV:=@List.length_nil
abbrev jE:=@Bool.not_eq_true'
abbrev iF:=@Option.map_some
abbrev mF:=@List.drop_of_length_le
abbrev kJ:=@Option.bind_eq_bind
abbrev jX:=@Bool.false_eq_true
abbrev jY:=@List.pairwise_cons
abbrev iY:=@List.take_length
abbrev nV:=@Classical.byContradiction
abbrev jV:=@List.flatMap_cons
abbrev jU:=@not_false_eq_true
abbrev fX:=@Nat.le_trans
abbrev cK:=@if_true
abbrev lP:=@List.map_congr_left
abbrev kE:=@List.flatten_cons
abbrev iK:=@Nat.mul_le_mul
abbrev lY:=@Array.length_toList
abbrev dO:=@if_false
abbrev rW:=@List.eq_nil_of_length_eq_zero
abbrev mR:=@Nat.mul_le_mul_right
abbrev lQ:=@Option.toList_some
abbrev gP:=@Go.Sem.run_pure
abbrev jW:=@List.append_nil
abbrev kL:=@List.mem_flatMap
abbrev kM:=@List.drop_length
abbrev nI:=@Nat.pow_le_pow_right
abbrev gW:=@Nat.beq_refl
abbrev lZ:=@List.getElem?_map
abbrev lE:=@Array.toList_inj
abbrev mS:=@Nat.lt_of_lt_of_le
abbrev kN:=@List.mem_filter
abbrev rB:=@Option.isSome_iff_exists
abbrev rY:=@Array.getElem?_eq_getElem
abbrev lF:=@decide_eq_false
abbrev lR:=@Option.some.inj
abbrev jF:=@List.map_map
abbrev mT:=@List.length_drop
abbrev mU:=@List.length_take
abbrev oP:=@List.find?_eq_none
abbrev rZ:=@Array.getElem?_toList
abbrev lG:=@Bool.and_self
abbrev sR:=@List.getElem?_eq_none
abbrev xL:=@List.mem_of_find?_eq_some
abbrev yX:=@List.getElem?_append_right
abbrev nW:=@Bool.or_eq_true
abbrev lH:=@Nat.zero_add
abbrev lD:=@List.map_nil
abbrev uO:=@Nat.eq_of_beq_eq_true
abbrev pK:=@Option.getD_some
abbrev xK:=@List.getElem?_cons_zero
abbrev kK:=@Nat.add_mul
abbrev rX:=@List.mem_filterMap
abbrev uP:=@List.mem_of_getElem?
abbrev uQ:=@Bool.or_eq_false_iff
abbrev uR:=@List.mem_of_mem_drop
abbrev rA:=@Nat.lt_trichotomy
abbrev mG:=@Nat.add_zero
abbrev sS:=@List.getElem_range
abbrev pM:=@Int.natCast_mul
abbrev uS:=@List.filterMap_cons
abbrev sT:=@Option.toList_none
abbrev pN:=@Option.map_none
abbrev pO:=@List.cons.injEq
abbrev sA:=@List.nodup_append
abbrev gQ:=@or_false
abbrev xM:=@Nat.le_of_ble_eq_true
abbrev P1:=@Array.getElem?_setIfInBounds
abbrev sU:=@List.take_add_one
abbrev sV:=@List.getElem_drop
abbrev sW:=@List.pairwise_map
abbrev sX:=@Bool.cond_decide
abbrev sB:=@List.length_set
abbrev yZ:=@List.mem_of_mem_take
abbrev pP:=@Nat.add_assoc
abbrev pQ:=@Nat.mul_assoc
abbrev P2:=@List.getElem?_append_left
abbrev v7:=@Array.getElem?_modify
abbrev zA:=@List.take_succ_cons
abbrev zB:=@List.flatten_append
abbrev zC:=@Function.comp_apply
abbrev qG:=@Bool.and_true
abbrev jJ:=@Prod.ext
abbrev X7:=@List.perm_ext_iff_of_nodup
abbrev pL:=@Nat.pow_succ
abbrev yY:=@List.getElem?_take
abbrev O8:=@List.getElem?_cons_succ
abbrev X8:=@List.mem_or_eq_of_mem_set
abbrev O9:=@List.Perm.append_right
abbrev wF:=@Nat.min_eq_left
abbrev u9:=@List.getElem?_drop
abbrev rC:=@Nat.sub_zero
abbrev P0:=@Bool.and_eq_false_iff
abbrev P4:=@List.take_append_drop
abbrev P5:=@Nat.div_lt_iff_lt_mul
abbrev qec:=@List.perm_append_comm
abbrev Y1:=@List.length_eq_zero_iff
abbrev H9:=@List.length_pos_iff
abbrev sY:=@Bool.true_and
abbrev xN:=@List.find?_some
abbrev wG:=@Go.DataW.trod_int
abbrev qei:=@List.sublist_append_right
abbrev Y2:=@Nat.div_div_eq_div_mul
abbrev Y3:=@List.drop_eq_nil_of_le
abbrev I0:=@Option.isSome_none
abbrev P6:=@List.getD_cons_succ
abbrev Y4:=@List.mem_of_mem_head?
abbrev xO:=@Bool.not_false
abbrev wH:=@Bool.false_or
abbrev wI:=@Int.mul_assoc
abbrev qer:=@Go.RowKit.Below.heap_alloc
abbrev Y5:=@List.Pairwise.of_map
abbrev zD:=@List.drop_drop
abbrev sZ:=@Int.le_refl
abbrev P7:=@List.getElem?_set
abbrev P8:=@List.foldl_append
abbrev y5:=@List.take_take
abbrev I1:=@UInt8.toNat_inj
abbrev uT:=@List.map_id
abbrev qe0:=@List.pairwise_singleton
abbrev v8:=@Sum.inr.injEq
abbrev qe2:=@Array.getElem_setIfInBounds_ne
abbrev qe3:=@List.length_replicate
abbrev P3:=@Bool.eq_iff_iff
abbrev qe5:=@List.getElem?_toArray
abbrev X9:=@List.ext_getElem
abbrev Y0:=@List.getElem_map
abbrev qe8:=@List.take_append_of_le_length
abbrev qe9:=@List.drop_eq_nil_iff
abbrev qfa:=@Int.eq_ofNat_of_zero_le
abbrev I2:=@List.all_cons
abbrev y6:=@Nat.zero_mul
abbrev qfd:=@List.ext_getElem?
abbrev Y6:=@List.foldl_cons
abbrev Y7:=@List.filter_map
abbrev qfg:=@List.replicate_succ
abbrev Y8:=@Option.pure_def
abbrev qfi:=@Array.getD_eq_getD_getElem?
abbrev qfj:=@Array.getElem?_eq_none
abbrev qfk:=@Int.tmod_eq_emod_of_nonneg
abbrev qfl:=@List.filter_cons
abbrev qfm:=@Nat.mod_eq_of_lt
abbrev rD:=@and_true
abbrev qfo:=@Array.mem_of_getElem?
abbrev I3:=@Nat.add_comm
abbrev qfq:=@List.singleton_append
abbrev qfr:=@List.mem_take_iff_getElem
abbrev Y9:=@Option.mem_def
abbrev Z0:=@List.mapM_cons
abbrev qfu:=@Go.MapKept.run_getObj_map
abbrev Z1:=@List.drop_take
abbrev qfw:=@List.getElem?_of_mem
abbrev qfx:=@Array.size_setIfInBounds
abbrev qfy:=@List.filterMap_eq_filter
abbrev qfz:=@List.filterMap_filterMap
abbrev qf0:=@List.all_append
abbrev qf1:=@Array.getElem?_push
abbrev qf2:=@List.drop_succ_cons
abbrev qf3:=@List.map_eq_nil_iff
abbrev qf4:=@List.Pairwise.filterMap
abbrev qf5:=@List.filter_cons_of_neg
abbrev qf6:=@List.filter_cons_of_pos
abbrev qf7:=@List.any_eq_true
abbrev qf8:=@List.take_append
abbrev qf9:=@List.flatten_nil
abbrev qga:=@List.take_zero
abbrev qgb:=@List.set_cons_succ
abbrev qgc:=@Int.natCast_nonneg
abbrev qgd:=@Array.size_push
abbrev qge:=@Classical.choose_spec
abbrev qgf:=@List.filterMap_eq_map
abbrev qgg:=@List.length_filter_le
abbrev qgh:=@List.mem_append_right
abbrev qgi:=@List.Pairwise.sublist
abbrev qgj:=@UInt8.toNat_ofNat
abbrev qgk:=@Bool.or_false
abbrev I4:=@Array.ext'
abbrev qgm:=@Array.toList_extract
abbrev qgn:=@List.mem_append_left
abbrev qgo:=@List.nodup_nil
abbrev qgp:=@List.extract_eq_take_drop
abbrev qgq:=@List.drop_left
abbrev qgr:=@Option.isNone_iff_eq_none
abbrev xP:=@and_self
abbrev qgt:=@List.mem_flatten
abbrev qgu:=@List.drop_append
abbrev Z2:=@Nat.pow_pos
abbrev Z3:=@Nat.pow_add
abbrev qgx:=@List.filter_sublist
abbrev qgy:=@List.length_flatMap
abbrev qgz:=@Array.getElem?_replicate
abbrev qg0:=@Nat.mul_comm
abbrev qg1:=@List.sublist_append_left
abbrev qg2:=@UInt8.toNat_ofNat'
abbrev qg3:=@List.filterMap_nil
abbrev qg4:=@List.map_filterMap
abbrev qg5:=@List.map_singleton
abbrev qg6:=@List.append_cancel_left
abbrev qg7:=@Option.isSome_some
abbrev qg8:=@List.nodup_cons
abbrev qg9:=@Nat.ne_of_beq_eq_false
abbrev qha:=@List.length_eq_one_iff
abbrev qhb:=@List.size_toArray
abbrev qhc:=@List.getElem_take
abbrev qhd:=@List.find?_append
abbrev qhe:=@List.find?_filter
abbrev qhf:=@List.length_range
abbrev qhg:=@List.Sublist.refl
abbrev qhh:=@Function.comp_def
abbrev qhi:=@Option.map_map
abbrev qhj:=@List.eq_nil_or_concat
abbrev qhk:=@List.flatMap_nil
abbrev qhl:=@List.nil_sublist
abbrev qhm:=@List.Sublist.map
abbrev qhn:=@List.range_eq_range'
abbrev qho:=@List.getElem?_append
abbrev qhp:=@Int.ofNat_eq_natCast
abbrev qhq:=@List.map_take
abbrev qhr:=@Go.ByteArray.toList_eq
abbrev qhs:=@Nat.div_le_self
abbrev qht:=@Int.tmod_nonneg
abbrev qhu:=@Go.Sem.run_ite
abbrev qhv:=@Nat.not_lt_zero
abbrev qhw:=@List.idxOf_lt_length_of_mem
abbrev qhx:=@Nat.mul_one
abbrev qhy:=@Array.toList_setIfInBounds
abbrev qhz:=@List.filter_append
abbrev qh0:=@Bool.not_eq_false'
abbrev qh1:=@Prod.ext_iff
abbrev qh2:=@List.mem_replicate
abbrev qh3:=@Int.emod_lt_of_pos
abbrev qh4:=@Array.foldl_toList
abbrev qh5:=@Array.getElem?_map
abbrev qh6:=@Nat.succ_mul
abbrev qh7:=@Go.ChangeMaps.open_string
abbrev qh8:=@List.foldl_nil
abbrev qh9:=@List.take_left
abbrev qia:=@Array.mapM_eq_mapM_toList
abbrev qib:=@Go.MapKept.run_setObj_map
abbrev qic:=@List.Perm.refl
abbrev qid:=@List.Sublist.append_left
abbrev qie:=@Nat.div_one
abbrev qif:=@List.sum_cons
abbrev qig:=@List.any_cons
abbrev qih:=@List.filter_append_perm
abbrev qii:=@List.range'_succ
abbrev qij:=@List.isEmpty_iff
abbrev qik:=@List.getElem_set
abbrev qil:=@Nat.lt_of_not_le
abbrev qim:=@Nat.lt_or_ge
abbrev qin:=@List.range_succ
abbrev P9:=@Ne.symm
abbrev qip:=@Nat.pow_zero
abbrev qiq:=@List.map_id'
abbrev qir:=@Int.emod_nonneg
abbrev qis:=@Bool.decide_and
abbrev qit:=@Nat.sub_self
abbrev qiu:=@Bool.or_self
abbrev qiv:=@List.count_cons
abbrev qiw:=@Bool.and_assoc
abbrev qix:=@Bool.false_and
abbrev qiy:=@Nat.le_succ
abbrev qiz:=@Int.mul_add
abbrev qi0:=@List.mapM_nil
abbrev qi1:=@Nat.ble_eq
namespace Go.Vm
inductive Tr (α:Type) where
 | e
 | n (l:Tr α) (v:Option α) (r:Tr α)
namespace Tr
variable {α:Type}
def get:Tr α->Nat->Option α
 | .e,_=>none
 | .n l v r,i=>bif i.beq 0 then v else bif(i%2).beq 1 then l.get ((i-1) / 2) else r.get ((i-1) / 2)
def setK {β:Type} (a:α):Nat->Tr α->Nat->(Tr α->β)->β
 | 0,t,_,k=>k t
 | f+1,.e,i,k=>
   bif i.beq 0 then k (.n .e (some a) .e)
   else bif(i%2).beq 1 then setK a f .e ((i-1) / 2) λl=>k (.n l none .e)
   else setK a f .e ((i-1) / 2) λr=>k (.n .e none r)
 | f+1,.n l v r,i,k=>
   bif i.beq 0 then k (.n l (some a) r)
   else bif(i%2).beq 1 then setK a f l ((i-1) / 2) λl'=>k (.n l' v r)
   else setK a f r ((i-1) / 2) λr'=>k (.n l v r')
def tF (a:α) (f:Nat) (t:Tr α) (i:Nat):Tr α:=setK a f t i id
def set (t:Tr α) (i:Nat) (a:α):Tr α:=tF a (i+1) t i
def delK {β:Type}:Tr α->Nat->(Tr α->β)->β
 | .e,_,k=>k .e
 | .n l v r,i,k=>
   bif i.beq 0 then k (.n l none r)
   else bif(i%2).beq 1 then delK l ((i-1) / 2) λl'=>k (.n l' v r)
   else delK r ((i-1) / 2) λr'=>k (.n l v r')
def del (t:Tr α) (i:Nat):Tr α:=delK t i id
theorem setK_eq (a:α):∀(f:Nat) (β:Type) (t:Tr α) (i:Nat) (k:Tr α->β),setK a f t i k=k (tF a f t i):=by
 intro f;induction f with
 | zero=>intro β t i k;rfl
 | succ f ih=>
   intro β t i k;cases t with
   | e=>
     unfold tF setK;cases h0:i.beq 0<;>simp only[aF,aG]
     ·cases h1:(i%2).beq 1<;>simp only[aF,aG]<;>rw[ih,ih (Tr α)]<;>rfl
     ·rfl
   | n l v r=>
     unfold tF setK;cases h0:i.beq 0<;>simp only[aF,aG]
     ·cases h1:(i%2).beq 1<;>simp only[aF,aG]<;>rw[ih,ih (Tr α)]<;>rfl
     ·rfl
theorem delK_eq:∀(t:Tr α) (β:Type) (i:Nat) (k:Tr α->β),delK t i k=k (del t i):=by
 intro t;induction t with
 | e=>intro β i k;rfl
 | n l v r ihl ihr=>
   intro β i k;unfold del delK;cases h0:i.beq 0<;>simp only[aF,aG]
   ·cases h1:(i%2).beq 1<;>simp only[aF,aG]
    ·rw[ihr,ihr (Tr α)];rfl
    ·rw[ihl,ihl (Tr α)];rfl
   ·rfl
theorem kmy (a:α) (f i:Nat):tF a (f+1) .e i=bif i.beq 0 then .n .e (some a) .e else bif(i%2).beq 1 then .n (tF a f .e ((i-1) / 2)) none .e else .n .e none (tF a f .e ((i-1) / 2)):=by
 show setK a (f+1) .e i id=_;rw[setK];cases i.beq 0<;>simp only[aF,aG]
 ·cases (i%2).beq 1<;>simp only[aF,aG]<;>rw[setK_eq]<;>rfl
 ·rfl
theorem kmz (a:α) (f i:Nat) (l:Tr α) (v:Option α) (r:Tr α):tF a (f+1) (.n l v r) i=bif i.beq 0 then .n l (some a) r else bif(i%2).beq 1 then .n (tF a f l ((i-1) / 2)) v r else .n l v (tF a f r ((i-1) / 2)):=by
 show setK a (f+1) (.n l v r) i id=_;rw[setK];cases i.beq 0<;>simp only[aF,aG]
 ·cases (i%2).beq 1<;>simp only[aF,aG]<;>rw[setK_eq]<;>rfl
 ·rfl
theorem kdu (a:α):∀(f:Nat) (t:Tr α) (i j:Nat),i<f->(tF a f t i).get j=if j=i then some a else t.get j:=by
 intro f;induction f with
 | zero=>intro t i j h;omega
 | succ f ih=>
   intro t i j h;have bq:∀x y:Nat,x.beq y=decide (x=y):=λx y=>by
    rcases hxy:x.beq y with _ | _
    ·have:=qg9 hxy;simp[this]
    ·have:=uO hxy;simp[this]
   have go:∀(l:Tr α) (v:Option α) (r:Tr α),(bif i.beq 0 then Tr.n l (some a) r else bif(i%2).beq 1 then Tr.n (tF a f l ((i-1) / 2)) v r else Tr.n l v (tF a f r ((i-1) / 2))).get j
     =if j=i then some a else(Tr.n l v r).get j:=by
    intro l v r;by_cases hi:i=0
    ·subst hi;simp only[bq,aZ,aF];by_cases hj:j=0
     ·subst hj;simp[get]
     ·simp[get,bq,hj]
    ·have e0:i.beq 0=false:=by simp[bq,hi]
     simp only[e0,aG];by_cases h1:i%2=1
     ·have e1:(i%2).beq 1=true:=by simp[bq,h1]
      simp only[e1,aF,get,bq];by_cases hj:j=0
      ·subst hj;simp;omega
      ·simp only[hj,bA,aG];by_cases hj1:j%2=1
       ·simp only[hj1,aZ,aF];rw[ih l _ _ (by omega)];by_cases hji:j=i
        ·subst hji;simp
        ·rw[aC (by omega),aC hji]
       ·simp only[hj1,bA,aG];rw[aC (by omega)]
     ·have e1:(i%2).beq 1=false:=by simp[bq,h1]
      simp only[e1,aG,get,bq];by_cases hj:j=0
      ·subst hj;simp;omega
      ·simp only[hj,bA,aG];by_cases hj1:j%2=1
       ·simp only[hj1,aZ,aF];rw[aC (by omega)]
       ·simp only[hj1,bA,aG];rw[ih r _ _ (by omega)];by_cases hji:j=i
        ·subst hji;simp
        ·rw[aC (by omega),aC hji]
   cases t with
   | e=>
     have h1:=go .e none .e;have h2:(Tr.n .e none .e:Tr α).get j=(Tr.e:Tr α).get j:=by
      simp only[get];cases j.beq 0<;>cases (j%2).beq 1<;>rfl
     rw[h2] at h1;rw[<-h1,kmy]
   | n l v r=>
     rw[<-go l v r,kmz]
theorem get_set (t:Tr α) (i j:Nat) (a:α):(t.set i a).get j=if j=i then some a else t.get j:=kdu a (i+1) t i j (by omega)
theorem get_del:∀(t:Tr α) (i j:Nat),(t.del i).get j=if j=i then none else t.get j:=by
 have bq:∀x y:Nat,x.beq y=decide (x=y):=λx y=>by
  rcases hxy:x.beq y with _ | _
  ·have:=qg9 hxy;simp[this]
  ·have:=uO hxy;simp[this]
 intro t;induction t with
 | e=>intro i j;simp[del,delK,get]
 | n l v r ihl ihr=>
   intro i j;unfold del delK;by_cases hi:i=0
   ·subst hi;by_cases hj:j=0
    ·subst hj;simp[bq,get]
    ·simp[bq,get,hj]
   ·by_cases h1:i%2=1
    ·simp only[bq,hi,h1,bA,aZ,aG,aF,delK_eq,id,get];by_cases hj:j=0
     ·subst hj;simp;omega
     ·simp only[hj,bA,aG];by_cases hj1:j%2=1
      ·simp only[hj1,aZ,aF,ihl];by_cases hji:j=i
       ·subst hji;simp
       ·rw[aC (by omega),aC hji]
      ·simp only[hj1,bA,aG];rw[aC (by omega)]
    ·simp only[bq,hi,h1,bA,aG,delK_eq,id,get];by_cases hj:j=0
     ·subst hj;simp;omega
     ·simp only[hj,bA,aG];by_cases hj1:j%2=1
      ·simp only[hj1,aZ,aF];rw[aC (by omega)]
      ·simp only[hj1,bA,aG,ihr];by_cases hji:j=i
       ·subst hji;simp
       ·rw[aC (by omega),aC hji]
end Tr
inductive AV where
 | bool (b:Bool)
 | int (k:IntKind) (n:Int)
 | str (s:List Nat)
 | ptr (b o:Nat)
 | nilp
 | sl (b o len:Nat) (cap:Option Nat) (z:Nat)
 | nils
 | fn (f:Fn) (first capt:List AV)
 | nilf
 | ifc (t:TypeId) (v:AV)
 | nili
 | mp (b:Nat)
 | nilm
 | agg (l:List AV)
 | tup (l:List AV)
structure Loc where
 blk:Nat
 base:Nat
 lim:Nat
def RM:=Nat->Option Loc
def RO:Nat:=64
mutual
def VR (ρ:RM):AV->Value->Prop
 | .bool b,v=>v=.bool b
 | .int k n,v=>v=.int k n
 | .str s,v=>∃bs:ByteArray,v=.string bs/\bs.data.toList.map UInt8.toNat=s
 | .ptr b o,v=>∃l,ρ b=some l/\v=.pointer (some ⟨l.blk,l.base+o,none⟩)
 | .nilp,v=>v=.pointer none
 | .sl b o len cap z,v=>∃l c off,ρ b=some l/\v=.slice (some ⟨l.blk,off,none⟩) len c/\len<=c/\0<z/\(off=l.base+o\/c=0)/\
     (cap=some c/\l.base+o+c*z<=l.lim/\(RO<=b->c<9223372036854775808)\/cap=none/\l.base+o+c*z=l.lim/\c<9223372036854775808)
 | .nils,v=>v=.slice none 0 0
 | .fn f a b,v=>∃xs ys,v=.func f xs ys/\VRs ρ a xs.toList/\VRs ρ b ys.toList
 | .nilf,v=>v=.nilFunc
 | .ifc t x,v=>∃y,v=.iface t y/\VR ρ x y
 | .nili,v=>v=.nilIface
 | .mp b,v=>∃l,ρ b=some l/\v=.map (some l.blk)
 | .nilm,v=>v=.map none
 | .agg l,v=>∃cs,v=.agg cs/\VRs ρ l cs.toList
 | .tup l,v=>∃cs,v=.tuple cs/\VRs ρ l cs.toList
def VRs (ρ:RM):List AV->List Value->Prop
 | [],vs=>vs=[]
 | a::l,vs=>∃v vs',vs=v::vs'/\VR ρ a v/\VRs ρ l vs'
end
def RM.Le (ρ ρ':RM):Prop:=∀b l,ρ b=some l->ρ' b=some l
theorem RM.Le.refl (ρ:RM):ρ.Le ρ:=λ_ _ h=>h
theorem RM.Le.trans {a b c:RM} (h:a.Le b) (k:b.Le c):a.Le c:=λx l e=>k x l (h x l e)
mutual
theorem VR.mono {ρ ρ':RM} (h:ρ.Le ρ'):∀(a:AV) (v:Value),VR ρ a v->VR ρ' a v
 | .bool b,v,e=>by simpa[VR] using e
 | .int k n,v,e=>by simpa[VR] using e
 | .str s,v,e=>by simpa[VR] using e
 | .ptr b o,v,e=>by
   simp only[VR] at *;obtain⟨l,e1,e2⟩:=e;exact⟨l,h _ _ e1,e2⟩
 | .nilp,v,e=>by simpa[VR] using e
 | .sl b o len cap z,v,e=>by
   simp only[VR] at *;obtain⟨l,c,off,e1,e2⟩:=e;exact⟨l,c,off,h _ _ e1,e2⟩
 | .nils,v,e=>by simpa[VR] using e
 | .fn f a b,v,e=>by
   simp only[VR] at *;obtain⟨xs,ys,e1,e2,e3⟩:=e;exact⟨xs,ys,e1,VRs.mono h _ _ e2,VRs.mono h _ _ e3⟩
 | .nilf,v,e=>by simpa[VR] using e
 | .ifc t x,v,e=>by
   simp only[VR] at *;obtain⟨y,e1,e2⟩:=e;exact⟨y,e1,VR.mono h _ _ e2⟩
 | .nili,v,e=>by simpa[VR] using e
 | .mp b,v,e=>by
   simp only[VR] at *;obtain⟨l,e1,e2⟩:=e;exact⟨l,h _ _ e1,e2⟩
 | .nilm,v,e=>by simpa[VR] using e
 | .agg l,v,e=>by
   simp only[VR] at *;obtain⟨y,e1,e2⟩:=e;exact⟨y,e1,VRs.mono h _ _ e2⟩
 | .tup l,v,e=>by
   simp only[VR] at *;obtain⟨y,e1,e2⟩:=e;exact⟨y,e1,VRs.mono h _ _ e2⟩
theorem VRs.mono {ρ ρ':RM} (h:ρ.Le ρ'):∀(a:List AV) (v:List Value),VRs ρ a v->VRs ρ' a v
 | [],v,e=>by simpa[VRs] using e
 | a::l,v,e=>by
   simp only[VRs] at *;obtain⟨x,xs,e1,e2,e3⟩:=e;exact⟨x,xs,e1,VR.mono h _ _ e2,VRs.mono h _ _ e3⟩
end
theorem zS (ρ:RM):∀(l:List AV) (vs:List Value),VRs ρ l vs↔l.length=vs.length/\∀(i:Nat) (a:AV) (v:Value),l[i]?=some a->vs[i]?=some v->VR ρ a v
 | [],vs=>by cases vs<;>simp[VRs]
 | a::l,vs=>by
   simp only[VRs];constructor
   ·rintro ⟨v,vs',rfl,h1,h2⟩;rw[zS ρ l vs'] at h2;refine⟨by simp[h2.1],λi x y hx hy=>?_⟩;cases i with
    | zero=>simp at hx hy;subst hx;subst hy;exact h1
    | succ i=>exact h2.2 i x y (by simpa using hx) (by simpa using hy)
   ·rintro ⟨h1,h2⟩;cases vs with
    | nil=>simp at h1
    | cons v vs'=>
      refine⟨v,vs',rfl,h2 0 a v rfl rfl,(zS ρ l vs').2 ⟨by simpa using h1,λi x y hx hy=>h2 (i+1) x y (by simpa using hx) (by simpa using hy)⟩⟩
theorem VRs.get {ρ:RM} {l:List AV} {vs:List Value} (h:VRs ρ l vs) {i:Nat} {a:AV} (ha:l[i]?=some a):∃v,vs[i]?=some v/\VR ρ a v:=by
 obtain⟨h1,h2⟩:=(zS ρ l vs).1 h;have hi:i<vs.length:=by rw[<-h1];exact(nC.1 ha).1
 exact⟨vs[i],by simp[hi],h2 i a _ ha (by simp[hi])⟩
theorem VRs.length {ρ:RM} {l:List AV} {vs:List Value} (h:VRs ρ l vs):l.length=vs.length:=((zS ρ l vs).1 h).1
theorem VRs.append {ρ:RM} {l l':List AV} {vs vs':List Value} (h:VRs ρ l vs) (h':VRs ρ l' vs'):VRs ρ (l++l') (vs++vs'):=by
 induction l generalizing vs with
 | nil=>simp only[VRs] at h;subst h;simpa using h'
 | cons a l ih=>
   simp only[VRs] at h;obtain⟨v,r,rfl,h1,h2⟩:=h;exact⟨v,r++vs',rfl,h1,ih h2⟩
theorem VRs.take {ρ:RM} {l:List AV} {vs:List Value} (h:VRs ρ l vs) (n:Nat):VRs ρ (l.take n) (vs.take n):=by
 rw[zS] at *;refine⟨by simp[h.1],λi a v ha hv=>?_⟩;rw[yY] at ha hv;split at ha
 ·rename_i hi;rw[aH hi] at hv;exact h.2 i a v ha hv
 ·cases ha
theorem VRs.drop {ρ:RM} {l:List AV} {vs:List Value} (h:VRs ρ l vs) (n:Nat):VRs ρ (l.drop n) (vs.drop n):=by
 rw[zS] at *;refine⟨by simp[h.1],λi a v ha hv=>?_⟩;rw[u9] at ha hv;exact h.2 _ a v ha hv
def lA:AV->List AV
 | .agg l=>l
 | v=>[v]
theorem VR.cells {ρ:RM} {a:AV} {v:Value} (h:VR ρ a v):VRs ρ (lA a) v.cells.toList:=by
 cases a<;>simp only[VR] at h<;>simp only[lA]
 case agg l=>obtain⟨cs,rfl,h⟩:=h;exact h
 all_goals
  refine⟨v,[],?_,?_,rfl⟩
  ·first
   | (subst h;rfl)
   | (obtain⟨_,rfl,_⟩:=h;rfl)
   | (obtain⟨_,_,rfl⟩:=h;rfl)
   | (obtain⟨_,_,rfl,_⟩:=h;rfl)
   | (obtain⟨_,_,_,_,rfl,_⟩:=h;rfl)
  ·simp only[VR];exact h
def mN:AV->Bool
 | .agg _ | .tup _=>false
 | _=>true
theorem VR.one {ρ:RM} {a:AV} {v:Value} (h:VR ρ a v):v.oneCell'=mN a:=by
 cases a<;>simp only[VR] at h<;>first
  | (subst h;rfl)
  | (obtain⟨_,rfl,_⟩:=h;rfl)
  | (obtain⟨_,_,rfl⟩:=h;rfl)
  | (obtain⟨_,_,rfl,_⟩:=h;rfl)
  | (obtain⟨_,_,_,_,rfl,_⟩:=h;rfl)
end Go.Vm
namespace Go.Vm
inductive Blk where
 | cells (c:Tr AV) (n:Nat)
 | iter (s:List Nat) (pos:Nat)
 | mp (m:List (AV×AV))
def Blk.Rel (pl:Bool) (ρ:RM):Blk->Loc->World->Prop
 | .cells c n,l,w=>∃cs elem fr,w.heap[l.blk]?=some (.cells cs elem fr)/\l.base+n<=l.lim/\l.lim<=cs.size/\
     (∀i,l.base<=i->(pl=false->i<l.lim)->¬(fr.1<=i/\i<fr.2))/\∀i,i<n->∃a v,c.get i=some a/\cs[l.base+i]?=some v/\VR ρ a v
 | .iter s pos,l,w=>∃bs,w.heap[l.blk]?=some (.stringIter bs pos)/\bs.data.toList.map UInt8.toNat=s/\l.base=0
 | .mp m,l,w=>∃es clock,w.heap[l.blk]?=some (.map es clock)/\VRs ρ (m.map (·.1)) (es.toList.map (·.key))/\VRs ρ (m.map (·.2)) (es.toList.map (·.val))
def rx (ro:Nat):Nat:=max ro RO
theorem oM {ro b:Nat} (h:rx ro<=b):ro<=b/\RO<=b:=Nat.max_le.1 h
structure HR (ρ:RM) (H:Tr Blk) (w:World):Prop where
 blk:∀b k l,H.get b=some k->ρ b=some l->k.Rel (RO.ble b) ρ l w
 inj:∀b b' l l',(H.get b).isSome->(H.get b').isSome->ρ b=some l->ρ b'=some l'->l.blk=l'.blk->b=b'\/(b<RO/\b'<RO)
structure Step (ρ:RM) (H:Tr Blk) (nx ro:Nat) (w:World) (ρ':RM) (H':Tr Blk) (nx':Nat) (w':World):Prop where
 os:w'.os=w.os
 tape:w'.tape=w.tape
 output:w'.output=w.output
 size:w.heap.size<=w'.heap.size
 up:nx<=nx'
 ext:∀b,(b<nx\/nx'<=b)->ρ' b=ρ b
 keep:∀x,x<w.heap.size->(∀b l,ρ b=some l->l.blk=x->(H.get b).isSome->b<ro)->w'.heap[x]?=w.heap[x]?
 fresh:∀b l,nx<=b->b<nx'->ρ' b=some l->(w.heap.size<=l.blk/\l.blk<w'.heap.size)\/∃b0 l0,ro<=b0/\(H.get b0).isSome/\ρ b0=some l0/\l0.blk=l.blk
 live:∀b,(H'.get b).isSome->(nx<=b/\b<nx')\/(H.get b).isSome
 old:∀b,b<ro->b<nx->H'.get b=H.get b
theorem Step.refl (ρ:RM) (H:Tr Blk) (nx ro:Nat) (w:World):Step ρ H nx ro w ρ H nx w:=
 ⟨rfl,rfl,rfl,bQ _,bQ _,λ_ _=>rfl,λ_ _ _=>rfl,λb l h h'=>by omega,λ_ h=>.inr h,λ_ _ _=>rfl⟩
theorem Step.trans {ρ ρ1 ρ2:RM} {H H1 H2:Tr Blk} {nx nx1 nx2 ro:Nat} {w w1 w2:World}
  (s:Step ρ H nx ro w ρ1 H1 nx1 w1) (t:Step ρ1 H1 nx1 ro w1 ρ2 H2 nx2 w2):Step ρ H nx ro w ρ2 H2 nx2 w2 where
 os:=t.os.trans s.os
 tape:=t.tape.trans s.tape
 output:=t.output.trans s.output
 size:=fX s.size t.size
 up:=fX s.up t.up
 ext b h:=by
  have h1:=s.up;have h2:=t.up
  rw[t.ext b (by omega),s.ext b (by omega)]
 keep x hx h:=by
  rw[t.keep x (mS hx s.size) ?_,s.keep x hx h];intro b l hb hl hs;by_cases hbn:b<nx
  ·refine h b l ((s.ext b (.inl hbn))▸hb) hl ?_;rcases s.live b hs with h1 | h1
   ·omega
   ·exact h1
  ·by_cases hbn':b<nx1
   ·rcases s.fresh b l (by omega) hbn' hb with⟨h1,_⟩ | ⟨b0,l0,h1,h2,h3,h4⟩
    ·omega
    ·have:=h b0 l0 h3 (h4.trans hl) h2;omega
   ·rcases s.live b hs with h1 | h1
    ·omega
    ·exact h b l ((s.ext b (.inr (by omega)))▸hb) hl h1
 fresh b l h1 h2 hb:=by
  have a1:=s.up;have a2:=t.up;have a3:=s.size;have a4:=t.size
  by_cases hbn:b<nx1
  ·rcases s.fresh b l h1 hbn ((t.ext b (.inl hbn))▸hb) with⟨h3,h4⟩ | h3
   ·exact .inl ⟨h3,by omega⟩
   ·exact .inr h3
  ·rcases t.fresh b l (by omega) h2 hb with⟨h3,h4⟩ | ⟨b0,l0,h3,h4,h5,h6⟩
   ·exact .inl ⟨by omega,h4⟩
   ·by_cases hb0:nx<=b0/\b0<nx1
    ·rcases s.fresh b0 l0 hb0.1 hb0.2 h5 with⟨h7,h8⟩ | ⟨b1,l1,h7,h8,h9,h10⟩
     ·exact .inl ⟨by omega,by omega⟩
     ·exact .inr ⟨b1,l1,h7,h8,h9,h10.trans h6⟩
    ·have e:=s.ext b0 (by omega);rcases s.live b0 h4 with h7 | h7
     ·omega
     ·exact .inr ⟨b0,l0,h3,h7,e▸h5,h6⟩
 live b h:=by
  have a1:=s.up;have a2:=t.up
  rcases t.live b h with h1 | h1
  ·exact .inl (by omega)
  ·rcases s.live b h1 with h2 | h2
   ·exact .inl (by omega)
   ·exact .inr h2
 old b h h':=by
  rw[t.old b h (mS h' s.up),s.old b h h']
def Free (ρ:RM) (nx nx':Nat):Prop:=∀b,nx<=b->b<nx'->ρ b=none
theorem Step.le {ρ ρ':RM} {H H':Tr Blk} {nx nx' ro:Nat} {w w':World} (s:Step ρ H nx ro w ρ' H' nx' w') (hf:Free ρ nx nx'):ρ.Le ρ':=by
 intro b l hb;by_cases h:nx<=b/\b<nx'
 ·have:=hf b h.1 h.2;rw[this] at hb;cases hb
 ·rw[s.ext b (by omega)];exact hb
theorem Step.free {ρ ρ':RM} {H H':Tr Blk} {nx nx' nx'' ro:Nat} {w w':World} (s:Step ρ H nx ro w ρ' H' nx' w') (hf:Free ρ nx nx''):Free ρ' nx' nx'':=by
 intro b h1 h2;rw[s.ext b (.inr h1)];exact hf b (fX s.up h1) h2
theorem Free.left {ρ:RM} {a b c:Nat} (h:Free ρ a c) (hb:b<=c):Free ρ a b:=λx h1 h2=>h x h1 (by omega)
theorem Blk.Rel.mono {pl:Bool} {ρ ρ':RM} (h:ρ.Le ρ') {k:Blk} {l:Loc} {w w':World} (hk:k.Rel pl ρ l w) (hw:w'.heap[l.blk]?=w.heap[l.blk]?):k.Rel pl ρ' l w':=by
 cases k with
 | cells c n=>
   obtain⟨cs,e,fr,h1,h2,h3,h4,h5⟩:=hk;refine⟨cs,e,fr,hw.trans h1,h2,h3,h4,λi hi=>?_⟩;obtain⟨a,v,h6,h7,h8⟩:=h5 i hi;exact⟨a,v,h6,h7,VR.mono h _ _ h8⟩
 | iter s pos=>
   obtain⟨bs,h1,h2⟩:=hk;exact⟨bs,hw.trans h1,h2⟩
 | mp m=>
   obtain⟨es,clock,h1,h2,h3⟩:=hk;exact⟨es,clock,hw.trans h1,VRs.mono h _ _ h2,VRs.mono h _ _ h3⟩
theorem Blk.Rel.lt {pl:Bool} {ρ:RM} {k:Blk} {l:Loc} {w:World} (hk:k.Rel pl ρ l w):l.blk<w.heap.size:=by
 cases k with
 | cells c n=>
   obtain⟨cs,e,fr,h1,_⟩:=hk;exact(jI.1 h1).1
 | iter s pos=>
   obtain⟨bs,h1,h2⟩:=hk;exact(jI.1 h1).1
 | mp m=>
   obtain⟨es,clock,h1,_⟩:=hk;exact(jI.1 h1).1
def RM.upd (ρ:RM) (b:Nat) (l:Loc):RM:=λx=>if x=b then some l else ρ x
theorem RM.le_upd {ρ:RM} {b:Nat} {l:Loc} (h:ρ b=none):ρ.Le (ρ.upd b l):=by
 intro x y hx;unfold RM.upd;split
 ·subst x;rw[h] at hx;cases hx
 ·exact hx
theorem HR.alloc {ρ:RM} {H:Tr Blk} {w:World} {nx ro:Nat} (h:HR ρ H w) (hn:ρ nx=none) (o:Obj) (k:Blk) (l:Loc) (hl:l.blk=w.heap.size)
  (hk:k.Rel (RO.ble nx) (ρ.upd nx l) l (w.alloc o)) (hro:ro<=nx):
  HR (ρ.upd nx l) (H.set nx k) (w.alloc o)/\Step ρ H nx ro w (ρ.upd nx l) (H.set nx k) (nx+1) (w.alloc o):=by
 have hle:=RM.le_upd (l:=l) hn;have hold:∀x,x<w.heap.size->(w.alloc o).heap[x]?=w.heap[x]?:=λx hx=>qer w o x hx
 have ne:∀b k' l',H.get b=some k'->ρ b=some l'->l'.blk<w.heap.size:=λb k' l' h1 h2=>(h.blk b k' l' h1 h2).lt
 refine⟨⟨?_,?_⟩,?_⟩
 ·intro b k' l' hb hl';rw[Tr.get_set] at hb;unfold RM.upd at hl';by_cases e:b=nx
  ·simp only[e,cK] at hb hl';cases hb;cases hl';rw[e];exact hk
  ·simp only[e,dO] at hb hl';have hr:=h.blk b k' l' hb hl';exact hr.mono hle (hold _ hr.lt)
 ·intro b b' l1 l2 h1 h2 e1 e2 e;rw[Tr.get_set] at h1 h2;unfold RM.upd at e1 e2;by_cases hb:b=nx
  ·by_cases hb':b'=nx
   ·exact .inl (hb.trans hb'.symm)
   ·simp only[hb,hb',cK,dO] at h1 h2 e1 e2;cases e1;obtain⟨k2,hk2⟩:=rB.1 h2;have:=ne b' k2 l2 hk2 e2;omega
  ·by_cases hb':b'=nx
   ·simp only[hb,hb',cK,dO] at h1 h2 e1 e2;cases e2;obtain⟨k1,hk1⟩:=rB.1 h1;have:=ne b k1 l1 hk1 e1;omega
   ·simp only[hb,hb',dO] at h1 h2 e1 e2;exact h.inj b b' l1 l2 h1 h2 e1 e2 e
 ·refine⟨rfl,rfl,rfl,by simp,by omega,?_,?_,?_,?_,?_⟩
  ·intro b hb;unfold RM.upd;rw[aC (by omega)]
  ·intro x hx _;exact hold x hx
  ·intro b l' h1 h2 hb;have:b=nx:=by omega
   subst this;simp only[RM.upd,cK] at hb;cases hb;exact .inl ⟨by omega,by simp;omega⟩
  ·intro b hb;rw[Tr.get_set] at hb;by_cases e:b=nx
   ·exact .inl (by omega)
   ·simp only[e,dO] at hb;exact .inr hb
  ·intro b hb hb';rw[Tr.get_set,aC (by omega)]
theorem HR.write {ρ:RM} {H:Tr Blk} {w w':World} {nx ro b:Nat} (h:HR ρ H w) (k:Blk) (l:Loc) (hs:(H.get b).isSome) (hl:ρ b=some l) (hrx:rx ro<=b)
  (os:w'.os=w.os) (tape:w'.tape=w.tape) (out:w'.output=w.output) (size:w'.heap.size=w.heap.size)
  (hold:∀x,x≠l.blk->w'.heap[x]?=w.heap[x]?) (hk:k.Rel (RO.ble b) ρ l w'):
  HR ρ (H.set b k) w'/\Step ρ H nx ro w ρ (H.set b k) nx w':=by
 obtain⟨hro,hRO⟩:=oM hrx;refine⟨⟨?_,?_⟩,⟨os,tape,out,by omega,bQ _,λ_ _=>rfl,?_,λb l h1 h2=>by omega,?_,?_⟩⟩
 ·intro b' k' l' hb hl';rw[Tr.get_set] at hb;by_cases e:b'=b
  ·subst e;rw[hl] at hl';simp only[cK] at hb;cases hb;cases hl';exact hk
  ·simp only[e,dO] at hb;have hr:=h.blk b' k' l' hb hl';refine hr.mono (RM.Le.refl _) (hold _ λe'=>e ?_);rcases h.inj b' b l' l (by rw[hb];rfl) hs hl' hl e' with h1 | h1
   ·exact h1
   ·omega
 ·intro x y l1 l2 h1 h2 e1 e2 e;rw[Tr.get_set] at h1 h2;refine h.inj x y l1 l2 ?_ ?_ e1 e2 e
  ·by_cases ex:x=b
   ·rw[ex];exact hs
   ·simpa[ex] using h1
  ·by_cases ey:y=b
   ·rw[ey];exact hs
   ·simpa[ey] using h2
 ·intro x _ hk;refine hold x λe=>?_
  have:=hk b l hl e.symm hs;omega
 ·intro x hx;rw[Tr.get_set] at hx;by_cases e:x=b
  ·rw[e];exact .inr hs
  ·exact .inr (by simpa[e] using hx)
 ·intro x hx _;rw[Tr.get_set,aC (by omega)]
theorem HR.drew {ρ:RM} {H:Tr Blk} {w:World} (n:Nat) (h:HR ρ H w):HR ρ H { w with drawn:=n }:=by
 refine⟨λb k l hb hl=>?_,h.inj⟩;have:=h.blk b k l hb hl;exact this.mono (RM.Le.refl _) rfl
theorem Step.drew (ρ:RM) (H:Tr Blk) (nx ro:Nat) (w:World) (n:Nat):Step ρ H nx ro w ρ H nx { w with drawn:=n }:=
 ⟨rfl,rfl,rfl,bQ _,bQ _,λ_ _=>rfl,λ_ _ _=>rfl,λb l h h'=>by omega,λ_ h=>.inr h,λ_ _ _=>rfl⟩
end Go.Vm
namespace Go.Vm
def xA {β:Type} (n:Nat) (k:Nat->β):β:=match n with | 0=>k 0 | m+1=>k (m+1)
def jsy {β:Type} (n:Int) (k:Int->β):β:=match n with
 | .ofNat n=>xA n λn=>k (.ofNat n)
 | .negSucc n=>xA n λn=>k (.negSucc n)
theorem U4 {β:Type} (n:Nat) (k:Nat->β):xA n k=k n:=by cases n<;>rfl
theorem kdn {β:Type} (n:Int) (k:Int->β):jsy n k=k n:=by cases n<;>simp[jsy,U4]
def jhg {β:Type}:List Nat->(List Nat->β)->β
 | [],k=>k []
 | x::l,k=>xA x λx=>jhg l λl=>k (x::l)
theorem jej:∀(l:List Nat) (β:Type) (k:List Nat->β),jhg l k=k l
 | [],_,_=>rfl
 | x::l,β,k=>by simp[jhg,U4,jej l]
def jhe {β:Type} (v:AV) (k:AV->β):β:=match v with
 | .int d n=>jsy n λn=>k (.int d n)
 | .bool b=>match b with | true=>k (.bool true) | false=>k (.bool false)
 | .str s=>jhg s λs=>k (.str s)
 | .ptr b o=>xA b λb=>xA o λo=>k (.ptr b o)
 | .sl b o len cap z=>xA b λb=>xA o λo=>xA len λlen=>match cap with
   | none=>k (.sl b o len none z)
   | some c=>xA c λc=>k (.sl b o len (some c) z)
 | v=>k v
theorem jei {β:Type} (v:AV) (k:AV->β):jhe v k=k v:=by
 cases v<;>simp[jhe,kdn,jej,U4]
 case bool b=>cases b<;>rfl
 case sl b o len cap z=>cases cap<;>simp[U4]
def jhf {β:Type}:List AV->(List AV->β)->β
 | [],k=>k []
 | x::l,k=>jhe x λx=>jhf l λl=>k (x::l)
theorem U3:∀(l:List AV) (β:Type) (k:List AV->β),jhf l k=k l
 | [],_,_=>rfl
 | x::l,β,k=>by simp[jhf,jei,U3 l]
def tZ:Int->Int->Bool
 | .ofNat a,.ofNat b=>a.beq b
 | .negSucc a,.negSucc b=>a.beq b
 | _,_=>false
def qA:Int->Int->Bool
 | .ofNat a,.ofNat b=>a.ble b
 | .negSucc a,.negSucc b=>b.ble a
 | .negSucc _,.ofNat _=>true
 | .ofNat _,.negSucc _=>false
theorem bE (x y:Nat):x.beq y=decide (x=y):=by
 rcases hxy:x.beq y with _ | _
 ·have:=qg9 hxy;simp[this]
 ·have:=uO hxy;simp[this]
theorem bB (x y:Nat):x.ble y=decide (x<=y):=by
 rcases hxy:x.ble y with _ | _
 ·have:¬x<=y:=λh=>by have:=Nat.ble_eq_true_of_le h;simp[hxy] at this
  simp[this]
 ·have:=xM hxy;simp[this]
theorem U7 (a b:Int):tZ a b=(a==b):=by
 rw[P3,beq_iff_eq];cases a<;>cases b<;>simp[tZ,bE]<;>omega
theorem m8 (a b:Int):qA a b=decide (a<=b):=by
 rw[P3,decide_eq_true_iff];cases a with
 | ofNat a=>cases b with
   | ofNat b=>simp[qA,bB]
   | negSucc b=>simp[qA];omega
 | negSucc a=>cases b with
   | ofNat b=>simp[qA];omega
   | negSucc b=>simp[qA,bB];omega
def kix:IntKind->Nat
 | .i8=>0 | .i16=>1 | .i32=>2 | .i64=>3 | .u8=>4 | .u16=>5 | .u32=>6 | .u64=>7
def oX (a b:IntKind):Bool:=(kix a).beq (kix b)
theorem xC {a b:IntKind}:oX a b=true↔a=b:=by cases a<;>cases b<;>simp[oX,kix]
def yO:IntKind->Nat
 | .i8=>128 | .i16=>32768 | .i32=>2147483648 | .i64=>9223372036854775808
 | .u8=>256 | .u16=>65536 | .u32=>4294967296 | .u64=>18446744073709551616
def jmx:IntKind->Bool
 | .i8 | .i16 | .i32 | .i64=>true
 | _=>false
def K5 (k:IntKind) (n:Int):Int:=match n with
 | .ofNat m=>bif(yO k).ble m then k.wrap n else n
 | .negSucc m=>bif jmx k&& !((yO k).ble m) then n else k.wrap n
theorem jqq (k:IntKind) (n:Int) (h0:0<=n) (h:n< (yO k:Int)):k.wrap n=n:=by
 unfold IntKind.wrap;cases k<;>simp only[yO,Int.cast_ofNat_Int] at h<;>simp only[IntKind.bits,IntKind.signed,sY,qix]<;>simp<;>omega
theorem j6e (k:IntKind) (n:Int) (hk:jmx k=true) (h0:n<0) (h: -(yO k:Int)<=n):k.wrap n=n:=by
 unfold IntKind.wrap;cases k<;>simp only[jmx,reduceCtorEq] at hk<;>simp only[yO,Int.cast_ofNat_Int] at h<;>simp only[IntKind.bits,IntKind.signed,sY]<;>simp<;>omega
theorem xV (k:IntKind) (n:Int):K5 k n=k.wrap n:=by
 cases n with
 | ofNat m=>
   simp only[K5,bB];by_cases h:yO k<=m
   ·simp only[h,aZ,aF]
   ·simp only[h,bA,aG];rw[jqq k (Int.ofNat m) (qgc m) (by simp;omega)]
 | negSucc m=>
   simp only[K5,bB];by_cases h:yO k<=m
   ·simp only[h,aZ,fQ,Bool.and_false,aG]
   ·simp only[h,bA,xO,qG];cases hk:jmx k
    ·rfl
    ·rw[j6e k _ hk (by omega) (by omega)];rfl
def qX:List Nat->List Nat->Bool
 | [],[]=>true
 | a::x,b::y=>a.beq b&&qX x y
 | _,_=>false
def xD:List Nat->List Nat->Bool
 | _,[]=>false
 | [],_::_=>true
 | a::x,b::y=>bif a.beq b then xD x y else a.ble b
theorem jtn:∀(x y:List Nat),qX x y=true↔x=y
 | [],[]=>by simp[qX]
 | [],_::_=>by simp[qX]
 | _::_,[]=>by simp[qX]
 | a::x,b::y=>by simp[qX,bE,jtn x y]
theorem kh5 {x y:List UInt8} (h:x.map UInt8.toNat=y.map UInt8.toNat):x=y:=
 List.map_inj_right (λ_ _ e=>I1.1 e) |>.1 h
theorem jtm (x y:List UInt8):qX (x.map UInt8.toNat) (y.map UInt8.toNat)=(x==y):=by
 rw[P3,jtn,beq_iff_eq];exact⟨kh5,λh=>h▸rfl⟩
theorem j1d:∀(x y:List UInt8),xD (x.map UInt8.toNat) (y.map UInt8.toNat)=Op.bytesLess x y
 | x,[]=>by cases x<;>rfl
 | [],_::_=>rfl
 | a::x,b::y=>by
   simp only[dE,xD,Op.bytesLess,j1d x y,bE,bB];by_cases h:a=b
   ·subst h;simp
   ·have h1:a.toNat≠b.toNat:=λe=>h (I1.1 e)
    have h2:(a==b)=false:=by simp[h]
    simp only[h1,bA,aG,h2,qix,qgk];rw[P3];simp[UInt8.lt_iff_toNat_lt];omega
def rM (op:BinOp) (a b:AV):Option AV:=
 match a,b with
 | .int k x,.int k' y=>
   match op with
   | .shl=>bif qA 0 y then some (.int k (K5 k (x*2^ (min y.toNat k.bits)))) else none
   | .shr=>bif qA 0 y then some (.int k (x.fdiv (2^ (min y.toNat k.bits)))) else none
   | op=>bif oX k k' then(match op with
     | .add=>some (.int k (K5 k (x+y)))
     | .sub=>some (.int k (K5 k (x-y)))
     | .mul=>some (.int k (K5 k (x*y)))
     | .quo=>bif tZ y 0 then none else some (.int k (K5 k (x.tdiv y)))
     | .rem=>bif tZ y 0 then none else some (.int k (x.tmod y))
     | .and=>some (.int k (k.wrap (BitVec.ofInt k.bits x &&& BitVec.ofInt k.bits y).toNat))
     | .or=>some (.int k (k.wrap (BitVec.ofInt k.bits x ||| BitVec.ofInt k.bits y).toNat))
     | .xor=>some (.int k (k.wrap (BitVec.ofInt k.bits x ^^^ BitVec.ofInt k.bits y).toNat))
     | .andNot=>some (.int k (k.wrap (BitVec.ofInt k.bits x &&& ~~~ BitVec.ofInt k.bits y).toNat))
     | .eql=>some (.bool (tZ x y))
     | .neq=>some (.bool (!tZ x y))
     | .lss=>some (.bool (!qA y x))
     | .leq=>some (.bool (qA x y))
     | .gtr=>some (.bool (!qA x y))
     | .geq=>some (.bool (qA y x))
     | _=>none) else none
 | .str s,.str t=>
   match op with
   | .add=>bif(s.length+t.length).ble 4000000000 then some (.str (s++t)) else none
   | .eql=>some (.bool (qX s t))
   | .neq=>some (.bool (!qX s t))
   | .lss=>some (.bool (xD s t))
   | .leq=>some (.bool (xD s t||qX s t))
   | .gtr=>some (.bool (!(xD s t||qX s t)))
   | .geq=>some (.bool (!xD s t))
   | _=>none
 | _,_=>none
theorem j9l {ρ:RM} {P:Program} {op:BinOp} {a b v:AV} {x y:Value} (w:World) (t:TypeId) (h:rM op a b=some v) (ha:VR ρ a x) (hb:VR ρ b y):
  ∃v',(binOp op t x y).run P w=.ok v' w/\VR ρ v v':=by
 unfold rM at h;split at h
 ·rename_i k n k' m;simp only[VR] at ha hb;subst ha;subst hb;split at h
  ·cases h0:qA 0 m<;>simp only[h0,aF,aG] at h
   ·cases h
   ·cases h;rw[m8] at h0;have h1:¬m<0:=by have:=of_decide_eq_true h0;omega
    refine⟨_,by simp[binOp,Op.shift,h1];rfl,by simp[VR,xV]⟩
  ·cases h0:qA 0 m<;>simp only[h0,aF,aG] at h
   ·cases h
   ·cases h;rw[m8] at h0;have h1:¬m<0:=by have:=of_decide_eq_true h0;omega
    refine⟨_,by simp[binOp,Op.shift,h1];rfl,by simp[VR]⟩
  ·rename_i hn1 hn2;cases h0:oX k k'<;>simp only[h0,aF,aG] at h
   ·cases h
   ·have hk:=xC.1 h0;subst hk;cases op<;>simp only[reduceCtorEq,iO] at h hn1 hn2<;>try (cases h)
    case quo=>
     rw[U7] at h;cases h2:(m==0)<;>simp only[h2,aF,aG] at h
     ·cases h;have:¬m=0:=by simpa using h2
      exact⟨_,by simp[binOp,Op.intDiv,this];rfl,by simp[VR,xV]⟩
     ·cases h
    case rem=>
     rw[U7] at h;cases h2:(m==0)<;>simp only[h2,aF,aG] at h
     ·cases h;have:¬m=0:=by simpa using h2
      exact⟨_,by simp[binOp,Op.intDiv,this];rfl,by simp[VR]⟩
     ·cases h
    all_goals
     refine⟨_,by simp[binOp,Op.intArith,Op.intBits,Op.intCmp];rfl,?_⟩
     first
      | (simp[VR,xV,U7,m8,bne];done)
      | (simp only[VR,m8,Value.bool.injEq];rw[P3];simp)
 ·rename_i s t';simp only[VR] at ha hb;obtain⟨s',rfl,rfl⟩:=ha;obtain⟨t',rfl,rfl⟩:=hb;have e1:=jtm s'.data.toList t'.data.toList;have e2:=j1d s'.data.toList t'.data.toList;cases op<;>simp only[reduceCtorEq] at h<;>try (cases h)
  case add=>
   simp only[bB,dM] at h;by_cases h3:s'.data.toList.length+t'.data.toList.length<=4000000000
   ·simp only[h3,aZ,aF] at h;cases h;have h4:¬((s'.size+t'.size:Nat):Int) > IntKind.i64.max:=by
     have:s'.size+t'.size<=4000000000:=by simpa using h3
     simp[IntKind.max,IntKind.signed,IntKind.bits];omega
    refine⟨.string (s'++t'),by simp only[binOp,Op.stringOp,h4,dO];rfl,?_⟩;simp[VR]
   ·simp only[h3,bA,aG,reduceCtorEq] at h
  all_goals
   refine⟨_,by simp only[binOp,Op.stringOp,qhr,gP];rfl,?_⟩;simp only[VR,e1,e2]
 ·cases h
end Go.Vm
namespace Go.Vm
inductive Opd where
 | t (n:Nat)
 | c (v:AV)
inductive I where
 | mov (x:Opd)
 | pick (c a b:Opd)
 | build (z:List AV) (ps:List (Nat×Nat×Opd))
 | nilck (x:Opd)
 | bin (op:BinOp) (x y:Opd)
 | eqf (neg agg:Bool) (ks:List Nat) (x y:Opd)
 | eqn (neg:Bool) (kd:Nat) (x y:Opd)
 | neg (x:Opd)
 | cpl (x:Opd)
 | not (x:Opd)
 | cvi (k:IntKind) (x:Opd)
 | cvs (x:Opd)
 | mkif (t:TypeId) (x:Opd)
 | mkfn (f:Fn) (first capt:List Opd)
 | fad (off:Nat) (x:Opd)
 | fld (agg:Bool) (size off:Nat) (x:Opd)
 | iadA (n z:Nat) (x i:Opd)
 | iadS (z:Nat) (x i:Opd)
 | idxA (agg:Bool) (n z:Nat) (x i:Opd)
 | idxS (x i:Opd)
 | slS (z:Nat) (x:Opd) (lo hi mx:Option Opd)
 | slT (x:Opd) (lo hi:Option Opd)
 | ext (n:Nat) (x:Opd)
 | len (x:Opd)
 | lenS (x:Opd)
 | lenc (n:Nat)
 | cap (x:Opd)
 | mins (x:Opd) (xs:List Opd)
 | maxs (x:Opd) (xs:List Opd)
 | box (x:Opd)
 | alloc (z:List AV)
 | bsl (z:Nat) (n:Nat) (zs:List AV) (ps:List (Nat×Nat×Opd))
 | load (agg:Bool) (n:Nat) (x:Opd)
 | store (n:Nat) (x v:Opd)
 | slA (n z:Nat) (x:Opd) (lo hi mx:Option Opd)
 | app (z bytes:Nat) (x y:Opd)
 | copy (z:Nat) (x y:Opd)
 | mksl (z bytes:Nat) (zs:List AV) (l c:Opd)
 | b2s (x:Opd)
 | s2b (x:Opd)
 | range (x:Opd)
 | next (x:Opd)
 | call (f:FuncId) (args:List Opd)
 | calld (f:Opd) (args:List Opd)
 | xrow (name:Nat) (args:List Opd)
 | mkmap (r:Option Opd)
 | mlook (agg:Bool) (ks:List Nat) (z:AV) (ok:Bool) (x k:Opd)
 | mset (agg:Bool) (ks:List Nat) (x k v:Opd)
 | bad
section compile
variable (P:Program) (gl:List Nat)
def W8:Value->Option AV
 | .bool b=>some (.bool b)
 | .int k n=>some (.int k n)
 | .string bs=>some (.str (bs.data.toList.map UInt8.toNat))
 | .pointer none=>some .nilp
 | .slice none 0 0=>some .nils
 | .nilFunc=>some .nilf
 | .nilIface=>some .nili
 | .map none=>some .nilm
 | .iface t (.int k n)=>some (.ifc t (.int k n))
 | .iface t (.string bs)=>some (.ifc t (.str (bs.data.toList.map UInt8.toNat)))
 | .tuple vs=>match vs.toList with | []=>some (.tup []) | _=>none
 | _=>none
theorem jua (ρ:RM) {v:Value} {a:AV} (h:W8 v=some a):VR ρ a v:=by
 unfold W8 at h;split at h<;>try (cases h;done)
 all_goals first
  | (cases h;simp[VR];done)
  | (cases h;exact⟨_,rfl,by simp[VR]⟩)
  | skip
 ·split at h
  ·rename_i hvs;cases h;exact⟨_,rfl,by rw[hvs];rfl⟩
  ·cases h
def kkf (v:Value):Option (List AV):=v.cells.toList.mapM W8
theorem jm9 (ρ:RM):∀(vs:List Value) (l:List AV),vs.mapM W8=some l->VRs ρ l vs
 | [],l,h=>by simp at h;subst h;rfl
 | v::vs,l,h=>by
   simp only[Z0,kJ,iA,Y8,aS] at h;obtain⟨a,h1,l',h2,rfl⟩:=h;exact⟨v,vs,rfl,jua ρ h1,jm9 ρ vs l' h2⟩
def dX:Operand->Option Opd
 | .tmp n=>some (.t n)
 | .const v=>(W8 v).map .c
 | .global g=>if gl.contains g then some (.c (.ptr g 0)) else none
 | .func f=>some (.c (.fn (.func f) [] []))
def opds (xs:Array Operand):Option (List Opd):=xs.toList.mapM (dX gl)
def s9:Option Operand->Option (Option Opd)
 | none=>some none
 | some x=>(dX gl x).map some
def qW:TypeDesc->Bool
 | .struct _ | .array _ _=>true
 | _=>false
def lay (t:TypeId):Option (Nat×Bool):=
 match P.info? t,P.underlying t with
 | some i,some d=>some (i.size,qW d)
 | _,_=>none
def S7 (t:TypeId):Option (List AV):=
 match P.info? t with
 | some i=>match i.zero with
   | some v=>kkf v
   | none=>none
 | none=>none
def sL (r:TypeId->Option (List Nat)):List Field->Nat->Nat->Option (List Nat)
 | [],off,size=>if off==size then some [] else none
 | f::fs,off,size=>if f.name != "_" &&f.offset==off then match r f.type,sL r fs (off+P.cellsOf f.type) size with
   | some l,some m=>if l.length==P.cellsOf f.type then some (l++m) else none
   | _,_=>none else none
def flat:Nat->TypeId->Option (List Nat)
 | 0,_=>none
 | d+1,t=>
   match P.info? t,P.underlying t with
   | some i,some .bool=>if i.size==1 then some [0] else none
   | some i,some (.int _)=>if i.size==1 then some [1] else none
   | some i,some .string=>if i.size==1 then some [2] else none
   | some i,some (.struct fs)=>if P.stoodInHeld t then none else sL P (flat d) fs.toList 0 i.size
   | some i,some (.array n e)=>match flat d e with
     | some l=>if i.size==n*P.cellsOf e&&l.length==P.cellsOf e then some (List.replicate n l).flatten else none
     | none=>none
   | _,_=>none
end compile
def T6:List AV->List (Nat×Nat×AV)->Option (List AV)
 | l,[]=>some l
 | l,(off,size,v)::r=>bif(lA v).length.beq size&&(off+size).ble l.length then T6 (l.take off++(lA v++l.drop (off+size))) r else none
def uH (agg:Bool) (l:List AV):Option AV:=bif agg then some (.agg l) else match l with
 | [x]=>some x
 | _=>none
def pX:Nat->AV->AV->Option Bool
 | 1,.int k a,.int k' b=>bif oX k k' then some (tZ a b) else none
 | 0,.bool a,.bool b=>some (a==b)
 | 2,.str a,.str b=>some (qX a b)
 | _,_,_=>none
def jZ:List Nat->List AV->List AV->Option Bool
 | [],[],[]=>some true
 | k::ks,a::l,b::m=>match pX k a b with
   | some true=>jZ ks l m
   | some false=>some false
   | none=>none
 | _,_,_=>none
def pE (agg:Bool) (ks:List Nat) (a b:AV):Option Bool:=
 bif agg then(match a,b with
  | .agg l,.agg m=>bif l.length.beq ks.length&&m.length.beq ks.length then jZ ks l m else none
  | _,_=>none) else jZ ks [a] [b]
def wS:Nat->AV->AV->Option Bool
 | 0,.nili,.nili | 1,.nilp,.nilp | 2,.nils,.nils | 3,.nilf,.nilf=>some true
 | 0,.nili,.ifc _ _ | 0,.ifc _ _,.nili | 1,.nilp,.ptr _ _ | 1,.ptr _ _,.nilp | 2,.nils,.sl _ _ _ _ _ | 2,.sl _ _ _ _ _,.nils | 3,.nilf,.fn _ _ _ | 3,.fn _ _ _,.nilf=>some false
 | _,_,_=>none
def yC (y:Nat):AV->Option Nat
 | .int _ (.ofNat i)=>bif i.ble y then some i else none
 | _=>none
def tO (len:Nat) (cap:Nat) (lo hi mx:Option AV):Option (Nat×Nat×Nat):=
 match (match mx with | some v=>yC cap v | none=>some cap) with
 | none=>none
 | some m=>match (match hi,mx with | some v,_=>yC m v | none,none=>some len | none,some _=>none) with
   | none=>none
   | some h=>match (match lo with | some v=>yC h v | none=>some 0) with
     | none=>none
     | some l=>some (l,h,m)
def nH (z:Nat) (a:AV) (lo hi mx:Option AV):Option AV:=
 match a with
 | .sl b o len cap z'=>bif z'.beq z then(match cap with
   | some c=>match tO len c lo hi mx with
     | some (l,h,m)=>some (.sl b (o+l*z) (h-l) (some (m-l)) z)
     | none=>none
   | none=>match tO len len lo hi mx with
     | some (l,h,m)=>match mx with
       | some _=>some (.sl b (o+l*z) (h-l) (some (m-l)) z)
       | none=>some (.sl b (o+l*z) (h-l) none z)
     | none=>none) else none
 | .nils=>match tO 0 0 lo hi mx with
   | some _=>some .nils
   | none=>none
 | _=>none
def ja3:AV->List AV->Option AV
 | x,[]=>some x
 | .int k x,.int _ y::r=>ja3 (.int k (bif qA x y then x else y)) r
 | _,_=>none
def ja2:AV->List AV->Option AV
 | x,[]=>some x
 | .int k x,.int _ y::r=>ja2 (.int k (bif qA y x then x else y)) r
 | _,_=>none
def cT (g:Opd->AV):I->Option AV
 | .mov x=>some (g x)
 | .pick c a b=>match g c with | .bool true=>some (g a) | .bool false=>some (g b) | _=>none
 | .build z ps=>(T6 z (ps.map fun(o,s,x)=>(o,s,g x))).map .agg
 | .nilck x=>match g x with
   | .nilp | .nili | .nilf=>none
   | .fn (.method _) _ _=>none
   | v=>some v
 | .bin op x y=>rM op (g x) (g y)
 | .eqf n agg ks x y=>match pE agg ks (g x) (g y) with
   | some b=>some (.bool (n ^^ b))
   | none=>none
 | .eqn n kd x y=>match wS kd (g x) (g y) with
   | some b=>some (.bool (n ^^ b))
   | none=>none
 | .neg x=>match g x with | .int k n=>some (.int k (K5 k (0-n))) | _=>none
 | .cpl x=>match g x with
   | .int k n=>some (.int k (k.wrap (BitVec.ofInt k.bits (if k.signed then -1 else k.max) ^^^ BitVec.ofInt k.bits n).toNat))
   | _=>none
 | .not x=>match g x with | .bool b=>some (.bool !b) | _=>none
 | .cvi k x=>match g x with | .int _ n=>some (.int k (K5 k n)) | _=>none
 | .cvs x=>match g x with | .str s=>some (.str s) | .int _ (.ofNat n)=>(bif n.ble 127 then some (.str [n]) else none) | _=>none
 | .mkif t x=>some (.ifc t (g x))
 | .mkfn f a b=>some (.fn f (a.map g) (b.map g))
 | .fad off x=>match g x with | .ptr b o=>some (.ptr b (o+off)) | _=>none
 | .fld agg size off x=>match g x with
   | .agg l=>bif(off+size).ble l.length then uH agg ((l.drop off).take size) else none
   | _=>none
 | .iadA n z x i=>match g x,g i with
   | .ptr b o,.int _ (.ofNat i)=>bif n.ble i then none else some (.ptr b (o+i*z))
   | _,_=>none
 | .iadS z x i=>match g x,g i with
   | .sl b o len _ z',.int _ (.ofNat i)=>bif !(z'.beq z)||len.ble i then none else some (.ptr b (o+i*z))
   | _,_=>none
 | .idxA agg n z x i=>match g x,g i with
   | .agg l,.int _ (.ofNat i)=>bif n.ble i|| !((i*z+z).ble l.length) then none else uH agg ((l.drop (i*z)).take z)
   | _,_=>none
 | .idxS x i=>match g x,g i with
   | .str s,.int _ (.ofNat i)=>match s[i]? with
     | some c=>some (.int .u8 c)
     | none=>none
   | _,_=>none
 | .slS z x lo hi mx=>nH z (g x) (lo.map g) (hi.map g) (mx.map g)
 | .slT x lo hi=>match g x with
   | .str s=>match tO s.length s.length (lo.map g) (hi.map g) none with
     | some (l,h,_)=>some (.str ((s.drop l).take (h-l)))
     | none=>none
   | _=>none
 | .ext n x=>match g x with | .tup l=>l[n]? | _=>none
 | .lenS x=>match g x with
   | .str s=>some (.int .i64 s.length)
   | _=>none
 | .len x=>match g x with
   | .sl _ _ len _ _=>some (.int .i64 len)
   | .nils=>some (.int .i64 0)
   | _=>none
 | .lenc n=>some (.int .i64 n)
 | .cap x=>match g x with
   | .sl _ _ _ (some c) _=>some (.int .i64 c)
   | .nils=>some (.int .i64 0)
   | _=>none
 | .mins x xs=>ja3 (g x) (xs.map g)
 | .maxs x xs=>ja2 (g x) (xs.map g)
 | _=>none
section compile
variable (P:Program) (gl:List Nat)
def jjj (fs:Array Field) (i:Nat):Option (Nat×Nat):=
 match fs[i]? with
 | some f=>match P.info? f.type with
   | some j=>some (f.offset,j.size)
   | none=>none
 | none=>none
def jcj (place:Nat->Option (Nat×Nat)):List (Nat×Operand)->Option (List (Nat×Nat×Opd))
 | []=>some []
 | (i,x)::r=>match place i,dX gl x,jcj place r with
   | some (o,s),some y,some l=>some ((o,s,y)::l)
   | _,_,_=>none
def wA:BinOp->Bool
 | .neq=>true
 | _=>false
def isC:Operand->Bool
 | .const _=>true
 | _=>false
def wW (op:BinOp) (t:TypeId) (x y:Operand) (x' y':Opd):Option I:=
 match P.underlying t with
 | some (.int _) | some .string=>some (.bin op x' y')
 | some .bool=>match flat P 20 t with | some ks=>some (.eqf (wA op) false ks x' y') | none=>none
 | some (.struct _) | some (.array _ _)=>if P.eqGuardType P.depth t then none else match flat P 20 t with | some ks=>some (.eqf (wA op) true ks x' y') | none=>none
 | some (.interface _)=>if isC x||isC y then some (.eqn (wA op) 0 x' y') else none
 | some (.pointer _)=>some (.eqn (wA op) 1 x' y')
 | some (.slice _)=>some (.eqn (wA op) 2 x' y')
 | some (.func _ _ _)=>some (.eqn (wA op) 3 x' y')
 | _=>none
def arI (op:BinOp) (t:TypeId) (x' y':Opd):Option I:=
 match P.underlying t with
 | some (.int _) | some .string=>some (.bin op x' y')
 | _=>none
def nB:Op->Option I
 | .move x | .assign x=>(dX gl x).map .mov
 | .pick c a b=>do some (.pick (<-dX gl c) (<-dX gl a) (<-dX gl b))
 | .build t ps=>match P.underlying t with
   | some (.struct fs)=>if fs.toList.all (λf=>(P.info? f.type).isSome) then do some (.build (<-S7 P t) (<-jcj gl (jjj P fs) ps.toList)) else none
   | some (.array _ e)=>do
     let s <-lay P e
     some (.build (<-S7 P t) (<-jcj gl (λi=>some (i*s.1,s.1)) ps.toList))
   | _=>none
 | .nilCheck x=>(dX gl x).map .nilck
 | .binOp op t x y _=>do
   let x' <-dX gl x
   let y' <-dX gl y
   match op with
   | .eql | .neq=>wW P op t x y x' y'
   | _=>arI P op t x' y'
 | .unOp .neg _ x=>(dX gl x).map .neg
 | .unOp .xor _ x=>(dX gl x).map .cpl
 | .unOp .not _ x=>(dX gl x).map .not
 | .convert s t x=>match P.underlying s,P.underlying t with
   | some (.int _),some (.int k)=>(dX gl x).map (.cvi k)
   | some .string,some .string=>(dX gl x).map .cvs
   | some (.int _),some .string=>(dX gl x).map .cvs
   | _,_=>none
 | .makeInterface t x=>match P.underlying t with
   | some (.interface _)=>none
   | some _=>(dX gl x).map (.mkif t)
   | none=>none
 | .makeFunc f a b=>do some (.mkfn f (<-opds gl a) (<-opds gl b))
 | .fieldAddr t x i=>match P.underlying t with
   | some (.struct fs)=>match jjj P fs i with
     | some (off,s+1)=>(dX gl x).map (.fad off)
     | _=>none
   | _=>none
 | .field t x i=>match P.underlying t with
   | some (.struct fs)=>match fs[i]? with
     | some f=>do
       let s <-lay P f.type
       (dX gl x).map (.fld s.2 s.1 f.offset)
     | none=>none
   | _=>none
 | .indexAddr t x i=>match P.underlying t with
   | some (.array n e)=>do
     let s <-lay P e
     some (.iadA n s.1 (<-dX gl x) (<-dX gl i))
   | some (.slice e)=>do
     let s <-lay P e
     some (.iadS s.1 (<-dX gl x) (<-dX gl i))
   | _=>none
 | .index t x i=>match P.underlying t with
   | some (.array n e)=>do
     let s <-lay P e
     some (.idxA s.2 n s.1 (<-dX gl x) (<-dX gl i))
   | some .string=>do some (.idxS (<-dX gl x) (<-dX gl i))
   | _=>none
 | .slice t x lo hi mx=>match P.underlying t with
   | some (.slice e)=>do
     let s <-lay P e
     some (.slS s.1 (<-dX gl x) (<-s9 gl lo) (<-s9 gl hi) (<-s9 gl mx))
   | some .string=>match mx with
     | none=>do some (.slT (<-dX gl x) (<-s9 gl lo) (<-s9 gl hi))
     | some _=>none
   | _=>none
 | .extract x n=>(dX gl x).map (.ext n)
 | .call { callee:=.builtin .len,args,argTypes }=>match args.toList,argTypes.toList with
   | [x],t::_=>match P.underlying t with
     | some .string=>(dX gl x).map .lenS
     | some (.slice _)=>(dX gl x).map .len
     | some (.array n _)=>some (.lenc n)
     | some (.pointer e)=>match P.underlying e with
       | some (.array n _)=>some (.lenc n)
       | _=>none
     | _=>none
   | _,_=>none
 | .call { callee:=.builtin .cap,args,argTypes }=>match args.toList,argTypes.toList with
   | [x],t::_=>match P.underlying t with
     | some (.slice _)=>(dX gl x).map .cap
     | _=>none
   | _,_=>none
 | .call { callee:=.builtin .min,args, .. }=>match args.toList with
   | x::xs=>do some (.mins (<-dX gl x) (<-xs.mapM (dX gl)))
   | _=>none
 | .call { callee:=.builtin .max,args, .. }=>match args.toList with
   | x::xs=>do some (.maxs (<-dX gl x) (<-xs.mapM (dX gl)))
   | _=>none
 | _=>none
end compile
end Go.Vm
namespace Go.Vm
section
variable {P:Program} {gl:List Nat} {ρ:RM} {g:Opd->AV} {e:Operand->Value}
theorem X1 (hg:∀x y,dX gl x=some y->VR ρ (g y) (e x)):∀(xs:List Operand) (ys:List Opd),xs.mapM (dX gl)=some ys->VRs ρ (ys.map g) (xs.map e)
 | [],ys,h=>by simp at h;subst h;rfl
 | x::xs,ys,h=>by
   simp only[Z0,kJ,iA,Y8,aS] at h;obtain⟨a,h1,l,h2,rfl⟩:=h;exact⟨_,_,rfl,hg _ _ h1,X1 hg xs l h2⟩
theorem yP {t:TypeId} {s:Nat×Bool} (h:lay P t=some s):∃i d,P.info? t=some i/\P.underlying t=some d/\s=(i.size,qW d):=by
 unfold lay at h;split at h
 ·rename_i i d h1 h2;cases h;exact⟨i,d,h1,h2,rfl⟩
 ·cases h
theorem joz {t:TypeId} {i:TypeInfo} (h:P.info? t=some i) (w:World):(typeInfo t).run P w=.ok i w:=by
 simp[typeInfo,h]
theorem nJ {t:TypeId} {i:TypeInfo} (h:P.info? t=some i) (w:World):(sizeOf t).run P w=.ok i.size w:=by
 simp[sizeOf,joz h]
theorem jfn {t:TypeId} {d:TypeDesc} (h:P.underlying t=some d) (w:World):(isAgg t).run P w=.ok (qW d) w:=by
 simp only[isAgg,fC,run_underlying h,eO];cases d<;>rfl
theorem jf6 {t:TypeId} {z:List AV} (h:S7 P t=some z):∃i v,P.info? t=some i/\i.zero=some v/\VRs ρ z v.cells.toList:=by
 unfold S7 at h;split at h
 ·rename_i i hi;split at h
  ·rename_i v hv;exact⟨i,v,hi,hv,jm9 ρ _ _ h⟩
  ·cases h
 ·cases h
theorem jab {t:TypeId} {i:TypeInfo} {v:Value} (h:P.info? t=some i) (hv:i.zero=some v) (w:World):(zeroValue t).run P w=.ok v w:=by
 simp[zeroValue,joz h,hv]
theorem jtt {agg:Bool} {l:List AV} {a:AV} {vs:List Value} (h:uH agg l=some a) (hl:VRs ρ l vs):
  (agg=true/\VR ρ a (.agg vs.toArray))\/(agg=false/\∃v,vs=[v]/\VR ρ a v):=by
 unfold uH at h;cases agg
 ·simp only[aG] at h;split at h
  ·cases h;simp only[VRs] at hl;obtain⟨v,_,rfl,h1,rfl⟩:=hl;exact .inr ⟨rfl,v,rfl,h1⟩
  ·cases h
 ·simp only[aF] at h;cases h;exact .inl ⟨rfl,⟨_,rfl,by simpa using hl⟩⟩
theorem j21 {t:TypeId} {s:Nat×Bool} {l:List AV} {cs:Array Value} {off:Nat} {a:AV} (w:World) (hs:lay P t=some s) (hl:VRs ρ l cs.toList) (hb:off+s.1<=l.length)
  (h:uH s.2 ((l.drop off).take s.1)=some a):∃v,(part t cs off).run P w=.ok v w/\VR ρ a v:=by
 obtain⟨i,d,h1,h2,rfl⟩:=yP hs;simp only at h hb;have hv:=(hl.drop off).take i.size;have hlen:=hl.length;simp only[part,fC,jfn h2,nJ h1,eO];rcases jtt h hv with⟨e1,h3⟩ | ⟨e1,v,h3,h4⟩
 ·simp only[e1,cK,fC,nJ h1,eO,gP];refine⟨_,rfl,?_⟩;have:cs.extract off (off+i.size)=(List.take i.size (List.drop off cs.toList)).toArray:=by
   apply I4;simp[qgm,List.extract]
  rw[this];exact h3
 ·have hc:cs[off]?=some v:=by
   have h5:(List.take i.size (List.drop off cs.toList))[0]?=some v:=by rw[h3];rfl
   rw[yY] at h5;split at h5
   ·simpa[u9] using h5
   ·cases h5
  simp only[e1,jX,dO,hc,gP];exact⟨v,rfl,h4⟩
theorem jd1 {y i:Nat} {a:AV} {v:Value} (h:yC y a=some i) (hv:VR ρ a v):∃k,v=.int k (i:Int)/\i<=y:=by
 unfold yC at h;split at h
 ·rename_i k j;simp only[VR] at hv;subst hv;rw[bB] at h;by_cases hj:j<=y
  ·simp only[hj,aZ,aF,aS] at h;subst h;exact⟨k,rfl,hj⟩
  ·simp[hj] at h
 ·cases h
theorem Q6 {y i:Nat} {k:IntKind} (hi:i<=y) (c:BoundsCode) (w:World):(Instr.sliceBound (.int k (i:Int)) y c).run P w=.ok i w:=by
 simp only[Instr.sliceBound,asIntOf,fC,gP,eO];rw[aH (by omega)];simp
def qT (ρ:RM):Option AV->Option Value->Prop
 | none,none=>True
 | some a,some v=>VR ρ a v
 | _,_=>False
theorem X0 (hg:∀x y,dX gl x=some y->VR ρ (g y) (e x)) {x:Option Operand} {y:Option Opd} (h:s9 gl x=some y):qT ρ (y.map g) (x.map e):=by
 cases x with
 | none=>simp[s9] at h;subst h;exact True.intro
 | some x=>
   simp only[s9,eW] at h;obtain⟨a,h1,rfl⟩:=h;exact hg _ _ h1
theorem jgv {len cap cap':Nat} {lo hi mx:Option AV} {lo' hi' mx':Option Value} {l h m:Nat} (b:Bool) (w:World) (hb:tO len cap lo hi mx=some (l,h,m))
  (h1:qT ρ lo lo') (h2:qT ρ hi hi') (h3:qT ρ mx mx') (hc:cap<=cap') (hl:len<=cap):
  l<=h/\h<=m/\m<=cap/\(mx=none->m=cap)/\(Instr.sliceBounds b len cap' lo' hi' mx').run P w=.ok (l,h,if mx.isSome then m else cap') w:=by
 unfold tO at hb;cases mx with
 | none=>
   have e3:mx'=none:=by cases mx'<;>simp[qT] at h3 ⊢
   subst e3;simp only at hb;cases hi with
   | none=>
     have e2:hi'=none:=by cases hi'<;>simp[qT] at h2 ⊢
     subst e2;simp only at hb;cases lo with
     | none=>
       have e1:lo'=none:=by cases lo'<;>simp[qT] at h1 ⊢
       subst e1;simp only[aS,bC] at hb;obtain⟨rfl,rfl,rfl⟩:=hb;exact⟨by omega,hl,bQ _,λ_=>rfl,by simp[Instr.sliceBounds]⟩
     | some v=>
       obtain⟨v',rfl⟩:∃v',lo'=some v':=by cases lo'<;>simp[qT] at h1 ⊢
       split at hb
       ·cases hb
       ·rename_i l' hl';obtain⟨k,rfl,hle⟩:=jd1 hl' h1;simp only[aS,bC] at hb;obtain⟨rfl,rfl,rfl⟩:=hb;exact⟨hle,hl,bQ _,λ_=>rfl,by simp[Instr.sliceBounds,Q6 hle]⟩
   | some u=>
     obtain⟨u',rfl⟩:∃u',hi'=some u':=by cases hi'<;>simp[qT] at h2 ⊢
     simp only at hb;split at hb
     ·cases hb
     ·rename_i h' hh';obtain⟨k',rfl,hle'⟩:=jd1 hh' h2;cases lo with
      | none=>
        have e1:lo'=none:=by cases lo'<;>simp[qT] at h1 ⊢
        subst e1;simp only[aS,bC] at hb;obtain⟨rfl,rfl,rfl⟩:=hb;exact⟨by omega,hle',bQ _,λ_=>rfl,by simp[Instr.sliceBounds,Q6 (fX hle' hc)]⟩
      | some v=>
        obtain⟨v',rfl⟩:∃v',lo'=some v':=by cases lo'<;>simp[qT] at h1 ⊢
        split at hb
        ·cases hb
        ·rename_i l' hl';obtain⟨k,rfl,hle⟩:=jd1 hl' h1;simp only[aS,bC] at hb;obtain⟨rfl,rfl,rfl⟩:=hb;exact⟨hle,hle',bQ _,λ_=>rfl,by simp[Instr.sliceBounds,Q6 (fX hle' hc),Q6 hle]⟩
 | some t=>
   obtain⟨t',rfl⟩:∃t',mx'=some t':=by cases mx'<;>simp[qT] at h3 ⊢
   simp only at hb;split at hb
   ·cases hb
   ·rename_i m' hm';obtain⟨k'',rfl,hle''⟩:=jd1 hm' h3;cases hi with
    | none=>simp at hb
    | some u=>
      obtain⟨u',rfl⟩:∃u',hi'=some u':=by cases hi'<;>simp[qT] at h2 ⊢
      simp only at hb;split at hb
      ·cases hb
      ·rename_i h' hh';obtain⟨k',rfl,hle'⟩:=jd1 hh' h2;cases lo with
       | none=>
         have e1:lo'=none:=by cases lo'<;>simp[qT] at h1 ⊢
         subst e1;simp only[aS,bC] at hb;obtain⟨rfl,rfl,rfl⟩:=hb;exact⟨by omega,hle',hle'',by simp,by simp[Instr.sliceBounds,Q6 (fX hle'' hc),Q6 hle']⟩
       | some v=>
         obtain⟨v',rfl⟩:∃v',lo'=some v':=by cases lo'<;>simp[qT] at h1 ⊢
         split at hb
         ·cases hb
         ·rename_i l' hl';obtain⟨k,rfl,hle⟩:=jd1 hl' h1;simp only[aS,bC] at hb;obtain⟨rfl,rfl,rfl⟩:=hb;exact⟨hle,hle',hle'',by simp,by simp[Instr.sliceBounds,Q6 (fX hle'' hc),Q6 hle',Q6 hle]⟩
end
end Go.Vm
namespace Go.Vm
section
variable {P:Program} {gl:List Nat} {ρ:RM} {g:Opd->AV} {e:Operand->Value}
theorem jz6 (off:Nat):∀(vs:List Value) (k:Nat) (cells:Array Value),off+k+vs.length<=cells.size->
  ((vs.zipIdx k).foldl (λcs (p:Value×Nat)=>cs.setIfInBounds (off+p.2) p.1) cells).toList=cells.toList.take (off+k)++(vs++cells.toList.drop (off+k+vs.length))
 | [],k,cells,h=>by simp
 | v::vs,k,cells,h=>by
   simp only[cM] at h;simp only[List.zipIdx_cons,Y6];rw[jz6 off vs (k+1) (cells.setIfInBounds (off+k) v) (by simp;omega)];apply qfd;intro i;simp only[qhy,qho,mU,sB,lY,yY,P7,u9,cM];rw[show min (off+ (k+1)) cells.size=off+ (k+1) by omega,show min (off+k) cells.size=off+k by omega];rcases rA i (off+k) with hi | hi | hi
   ·rw[aH (show i<off+ (k+1) by omega),aH (show i<off+ (k+1) by omega),aC (show ¬off+k=i by omega),aH (show i<off+k by omega),aH (show i<off+k by omega)]
   ·subst hi;rw[aH (show off+k<off+ (k+1) by omega),aH (show off+k<off+ (k+1) by omega),aH rfl,aH (show off+k<cells.size by omega),aC (show ¬off+k<off+k by omega),aH (show off+k-(off+k)<vs.length+1 by omega)];rw[qit];rfl
   ·rw[aC (show ¬i<off+ (k+1) by omega),aC (show ¬i<off+k by omega)];by_cases h2:i-(off+ (k+1))<vs.length
    ·rw[aH h2,aH (show i-(off+k)<vs.length+1 by omega),show i-(off+k)=i-(off+ (k+1))+1 by omega];rfl
    ·rw[aC h2,aC (show ¬i-(off+k)<vs.length+1 by omega),aC (by omega)]
     congr 1
     omega
theorem jl1 {place:Nat->Option (Nat×Nat)} (hg:∀x y,dX gl x=some y->VR ρ (g y) (e x)):∀(ops:List (Nat×Operand)) (ps:List (Nat×Nat×Opd)) (z z':List AV) (cells:Array Value),
  jcj gl place ops=some ps->T6 z (ps.map fun(o,s,x)=>(o,s,g x))=some z'->VRs ρ z cells.toList->
  ∃cells',Instr.fill place cells (ops.map fun(i,x)=>(i,e x))=some cells'/\VRs ρ z' cells'.toList
 | [],ps,z,z',cells,h1,h2,h3=>by
   simp only[jcj,aS] at h1;subst h1;simp only[lD,T6,aS] at h2;subst h2;exact⟨cells,rfl,h3⟩
 | (i,x)::ops,ps,z,z',cells,h1,h2,h3=>by
   simp only[jcj] at h1;split at h1
   ·rename_i o s y l hp hy hl;simp only[aS] at h1;subst h1;simp only[dE,T6,bE,bB] at h2;by_cases hc:(lA (g y)).length=s/\o+s<=z.length
    ·simp only[hc.1,hc.2,aZ,lG,aF] at h2;have hv:=(hg x y hy).cells;have hlen:=hv.length;have hzl:=h3.length;simp only[lY] at hlen hzl;have e1:¬((e x).cells.size≠s\/o+ (e x).cells.size > cells.size):=by omega
     have e2:(decide ((e x).cells.size≠s)||decide (o+ (e x).cells.size > cells.size))=false:=by simpa using e1
     simp only[dE,Instr.fill,hp,e2,jX,dO];refine jl1 hg ops l _ z' _ hl h2 ?_
     have e3:(Array.foldl (λcs (x:Value×Nat)=>match x with | (c,j)=>cs.setIfInBounds (o+j) c) cells (e x).cells.zipIdx).toList=
       cells.toList.take o++((e x).cells.toList++cells.toList.drop (o+s)):=by
      rw[<-qh4,Array.toList_zipIdx];have:=jz6 o (e x).cells.toList 0 cells (by simp;omega);simp only[mG,lY] at this;rw[show o+ (e x).cells.size=o+s by omega] at this;exact this
     rw[e3];exact(h3.take o).append (hv.append (h3.drop (o+s)))
    ·have:(decide ((lA (g y)).length=s)&&decide (o+s<=z.length))=false:=by
      rw[P0];simp;omega
     simp[this] at h2
   ·cases h1
theorem j3w (w:World):∀(fs:List Field),fs.all (λf=>(P.info? f.type).isSome)=true->
  (fs.mapM (fun(f:Field)=>(do pure (f.offset,<-sizeOf f.type):Sem (Nat×Nat)))).run P w=.ok (fs.map λf=>(f.offset,P.cellsOf f.type)) w
 | [],_=>rfl
 | f::fs,h=>by
   simp only[I2,aT] at h;obtain⟨i,hi⟩:=rB.1 h.1;simp only[Z0,fC,nJ hi,eO,gP,j3w w fs h.2,dE];simp[Program.cellsOf,hi]
theorem j97 {t:TypeId} {ps:List (Nat×Operand)} {c:I} {v:AV} (w:World) (hg:∀x y,dX gl x=some y->VR ρ (g y) (e x))
  (hc:nB P gl (.build t ps.toArray)=some c) (h:cT g c=some v):∃v',(Instr.build t (ps.toArray.map fun(i,x)=>(i,e x))).run P w=.ok v' w/\VR ρ v v':=by
 simp only[nB] at hc;split at hc
 ·rename_i fs hu;split at hc
  ·rename_i hall;simp only[kJ,iA,aS] at hc;obtain⟨z,hz,l,hl,rfl⟩:=hc;simp only[cT,eW] at h;obtain⟨z',hz',rfl⟩:=h;obtain⟨i,zv,h1,h2,h3⟩:=jf6 hz;obtain⟨cells',h4,h5⟩:=jl1 hg ps l z z' zv.cells hl hz' h3;have h6:(fs.mapM (fun(f:Field)=>(do pure (f.offset,<-sizeOf f.type):Sem (Nat×Nat)))).run P w=.ok (fs.map λf=>(f.offset,P.cellsOf f.type)) w:=by
    rw[qia];simp only[Sem.run_map,j3w w fs.toList hall,eO]
    congr 1
    apply I4;simp
   have h7:(λx:Nat=>(fs.map λf=>(f.offset,P.cellsOf f.type))[x]?)=jjj P fs:=by
    funext x
    simp only[qh5,jjj];cases hx:fs[x]? with
    | none=>rfl
    | some f=>
      have:f∈fs.toList:=by simpa using qfo hx
      obtain⟨j,hj⟩:=rB.1 (cJ.1 hall f this);simp[hj,Program.cellsOf]
   refine⟨.agg cells',?_,?_⟩
   ·simp only[Instr.build,fC,jab h1 h2,eO,run_underlying hu,h6,h7];simp only[List.map_toArray,h4,gP]
   ·simp only[VR];exact⟨_,rfl,h5⟩
  ·cases hc
 ·rename_i n el hu;simp only[kJ,iA,aS] at hc;obtain⟨s,hs,z,hz,l,hl,rfl⟩:=hc;simp only[cT,eW] at h;obtain⟨z',hz',rfl⟩:=h;obtain⟨i,zv,h1,h2,h3⟩:=jf6 hz;obtain⟨j,d,k1,k2,rfl⟩:=yP hs;obtain⟨cells',h4,h5⟩:=jl1 hg ps l z z' zv.cells hl hz' h3;refine⟨.agg cells',?_,?_⟩
  ·simp only[Instr.build,fC,jab h1 h2,eO,run_underlying hu,nJ k1];simp only[List.map_toArray,h4,gP]
  ·simp only[VR];exact⟨_,rfl,h5⟩
 ·cases hc
end
end Go.Vm
