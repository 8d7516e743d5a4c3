/- Parts of the proof. -/
import Derived.LoopN
import Derived.Orders
import Derived.Below
import Derived.Laws.IdiomCopy
import Derived.Lib.Strings
import Derived.ChangeKeysEq
set_option linter.unusedSimpArgs false
set_option linter.defProp false
set_option linter.unusedVariables false
abbrev aG:=@Option.some.injEq
abbrev aH:=@decide_eq_true_eq
abbrev aN:=@Bool.and_eq_true
abbrev aO:=@Option.bind_some
abbrev aF:=@cond_false
abbrev aM:=@Prod.mk.injEq
abbrev aB:=@cond_true
abbrev bF:=@List.mem_singleton
abbrev aZ:=@List.mem_append
abbrev bX:=@List.mem_cons_of_mem
abbrev bY:=@List.mem_cons_self
abbrev aU:=@Nat.le_refl
abbrev cX:=@Option.map_eq_some_iff
abbrev bS:=@List.all_eq_true
abbrev cD:=@List.append_assoc
abbrev dK:=@List.getElem?_eq_getElem
abbrev cJ:=@Go.Result.andThen_ok
abbrev bA:=@decide_true
abbrev bL:=@List.mem_cons
abbrev dN:=@Option.bind_eq_some_iff
abbrev aD:=@if_neg
abbrev eJ:=@Array.getElem?_eq_some_iff
abbrev bM:=@decide_false
abbrev eH:=@decide_eq_false_iff_not
abbrev dW:=@List.Perm.append_left
abbrev cK:=@decide_eq_true
abbrev bU:=@List.mem_map
abbrev dS:=@List.length_append
abbrev dG:=@List.length_cons
abbrev aK:=@if_pos
abbrev cQ:=@Go.Sem.run_bind
abbrev dM:=@List.length_map
abbrev dU:=@List.getElem_mem
abbrev dA:=@List.map_cons
abbrev fS:=@Option.bind_eq_bind
abbrev jF:=@List.getD_eq_getElem?_getD
abbrev fB:=@Bool.not_eq_true'
abbrev jG:=@List.getElem?_eq_some_iff
abbrev dZ:=@List.nil_append
abbrev fF:=@Int.toNat_natCast
abbrev eW:=@List.cons_append
abbrev fX:=@Bool.false_eq_true
abbrev gS:=@Array.length_toList
abbrev iB:=@Nat.mul_le_mul_right
abbrev iU:=@List.take_of_length_le
abbrev eX:=@Option.map_some
abbrev dI:=@Go.Sem.run_pure
abbrev gF:=@Array.toList_inj
abbrev dP:=@Nat.beq_refl
abbrev lN:=@Option.isSome_iff_exists
abbrev mA:=@Array.getElem?_eq_getElem
abbrev mB:=@List.drop_eq_getElem_cons
abbrev fY:=@List.map_append
abbrev oK:=@List.eq_nil_of_length_eq_zero
abbrev kC:=@List.length_singleton
abbrev eA:=@Nat.le_trans
abbrev gW:=@List.not_mem_nil
abbrev fC:=@Bool.not_true
abbrev fZ:=@List.drop_zero
abbrev bR:=@if_true
abbrev cO:=@if_false
abbrev jH:=@List.getElem?_map
abbrev lZ:=@Array.getElem?_toList
abbrev kB:=@Nat.lt_of_lt_of_le
abbrev pQ:=@List.pairwise_iff_getElem
abbrev iT:=@List.length_nil
abbrev fM:=@Nat.zero_le
abbrev pR:=@List.getElem?_cons_zero
abbrev fU:=@Nat.add_mul
abbrev mS:=@List.getElem_of_mem
abbrev nK:=@Bool.or_eq_false_iff
abbrev lM:=@List.flatMap_cons
abbrev jQ:=@List.append_nil
abbrev sO:=@Classical.byContradiction
abbrev jI:=@List.mem_range
abbrev kD:=@Bool.or_eq_true
abbrev mT:=@List.pairwise_cons
abbrev kE:=@Option.map_none
abbrev kF:=@Option.some.inj
abbrev iC:=@Nat.zero_add
abbrev pT:=@Nat.le_of_ble_eq_true
abbrev kX:=@List.cons.injEq
abbrev vN:=@Array.getElem?_setIfInBounds
abbrev oM:=@List.map_congr_left
abbrev mC:=@List.take_length
abbrev rB:=@Nat.eq_of_beq_eq_true
abbrev sP:=@List.drop_of_length_le
abbrev iV:=@Nat.add_zero
abbrev rC:=@List.mem_of_getElem?
abbrev kG:=@Nat.add_assoc
abbrev kH:=@Bool.and_self
abbrev sQ:=@Array.getElem?_modify
abbrev nL:=@Option.getD_some
abbrev tW:=@List.getElem?_eq_none
abbrev rD:=@List.getElem?_take
abbrev vO:=@List.getElem?_cons_succ
abbrev vP:=@List.Perm.append_right
abbrev oN:=@List.mem_filter
abbrev rA:=@not_true_eq_false
abbrev oL:=@Nat.min_eq_left
abbrev sM:=@List.getElem?_drop
abbrev lO:=@List.map_map
abbrev vM:=@Bool.and_eq_false_iff
abbrev Bb:=@List.perm_append_comm
abbrev Bc:=@List.getElem?_append_right
abbrev yF:=@List.length_eq_zero_iff
abbrev pS:=@decide_eq_false
abbrev sN:=@List.flatten_cons
abbrev sS:=@not_false_eq_true
abbrev Bh:=@List.sublist_append_right
abbrev tX:=@Option.isSome_none
abbrev nM:=@Bool.and_true
abbrev vQ:=@List.flatten_append
abbrev pU:=@Nat.mul_le_mul
abbrev sT:=@List.drop_length
abbrev oO:=@Bool.false_or
abbrev gU:=@or_false
abbrev tY:=@Classical.not_not
abbrev Ft:=@Go.RowKit.Below.heap_alloc
abbrev nN:=@Nat.sub_zero
abbrev nO:=@List.map_nil
abbrev rF:=@List.drop_drop
abbrev tZ:=@List.length_drop
abbrev Bi:=@List.take_append_drop
abbrev sU:=@List.take_take
abbrev yK:=@List.mem_filterMap
abbrev Fu:=@List.pairwise_singleton
abbrev yL:=@List.nodup_append
abbrev Ld:=@List.getElem?_append_left
abbrev sV:=@Bool.true_and
abbrev Sx:=@Array.getElem_setIfInBounds_ne
abbrev vR:=@Bool.eq_iff_iff
abbrev Fv:=@List.getElem?_toArray
abbrev Bj:=@List.find?_eq_none
abbrev Be:=@Option.toList_some
abbrev yG:=@List.length_take
abbrev yH:=@List.mem_flatMap
abbrev Fq:=@Nat.pow_le_pow_right
abbrev sR:=@Nat.zero_mul
abbrev Bf:=@Nat.lt_trichotomy
abbrev Bg:=@List.ext_getElem?
abbrev Fs:=@List.take_succ_cons
abbrev yI:=@List.length_set
abbrev yJ:=@Option.pure_def
abbrev Tc:=@Array.getD_eq_getD_getElem?
abbrev Lf:=@Array.getElem?_eq_none
abbrev Lg:=@List.drop_eq_nil_of_le
abbrev Td:=@Int.tmod_eq_emod_of_nonneg
abbrev Bk:=@List.filter_cons
abbrev vS:=@List.all_cons
abbrev Te:=@List.mem_of_find?_eq_some
abbrev yM:=@Bool.not_false
abbrev yN:=@List.mapM_cons
abbrev Tf:=@Go.MapKept.run_getObj_map
abbrev yO:=@List.drop_take
abbrev mD:=@and_true
abbrev Lh:=@List.mem_of_mem_drop
abbrev Li:=@List.getElem?_of_mem
abbrev Fy:=@List.take_add_one
abbrev Th:=@Array.size_setIfInBounds
abbrev Bl:=@UInt8.toNat_inj
abbrev Fz:=@List.getElem?_set
abbrev Bm:=@List.all_append
abbrev Lj:=@Array.getElem?_push
abbrev Ga:=@List.any_eq_true
abbrev Gb:=@Array.size_push
abbrev Ti:=@Classical.choose_spec
abbrev Tj:=@List.length_replicate
abbrev oP:=@Prod.ext
abbrev Bn:=@Bool.or_false
abbrev uA:=@Array.ext'
abbrev Sy:=@Array.toList_extract
abbrev qe2:=@List.extract_eq_take_drop
abbrev Fw:=@List.take_zero
abbrev qe4:=@Option.isNone_iff_eq_none
abbrev Sz:=@List.filterMap_cons
abbrev Ta:=@List.replicate_succ
abbrev qe7:=@Array.getElem?_replicate
abbrev qe8:=@List.sublist_append_left
abbrev Tb:=@List.getElem_range
abbrev Lk:=@Int.natCast_mul
abbrev Ll:=@List.foldl_cons
abbrev Tl:=@Option.toList_none
abbrev Lm:=@List.nodup_cons
abbrev qfe:=@Nat.ne_of_beq_eq_false
abbrev qff:=@List.length_eq_one_iff
abbrev Tm:=@List.size_toArray
abbrev Tn:=@List.getElem_drop
abbrev To:=@List.pairwise_map
abbrev qfj:=@Nat.div_lt_iff_lt_mul
abbrev qfk:=@List.eq_nil_or_concat
abbrev Tp:=@List.take_append
abbrev Tq:=@Nat.mod_eq_of_lt
abbrev Ts:=@Bool.cond_decide
abbrev qfo:=@List.take_append_of_le_length
abbrev qfp:=@List.range_eq_range'
abbrev qfq:=@List.drop_eq_nil_iff
abbrev qfr:=@List.mem_of_mem_take
abbrev qfs:=@List.getElem?_append
abbrev qft:=@Int.ofNat_eq_natCast
abbrev Lo:=@Nat.mul_assoc
abbrev Lp:=@List.map_take
abbrev Ge:=@List.map_id
abbrev qfx:=@Go.ByteArray.toList_eq
abbrev qfy:=@List.getD_cons_succ
abbrev Tt:=@List.find?_some
abbrev qf0:=@List.length_pos_iff
abbrev qf1:=@Function.comp_apply
abbrev Gc:=@Go.Sem.run_ite
abbrev Tk:=@Nat.not_lt_zero
abbrev qf4:=@List.idxOf_lt_length_of_mem
abbrev Gd:=@Nat.mul_one
abbrev qf6:=@List.perm_ext_iff_of_nodup
abbrev qf7:=@Array.toList_setIfInBounds
abbrev qf8:=@List.filter_append
abbrev qf9:=@Bool.not_eq_false'
abbrev Lq:=@Nat.pow_succ
abbrev qgb:=@Array.foldl_toList
abbrev qgc:=@Array.getElem?_map
abbrev Lr:=@Nat.succ_mul
abbrev Ua:=@Go.DataW.trod_int
abbrev qgf:=@List.mem_take_iff_getElem
abbrev qgg:=@List.mem_or_eq_of_mem_set
abbrev qgh:=@Array.mapM_eq_mapM_toList
abbrev qgi:=@Go.MapKept.run_setObj_map
abbrev Ub:=@List.Perm.refl
abbrev qgk:=@List.foldl_append
abbrev qgl:=@List.Sublist.append_left
abbrev qgm:=@Int.eq_ofNat_of_zero_le
abbrev Uc:=@Int.mul_assoc
abbrev Lt:=@Int.le_refl
abbrev Ud:=@List.any_cons
abbrev qgq:=@List.filter_append_perm
abbrev qgr:=@List.range'_succ
abbrev qgs:=@List.isEmpty_iff
abbrev qgt:=@List.ext_getElem
abbrev qgu:=@List.getElem_map
abbrev qgv:=@List.flatten_nil
abbrev qgw:=@List.drop_append
abbrev qgx:=@List.range_succ
abbrev vT:=@Ne.symm
abbrev Ue:=@Nat.add_comm
abbrev Tu:=@Nat.mul_comm
abbrev Tv:=@Nat.sub_self
abbrev Tw:=@Bool.or_self
abbrev qg3:=@List.count_cons
abbrev Bo:=@and_self
abbrev qg5:=@List.nodup_nil
abbrev qg6:=@Bool.false_and
abbrev Tx:=@Nat.le_succ
abbrev Tz:=@Int.mul_add
abbrev qg9:=@List.mapM_nil
abbrev qha:=@Sum.inr.injEq
namespace Go.Vm
inductive Tr (α:Type) where
 | e
 | n (l:Tr α) (v:Option α) (r:Tr α)
namespace Tr
variable {α:Type}
def get:Tr α->Nat->Option α
 | .e,_=>none
 | .n l v r,i=>bif i.beq 0 then v else bif(i%2).beq 1 then l.get ((i-1) / 2) else r.get ((i-1) / 2)
def setK {β:Type} (a:α):Nat->Tr α->Nat->(Tr α->β)->β
 | 0,t,_,k=>k t
 | f+1,.e,i,k=>
   bif i.beq 0 then k (.n .e (some a) .e)
   else bif(i%2).beq 1 then setK a f .e ((i-1) / 2) λl=>k (.n l none .e)
   else setK a f .e ((i-1) / 2) λr=>k (.n .e none r)
 | f+1,.n l v r,i,k=>
   bif i.beq 0 then k (.n l (some a) r)
   else bif(i%2).beq 1 then setK a f l ((i-1) / 2) λl'=>k (.n l' v r)
   else setK a f r ((i-1) / 2) λr'=>k (.n l v r')
def mV (a:α) (f:Nat) (t:Tr α) (i:Nat):Tr α:=setK a f t i id
def set (t:Tr α) (i:Nat) (a:α):Tr α:=mV a (i+1) t i
def delK {β:Type}:Tr α->Nat->(Tr α->β)->β
 | .e,_,k=>k .e
 | .n l v r,i,k=>
   bif i.beq 0 then k (.n l none r)
   else bif(i%2).beq 1 then delK l ((i-1) / 2) λl'=>k (.n l' v r)
   else delK r ((i-1) / 2) λr'=>k (.n l v r')
def del (t:Tr α) (i:Nat):Tr α:=delK t i id
def setK_eq (a:α):∀(f:Nat) (β:Type) (t:Tr α) (i:Nat) (k:Tr α->β),setK a f t i k=k (mV a f t i):=by
 intro f;induction f with
 | zero=>intro β t i k;rfl
 | succ f ih=>
   intro β t i k;cases t with
   | e=>
     unfold mV setK;cases h0:i.beq 0<;>simp only[aB,aF]
     ·cases h1:(i%2).beq 1<;>simp only[aB,aF]<;>rw[ih,ih (Tr α)]<;>rfl
     ·rfl
   | n l v r=>
     unfold mV setK;cases h0:i.beq 0<;>simp only[aB,aF]
     ·cases h1:(i%2).beq 1<;>simp only[aB,aF]<;>rw[ih,ih (Tr α)]<;>rfl
     ·rfl
def delK_eq:∀(t:Tr α) (β:Type) (i:Nat) (k:Tr α->β),delK t i k=k (del t i):=by
 intro t;induction t with
 | e=>intro β i k;rfl
 | n l v r ihl ihr=>
   intro β i k;unfold del delK;cases h0:i.beq 0<;>simp only[aB,aF]
   ·cases h1:(i%2).beq 1<;>simp only[aB,aF]
    ·rw[ihr,ihr (Tr α)];rfl
    ·rw[ihl,ihl (Tr α)];rfl
   ·rfl
def j7i (a:α) (f i:Nat):mV a (f+1) .e i=bif i.beq 0 then .n .e (some a) .e else bif(i%2).beq 1 then .n (mV a f .e ((i-1) / 2)) none .e else .n .e none (mV a f .e ((i-1) / 2)):=by
 show setK a (f+1) .e i id=_;rw[setK];cases i.beq 0<;>simp only[aB,aF]
 ·cases (i%2).beq 1<;>simp only[aB,aF]<;>rw[setK_eq]<;>rfl
 ·rfl
def j7j (a:α) (f i:Nat) (l:Tr α) (v:Option α) (r:Tr α):mV a (f+1) (.n l v r) i=bif i.beq 0 then .n l (some a) r else bif(i%2).beq 1 then .n (mV a f l ((i-1) / 2)) v r else .n l v (mV a f r ((i-1) / 2)):=by
 show setK a (f+1) (.n l v r) i id=_;rw[setK];cases i.beq 0<;>simp only[aB,aF]
 ·cases (i%2).beq 1<;>simp only[aB,aF]<;>rw[setK_eq]<;>rfl
 ·rfl
def jy7 (a:α):∀(f:Nat) (t:Tr α) (i j:Nat),i<f->(mV a f t i).get j=if j=i then some a else t.get j:=by
 intro f;induction f with
 | zero=>intro t i j h;omega
 | succ f ih=>
   intro t i j h;have bq:∀x y:Nat,x.beq y=decide (x=y):=λx y=>by
    rcases hxy:x.beq y with _ | _
    ·have:=qfe hxy;simp[this]
    ·have:=rB hxy;simp[this]
   have go:∀(l:Tr α) (v:Option α) (r:Tr α),(bif i.beq 0 then Tr.n l (some a) r else bif(i%2).beq 1 then Tr.n (mV a f l ((i-1) / 2)) v r else Tr.n l v (mV a f r ((i-1) / 2))).get j
     =if j=i then some a else(Tr.n l v r).get j:=by
    intro l v r;by_cases hi:i=0
    ·subst hi;simp only[bq,bA,aB];by_cases hj:j=0
     ·subst hj;simp[get]
     ·simp[get,bq,hj]
    ·have e0:i.beq 0=false:=by simp[bq,hi]
     simp only[e0,aF];by_cases h1:i%2=1
     ·have e1:(i%2).beq 1=true:=by simp[bq,h1]
      simp only[e1,aB,get,bq];by_cases hj:j=0
      ·subst hj;simp;omega
      ·simp only[hj,bM,aF];by_cases hj1:j%2=1
       ·simp only[hj1,bA,aB];rw[ih l _ _ (by omega)];by_cases hji:j=i
        ·subst hji;simp
        ·rw[aD (by omega),aD hji]
       ·simp only[hj1,bM,aF];rw[aD (by omega)]
     ·have e1:(i%2).beq 1=false:=by simp[bq,h1]
      simp only[e1,aF,get,bq];by_cases hj:j=0
      ·subst hj;simp;omega
      ·simp only[hj,bM,aF];by_cases hj1:j%2=1
       ·simp only[hj1,bA,aB];rw[aD (by omega)]
       ·simp only[hj1,bM,aF];rw[ih r _ _ (by omega)];by_cases hji:j=i
        ·subst hji;simp
        ·rw[aD (by omega),aD hji]
   cases t with
   | e=>
     have h1:=go .e none .e;have h2:(Tr.n .e none .e:Tr α).get j=(Tr.e:Tr α).get j:=by
      simp only[get];cases j.beq 0<;>cases (j%2).beq 1<;>rfl
     rw[h2] at h1;rw[<-h1,j7i]
   | n l v r=>
     rw[<-go l v r,j7j]
def get_set (t:Tr α) (i j:Nat) (a:α):(t.set i a).get j=if j=i then some a else t.get j:=jy7 a (i+1) t i j (by omega)
def get_del:∀(t:Tr α) (i j:Nat),(t.del i).get j=if j=i then none else t.get j:=by
 have bq:∀x y:Nat,x.beq y=decide (x=y):=λx y=>by
  rcases hxy:x.beq y with _ | _
  ·have:=qfe hxy;simp[this]
  ·have:=rB hxy;simp[this]
 intro t;induction t with
 | e=>intro i j;simp[del,delK,get]
 | n l v r ihl ihr=>
   intro i j;unfold del delK;by_cases hi:i=0
   ·subst hi;by_cases hj:j=0
    ·subst hj;simp[bq,get]
    ·simp[bq,get,hj]
   ·by_cases h1:i%2=1
    ·simp only[bq,hi,h1,bM,bA,aF,aB,delK_eq,id,get];by_cases hj:j=0
     ·subst hj;simp;omega
     ·simp only[hj,bM,aF];by_cases hj1:j%2=1
      ·simp only[hj1,bA,aB,ihl];by_cases hji:j=i
       ·subst hji;simp
       ·rw[aD (by omega),aD hji]
      ·simp only[hj1,bM,aF];rw[aD (by omega)]
    ·simp only[bq,hi,h1,bM,aF,delK_eq,id,get];by_cases hj:j=0
     ·subst hj;simp;omega
     ·simp only[hj,bM,aF];by_cases hj1:j%2=1
      ·simp only[hj1,bA,aB];rw[aD (by omega)]
      ·simp only[hj1,bM,aF,ihr];by_cases hji:j=i
       ·subst hji;simp
       ·rw[aD (by omega),aD hji]
end Tr
inductive AV where
 | bool (b:Bool)
 | int (k:IntKind) (n:Int)
 | str (s:List Nat)
 | ptr (b o:Nat)
 | nilp
 | sl (b o len:Nat) (cap:Option Nat) (z:Nat)
 | nils
 | fn (f:Fn) (first capt:List AV)
 | nilf
 | ifc (t:TypeId) (v:AV)
 | nili
 | mp (b:Nat)
 | nilm
 | agg (l:List AV)
 | tup (l:List AV)
structure Loc where
 blk:Nat
 base:Nat
 lim:Nat
def RM:=Nat->Option Loc
def RO:Nat:=64
mutual
def VR (ρ:RM):AV->Value->Prop
 | .bool b,v=>v=.bool b
 | .int k n,v=>v=.int k n
 | .str s,v=>∃bs:ByteArray,v=.string bs/\bs.data.toList.map UInt8.toNat=s
 | .ptr b o,v=>∃l,ρ b=some l/\v=.pointer (some ⟨l.blk,l.base+o,none⟩)
 | .nilp,v=>v=.pointer none
 | .sl b o len cap z,v=>∃l c off,ρ b=some l/\v=.slice (some ⟨l.blk,off,none⟩) len c/\len<=c/\0<z/\(off=l.base+o\/c=0)/\
     (cap=some c/\l.base+o+c*z<=l.lim/\(RO<=b->c<9223372036854775808)\/cap=none/\l.base+o+c*z=l.lim/\c<9223372036854775808)
 | .nils,v=>v=.slice none 0 0
 | .fn f a b,v=>∃xs ys,v=.func f xs ys/\VRs ρ a xs.toList/\VRs ρ b ys.toList
 | .nilf,v=>v=.nilFunc
 | .ifc t x,v=>∃y,v=.iface t y/\VR ρ x y
 | .nili,v=>v=.nilIface
 | .mp b,v=>∃l,ρ b=some l/\v=.map (some l.blk)
 | .nilm,v=>v=.map none
 | .agg l,v=>∃cs,v=.agg cs/\VRs ρ l cs.toList
 | .tup l,v=>∃cs,v=.tuple cs/\VRs ρ l cs.toList
def VRs (ρ:RM):List AV->List Value->Prop
 | [],vs=>vs=[]
 | a::l,vs=>∃v vs',vs=v::vs'/\VR ρ a v/\VRs ρ l vs'
end
def RM.Le (ρ ρ':RM):Prop:=∀b l,ρ b=some l->ρ' b=some l
def RM.Le.refl (ρ:RM):ρ.Le ρ:=λ_ _ h=>h
def RM.Le.trans {a b c:RM} (h:a.Le b) (k:b.Le c):a.Le c:=λx l e=>k x l (h x l e)
mutual
def VR.mono {ρ ρ':RM} (h:ρ.Le ρ'):∀(a:AV) (v:Value),VR ρ a v->VR ρ' a v
 | .bool b,v,e=>by simpa[VR] using e
 | .int k n,v,e=>by simpa[VR] using e
 | .str s,v,e=>by simpa[VR] using e
 | .ptr b o,v,e=>by
   simp only[VR] at *;obtain⟨l,e1,e2⟩:=e;exact⟨l,h _ _ e1,e2⟩
 | .nilp,v,e=>by simpa[VR] using e
 | .sl b o len cap z,v,e=>by
   simp only[VR] at *;obtain⟨l,c,off,e1,e2⟩:=e;exact⟨l,c,off,h _ _ e1,e2⟩
 | .nils,v,e=>by simpa[VR] using e
 | .fn f a b,v,e=>by
   simp only[VR] at *;obtain⟨xs,ys,e1,e2,e3⟩:=e;exact⟨xs,ys,e1,VRs.mono h _ _ e2,VRs.mono h _ _ e3⟩
 | .nilf,v,e=>by simpa[VR] using e
 | .ifc t x,v,e=>by
   simp only[VR] at *;obtain⟨y,e1,e2⟩:=e;exact⟨y,e1,VR.mono h _ _ e2⟩
 | .nili,v,e=>by simpa[VR] using e
 | .mp b,v,e=>by
   simp only[VR] at *;obtain⟨l,e1,e2⟩:=e;exact⟨l,h _ _ e1,e2⟩
 | .nilm,v,e=>by simpa[VR] using e
 | .agg l,v,e=>by
   simp only[VR] at *;obtain⟨y,e1,e2⟩:=e;exact⟨y,e1,VRs.mono h _ _ e2⟩
 | .tup l,v,e=>by
   simp only[VR] at *;obtain⟨y,e1,e2⟩:=e;exact⟨y,e1,VRs.mono h _ _ e2⟩
def VRs.mono {ρ ρ':RM} (h:ρ.Le ρ'):∀(a:List AV) (v:List Value),VRs ρ a v->VRs ρ' a v
 | [],v,e=>by simpa[VRs] using e
 | a::l,v,e=>by
   simp only[VRs] at *;obtain⟨x,xs,e1,e2,e3⟩:=e;exact⟨x,xs,e1,VR.mono h _ _ e2,VRs.mono h _ _ e3⟩
end
def rW (ρ:RM):∀(l:List AV) (vs:List Value),VRs ρ l vs↔l.length=vs.length/\∀(i:Nat) (a:AV) (v:Value),l[i]?=some a->vs[i]?=some v->VR ρ a v
 | [],vs=>by cases vs<;>simp[VRs]
 | a::l,vs=>by
   simp only[VRs];constructor
   ·rintro ⟨v,vs',rfl,h1,h2⟩;rw[rW ρ l vs'] at h2;refine⟨by simp[h2.1],λi x y hx hy=>?_⟩;cases i with
    | zero=>simp at hx hy;subst hx;subst hy;exact h1
    | succ i=>exact h2.2 i x y (by simpa using hx) (by simpa using hy)
   ·rintro ⟨h1,h2⟩;cases vs with
    | nil=>simp at h1
    | cons v vs'=>
      refine⟨v,vs',rfl,h2 0 a v rfl rfl,(rW ρ l vs').2 ⟨by simpa using h1,λi x y hx hy=>h2 (i+1) x y (by simpa using hx) (by simpa using hy)⟩⟩
def VRs.get {ρ:RM} {l:List AV} {vs:List Value} (h:VRs ρ l vs) {i:Nat} {a:AV} (ha:l[i]?=some a):∃v,vs[i]?=some v/\VR ρ a v:=by
 obtain⟨h1,h2⟩:=(rW ρ l vs).1 h;have hi:i<vs.length:=by rw[<-h1];exact(jG.1 ha).1
 exact⟨vs[i],by simp[hi],h2 i a _ ha (by simp[hi])⟩
def VRs.length {ρ:RM} {l:List AV} {vs:List Value} (h:VRs ρ l vs):l.length=vs.length:=((rW ρ l vs).1 h).1
def VRs.append {ρ:RM} {l l':List AV} {vs vs':List Value} (h:VRs ρ l vs) (h':VRs ρ l' vs'):VRs ρ (l++l') (vs++vs'):=by
 induction l generalizing vs with
 | nil=>simp only[VRs] at h;subst h;simpa using h'
 | cons a l ih=>
   simp only[VRs] at h;obtain⟨v,r,rfl,h1,h2⟩:=h;exact⟨v,r++vs',rfl,h1,ih h2⟩
def VRs.take {ρ:RM} {l:List AV} {vs:List Value} (h:VRs ρ l vs) (n:Nat):VRs ρ (l.take n) (vs.take n):=by
 rw[rW] at *;refine⟨by simp[h.1],λi a v ha hv=>?_⟩;rw[rD] at ha hv;split at ha
 ·rename_i hi;rw[aK hi] at hv;exact h.2 i a v ha hv
 ·cases ha
def VRs.drop {ρ:RM} {l:List AV} {vs:List Value} (h:VRs ρ l vs) (n:Nat):VRs ρ (l.drop n) (vs.drop n):=by
 rw[rW] at *;refine⟨by simp[h.1],λi a v ha hv=>?_⟩;rw[sM] at ha hv;exact h.2 _ a v ha hv
def gD:AV->List AV
 | .agg l=>l
 | v=>[v]
def VR.cells {ρ:RM} {a:AV} {v:Value} (h:VR ρ a v):VRs ρ (gD a) v.cells.toList:=by
 cases a<;>simp only[VR] at h<;>simp only[gD]
 case agg l=>obtain⟨cs,rfl,h⟩:=h;exact h
 all_goals
  refine⟨v,[],?_,?_,rfl⟩
  ·first
   | (subst h;rfl)
   | (obtain⟨_,rfl,_⟩:=h;rfl)
   | (obtain⟨_,_,rfl⟩:=h;rfl)
   | (obtain⟨_,_,rfl,_⟩:=h;rfl)
   | (obtain⟨_,_,_,_,rfl,_⟩:=h;rfl)
  ·simp only[VR];exact h
def hZ:AV->Bool
 | .agg _ | .tup _=>false
 | _=>true
def VR.one {ρ:RM} {a:AV} {v:Value} (h:VR ρ a v):v.oneCell'=hZ a:=by
 cases a<;>simp only[VR] at h<;>first
  | (subst h;rfl)
  | (obtain⟨_,rfl,_⟩:=h;rfl)
  | (obtain⟨_,_,rfl⟩:=h;rfl)
  | (obtain⟨_,_,rfl,_⟩:=h;rfl)
  | (obtain⟨_,_,_,_,rfl,_⟩:=h;rfl)
end Go.Vm
namespace Go.Vm
inductive Blk where
 | cells (c:Tr AV) (n:Nat)
 | iter (s:List Nat) (pos:Nat)
 | mp (m:List (AV×AV))
def Blk.Rel (pl:Bool) (ρ:RM):Blk->Loc->World->Prop
 | .cells c n,l,w=>∃cs elem fr,w.heap[l.blk]?=some (.cells cs elem fr)/\l.base+n<=l.lim/\l.lim<=cs.size/\
     (∀i,l.base<=i->(pl=false->i<l.lim)->¬(fr.1<=i/\i<fr.2))/\∀i,i<n->∃a v,c.get i=some a/\cs[l.base+i]?=some v/\VR ρ a v
 | .iter s pos,l,w=>∃bs,w.heap[l.blk]?=some (.stringIter bs pos)/\bs.data.toList.map UInt8.toNat=s/\l.base=0
 | .mp m,l,w=>∃es clock,w.heap[l.blk]?=some (.map es clock)/\VRs ρ (m.map (·.1)) (es.toList.map (·.key))/\VRs ρ (m.map (·.2)) (es.toList.map (·.val))
def rx (ro:Nat):Nat:=max ro RO
def jC {ro b:Nat} (h:rx ro<=b):ro<=b/\RO<=b:=Nat.max_le.1 h
structure HR (ρ:RM) (H:Tr Blk) (w:World):Prop where
 blk:∀b k l,H.get b=some k->ρ b=some l->k.Rel (RO.ble b) ρ l w
 inj:∀b b' l l',(H.get b).isSome->(H.get b').isSome->ρ b=some l->ρ b'=some l'->l.blk=l'.blk->b=b'\/(b<RO/\b'<RO)
structure Step (ρ:RM) (H:Tr Blk) (nx ro:Nat) (w:World) (ρ':RM) (H':Tr Blk) (nx':Nat) (w':World):Prop where
 os:w'.os=w.os
 tape:w'.tape=w.tape
 output:w'.output=w.output
 size:w.heap.size<=w'.heap.size
 up:nx<=nx'
 ext:∀b,(b<nx\/nx'<=b)->ρ' b=ρ b
 keep:∀x,x<w.heap.size->(∀b l,ρ b=some l->l.blk=x->(H.get b).isSome->b<ro)->w'.heap[x]?=w.heap[x]?
 fresh:∀b l,nx<=b->b<nx'->ρ' b=some l->(w.heap.size<=l.blk/\l.blk<w'.heap.size)\/∃b0 l0,ro<=b0/\(H.get b0).isSome/\ρ b0=some l0/\l0.blk=l.blk
 live:∀b,(H'.get b).isSome->(nx<=b/\b<nx')\/(H.get b).isSome
 old:∀b,b<ro->b<nx->H'.get b=H.get b
def Step.refl (ρ:RM) (H:Tr Blk) (nx ro:Nat) (w:World):Step ρ H nx ro w ρ H nx w:=
 ⟨rfl,rfl,rfl,aU _,aU _,λ_ _=>rfl,λ_ _ _=>rfl,λb l h h'=>by omega,λ_ h=>.inr h,λ_ _ _=>rfl⟩
def Step.trans {ρ ρ1 ρ2:RM} {H H1 H2:Tr Blk} {nx nx1 nx2 ro:Nat} {w w1 w2:World}
  (s:Step ρ H nx ro w ρ1 H1 nx1 w1) (t:Step ρ1 H1 nx1 ro w1 ρ2 H2 nx2 w2):Step ρ H nx ro w ρ2 H2 nx2 w2 where
 os:=t.os.trans s.os
 tape:=t.tape.trans s.tape
 output:=t.output.trans s.output
 size:=eA s.size t.size
 up:=eA s.up t.up
 ext b h:=by
  have h1:=s.up;have h2:=t.up
  rw[t.ext b (by omega),s.ext b (by omega)]
 keep x hx h:=by
  rw[t.keep x (kB hx s.size) ?_,s.keep x hx h];intro b l hb hl hs;by_cases hbn:b<nx
  ·refine h b l ((s.ext b (.inl hbn))▸hb) hl ?_;rcases s.live b hs with h1 | h1
   ·omega
   ·exact h1
  ·by_cases hbn':b<nx1
   ·rcases s.fresh b l (by omega) hbn' hb with⟨h1,_⟩ | ⟨b0,l0,h1,h2,h3,h4⟩
    ·omega
    ·have:=h b0 l0 h3 (h4.trans hl) h2;omega
   ·rcases s.live b hs with h1 | h1
    ·omega
    ·exact h b l ((s.ext b (.inr (by omega)))▸hb) hl h1
 fresh b l h1 h2 hb:=by
  have a1:=s.up;have a2:=t.up;have a3:=s.size;have a4:=t.size
  by_cases hbn:b<nx1
  ·rcases s.fresh b l h1 hbn ((t.ext b (.inl hbn))▸hb) with⟨h3,h4⟩ | h3
   ·exact .inl ⟨h3,by omega⟩
   ·exact .inr h3
  ·rcases t.fresh b l (by omega) h2 hb with⟨h3,h4⟩ | ⟨b0,l0,h3,h4,h5,h6⟩
   ·exact .inl ⟨by omega,h4⟩
   ·by_cases hb0:nx<=b0/\b0<nx1
    ·rcases s.fresh b0 l0 hb0.1 hb0.2 h5 with⟨h7,h8⟩ | ⟨b1,l1,h7,h8,h9,h10⟩
     ·exact .inl ⟨by omega,by omega⟩
     ·exact .inr ⟨b1,l1,h7,h8,h9,h10.trans h6⟩
    ·have e:=s.ext b0 (by omega);rcases s.live b0 h4 with h7 | h7
     ·omega
     ·exact .inr ⟨b0,l0,h3,h7,e▸h5,h6⟩
 live b h:=by
  have a1:=s.up;have a2:=t.up
  rcases t.live b h with h1 | h1
  ·exact .inl (by omega)
  ·rcases s.live b h1 with h2 | h2
   ·exact .inl (by omega)
   ·exact .inr h2
 old b h h':=by
  rw[t.old b h (kB h' s.up),s.old b h h']
def Free (ρ:RM) (nx nx':Nat):Prop:=∀b,nx<=b->b<nx'->ρ b=none
def Step.le {ρ ρ':RM} {H H':Tr Blk} {nx nx' ro:Nat} {w w':World} (s:Step ρ H nx ro w ρ' H' nx' w') (hf:Free ρ nx nx'):ρ.Le ρ':=by
 intro b l hb;by_cases h:nx<=b/\b<nx'
 ·have:=hf b h.1 h.2;rw[this] at hb;cases hb
 ·rw[s.ext b (by omega)];exact hb
def Step.free {ρ ρ':RM} {H H':Tr Blk} {nx nx' nx'' ro:Nat} {w w':World} (s:Step ρ H nx ro w ρ' H' nx' w') (hf:Free ρ nx nx''):Free ρ' nx' nx'':=by
 intro b h1 h2;rw[s.ext b (.inr h1)];exact hf b (eA s.up h1) h2
def Free.left {ρ:RM} {a b c:Nat} (h:Free ρ a c) (hb:b<=c):Free ρ a b:=λx h1 h2=>h x h1 (by omega)
def Blk.Rel.mono {pl:Bool} {ρ ρ':RM} (h:ρ.Le ρ') {k:Blk} {l:Loc} {w w':World} (hk:k.Rel pl ρ l w) (hw:w'.heap[l.blk]?=w.heap[l.blk]?):k.Rel pl ρ' l w':=by
 cases k with
 | cells c n=>
   obtain⟨cs,e,fr,h1,h2,h3,h4,h5⟩:=hk;refine⟨cs,e,fr,hw.trans h1,h2,h3,h4,λi hi=>?_⟩;obtain⟨a,v,h6,h7,h8⟩:=h5 i hi;exact⟨a,v,h6,h7,VR.mono h _ _ h8⟩
 | iter s pos=>
   obtain⟨bs,h1,h2⟩:=hk;exact⟨bs,hw.trans h1,h2⟩
 | mp m=>
   obtain⟨es,clock,h1,h2,h3⟩:=hk;exact⟨es,clock,hw.trans h1,VRs.mono h _ _ h2,VRs.mono h _ _ h3⟩
def Blk.Rel.lt {pl:Bool} {ρ:RM} {k:Blk} {l:Loc} {w:World} (hk:k.Rel pl ρ l w):l.blk<w.heap.size:=by
 cases k with
 | cells c n=>
   obtain⟨cs,e,fr,h1,_⟩:=hk;exact(eJ.1 h1).1
 | iter s pos=>
   obtain⟨bs,h1,h2⟩:=hk;exact(eJ.1 h1).1
 | mp m=>
   obtain⟨es,clock,h1,_⟩:=hk;exact(eJ.1 h1).1
def RM.upd (ρ:RM) (b:Nat) (l:Loc):RM:=λx=>if x=b then some l else ρ x
def RM.le_upd {ρ:RM} {b:Nat} {l:Loc} (h:ρ b=none):ρ.Le (ρ.upd b l):=by
 intro x y hx;unfold RM.upd;split
 ·subst x;rw[h] at hx;cases hx
 ·exact hx
def HR.alloc {ρ:RM} {H:Tr Blk} {w:World} {nx ro:Nat} (h:HR ρ H w) (hn:ρ nx=none) (o:Obj) (k:Blk) (l:Loc) (hl:l.blk=w.heap.size)
  (hk:k.Rel (RO.ble nx) (ρ.upd nx l) l (w.alloc o)) (hro:ro<=nx):
  HR (ρ.upd nx l) (H.set nx k) (w.alloc o)/\Step ρ H nx ro w (ρ.upd nx l) (H.set nx k) (nx+1) (w.alloc o):=by
 have hle:=RM.le_upd (l:=l) hn;have hold:∀x,x<w.heap.size->(w.alloc o).heap[x]?=w.heap[x]?:=λx hx=>Ft w o x hx
 have ne:∀b k' l',H.get b=some k'->ρ b=some l'->l'.blk<w.heap.size:=λb k' l' h1 h2=>(h.blk b k' l' h1 h2).lt
 refine⟨⟨?_,?_⟩,?_⟩
 ·intro b k' l' hb hl';rw[Tr.get_set] at hb;unfold RM.upd at hl';by_cases e:b=nx
  ·simp only[e,bR] at hb hl';cases hb;cases hl';rw[e];exact hk
  ·simp only[e,cO] at hb hl';have hr:=h.blk b k' l' hb hl';exact hr.mono hle (hold _ hr.lt)
 ·intro b b' l1 l2 h1 h2 e1 e2 e;rw[Tr.get_set] at h1 h2;unfold RM.upd at e1 e2;by_cases hb:b=nx
  ·by_cases hb':b'=nx
   ·exact .inl (hb.trans hb'.symm)
   ·simp only[hb,hb',bR,cO] at h1 h2 e1 e2;cases e1;obtain⟨k2,hk2⟩:=lN.1 h2;have:=ne b' k2 l2 hk2 e2;omega
  ·by_cases hb':b'=nx
   ·simp only[hb,hb',bR,cO] at h1 h2 e1 e2;cases e2;obtain⟨k1,hk1⟩:=lN.1 h1;have:=ne b k1 l1 hk1 e1;omega
   ·simp only[hb,hb',cO] at h1 h2 e1 e2;exact h.inj b b' l1 l2 h1 h2 e1 e2 e
 ·refine⟨rfl,rfl,rfl,by simp,by omega,?_,?_,?_,?_,?_⟩
  ·intro b hb;unfold RM.upd;rw[aD (by omega)]
  ·intro x hx _;exact hold x hx
  ·intro b l' h1 h2 hb;have:b=nx:=by omega
   subst this;simp only[RM.upd,bR] at hb;cases hb;exact .inl ⟨by omega,by simp;omega⟩
  ·intro b hb;rw[Tr.get_set] at hb;by_cases e:b=nx
   ·exact .inl (by omega)
   ·simp only[e,cO] at hb;exact .inr hb
  ·intro b hb hb';rw[Tr.get_set,aD (by omega)]
def HR.write {ρ:RM} {H:Tr Blk} {w w':World} {nx ro b:Nat} (h:HR ρ H w) (k:Blk) (l:Loc) (hs:(H.get b).isSome) (hl:ρ b=some l) (hrx:rx ro<=b)
  (os:w'.os=w.os) (tape:w'.tape=w.tape) (out:w'.output=w.output) (size:w'.heap.size=w.heap.size)
  (hold:∀x,x≠l.blk->w'.heap[x]?=w.heap[x]?) (hk:k.Rel (RO.ble b) ρ l w'):
  HR ρ (H.set b k) w'/\Step ρ H nx ro w ρ (H.set b k) nx w':=by
 obtain⟨hro,hRO⟩:=jC hrx;refine⟨⟨?_,?_⟩,⟨os,tape,out,by omega,aU _,λ_ _=>rfl,?_,λb l h1 h2=>by omega,?_,?_⟩⟩
 ·intro b' k' l' hb hl';rw[Tr.get_set] at hb;by_cases e:b'=b
  ·subst e;rw[hl] at hl';simp only[bR] at hb;cases hb;cases hl';exact hk
  ·simp only[e,cO] at hb;have hr:=h.blk b' k' l' hb hl';refine hr.mono (RM.Le.refl _) (hold _ λe'=>e ?_);rcases h.inj b' b l' l (by rw[hb];rfl) hs hl' hl e' with h1 | h1
   ·exact h1
   ·omega
 ·intro x y l1 l2 h1 h2 e1 e2 e;rw[Tr.get_set] at h1 h2;refine h.inj x y l1 l2 ?_ ?_ e1 e2 e
  ·by_cases ex:x=b
   ·rw[ex];exact hs
   ·simpa[ex] using h1
  ·by_cases ey:y=b
   ·rw[ey];exact hs
   ·simpa[ey] using h2
 ·intro x _ hk;refine hold x λe=>?_
  have:=hk b l hl e.symm hs;omega
 ·intro x hx;rw[Tr.get_set] at hx;by_cases e:x=b
  ·rw[e];exact .inr hs
  ·exact .inr (by simpa[e] using hx)
 ·intro x hx _;rw[Tr.get_set,aD (by omega)]
def HR.drew {ρ:RM} {H:Tr Blk} {w:World} (n:Nat) (h:HR ρ H w):HR ρ H { w with drawn:=n }:=by
 refine⟨λb k l hb hl=>?_,h.inj⟩;have:=h.blk b k l hb hl;exact this.mono (RM.Le.refl _) rfl
def Step.drew (ρ:RM) (H:Tr Blk) (nx ro:Nat) (w:World) (n:Nat):Step ρ H nx ro w ρ H nx { w with drawn:=n }:=
 ⟨rfl,rfl,rfl,aU _,aU _,λ_ _=>rfl,λ_ _ _=>rfl,λb l h h'=>by omega,λ_ h=>.inr h,λ_ _ _=>rfl⟩
end Go.Vm
namespace Go.Vm
def pD {β:Type} (n:Nat) (k:Nat->β):β:=match n with | 0=>k 0 | m+1=>k (m+1)
def jaf {β:Type} (n:Int) (k:Int->β):β:=match n with
 | .ofNat n=>pD n λn=>k (.ofNat n)
 | .negSucc n=>pD n λn=>k (.negSucc n)
def xD {β:Type} (n:Nat) (k:Nat->β):pD n k=k n:=by cases n<;>rfl
def jy2 {β:Type} (n:Int) (k:Int->β):jaf n k=k n:=by cases n<;>simp[jaf,xD]
def Jr {β:Type}:List Nat->(List Nat->β)->β
 | [],k=>k []
 | x::l,k=>pD x λx=>Jr l λl=>k (x::l)
def Dw:∀(l:List Nat) (β:Type) (k:List Nat->β),Jr l k=k l
 | [],_,_=>rfl
 | x::l,β,k=>by simp[Jr,xD,Dw l]
def Jp {β:Type} (v:AV) (k:AV->β):β:=match v with
 | .int d n=>jaf n λn=>k (.int d n)
 | .bool b=>match b with | true=>k (.bool true) | false=>k (.bool false)
 | .str s=>Jr s λs=>k (.str s)
 | .ptr b o=>pD b λb=>pD o λo=>k (.ptr b o)
 | .sl b o len cap z=>pD b λb=>pD o λo=>pD len λlen=>match cap with
   | none=>k (.sl b o len none z)
   | some c=>pD c λc=>k (.sl b o len (some c) z)
 | v=>k v
def Dv {β:Type} (v:AV) (k:AV->β):Jp v k=k v:=by
 cases v<;>simp[Jp,jy2,Dw,xD]
 case bool b=>cases b<;>rfl
 case sl b o len cap z=>cases cap<;>simp[xD]
def Jq {β:Type}:List AV->(List AV->β)->β
 | [],k=>k []
 | x::l,k=>Jp x λx=>Jq l λl=>k (x::l)
def xC:∀(l:List AV) (β:Type) (k:List AV->β),Jq l k=k l
 | [],_,_=>rfl
 | x::l,β,k=>by simp[Jq,Dv,xC l]
def nD:Int->Int->Bool
 | .ofNat a,.ofNat b=>a.beq b
 | .negSucc a,.negSucc b=>a.beq b
 | _,_=>false
def kR:Int->Int->Bool
 | .ofNat a,.ofNat b=>a.ble b
 | .negSucc a,.negSucc b=>b.ble a
 | .negSucc _,.ofNat _=>true
 | .ofNat _,.negSucc _=>false
def aL (x y:Nat):x.beq y=decide (x=y):=by
 rcases hxy:x.beq y with _ | _
 ·have:=qfe hxy;simp[this]
 ·have:=rB hxy;simp[this]
def aP (x y:Nat):x.ble y=decide (x<=y):=by
 rcases hxy:x.ble y with _ | _
 ·have:¬x<=y:=λh=>by have:=Nat.ble_eq_true_of_le h;simp[hxy] at this
  simp[this]
 ·have:=pT hxy;simp[this]
def xG (a b:Int):nD a b=(a==b):=by
 rw[vR,beq_iff_eq];cases a<;>cases b<;>simp[nD,aL]<;>omega
def sD (a b:Int):kR a b=decide (a<=b):=by
 rw[vR,decide_eq_true_iff];cases a with
 | ofNat a=>cases b with
   | ofNat b=>simp[kR,aP]
   | negSucc b=>simp[kR];omega
 | negSucc a=>cases b with
   | ofNat b=>simp[kR];omega
   | negSucc b=>simp[kR,aP];omega
def kix:IntKind->Nat
 | .i8=>0 | .i16=>1 | .i32=>2 | .i64=>3 | .u8=>4 | .u16=>5 | .u32=>6 | .u64=>7
def jO (a b:IntKind):Bool:=(kix a).beq (kix b)
def pH {a b:IntKind}:jO a b=true↔a=b:=by cases a<;>cases b<;>simp[jO,kix]
def qU:IntKind->Nat
 | .i8=>128 | .i16=>32768 | .i32=>2147483648 | .i64=>9223372036854775808
 | .u8=>256 | .u16=>65536 | .u32=>4294967296 | .u64=>18446744073709551616
def Rl:IntKind->Bool
 | .i8 | .i16 | .i32 | .i64=>true
 | _=>false
def uH (k:IntKind) (n:Int):Int:=match n with
 | .ofNat m=>bif(qU k).ble m then k.wrap n else n
 | .negSucc m=>bif Rl k&& !((qU k).ble m) then n else k.wrap n
def Ww (k:IntKind) (n:Int) (h0:0<=n) (h:n< (qU k:Int)):k.wrap n=n:=by
 unfold IntKind.wrap;cases k<;>simp only[qU,Int.cast_ofNat_Int] at h<;>simp only[IntKind.bits,IntKind.signed,sV,qg6]<;>simp<;>omega
def jrt (k:IntKind) (n:Int) (hk:Rl k=true) (h0:n<0) (h: -(qU k:Int)<=n):k.wrap n=n:=by
 unfold IntKind.wrap;cases k<;>simp only[Rl,reduceCtorEq] at hk<;>simp only[qU,Int.cast_ofNat_Int] at h<;>simp only[IntKind.bits,IntKind.signed,sV]<;>simp<;>omega
def pY (k:IntKind) (n:Int):uH k n=k.wrap n:=by
 cases n with
 | ofNat m=>
   simp only[uH,aP];by_cases h:qU k<=m
   ·simp only[h,bA,aB]
   ·simp only[h,bM,aF];rw[Ww k (Int.ofNat m) (Int.natCast_nonneg m) (by simp;omega)]
 | negSucc m=>
   simp only[uH,aP];by_cases h:qU k<=m
   ·simp only[h,bA,fC,Bool.and_false,aF]
   ·simp only[h,bM,yM,nM];cases hk:Rl k
    ·rfl
    ·rw[jrt k _ hk (by omega) (by omega)];rfl
def lJ:List Nat->List Nat->Bool
 | [],[]=>true
 | a::x,b::y=>a.beq b&&lJ x y
 | _,_=>false
def pI:List Nat->List Nat->Bool
 | _,[]=>false
 | [],_::_=>true
 | a::x,b::y=>bif a.beq b then pI x y else a.ble b
def jbh:∀(x y:List Nat),lJ x y=true↔x=y
 | [],[]=>by simp[lJ]
 | [],_::_=>by simp[lJ]
 | _::_,[]=>by simp[lJ]
 | a::x,b::y=>by simp[lJ,aL,jbh x y]
def j01 {x y:List UInt8} (h:x.map UInt8.toNat=y.map UInt8.toNat):x=y:=
 List.map_inj_right (λ_ _ e=>Bl.1 e) |>.1 h
def jbg (x y:List UInt8):lJ (x.map UInt8.toNat) (y.map UInt8.toNat)=(x==y):=by
 rw[vR,jbh,beq_iff_eq];exact⟨j01,λh=>h▸rfl⟩
def jl2:∀(x y:List UInt8),pI (x.map UInt8.toNat) (y.map UInt8.toNat)=Op.bytesLess x y
 | x,[]=>by cases x<;>rfl
 | [],_::_=>rfl
 | a::x,b::y=>by
   simp only[dA,pI,Op.bytesLess,jl2 x y,aL,aP];by_cases h:a=b
   ·subst h;simp
   ·have h1:a.toNat≠b.toNat:=λe=>h (Bl.1 e)
    have h2:(a==b)=false:=by simp[h]
    simp only[h1,bM,aF,h2,qg6,Bn];rw[vR];simp[UInt8.lt_iff_toNat_lt];omega
def lU (op:BinOp) (a b:AV):Option AV:=
 match a,b with
 | .int k x,.int k' y=>
   match op with
   | .shl=>bif kR 0 y then some (.int k (uH k (x*2^ (min y.toNat k.bits)))) else none
   | .shr=>bif kR 0 y then some (.int k (x.fdiv (2^ (min y.toNat k.bits)))) else none
   | op=>bif jO k k' then(match op with
     | .add=>some (.int k (uH k (x+y)))
     | .sub=>some (.int k (uH k (x-y)))
     | .mul=>some (.int k (uH k (x*y)))
     | .quo=>bif nD y 0 then none else some (.int k (uH k (x.tdiv y)))
     | .rem=>bif nD y 0 then none else some (.int k (x.tmod y))
     | .and=>some (.int k (k.wrap (BitVec.ofInt k.bits x &&& BitVec.ofInt k.bits y).toNat))
     | .or=>some (.int k (k.wrap (BitVec.ofInt k.bits x ||| BitVec.ofInt k.bits y).toNat))
     | .xor=>some (.int k (k.wrap (BitVec.ofInt k.bits x ^^^ BitVec.ofInt k.bits y).toNat))
     | .andNot=>some (.int k (k.wrap (BitVec.ofInt k.bits x &&& ~~~ BitVec.ofInt k.bits y).toNat))
     | .eql=>some (.bool (nD x y))
     | .neq=>some (.bool (!nD x y))
     | .lss=>some (.bool (!kR y x))
     | .leq=>some (.bool (kR x y))
     | .gtr=>some (.bool (!kR x y))
     | .geq=>some (.bool (kR y x))
     | _=>none) else none
 | .str s,.str t=>
   match op with
   | .add=>bif(s.length+t.length).ble 4000000000 then some (.str (s++t)) else none
   | .eql=>some (.bool (lJ s t))
   | .neq=>some (.bool (!lJ s t))
   | .lss=>some (.bool (pI s t))
   | .leq=>some (.bool (pI s t||lJ s t))
   | .gtr=>some (.bool (!(pI s t||lJ s t)))
   | .geq=>some (.bool (!pI s t))
   | _=>none
 | _,_=>none
def ju0 {ρ:RM} {P:Program} {op:BinOp} {a b v:AV} {x y:Value} (w:World) (t:TypeId) (h:lU op a b=some v) (ha:VR ρ a x) (hb:VR ρ b y):
  ∃v',(binOp op t x y).run P w=.ok v' w/\VR ρ v v':=by
 unfold lU at h;split at h
 ·rename_i k n k' m;simp only[VR] at ha hb;subst ha;subst hb;split at h
  ·cases h0:kR 0 m<;>simp only[h0,aB,aF] at h
   ·cases h
   ·cases h;rw[sD] at h0;have h1:¬m<0:=by have:=of_decide_eq_true h0;omega
    refine⟨_,by simp[binOp,Op.shift,h1];rfl,by simp[VR,pY]⟩
  ·cases h0:kR 0 m<;>simp only[h0,aB,aF] at h
   ·cases h
   ·cases h;rw[sD] at h0;have h1:¬m<0:=by have:=of_decide_eq_true h0;omega
    refine⟨_,by simp[binOp,Op.shift,h1];rfl,by simp[VR]⟩
  ·rename_i hn1 hn2;cases h0:jO k k'<;>simp only[h0,aB,aF] at h
   ·cases h
   ·have hk:=pH.1 h0;subst hk;cases op<;>simp only[reduceCtorEq,rA] at h hn1 hn2<;>try (cases h)
    case quo=>
     rw[xG] at h;cases h2:(m==0)<;>simp only[h2,aB,aF] at h
     ·cases h;have:¬m=0:=by simpa using h2
      exact⟨_,by simp[binOp,Op.intDiv,this];rfl,by simp[VR,pY]⟩
     ·cases h
    case rem=>
     rw[xG] at h;cases h2:(m==0)<;>simp only[h2,aB,aF] at h
     ·cases h;have:¬m=0:=by simpa using h2
      exact⟨_,by simp[binOp,Op.intDiv,this];rfl,by simp[VR]⟩
     ·cases h
    all_goals
     refine⟨_,by simp[binOp,Op.intArith,Op.intBits,Op.intCmp];rfl,?_⟩
     first
      | (simp[VR,pY,xG,sD,bne];done)
      | (simp only[VR,sD,Value.bool.injEq];rw[vR];simp)
 ·rename_i s t';simp only[VR] at ha hb;obtain⟨s',rfl,rfl⟩:=ha;obtain⟨t',rfl,rfl⟩:=hb;have e1:=jbg s'.data.toList t'.data.toList;have e2:=jl2 s'.data.toList t'.data.toList;cases op<;>simp only[reduceCtorEq] at h<;>try (cases h)
  case add=>
   simp only[aP,dM] at h;by_cases h3:s'.data.toList.length+t'.data.toList.length<=4000000000
   ·simp only[h3,bA,aB] at h;cases h;have h4:¬((s'.size+t'.size:Nat):Int) > IntKind.i64.max:=by
     have:s'.size+t'.size<=4000000000:=by simpa using h3
     simp[IntKind.max,IntKind.signed,IntKind.bits];omega
    refine⟨.string (s'++t'),by simp only[binOp,Op.stringOp,h4,cO];rfl,?_⟩;simp[VR]
   ·simp only[h3,bM,aF,reduceCtorEq] at h
  all_goals
   refine⟨_,by simp only[binOp,Op.stringOp,qfx,dI];rfl,?_⟩;simp only[VR,e1,e2]
 ·cases h
end Go.Vm
namespace Go.Vm
inductive Opd where
 | t (n:Nat)
 | c (v:AV)
inductive I where
 | mov (x:Opd)
 | pick (c a b:Opd)
 | build (z:List AV) (ps:List (Nat×Nat×Opd))
 | nilck (x:Opd)
 | bin (op:BinOp) (x y:Opd)
 | eqf (neg agg:Bool) (ks:List Nat) (x y:Opd)
 | eqn (neg:Bool) (kd:Nat) (x y:Opd)
 | neg (x:Opd)
 | cpl (x:Opd)
 | not (x:Opd)
 | cvi (k:IntKind) (x:Opd)
 | cvs (x:Opd)
 | mkif (t:TypeId) (x:Opd)
 | mkfn (f:Fn) (first capt:List Opd)
 | fad (off:Nat) (x:Opd)
 | fld (agg:Bool) (size off:Nat) (x:Opd)
 | iadA (n z:Nat) (x i:Opd)
 | iadS (z:Nat) (x i:Opd)
 | idxA (agg:Bool) (n z:Nat) (x i:Opd)
 | idxS (x i:Opd)
 | slS (z:Nat) (x:Opd) (lo hi mx:Option Opd)
 | slT (x:Opd) (lo hi:Option Opd)
 | ext (n:Nat) (x:Opd)
 | len (x:Opd)
 | lenS (x:Opd)
 | lenc (n:Nat)
 | cap (x:Opd)
 | mins (x:Opd) (xs:List Opd)
 | maxs (x:Opd) (xs:List Opd)
 | box (x:Opd)
 | alloc (z:List AV)
 | bsl (z:Nat) (n:Nat) (zs:List AV) (ps:List (Nat×Nat×Opd))
 | load (agg:Bool) (n:Nat) (x:Opd)
 | store (n:Nat) (x v:Opd)
 | slA (n z:Nat) (x:Opd) (lo hi mx:Option Opd)
 | app (z bytes:Nat) (x y:Opd)
 | copy (z:Nat) (x y:Opd)
 | mksl (z bytes:Nat) (zs:List AV) (l c:Opd)
 | b2s (x:Opd)
 | s2b (x:Opd)
 | range (x:Opd)
 | next (x:Opd)
 | call (f:FuncId) (args:List Opd)
 | calld (f:Opd) (args:List Opd)
 | xrow (name:Nat) (args:List Opd)
 | mkmap (r:Option Opd)
 | mlook (agg:Bool) (ks:List Nat) (z:AV) (ok:Bool) (x k:Opd)
 | mset (agg:Bool) (ks:List Nat) (x k v:Opd)
 | bad
section compile
variable (P:Program) (gl:List Nat)
def xZ:Value->Option AV
 | .bool b=>some (.bool b)
 | .int k n=>some (.int k n)
 | .string bs=>some (.str (bs.data.toList.map UInt8.toNat))
 | .pointer none=>some .nilp
 | .slice none 0 0=>some .nils
 | .nilFunc=>some .nilf
 | .nilIface=>some .nili
 | .map none=>some .nilm
 | .iface t (.int k n)=>some (.ifc t (.int k n))
 | .iface t (.string bs)=>some (.ifc t (.str (bs.data.toList.map UInt8.toNat)))
 | .tuple vs=>match vs.toList with | []=>some (.tup []) | _=>none
 | _=>none
def jcg (ρ:RM) {v:Value} {a:AV} (h:xZ v=some a):VR ρ a v:=by
 unfold xZ at h;split at h<;>try (cases h;done)
 all_goals first
  | (cases h;simp[VR];done)
  | (cases h;exact⟨_,rfl,by simp[VR]⟩)
  | skip
 ·split at h
  ·rename_i hvs;cases h;exact⟨_,rfl,by rw[hvs];rfl⟩
  ·cases h
def j4i (v:Value):Option (List AV):=v.cells.toList.mapM xZ
def Rw (ρ:RM):∀(vs:List Value) (l:List AV),vs.mapM xZ=some l->VRs ρ l vs
 | [],l,h=>by simp at h;subst h;rfl
 | v::vs,l,h=>by
   simp only[yN,fS,dN,yJ,aG] at h;obtain⟨a,h1,l',h2,rfl⟩:=h;exact⟨v,vs,rfl,jcg ρ h1,Rw ρ vs l' h2⟩
def bT:Operand->Option Opd
 | .tmp n=>some (.t n)
 | .const v=>(xZ v).map .c
 | .global g=>if gl.contains g then some (.c (.ptr g 0)) else none
 | .func f=>some (.c (.fn (.func f) [] []))
def opds (xs:Array Operand):Option (List Opd):=xs.toList.mapM (bT gl)
def sK:Option Operand->Option (Option Opd)
 | none=>some none
 | some x=>(bT gl x).map some
def lI:TypeDesc->Bool
 | .struct _ | .array _ _=>true
 | _=>false
def lay (t:TypeId):Option (Nat×Bool):=
 match P.info? t,P.underlying t with
 | some i,some d=>some (i.size,lI d)
 | _,_=>none
def wK (t:TypeId):Option (List AV):=
 match P.info? t with
 | some i=>match i.zero with
   | some v=>j4i v
   | none=>none
 | none=>none
def mO (r:TypeId->Option (List Nat)):List Field->Nat->Nat->Option (List Nat)
 | [],off,size=>if off==size then some [] else none
 | f::fs,off,size=>if f.name != "_" &&f.offset==off then match r f.type,mO r fs (off+P.cellsOf f.type) size with
   | some l,some m=>if l.length==P.cellsOf f.type then some (l++m) else none
   | _,_=>none else none
def flat:Nat->TypeId->Option (List Nat)
 | 0,_=>none
 | d+1,t=>
   match P.info? t,P.underlying t with
   | some i,some .bool=>if i.size==1 then some [0] else none
   | some i,some (.int _)=>if i.size==1 then some [1] else none
   | some i,some .string=>if i.size==1 then some [2] else none
   | some i,some (.struct fs)=>if P.stoodInHeld t then none else mO P (flat d) fs.toList 0 i.size
   | some i,some (.array n e)=>match flat d e with
     | some l=>if i.size==n*P.cellsOf e&&l.length==P.cellsOf e then some (List.replicate n l).flatten else none
     | none=>none
   | _,_=>none
end compile
def wR:List AV->List (Nat×Nat×AV)->Option (List AV)
 | l,[]=>some l
 | l,(off,size,v)::r=>bif(gD v).length.beq size&&(off+size).ble l.length then wR (l.take off++(gD v++l.drop (off+size))) r else none
def nG (agg:Bool) (l:List AV):Option AV:=bif agg then some (.agg l) else match l with
 | [x]=>some x
 | _=>none
def kP:Nat->AV->AV->Option Bool
 | 1,.int k a,.int k' b=>bif jO k k' then some (nD a b) else none
 | 0,.bool a,.bool b=>some (a==b)
 | 2,.str a,.str b=>some (lJ a b)
 | _,_,_=>none
def fJ:List Nat->List AV->List AV->Option Bool
 | [],[],[]=>some true
 | k::ks,a::l,b::m=>match kP k a b with
   | some true=>fJ ks l m
   | some false=>some false
   | none=>none
 | _,_,_=>none
def jV (agg:Bool) (ks:List Nat) (a b:AV):Option Bool:=
 bif agg then(match a,b with
  | .agg l,.agg m=>bif l.length.beq ks.length&&m.length.beq ks.length then fJ ks l m else none
  | _,_=>none) else fJ ks [a] [b]
def oY:Nat->AV->AV->Option Bool
 | 0,.nili,.nili | 1,.nilp,.nilp | 2,.nils,.nils | 3,.nilf,.nilf=>some true
 | 0,.nili,.ifc _ _ | 0,.ifc _ _,.nili | 1,.nilp,.ptr _ _ | 1,.ptr _ _,.nilp | 2,.nils,.sl _ _ _ _ _ | 2,.sl _ _ _ _ _,.nils | 3,.nilf,.fn _ _ _ | 3,.fn _ _ _,.nilf=>some false
 | _,_,_=>none
def qG (y:Nat):AV->Option Nat
 | .int _ (.ofNat i)=>bif i.ble y then some i else none
 | _=>none
def mZ (len:Nat) (cap:Nat) (lo hi mx:Option AV):Option (Nat×Nat×Nat):=
 match (match mx with | some v=>qG cap v | none=>some cap) with
 | none=>none
 | some m=>match (match hi,mx with | some v,_=>qG m v | none,none=>some len | none,some _=>none) with
   | none=>none
   | some h=>match (match lo with | some v=>qG h v | none=>some 0) with
     | none=>none
     | some l=>some (l,h,m)
def iJ (z:Nat) (a:AV) (lo hi mx:Option AV):Option AV:=
 match a with
 | .sl b o len cap z'=>bif z'.beq z then(match cap with
   | some c=>match mZ len c lo hi mx with
     | some (l,h,m)=>some (.sl b (o+l*z) (h-l) (some (m-l)) z)
     | none=>none
   | none=>match mZ len len lo hi mx with
     | some (l,h,m)=>match mx with
       | some _=>some (.sl b (o+l*z) (h-l) (some (m-l)) z)
       | none=>some (.sl b (o+l*z) (h-l) none z)
     | none=>none) else none
 | .nils=>match mZ 0 0 lo hi mx with
   | some _=>some .nils
   | none=>none
 | _=>none
def zN:AV->List AV->Option AV
 | x,[]=>some x
 | .int k x,.int _ y::r=>zN (.int k (bif kR x y then x else y)) r
 | _,_=>none
def zM:AV->List AV->Option AV
 | x,[]=>some x
 | .int k x,.int _ y::r=>zM (.int k (bif kR y x then x else y)) r
 | _,_=>none
def bD (g:Opd->AV):I->Option AV
 | .mov x=>some (g x)
 | .pick c a b=>match g c with | .bool true=>some (g a) | .bool false=>some (g b) | _=>none
 | .build z ps=>(wR z (ps.map fun(o,s,x)=>(o,s,g x))).map .agg
 | .nilck x=>match g x with
   | .nilp | .nili | .nilf=>none
   | .fn (.method _) _ _=>none
   | v=>some v
 | .bin op x y=>lU op (g x) (g y)
 | .eqf n agg ks x y=>match jV agg ks (g x) (g y) with
   | some b=>some (.bool (n ^^ b))
   | none=>none
 | .eqn n kd x y=>match oY kd (g x) (g y) with
   | some b=>some (.bool (n ^^ b))
   | none=>none
 | .neg x=>match g x with | .int k n=>some (.int k (uH k (0-n))) | _=>none
 | .cpl x=>match g x with
   | .int k n=>some (.int k (k.wrap (BitVec.ofInt k.bits (if k.signed then -1 else k.max) ^^^ BitVec.ofInt k.bits n).toNat))
   | _=>none
 | .not x=>match g x with | .bool b=>some (.bool !b) | _=>none
 | .cvi k x=>match g x with | .int _ n=>some (.int k (uH k n)) | _=>none
 | .cvs x=>match g x with | .str s=>some (.str s) | .int _ (.ofNat n)=>(bif n.ble 127 then some (.str [n]) else none) | _=>none
 | .mkif t x=>some (.ifc t (g x))
 | .mkfn f a b=>some (.fn f (a.map g) (b.map g))
 | .fad off x=>match g x with | .ptr b o=>some (.ptr b (o+off)) | _=>none
 | .fld agg size off x=>match g x with
   | .agg l=>bif(off+size).ble l.length then nG agg ((l.drop off).take size) else none
   | _=>none
 | .iadA n z x i=>match g x,g i with
   | .ptr b o,.int _ (.ofNat i)=>bif n.ble i then none else some (.ptr b (o+i*z))
   | _,_=>none
 | .iadS z x i=>match g x,g i with
   | .sl b o len _ z',.int _ (.ofNat i)=>bif !(z'.beq z)||len.ble i then none else some (.ptr b (o+i*z))
   | _,_=>none
 | .idxA agg n z x i=>match g x,g i with
   | .agg l,.int _ (.ofNat i)=>bif n.ble i|| !((i*z+z).ble l.length) then none else nG agg ((l.drop (i*z)).take z)
   | _,_=>none
 | .idxS x i=>match g x,g i with
   | .str s,.int _ (.ofNat i)=>match s[i]? with
     | some c=>some (.int .u8 c)
     | none=>none
   | _,_=>none
 | .slS z x lo hi mx=>iJ z (g x) (lo.map g) (hi.map g) (mx.map g)
 | .slT x lo hi=>match g x with
   | .str s=>match mZ s.length s.length (lo.map g) (hi.map g) none with
     | some (l,h,_)=>some (.str ((s.drop l).take (h-l)))
     | none=>none
   | _=>none
 | .ext n x=>match g x with | .tup l=>l[n]? | _=>none
 | .lenS x=>match g x with
   | .str s=>some (.int .i64 s.length)
   | _=>none
 | .len x=>match g x with
   | .sl _ _ len _ _=>some (.int .i64 len)
   | .nils=>some (.int .i64 0)
   | _=>none
 | .lenc n=>some (.int .i64 n)
 | .cap x=>match g x with
   | .sl _ _ _ (some c) _=>some (.int .i64 c)
   | .nils=>some (.int .i64 0)
   | _=>none
 | .mins x xs=>zN (g x) (xs.map g)
 | .maxs x xs=>zM (g x) (xs.map g)
 | _=>none
section compile
variable (P:Program) (gl:List Nat)
def Na (fs:Array Field) (i:Nat):Option (Nat×Nat):=
 match fs[i]? with
 | some f=>match P.info? f.type with
   | some j=>some (f.offset,j.size)
   | none=>none
 | none=>none
def Au (place:Nat->Option (Nat×Nat)):List (Nat×Operand)->Option (List (Nat×Nat×Opd))
 | []=>some []
 | (i,x)::r=>match place i,bT gl x,Au place r with
   | some (o,s),some y,some l=>some ((o,s,y)::l)
   | _,_,_=>none
def oE:BinOp->Bool
 | .neq=>true
 | _=>false
def Ka:Operand->Bool
 | .const _=>true
 | _=>false
def pC (op:BinOp) (t:TypeId) (x y:Operand) (x' y':Opd):Option I:=
 match P.underlying t with
 | some (.int _) | some .string=>some (.bin op x' y')
 | some .bool=>match flat P 20 t with | some ks=>some (.eqf (oE op) false ks x' y') | none=>none
 | some (.struct _) | some (.array _ _)=>if P.eqGuardType P.depth t then none else match flat P 20 t with | some ks=>some (.eqf (oE op) true ks x' y') | none=>none
 | some (.interface _)=>if Ka x||Ka y then some (.eqn (oE op) 0 x' y') else none
 | some (.pointer _)=>some (.eqn (oE op) 1 x' y')
 | some (.slice _)=>some (.eqn (oE op) 2 x' y')
 | some (.func _ _ _)=>some (.eqn (oE op) 3 x' y')
 | _=>none
def Yh (op:BinOp) (t:TypeId) (x' y':Opd):Option I:=
 match P.underlying t with
 | some (.int _) | some .string=>some (.bin op x' y')
 | _=>none
def iF:Op->Option I
 | .move x | .assign x=>(bT gl x).map .mov
 | .pick c a b=>do some (.pick (<-bT gl c) (<-bT gl a) (<-bT gl b))
 | .build t ps=>match P.underlying t with
   | some (.struct fs)=>if fs.toList.all (λf=>(P.info? f.type).isSome) then do some (.build (<-wK P t) (<-Au gl (Na P fs) ps.toList)) else none
   | some (.array _ e)=>do
     let s <-lay P e
     some (.build (<-wK P t) (<-Au gl (λi=>some (i*s.1,s.1)) ps.toList))
   | _=>none
 | .nilCheck x=>(bT gl x).map .nilck
 | .binOp op t x y _=>do
   let x' <-bT gl x
   let y' <-bT gl y
   match op with
   | .eql | .neq=>pC P op t x y x' y'
   | _=>Yh P op t x' y'
 | .unOp .neg _ x=>(bT gl x).map .neg
 | .unOp .xor _ x=>(bT gl x).map .cpl
 | .unOp .not _ x=>(bT gl x).map .not
 | .convert s t x=>match P.underlying s,P.underlying t with
   | some (.int _),some (.int k)=>(bT gl x).map (.cvi k)
   | some .string,some .string=>(bT gl x).map .cvs
   | some (.int _),some .string=>(bT gl x).map .cvs
   | _,_=>none
 | .makeInterface t x=>match P.underlying t with
   | some (.interface _)=>none
   | some _=>(bT gl x).map (.mkif t)
   | none=>none
 | .makeFunc f a b=>do some (.mkfn f (<-opds gl a) (<-opds gl b))
 | .fieldAddr t x i=>match P.underlying t with
   | some (.struct fs)=>match Na P fs i with
     | some (off,s+1)=>(bT gl x).map (.fad off)
     | _=>none
   | _=>none
 | .field t x i=>match P.underlying t with
   | some (.struct fs)=>match fs[i]? with
     | some f=>do
       let s <-lay P f.type
       (bT gl x).map (.fld s.2 s.1 f.offset)
     | none=>none
   | _=>none
 | .indexAddr t x i=>match P.underlying t with
   | some (.array n e)=>do
     let s <-lay P e
     some (.iadA n s.1 (<-bT gl x) (<-bT gl i))
   | some (.slice e)=>do
     let s <-lay P e
     some (.iadS s.1 (<-bT gl x) (<-bT gl i))
   | _=>none
 | .index t x i=>match P.underlying t with
   | some (.array n e)=>do
     let s <-lay P e
     some (.idxA s.2 n s.1 (<-bT gl x) (<-bT gl i))
   | some .string=>do some (.idxS (<-bT gl x) (<-bT gl i))
   | _=>none
 | .slice t x lo hi mx=>match P.underlying t with
   | some (.slice e)=>do
     let s <-lay P e
     some (.slS s.1 (<-bT gl x) (<-sK gl lo) (<-sK gl hi) (<-sK gl mx))
   | some .string=>match mx with
     | none=>do some (.slT (<-bT gl x) (<-sK gl lo) (<-sK gl hi))
     | some _=>none
   | _=>none
 | .extract x n=>(bT gl x).map (.ext n)
 | .call { callee:=.builtin .len,args,argTypes }=>match args.toList,argTypes.toList with
   | [x],t::_=>match P.underlying t with
     | some .string=>(bT gl x).map .lenS
     | some (.slice _)=>(bT gl x).map .len
     | some (.array n _)=>some (.lenc n)
     | some (.pointer e)=>match P.underlying e with
       | some (.array n _)=>some (.lenc n)
       | _=>none
     | _=>none
   | _,_=>none
 | .call { callee:=.builtin .cap,args,argTypes }=>match args.toList,argTypes.toList with
   | [x],t::_=>match P.underlying t with
     | some (.slice _)=>(bT gl x).map .cap
     | _=>none
   | _,_=>none
 | .call { callee:=.builtin .min,args, .. }=>match args.toList with
   | x::xs=>do some (.mins (<-bT gl x) (<-xs.mapM (bT gl)))
   | _=>none
 | .call { callee:=.builtin .max,args, .. }=>match args.toList with
   | x::xs=>do some (.maxs (<-bT gl x) (<-xs.mapM (bT gl)))
   | _=>none
 | _=>none
end compile
end Go.Vm
namespace Go.Vm
section
variable {P:Program} {gl:List Nat} {ρ:RM} {g:Opd->AV} {e:Operand->Value}
def yB (hg:∀x y,bT gl x=some y->VR ρ (g y) (e x)):∀(xs:List Operand) (ys:List Opd),xs.mapM (bT gl)=some ys->VRs ρ (ys.map g) (xs.map e)
 | [],ys,h=>by simp at h;subst h;rfl
 | x::xs,ys,h=>by
   simp only[yN,fS,dN,yJ,aG] at h;obtain⟨a,h1,l,h2,rfl⟩:=h;exact⟨_,_,rfl,hg _ _ h1,yB hg xs l h2⟩
def qV {t:TypeId} {s:Nat×Bool} (h:lay P t=some s):∃i d,P.info? t=some i/\P.underlying t=some d/\s=(i.size,lI d):=by
 unfold lay at h;split at h
 ·rename_i i d h1 h2;cases h;exact⟨i,d,h1,h2,rfl⟩
 ·cases h
def Uw {t:TypeId} {i:TypeInfo} (h:P.info? t=some i) (w:World):(typeInfo t).run P w=.ok i w:=by
 simp[typeInfo,h]
def iM {t:TypeId} {i:TypeInfo} (h:P.info? t=some i) (w:World):(sizeOf t).run P w=.ok i.size w:=by
 simp[sizeOf,Uw h]
def Gm {t:TypeId} {d:TypeDesc} (h:P.underlying t=some d) (w:World):(isAgg t).run P w=.ok (lI d) w:=by
 simp only[isAgg,cQ,run_underlying h,cJ];cases d<;>rfl
def Hs {t:TypeId} {z:List AV} (h:wK P t=some z):∃i v,P.info? t=some i/\i.zero=some v/\VRs ρ z v.cells.toList:=by
 unfold wK at h;split at h
 ·rename_i i hi;split at h
  ·rename_i v hv;exact⟨i,v,hi,hv,Rw ρ _ _ h⟩
  ·cases h
 ·cases h
def yR {t:TypeId} {i:TypeInfo} {v:Value} (h:P.info? t=some i) (hv:i.zero=some v) (w:World):(zeroValue t).run P w=.ok v w:=by
 simp[zeroValue,Uw h,hv]
def jby {agg:Bool} {l:List AV} {a:AV} {vs:List Value} (h:nG agg l=some a) (hl:VRs ρ l vs):
  (agg=true/\VR ρ a (.agg vs.toArray))\/(agg=false/\∃v,vs=[v]/\VR ρ a v):=by
 unfold nG at h;cases agg
 ·simp only[aF] at h;split at h
  ·cases h;simp only[VRs] at hl;obtain⟨v,_,rfl,h1,rfl⟩:=hl;exact .inr ⟨rfl,v,rfl,h1⟩
  ·cases h
 ·simp only[aB] at h;cases h;exact .inl ⟨rfl,⟨_,rfl,by simpa using hl⟩⟩
def jn0 {t:TypeId} {s:Nat×Bool} {l:List AV} {cs:Array Value} {off:Nat} {a:AV} (w:World) (hs:lay P t=some s) (hl:VRs ρ l cs.toList) (hb:off+s.1<=l.length)
  (h:nG s.2 ((l.drop off).take s.1)=some a):∃v,(part t cs off).run P w=.ok v w/\VR ρ a v:=by
 obtain⟨i,d,h1,h2,rfl⟩:=qV hs;simp only at h hb;have hv:=(hl.drop off).take i.size;have hlen:=hl.length;simp only[part,cQ,Gm h2,iM h1,cJ];rcases jby h hv with⟨e1,h3⟩ | ⟨e1,v,h3,h4⟩
 ·simp only[e1,bR,cQ,iM h1,cJ,dI];refine⟨_,rfl,?_⟩;have:cs.extract off (off+i.size)=(List.take i.size (List.drop off cs.toList)).toArray:=by
   apply uA;simp[Sy,List.extract]
  rw[this];exact h3
 ·have hc:cs[off]?=some v:=by
   have h5:(List.take i.size (List.drop off cs.toList))[0]?=some v:=by rw[h3];rfl
   rw[rD] at h5;split at h5
   ·simpa[sM] using h5
   ·cases h5
  simp only[e1,fX,cO,hc,dI];exact⟨v,rfl,h4⟩
def Dc {y i:Nat} {a:AV} {v:Value} (h:qG y a=some i) (hv:VR ρ a v):∃k,v=.int k (i:Int)/\i<=y:=by
 unfold qG at h;split at h
 ·rename_i k j;simp only[VR] at hv;subst hv;rw[aP] at h;by_cases hj:j<=y
  ·simp only[hj,bA,aB,aG] at h;subst h;exact⟨k,rfl,hj⟩
  ·simp[hj] at h
 ·cases h
def vY {y i:Nat} {k:IntKind} (hi:i<=y) (c:BoundsCode) (w:World):(Instr.sliceBound (.int k (i:Int)) y c).run P w=.ok i w:=by
 simp only[Instr.sliceBound,asIntOf,cQ,dI,cJ];rw[aK (by omega)];simp
def lC (ρ:RM):Option AV->Option Value->Prop
 | none,none=>True
 | some a,some v=>VR ρ a v
 | _,_=>False
def yA (hg:∀x y,bT gl x=some y->VR ρ (g y) (e x)) {x:Option Operand} {y:Option Opd} (h:sK gl x=some y):lC ρ (y.map g) (x.map e):=by
 cases x with
 | none=>simp[sK] at h;subst h;exact True.intro
 | some x=>
   simp only[sK,cX] at h;obtain⟨a,h1,rfl⟩:=h;exact hg _ _ h1
def Iu {len cap cap':Nat} {lo hi mx:Option AV} {lo' hi' mx':Option Value} {l h m:Nat} (b:Bool) (w:World) (hb:mZ len cap lo hi mx=some (l,h,m))
  (h1:lC ρ lo lo') (h2:lC ρ hi hi') (h3:lC ρ mx mx') (hc:cap<=cap') (hl:len<=cap):
  l<=h/\h<=m/\m<=cap/\(mx=none->m=cap)/\(Instr.sliceBounds b len cap' lo' hi' mx').run P w=.ok (l,h,if mx.isSome then m else cap') w:=by
 unfold mZ at hb;cases mx with
 | none=>
   have e3:mx'=none:=by cases mx'<;>simp[lC] at h3 ⊢
   subst e3;simp only at hb;cases hi with
   | none=>
     have e2:hi'=none:=by cases hi'<;>simp[lC] at h2 ⊢
     subst e2;simp only at hb;cases lo with
     | none=>
       have e1:lo'=none:=by cases lo'<;>simp[lC] at h1 ⊢
       subst e1;simp only[aG,aM] at hb;obtain⟨rfl,rfl,rfl⟩:=hb;exact⟨by omega,hl,aU _,λ_=>rfl,by simp[Instr.sliceBounds]⟩
     | some v=>
       obtain⟨v',rfl⟩:∃v',lo'=some v':=by cases lo'<;>simp[lC] at h1 ⊢
       split at hb
       ·cases hb
       ·rename_i l' hl';obtain⟨k,rfl,hle⟩:=Dc hl' h1;simp only[aG,aM] at hb;obtain⟨rfl,rfl,rfl⟩:=hb;exact⟨hle,hl,aU _,λ_=>rfl,by simp[Instr.sliceBounds,vY hle]⟩
   | some u=>
     obtain⟨u',rfl⟩:∃u',hi'=some u':=by cases hi'<;>simp[lC] at h2 ⊢
     simp only at hb;split at hb
     ·cases hb
     ·rename_i h' hh';obtain⟨k',rfl,hle'⟩:=Dc hh' h2;cases lo with
      | none=>
        have e1:lo'=none:=by cases lo'<;>simp[lC] at h1 ⊢
        subst e1;simp only[aG,aM] at hb;obtain⟨rfl,rfl,rfl⟩:=hb;exact⟨by omega,hle',aU _,λ_=>rfl,by simp[Instr.sliceBounds,vY (eA hle' hc)]⟩
      | some v=>
        obtain⟨v',rfl⟩:∃v',lo'=some v':=by cases lo'<;>simp[lC] at h1 ⊢
        split at hb
        ·cases hb
        ·rename_i l' hl';obtain⟨k,rfl,hle⟩:=Dc hl' h1;simp only[aG,aM] at hb;obtain⟨rfl,rfl,rfl⟩:=hb;exact⟨hle,hle',aU _,λ_=>rfl,by simp[Instr.sliceBounds,vY (eA hle' hc),vY hle]⟩
 | some t=>
   obtain⟨t',rfl⟩:∃t',mx'=some t':=by cases mx'<;>simp[lC] at h3 ⊢
   simp only at hb;split at hb
   ·cases hb
   ·rename_i m' hm';obtain⟨k'',rfl,hle''⟩:=Dc hm' h3;cases hi with
    | none=>simp at hb
    | some u=>
      obtain⟨u',rfl⟩:∃u',hi'=some u':=by cases hi'<;>simp[lC] at h2 ⊢
      simp only at hb;split at hb
      ·cases hb
      ·rename_i h' hh';obtain⟨k',rfl,hle'⟩:=Dc hh' h2;cases lo with
       | none=>
         have e1:lo'=none:=by cases lo'<;>simp[lC] at h1 ⊢
         subst e1;simp only[aG,aM] at hb;obtain⟨rfl,rfl,rfl⟩:=hb;exact⟨by omega,hle',hle'',by simp,by simp[Instr.sliceBounds,vY (eA hle'' hc),vY hle']⟩
       | some v=>
         obtain⟨v',rfl⟩:∃v',lo'=some v':=by cases lo'<;>simp[lC] at h1 ⊢
         split at hb
         ·cases hb
         ·rename_i l' hl';obtain⟨k,rfl,hle⟩:=Dc hl' h1;simp only[aG,aM] at hb;obtain⟨rfl,rfl,rfl⟩:=hb;exact⟨hle,hle',hle'',by simp,by simp[Instr.sliceBounds,vY (eA hle'' hc),vY hle',vY hle]⟩
end
end Go.Vm
namespace Go.Vm
section
variable {P:Program} {gl:List Nat} {ρ:RM} {g:Opd->AV} {e:Operand->Value}
def jj2 (off:Nat):∀(vs:List Value) (k:Nat) (cells:Array Value),off+k+vs.length<=cells.size->
  ((vs.zipIdx k).foldl (λcs (p:Value×Nat)=>cs.setIfInBounds (off+p.2) p.1) cells).toList=cells.toList.take (off+k)++(vs++cells.toList.drop (off+k+vs.length))
 | [],k,cells,h=>by simp
 | v::vs,k,cells,h=>by
   simp only[dG] at h;simp only[List.zipIdx_cons,Ll];rw[jj2 off vs (k+1) (cells.setIfInBounds (off+k) v) (by simp;omega)];apply Bg;intro i;simp only[qf7,qfs,yG,yI,gS,rD,Fz,sM,dG];rw[show min (off+ (k+1)) cells.size=off+ (k+1) by omega,show min (off+k) cells.size=off+k by omega];rcases Bf i (off+k) with hi | hi | hi
   ·rw[aK (show i<off+ (k+1) by omega),aK (show i<off+ (k+1) by omega),aD (show ¬off+k=i by omega),aK (show i<off+k by omega),aK (show i<off+k by omega)]
   ·subst hi;rw[aK (show off+k<off+ (k+1) by omega),aK (show off+k<off+ (k+1) by omega),aK rfl,aK (show off+k<cells.size by omega),aD (show ¬off+k<off+k by omega),aK (show off+k-(off+k)<vs.length+1 by omega)];rw[Tv];rfl
   ·rw[aD (show ¬i<off+ (k+1) by omega),aD (show ¬i<off+k by omega)];by_cases h2:i-(off+ (k+1))<vs.length
    ·rw[aK h2,aK (show i-(off+k)<vs.length+1 by omega),show i-(off+k)=i-(off+ (k+1))+1 by omega];rfl
    ·rw[aD h2,aD (show ¬i-(off+k)<vs.length+1 by omega),aD (by omega)]
     congr 1
     omega
def Qm {place:Nat->Option (Nat×Nat)} (hg:∀x y,bT gl x=some y->VR ρ (g y) (e x)):∀(ops:List (Nat×Operand)) (ps:List (Nat×Nat×Opd)) (z z':List AV) (cells:Array Value),
  Au gl place ops=some ps->wR z (ps.map fun(o,s,x)=>(o,s,g x))=some z'->VRs ρ z cells.toList->
  ∃cells',Instr.fill place cells (ops.map fun(i,x)=>(i,e x))=some cells'/\VRs ρ z' cells'.toList
 | [],ps,z,z',cells,h1,h2,h3=>by
   simp only[Au,aG] at h1;subst h1;simp only[nO,wR,aG] at h2;subst h2;exact⟨cells,rfl,h3⟩
 | (i,x)::ops,ps,z,z',cells,h1,h2,h3=>by
   simp only[Au] at h1;split at h1
   ·rename_i o s y l hp hy hl;simp only[aG] at h1;subst h1;simp only[dA,wR,aL,aP] at h2;by_cases hc:(gD (g y)).length=s/\o+s<=z.length
    ·simp only[hc.1,hc.2,bA,kH,aB] at h2;have hv:=(hg x y hy).cells;have hlen:=hv.length;have hzl:=h3.length;simp only[gS] at hlen hzl;have e1:¬((e x).cells.size≠s\/o+ (e x).cells.size > cells.size):=by omega
     have e2:(decide ((e x).cells.size≠s)||decide (o+ (e x).cells.size > cells.size))=false:=by simpa using e1
     simp only[dA,Instr.fill,hp,e2,fX,cO];refine Qm hg ops l _ z' _ hl h2 ?_
     have e3:(Array.foldl (λcs (x:Value×Nat)=>match x with | (c,j)=>cs.setIfInBounds (o+j) c) cells (e x).cells.zipIdx).toList=
       cells.toList.take o++((e x).cells.toList++cells.toList.drop (o+s)):=by
      rw[<-qgb,Array.toList_zipIdx];have:=jj2 o (e x).cells.toList 0 cells (by simp;omega);simp only[iV,gS] at this;rw[show o+ (e x).cells.size=o+s by omega] at this;exact this
     rw[e3];exact(h3.take o).append (hv.append (h3.drop (o+s)))
    ·have:(decide ((gD (g y)).length=s)&&decide (o+s<=z.length))=false:=by
      rw[vM];simp;omega
     simp[this] at h2
   ·cases h1
def jo9 (w:World):∀(fs:List Field),fs.all (λf=>(P.info? f.type).isSome)=true->
  (fs.mapM (fun(f:Field)=>(do pure (f.offset,<-sizeOf f.type):Sem (Nat×Nat)))).run P w=.ok (fs.map λf=>(f.offset,P.cellsOf f.type)) w
 | [],_=>rfl
 | f::fs,h=>by
   simp only[vS,aN] at h;obtain⟨i,hi⟩:=lN.1 h.1;simp only[yN,cQ,iM hi,cJ,dI,jo9 w fs h.2,dA];simp[Program.cellsOf,hi]
def jvp {t:TypeId} {ps:List (Nat×Operand)} {c:I} {v:AV} (w:World) (hg:∀x y,bT gl x=some y->VR ρ (g y) (e x))
  (hc:iF P gl (.build t ps.toArray)=some c) (h:bD g c=some v):∃v',(Instr.build t (ps.toArray.map fun(i,x)=>(i,e x))).run P w=.ok v' w/\VR ρ v v':=by
 simp only[iF] at hc;split at hc
 ·rename_i fs hu;split at hc
  ·rename_i hall;simp only[fS,dN,aG] at hc;obtain⟨z,hz,l,hl,rfl⟩:=hc;simp only[bD,cX] at h;obtain⟨z',hz',rfl⟩:=h;obtain⟨i,zv,h1,h2,h3⟩:=Hs hz;obtain⟨cells',h4,h5⟩:=Qm hg ps l z z' zv.cells hl hz' h3;have h6:(fs.mapM (fun(f:Field)=>(do pure (f.offset,<-sizeOf f.type):Sem (Nat×Nat)))).run P w=.ok (fs.map λf=>(f.offset,P.cellsOf f.type)) w:=by
    rw[qgh];simp only[Sem.run_map,jo9 w fs.toList hall,cJ]
    congr 1
    apply uA;simp
   have h7:(λx:Nat=>(fs.map λf=>(f.offset,P.cellsOf f.type))[x]?)=Na P fs:=by
    funext x
    simp only[qgc,Na];cases hx:fs[x]? with
    | none=>rfl
    | some f=>
      have:f∈fs.toList:=by simpa using Array.mem_of_getElem? hx
      obtain⟨j,hj⟩:=lN.1 (bS.1 hall f this);simp[hj,Program.cellsOf]
   refine⟨.agg cells',?_,?_⟩
   ·simp only[Instr.build,cQ,yR h1 h2,cJ,run_underlying hu,h6,h7];simp only[List.map_toArray,h4,dI]
   ·simp only[VR];exact⟨_,rfl,h5⟩
  ·cases hc
 ·rename_i n el hu;simp only[fS,dN,aG] at hc;obtain⟨s,hs,z,hz,l,hl,rfl⟩:=hc;simp only[bD,cX] at h;obtain⟨z',hz',rfl⟩:=h;obtain⟨i,zv,h1,h2,h3⟩:=Hs hz;obtain⟨j,d,k1,k2,rfl⟩:=qV hs;obtain⟨cells',h4,h5⟩:=Qm hg ps l z z' zv.cells hl hz' h3;refine⟨.agg cells',?_,?_⟩
  ·simp only[Instr.build,cQ,yR h1 h2,cJ,run_underlying hu,iM k1];simp only[List.map_toArray,h4,dI]
  ·simp only[VR];exact⟨_,rfl,h5⟩
 ·cases hc
end
end Go.Vm
