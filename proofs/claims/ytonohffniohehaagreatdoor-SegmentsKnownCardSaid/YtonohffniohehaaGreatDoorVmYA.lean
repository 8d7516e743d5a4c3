/-
  A region whose operations are written down in another order.
-/
import Derived.Test.YtonohffniohehaaGreatDoorVmA1
set_option linter.unusedSimpArgs false
set_option linter.unusedVariables false
set_option linter.unusedSectionVars false
set_option linter.unnecessarySimpa false
namespace Go.Vm
def sgm (π:List Nat) (n k:Nat):Nat:=if k<n then π.idxOf k else k
def kc6 (π:List Nat) (n:Nat) (o:Oper):Oper:={ o with after:=o.after.map fun e=>{ e with on:=sgm π n e.on },guard:=o.guard.map fun x=>(sgm π n x.1,x.2) }
def jds (π:List Nat) (ops:Array Oper):Array Oper:=(π.filterMap fun i=>(ops[i]?).map (kc6 π ops.size)).toArray
structure PermOK (π:List Nat) (ops:Array Oper):Prop where
 len:π.length=ops.size
 lt:∀i∈π,i<ops.size
 all:∀k,k<ops.size→k∈π
 idx:∀(p i:Nat),π[p]?=some i→π.idxOf i=p
 ed:∀(j:Nat) (o:Oper),ops[j]?=some o→∀e∈o.after,e.on<ops.size
theorem j6g {π:List Nat} {ops:Array Oper} (h:PermOK π ops) {k:Nat} (hk:k<ops.size):k∈π:=h.all k hk
theorem jil {α β:Type} {f:α→Option β}:∀ {l:List α},(∀x∈l,(f x).isSome)→∀(p:Nat) (x:α),l[p]?=some x→(l.filterMap f)[p]?=f x∧(l.filterMap f).length=l.length
 | [],_,p,x,h=>by simp at h
 | a::l,ha,p,x,h=>by
   obtain⟨b,hb⟩:=Option.isSome_iff_exists.1 (ha a (List.mem_cons_self ..))
   rw[List.filterMap_cons_some hb]
   cases p with
   | zero=>
     simp only[List.getElem?_cons_zero,Option.some.injEq] at h
     subst h
     refine⟨by simp[hb],?_⟩
     cases l with
     | nil=>rfl
     | cons y l=>simp only[List.length_cons];rw[(jil (fun z hz=>ha z (List.mem_cons_of_mem _ hz)) 0 y rfl).2];rfl
   | succ p=>
     simp only[List.getElem?_cons_succ] at h ⊢
     obtain⟨h1,h2⟩:=jil (fun z hz=>ha z (List.mem_cons_of_mem _ hz)) p x h
     exact⟨h1,by simp[h2]⟩
section
variable {P:Program} {π:List Nat} {ops:Array Oper} {Q:Exit→Act→World→Prop}
theorem jxm (h:PermOK π ops) {p i:Nat} (hp:π[p]?=some i):(jds π ops)[p]?=(ops[i]?).map (kc6 π ops.size):=by
 unfold jds
 rw[List.getElem?_toArray]
 exact(jil (fun x hx=>by have:=h.lt x hx;simp[this]) p i hp).1
theorem jmr (h:PermOK π ops):(jds π ops).size=ops.size:=by
 unfold jds
 rw[List.size_toArray,←h.len]
 cases hπ:π with
 | nil=>rfl
 | cons x l=>
   rw[←hπ]
   exact(jil (fun x hx=>by have:=h.lt x hx;simp[this]) 0 x (by rw[hπ];rfl)).2
theorem j94 (h:PermOK π ops) {k:Nat} (hk:k<ops.size):π[sgm π ops.size k]?=some k:=by
 unfold sgm
 rw[if_pos hk]
 have:=j6g h hk
 rw[List.getElem?_eq_getElem (List.idxOf_lt_length_of_mem this)]
 simp
theorem j59 (h:PermOK π ops) {k:Nat} (hk:k<ops.size):sgm π ops.size k<ops.size:=by
 unfold sgm
 rw[if_pos hk,←h.len]
 exact List.idxOf_lt_length_of_mem (j6g h hk)
theorem jo9 (h:PermOK π ops) {k:Nat} (hk:k<ops.size):(jds π ops)[sgm π ops.size k]?=(ops[k]?).map (kc6 π ops.size):=jxm h (j94 h hk)
theorem j03 (h:PermOK π ops) (tmps:Array Value) (k:Nat):yielded (jds π ops) tmps (sgm π ops.size k)=yielded ops tmps k:=by
 unfold yielded
 by_cases hk:k<ops.size
 ·rw[jo9 h hk]
  cases ops[k]?<;>rfl
 ·have e1:ops[k]?=none:=Array.getElem?_eq_none (by omega)
  have e2:(jds π ops)[sgm π ops.size k]?=none:=by
   unfold sgm
   rw[if_neg hk]
   exact Array.getElem?_eq_none (by rw[jmr h];omega)
  rw[e1,e2]
theorem j3w (h:PermOK π ops) (tmps:Array Value) (o:Oper):Region.wanted (kc6 π ops.size o) (yielded (jds π ops) tmps)=Region.wanted o (yielded ops tmps):=by
 obtain⟨dst,op,type,pos,after,guard⟩:=o
 cases guard with
 | none=>rfl
 | some x=>
   simp only[kc6,Option.map_some,Region.wanted]
   rw[j03 h]
theorem khf (o:Oper) (n:Nat) (a:Act) (w:World) (K:Act→World→Prop):(kc6 π n o).wp P a w K Q=o.wp P a w K Q:=rfl
theorem kah (o:Oper) (n:Nat) (a:Act) (w:World):(kc6 π n o).asks P a w=o.asks P a w:=rfl
def Both (π:List Nat) (n:Nat) (listed listed':Array Bool):Prop:=listed.size=n∧listed'.size=n∧∀k,k<n→listed'.getD (sgm π n k) true=listed.getD k true
theorem jzt {l:Array Bool} {k:Nat} (h:k<l.size):l.getD k false=l.getD k true:=by simp[Array.getD,h]
theorem jxk (h:PermOK π ops) {listed listed':Array Bool} (hb:Both π ops.size listed listed') {k:Nat} (hk:k∈Region.ready .any ops listed):sgm π ops.size k∈Region.ready .any (jds π ops) listed':=by
 obtain⟨h1,h2,h3⟩:=hb
 rw[mem_ready] at hk ⊢
 obtain⟨h0,o,ho,hall⟩:=hk
 have hlt:k<ops.size:=(Array.getElem?_eq_some_iff.1 ho).1
 refine⟨by rw[h3 k hlt];exact h0,kc6 π ops.size o,by rw[jo9 h hlt,ho];rfl,fun e he hbd=>?_⟩
 simp only[kc6,Array.mem_map] at he
 obtain⟨e',he',rfl⟩:=he
 have hon:=h.ed k o ho e' he'
 have:=hall e' he' hbd
 show listed'.getD (sgm π ops.size e'.on) false=true
 rw[jzt (by rw[h2];exact j59 h hon),h3 _ hon,←jzt (by rw[h1];exact hon)]
 exact this
theorem Both.set (h:PermOK π ops) {listed listed':Array Bool} (hb:Both π ops.size listed listed') {i:Nat} (hi:i<ops.size):Both π ops.size (listed.setIfInBounds i true) (listed'.setIfInBounds (sgm π ops.size i) true):=by
 obtain⟨h1,h2,h3⟩:=hb
 refine⟨by simp[h1],by simp[h2],fun k hk=>?_⟩
 have hs:=j59 h hk
 have inj:sgm π ops.size i=sgm π ops.size k→i=k:=fun e=>by
  have a:=j94 h hi
  have b:=j94 h hk
  rw[e,b] at a
  cases a;rfl
 have g:∀(l:Array Bool) (p q:Nat),l.size=ops.size→q<ops.size→(l.setIfInBounds p true).getD q true=if p=q then true else l.getD q true:=fun l p q hl hq=>by
  have hq':q<l.size:=by omega
  simp only[Array.getD,Array.size_setIfInBounds,hq',dif_pos]
  by_cases hpq:p=q
  ·subst hpq;simp[hq']
  ·rw[if_neg hpq];exact Array.getElem_setIfInBounds_ne _ hpq
 rw[g _ _ _ h2 hs,g _ _ _ h1 hk,h3 k hk]
 by_cases hik:i=k
 ·rw[if_pos hik,if_pos (by rw[hik])]
 ·rw[if_neg hik,if_neg fun e=>hik (inj e)]
theorem jxd (h:PermOK π ops):∀(fuel:Nat) (listed listed':Array Bool) (a:Act) (w:World),Both π ops.size listed listed'→wpAny P .any (jds π ops) Q fuel listed' a w→wpAny P .any ops Q fuel listed a w
 | 0,listed,listed',a,w,hb,hw=>by
   refine⟨?_,hw.2⟩
   cases hr:Region.ready .any ops listed with
   | nil=>rfl
   | cons x xs=>
     have:=jxk h hb (k:=x) (by rw[hr];exact List.mem_cons_self ..)
     rw[hw.1] at this
     cases this
 | fuel+1,listed,listed',a,w,hb,hw=>by
   obtain⟨h1,h2⟩:=hw
   have hsz:=hb.1
   refine⟨fun hr=>h1 ?_,fun i hi=>?_⟩
   ·cases hr':Region.ready .any (jds π ops) listed' with
    | nil=>rfl
    | cons x xs=>
      have hx:x∈Region.ready .any (jds π ops) listed':=by rw[hr'];exact List.mem_cons_self ..
      obtain⟨b1,b2,b3⟩:=hb
      rw[mem_ready] at hx
      obtain⟨h0,o,ho,hall⟩:=hx
      have hxlt:x<π.length:=by rw[h.len,←jmr h];exact(Array.getElem?_eq_some_iff.1 ho).1
      have hπ:π[x]?=some π[x]:=by simp
      have hi:=h.lt _ (List.mem_of_getElem? hπ)
      rw[jxm h hπ] at ho
      obtain⟨o0,ho0⟩:∃o0,ops[π[x]]?=some o0:=⟨ops[π[x]],by simp[hi]⟩
      have hback:∀(p:Nat),p<ops.size→∀k,π[p]?=some k→sgm π ops.size k=p:=fun p _ k hk=>by
       unfold sgm
       rw[if_pos (h.lt k (List.mem_of_getElem? hk))]
       exact h.idx p k hk
      have hready:π[x]∈Region.ready .any ops listed:=by
       rw[mem_ready]
       refine⟨?_,o0,ho0,fun e he hbd=>?_⟩
       ·rw[←b3 _ hi,hback x (by rw[←h.len];exact hxlt) _ hπ];exact h0
       ·have hon:=h.ed _ o0 ho0 e he
        rw[ho0] at ho
        cases ho
        have:=hall { e with on:=sgm π ops.size e.on } (by
         simp only[kc6,Array.mem_map]
         exact⟨e,he,rfl⟩) hbd
        simp only at this
        rw[jzt (by rw[b2];exact j59 h hon),b3 _ hon] at this
        rw[jzt (by rw[b1];exact hon)]
        exact this
      rw[hr] at hready
      cases hready
   ·have hk:=jxk h hb hi
    have hlt:i<ops.size:=by
     rw[mem_ready] at hi
     obtain⟨_,o,ho,_⟩:=hi
     exact(Array.getElem?_eq_some_iff.1 ho).1
    have key:=h2 _ hk
    obtain⟨o,ho⟩:∃o,ops[i]?=some o:=⟨ops[i],by simp[hlt]⟩
    unfold wpOp at key ⊢
    rw[jo9 h hlt,ho] at key
    simp only[Option.map_some,j3w h,khf,kah] at key
    rw[ho]
    simp only
    have mono:∀a w,wpAny P .any (jds π ops) Q fuel (listed'.setIfInBounds (sgm π ops.size i) true) a w→wpAny P .any ops Q fuel (listed.setIfInBounds i true) a w:=fun a w=>jxd h fuel _ _ a w (hb.set h hlt)
    split
    ·rename_i hw
     rw[if_pos hw] at key
     exact key.imp (fun k=>Oper.wp_mono mono k) id
    ·rename_i hw
     rw[if_neg hw] at key
     exact mono _ _ key
end
end Go.Vm
