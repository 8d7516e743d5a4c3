/-
  Words: a text is cut at its spaces, and put together again.
  Nets: texts: lines and words; a net is told by its text.
  Nets: the order of nets, as the order of lists of numbers.
-/
import Derived.Test.YtahplmacekfjgaaGreatDoorTt
set_option linter.unusedSimpArgs false
set_option linter.unusedVariables false
set_option linter.unusedSectionVars false
set_option linter.unnecessarySimpa false
namespace Go.Vm
namespace X
open W
def splB (c:UInt8):List UInt8→List (List UInt8)
 | []=>[[]]
 | b::l=>if b=c then []::splB c l else match splB c l with
   | w::ws=>(b::w)::ws
   | []=>[[b]]
theorem spl_app {c:UInt8} {r:List UInt8} {v:List UInt8} {vs:List (List UInt8)} (hr:splB c r=v::vs):∀ {w:List UInt8},c∉w→splB c (w++r)=(w++v)::vs
 | [],_=>hr
 | b::w,h=>by
   have hb:b≠c:=fun e=>h (by rw[e];exact List.mem_cons_self ..)
   rw[List.cons_append]
   unfold splB
   rw[if_neg hb,spl_app hr (fun hm=>h (List.mem_cons_of_mem _ hm))]
   rfl
theorem spl_join {c:UInt8}:∀ {w:List UInt8} {ws:List (List UInt8)},(∀x∈w::ws,c∉x)→splB c (Lib.join (w::ws) [c])=w::ws
 | w,[],h=>by
   rw[Lib.join_one]
   have:=spl_app (c:=c) (r:=[]) (v:=[]) (vs:=[]) rfl (h w (List.mem_cons_self ..))
   simpa using this
 | w,w'::ws,h=>by
   have ih:=spl_join (c:=c) (w:=w') (ws:=ws) fun x hx=>h x (List.mem_cons_of_mem _ hx)
   have e:Lib.join (w::w'::ws) [c]=w++(c::Lib.join (w'::ws) [c]):=by
    rw[Lib.join_cons,Lib.join_cons]
    simp[Lib.joinTail]
   rw[e]
   have:=spl_app (c:=c) (r:=c::Lib.join (w'::ws) [c]) (v:=[]) (vs:=splB c (Lib.join (w'::ws) [c])) (by rw[splB,if_pos rfl]) (h w (List.mem_cons_self ..))
   rw[this,ih];simp
theorem u8_back {w:List Nat} (h:∀x∈w,x<256):(u8 w).map UInt8.toNat=w:=by
 unfold u8
 rw[List.map_map]
 conv=>rhs;rw[←List.map_id w]
 refine List.map_congr_left fun x hx=>?_
 have:=h x hx
 simp[Function.comp,UInt8.toNat_ofNat,Nat.mod_eq_of_lt this]
theorem back_u8 (w:List UInt8):u8 (w.map UInt8.toNat)=w:=by
 unfold u8
 rw[List.map_map]
 conv=>rhs;rw[←List.map_id w]
 exact List.map_congr_left fun x hx=>by simp[Function.comp]
end X
end Go.Vm
namespace Go.Vm
namespace X
open W
def splA (c:UInt8):List UInt8→List (List UInt8)
 | []=>[[]]
 | b::l=>if b=c then [b]::splA c l else match splA c l with
   | w::ws=>(b::w)::ws
   | []=>[[b]]
theorem splA_app {c:UInt8} {r:List UInt8}:∀ {w:List UInt8},c∉w→splA c (w++c::r)=(w++[c])::splA c r
 | [],_=>by rw[List.nil_append,splA,if_pos rfl];rfl
 | b::w,h=>by
   have hb:b≠c:=fun e=>h (by rw[e];exact List.mem_cons_self ..)
   rw[List.cons_append,splA,if_neg hb,splA_app (w:=w) (r:=r) (fun hm=>h (List.mem_cons_of_mem _ hm))]
   rfl
theorem splA_lines {c:UInt8}:∀ {L:List (List UInt8)},(∀w∈L,∃v,w=v++[c]∧c∉v)→splA c L.flatten=L++[[]]
 | [],_=>rfl
 | w::L,h=>by
   obtain⟨v,rfl,hv⟩:=h w (List.mem_cons_self ..)
   have ih:=splA_lines (L:=L) fun x hx=>h x (List.mem_cons_of_mem _ hx)
   rw[List.flatten_cons,List.append_assoc,List.singleton_append,splA_app hv,ih]
   rfl
structure Num (it:Int→ByteArray) (D:Int→Prop):Prop where
 ok:∀n,D n→∀y∈(it n).data.toList,y≠32∧y≠10
 inj:∀n m,D n→D m→(it n).data.toList=(it m).data.toList→n=m
def wdS (it:Int→ByteArray) (s:SqT):List (List UInt8):=[[115,113,117,97,114,101],(it s.1).data.toList,(it s.2).data.toList]
def wyB (u:Bool):List UInt8:=bif u then [117,112] else [114,105,103,104,116]
def wdH (it:Int→ByteArray) (g:HgT):List (List UInt8):=[[104,105,110,103,101],(it g.1.1).data.toList,(it g.1.2).data.toList,wyB g.2.1,(it g.2.2).data.toList]
theorem tlS_eq (it:Int→ByteArray) (s:SqT):tlS it s=Lib.join (wdS it s) [32]++[10]:=rfl
theorem tlH_eq (it:Int→ByteArray) (g:HgT):tlH it g=Lib.join (wdH it g) [32]++[10]:=by
 unfold tlH wdH tl5 wyB
 cases g.2.1<;>rfl
def DS (D:Int→Prop) (s:SqT):Prop:=D s.1∧D s.2
def DH (D:Int→Prop) (g:HgT):Prop:=D g.1.1∧D g.1.2∧D g.2.2
theorem wdS_ok {it:Int→ByteArray} {D:Int→Prop} (h:Num it D) {s:SqT} (hs:DS D s):∀w∈wdS it s,∀y∈w,y≠32∧y≠10:=by
 intro w hw
 simp only[wdS,List.mem_cons,List.not_mem_nil,or_false] at hw
 rcases hw with rfl | rfl | rfl
 ·decide
 ·exact h.ok _ hs.1
 ·exact h.ok _ hs.2
theorem wdH_ok {it:Int→ByteArray} {D:Int→Prop} (h:Num it D) {g:HgT} (hs:DH D g):∀w∈wdH it g,∀y∈w,y≠32∧y≠10:=by
 intro w hw
 simp only[wdH,List.mem_cons,List.not_mem_nil,or_false] at hw
 rcases hw with rfl | rfl | rfl | rfl | rfl
 ·decide
 ·exact h.ok _ hs.1
 ·exact h.ok _ hs.2.1
 ·unfold wyB;cases g.2.1<;>decide
 ·exact h.ok _ hs.2.2
theorem join_mem {c:UInt8} {y:UInt8}:∀ {w:List UInt8} {ws:List (List UInt8)},y∈Lib.join (w::ws) [c]→y=c∨∃x∈w::ws,y∈x
 | w,[],h=>by rw[Lib.join_one] at h;exact .inr ⟨w,List.mem_cons_self ..,h⟩
 | w,w'::ws,h=>by
   have e:Lib.join (w::w'::ws) [c]=w++(c::Lib.join (w'::ws) [c]):=by
    rw[Lib.join_cons,Lib.join_cons]
    simp[Lib.joinTail]
   rw[e] at h
   rcases List.mem_append.1 h with h | h
   ·exact .inr ⟨w,List.mem_cons_self ..,h⟩
   ·rcases List.mem_cons.1 h with h | h
    ·exact .inl h
    ·rcases join_mem h with h | ⟨x,hx,h⟩
     ·exact .inl h
     ·exact .inr ⟨x,List.mem_cons_of_mem _ hx,h⟩
theorem no10 {w:List UInt8} {ws:List (List UInt8)} (h:∀x∈w::ws,∀y∈x,y≠32∧y≠10):(10:UInt8)∉Lib.join (w::ws) [32]:=fun hm=>by
 rcases join_mem hm with h1 | ⟨x,hx,h1⟩
 ·cases h1
 ·exact(h x hx _ h1).2 rfl
theorem spl_words {w:List UInt8} {ws:List (List UInt8)} (h:∀x∈w::ws,∀y∈x,y≠32∧y≠10):splB 32 (Lib.join (w::ws) [32])=w::ws:=spl_join fun x hx hm=>(h x hx _ hm).1 rfl
def linesT (it:Int→ByteArray) (S:List SqT) (H:List HgT):List (List UInt8):=S.map (tlS it)++H.map (tlH it)
theorem tlT_lines (it:Int→ByteArray) (S:List SqT) (H:List HgT):tlT it S H=(linesT it S H).flatten:=by
 unfold tlT linesT
 rw[List.flatten_append,List.flatMap_def,List.flatMap_def]
theorem lines_ok {it:Int→ByteArray} {D:Int→Prop} (h:Num it D) {S:List SqT} {H:List HgT} (hS:∀s∈S,DS D s) (hH:∀g∈H,DH D g):∀w∈linesT it S H,∃v,w=v++[10]∧(10:UInt8)∉v:=by
 intro w hw
 rcases List.mem_append.1 hw with h1 | h1
 ·obtain⟨s,hs,rfl⟩:=List.mem_map.1 h1
  exact⟨_,tlS_eq it s,no10 (wdS_ok h (hS s hs))⟩
 ·obtain⟨g,hg,rfl⟩:=List.mem_map.1 h1
  exact⟨_,tlH_eq it g,no10 (wdH_ok h (hH g hg))⟩
theorem splA_T {it:Int→ByteArray} {D:Int→Prop} (h:Num it D) {S:List SqT} {H:List HgT} (hS:∀s∈S,DS D s) (hH:∀g∈H,DH D g):splA 10 (tlT it S H)=linesT it S H++[[]]:=by
 rw[tlT_lines,splA_lines (lines_ok h hS hH)]
theorem wyB_inj {u v:Bool} (h:wyB u=wyB v):u=v:=by
 cases u<;>cases v<;>first | rfl | exact absurd h (by decide)
theorem tlS_inj {it:Int→ByteArray} {D:Int→Prop} (h:Num it D) {s t:SqT} (hs:DS D s) (ht:DS D t) (e:tlS it s=tlS it t):s=t:=by
 rw[tlS_eq,tlS_eq] at e
 have e:=List.append_cancel_right e
 have e:=congrArg (splB 32) e
 unfold wdS at e
 rw[spl_words (wdS_ok h hs),spl_words (wdS_ok h ht)] at e
 simp only[List.cons.injEq,and_true,true_and] at e
 exact Prod.ext (h.inj _ _ hs.1 ht.1 e.1) (h.inj _ _ hs.2 ht.2 e.2)
theorem tlH_inj {it:Int→ByteArray} {D:Int→Prop} (h:Num it D) {s t:HgT} (hs:DH D s) (ht:DH D t) (e:tlH it s=tlH it t):s=t:=by
 rw[tlH_eq,tlH_eq] at e
 have e:=List.append_cancel_right e
 have e:=congrArg (splB 32) e
 unfold wdH at e
 rw[spl_words (wdH_ok h hs),spl_words (wdH_ok h ht)] at e
 simp only[List.cons.injEq,and_true,true_and] at e
 exact Prod.ext (Prod.ext (h.inj _ _ hs.1 ht.1 e.1) (h.inj _ _ hs.2.1 ht.2.1 e.2.1)) (Prod.ext (wyB_inj e.2.2.1) (h.inj _ _ hs.2.2 ht.2.2 e.2.2.2))
theorem head_S (it:Int→ByteArray) (s:SqT):(tlS it s).head?=some 115:=by
 rw[tlS_eq];unfold wdS;rw[Lib.join_cons];rfl
theorem head_H (it:Int→ByteArray) (g:HgT):(tlH it g).head?=some 104:=by
 rw[tlH_eq];unfold wdH;rw[Lib.join_cons];rfl
theorem map_inj_on {β γ:Type} {g:β→γ}:∀ {H H':List β},(∀x y,x∈H→y∈H'→g x=g y→x=y)→H.map g=H'.map g→H=H'
 | [],[],_,_=>rfl
 | [],_::_,_,e=>by simp at e
 | _::_,[],_,e=>by simp at e
 | x::H,y::H',hg,e=>by
   simp only[List.map_cons,List.cons.injEq] at e
   rw[hg x y (List.mem_cons_self ..) (List.mem_cons_self ..) e.1,map_inj_on (H:=H) (H':=H') (fun a b ha hb=>hg a b (List.mem_cons_of_mem _ ha) (List.mem_cons_of_mem _ hb)) e.2]
theorem two_maps {α β γ:Type} {f:α→γ} {g:β→γ}:∀ {S S':List α} {H H':List β},(∀x y,x∈S++S'→y∈H++H'→f x≠g y)→(∀x y,x∈S→y∈S'→f x=f y→x=y)→(∀x y,x∈H→y∈H'→g x=g y→x=y)→S.map f++H.map g=S'.map f++H'.map g→S=S'∧H=H'
 | [],[],H,H',_,_,hg,e=>by
   refine⟨rfl,?_⟩
   simp only[List.map_nil,List.nil_append] at e
   exact map_inj_on hg e
 | [],y::S',H,H',hne,_,_,e=>by
   cases H with
   | nil=>simp at e
   | cons x H=>
     simp only[List.map_nil,List.nil_append,List.map_cons,List.cons_append,List.cons.injEq] at e
     exact absurd e.1.symm (hne y x (by simp) (by simp))
 | x::S,[],H,H',hne,_,_,e=>by
   cases H' with
   | nil=>simp at e
   | cons y H'=>
     simp only[List.map_nil,List.nil_append,List.map_cons,List.cons_append,List.cons.injEq] at e
     exact absurd e.1 (hne x y (by simp) (by simp))
 | x::S,y::S',H,H',hne,hf,hg,e=>by
   simp only[List.map_cons,List.cons_append,List.cons.injEq] at e
   obtain⟨h1,h2⟩:=two_maps (S:=S) (S':=S') (H:=H) (H':=H') (fun a b ha hb=>hne a b (by simp at ha ⊢;rcases ha with h | h<;>simp[h]) hb) (fun a b ha hb=>hf a b (List.mem_cons_of_mem _ ha) (List.mem_cons_of_mem _ hb)) hg e.2
   rw[hf x y (List.mem_cons_self ..) (List.mem_cons_self ..) e.1,h1]
   exact⟨rfl,h2⟩
theorem tlT_inj {it:Int→ByteArray} {D:Int→Prop} (h:Num it D) {S S':List SqT} {H H':List HgT} (hS:∀s∈S,DS D s) (hH:∀g∈H,DH D g) (hS':∀s∈S',DS D s) (hH':∀g∈H',DH D g) (e:tlT it S H=tlT it S' H'):S=S'∧H=H':=by
 have e:=congrArg (splA 10) e
 rw[splA_T h hS hH,splA_T h hS' hH'] at e
 have e:=List.append_cancel_right e
 refine two_maps (f:=tlS it) (g:=tlH it) (fun x y _ _ c=>?_) (fun x y hx hy=>tlS_inj h (hS x hx) (hS' y hy)) (fun x y hx hy=>tlH_inj h (hH x hx) (hH' y hy)) e
 have:=congrArg List.head? c
 rw[head_S,head_H] at this
 cases this
end X
end Go.Vm
namespace Go.Vm
namespace X
def lexI:List Int→List Int→Int
 | [],[]=>0
 | [],_::_=> -1
 | _::_,[]=>1
 | x::l,y::k=>if c3 x y=0 then lexI l k else c3 x y
theorem c3_gt {a b:Int}:0<c3 a b↔b<a:=by
 unfold c3
 by_cases h:a<b
 ·simp[h];omega
 ·by_cases h2:b<a<;>simp[h,h2]
theorem c3_bd (a b:Int): -1≤c3 a b∧c3 a b≤1:=by
 unfold c3
 by_cases h:a<b
 ·simp[h]
 ·by_cases h2:b<a<;>simp[h,h2]
theorem c3_neg (a b:Int):c3 b a= - c3 a b:=by
 unfold c3
 by_cases h:a<b
 ·simp[h,show ¬b<a by omega]
 ·by_cases h2:b<a<;>simp[h,h2]
theorem lexI_bd:∀l k, -1≤lexI l k∧lexI l k≤1
 | [],[]=>by decide
 | [],_::_=>by simp[lexI]
 | _::_,[]=>by simp[lexI]
 | x::l,y::k=>by
   unfold lexI
   have:=c3_bd x y
   split
   ·exact lexI_bd l k
   ·exact this
theorem lexI_neg:∀l k,lexI k l= - lexI l k
 | [],[]=>by decide
 | [],_::_=>by simp[lexI]
 | _::_,[]=>by simp[lexI]
 | x::l,y::k=>by
   unfold lexI
   rw[c3_neg x y]
   by_cases h:c3 x y=0
   ·rw[if_pos h,if_pos (by omega),lexI_neg l k]
   ·rw[if_neg h,if_neg (by omega)]
theorem lexI_0:∀ {l k},lexI l k=0↔l=k
 | [],[]=>by simp[lexI]
 | [],_::_=>by simp[lexI]
 | _::_,[]=>by simp[lexI]
 | x::l,y::k=>by
   unfold lexI
   by_cases h:c3 x y=0
   ·rw[if_pos h,lexI_0 (l:=l) (k:=k),c3_0.1 h];simp
   ·rw[if_neg h]
    constructor
    ·intro e;exact absurd e h
    ·intro e
     simp only[List.cons.injEq] at e
     exact absurd (c3_0.2 e.1) h
theorem lexI_trans:∀ {l k m},lexI l k≤0→lexI k m≤0→lexI l m≤0
 | [],_,[],_,_=>by simp[lexI]
 | [],_,_::_,_,_=>by simp[lexI]
 | _::_,[],_,h,_=>by simp[lexI] at h
 | _::_,_::_,[],_,h=>by simp[lexI] at h
 | x::l,y::k,z::m,h1,h2=>by
   unfold lexI at *
   have a1:=c3_lt (a:=x) (b:=y);have a2:=c3_0 (a:=x) (b:=y);have a3:=c3_gt (a:=x) (b:=y)
   have b1:=c3_lt (a:=y) (b:=z);have b2:=c3_0 (a:=y) (b:=z);have b3:=c3_gt (a:=y) (b:=z)
   have d1:=c3_lt (a:=x) (b:=z);have d2:=c3_0 (a:=x) (b:=z)
   by_cases e1:c3 x y=0
   ·rw[if_pos e1] at h1
    by_cases e2:c3 y z=0
    ·rw[if_pos e2] at h2
     rw[if_pos (d2.2 ((a2.1 e1).trans (b2.1 e2)))]
     exact lexI_trans h1 h2
    ·rw[if_neg e2] at h2
     have:=a2.1 e1
     have:=b1.1 (by omega)
     have hd:=d1.2 (by omega)
     rw[if_neg (by omega)]
     omega
   ·rw[if_neg e1] at h1
    have q1:=a1.1 (by omega)
    have q2:y≤z:=by
     by_cases e2:c3 y z=0
     ·have:=b2.1 e2;omega
     ·rw[if_neg e2] at h2
      have:=b1.1 (by omega)
      omega
    have hd:=d1.2 (by omega)
    rw[if_neg (by omega)]
    omega
theorem lexI_trans' {l k m} (h1:0≤lexI l k) (h2:0≤lexI k m):0≤lexI l m:=by
 have:=lexI_trans (l:=m) (k:=k) (m:=l) (by rw[lexI_neg k m];omega) (by rw[lexI_neg l k];omega)
 rw[lexI_neg l m] at this
 omega
theorem lexI_cons (x y:Int) (l k:List Int):lexI (x::l) (y::k)=if c3 x y=0 then lexI l k else c3 x y:=rfl
theorem lexI_nil:lexI [] []=0:=rfl
theorem lexI_app:∀ {l k a b:List Int},l.length=k.length→lexI (l++a) (k++b)=if lexI l k=0 then lexI a b else lexI l k
 | [],[],_,_,_=>by simp[lexI]
 | [],_::_,_,_,h=>by simp at h
 | _::_,[],_,_,h=>by simp at h
 | x::l,y::k,a,b,h=>by
   have ih:=lexI_app (l:=l) (k:=k) (a:=a) (b:=b) (by simpa using h)
   rw[List.cons_append,List.cons_append,lexI_cons,lexI_cons]
   by_cases e:c3 x y=0
   ·rw[if_pos e,if_pos e,ih]
   ·rw[if_neg e,if_neg e,if_neg e]
def kS (s:SqT):List Int:=[s.2,s.1]
def kH (g:HgT):List Int:=[g.1.2,g.1.1,wayI g,g.2.2]
def kN (n:List SqT×List HgT):List Int:=((n.1.length:Int)::n.1.flatMap kS)++((n.2.length:Int)::n.2.flatMap kH)
def cmpN (a b:List SqT×List HgT):Int:=lexI (kN a) (kN b)
def cfG (x y:HgT):Int:=if cfH x y=0 then c3 x.2.2 y.2.2 else cfH x y
theorem lexI_kS (x y:SqT):lexI (kS x) (kS y)=cfS x y:=by
 unfold kS cfS
 rw[lexI_cons,lexI_cons,lexI_nil]
 by_cases h:c3 x.2 y.2=0
 ·rw[if_pos h,decide_eq_true h,cond_true]
  by_cases h2:c3 x.1 y.1=0
  ·rw[if_pos h2,h2]
  ·rw[if_neg h2]
 ·rw[if_neg h,decide_eq_false h,cond_false]
theorem lexI_kH (x y:HgT):lexI (kH x) (kH y)=cfG x y:=by
 have e:∀x:HgT,kH x=kS x.1++[wayI x,x.2.2]:=fun x=>rfl
 rw[e,e,lexI_app (show(kS x.1).length=(kS y.1).length from rfl),lexI_kS]
 unfold cfG cfH
 by_cases h:cfS x.1 y.1=0
 ·rw[if_pos h,decide_eq_true h,cond_true]
  rw[lexI_cons,lexI_cons,lexI_nil]
  by_cases h2:c3 (wayI x) (wayI y)=0
  ·rw[if_pos h2,if_pos h2]
   by_cases h3:c3 x.2.2 y.2.2=0
   ·rw[if_pos h3,h3]
   ·rw[if_neg h3]
  ·rw[if_neg h2,if_neg h2]
 ·rw[if_neg h,decide_eq_false h,cond_false,if_neg h]
theorem flat_len {α:Type} {f:α→List Int} {z:Nat} (hf:∀x,(f x).length=z):∀l:List α,(l.flatMap f).length=l.length*z
 | []=>by simp
 | x::l=>by rw[List.flatMap_cons,List.length_append,hf,flat_len hf l,List.length_cons,Nat.add_mul];omega
def lexF {α:Type} (cf:α→α→Int):List α→List α→Int
 | [],[]=>0
 | [],_::_=> -1
 | _::_,[]=>1
 | x::l,y::k=>if cf x y=0 then lexF cf l k else cf x y
theorem lexF_flat {α:Type} {f:α→List Int} {cf:α→α→Int} {z:Nat} (hf:∀x,(f x).length=z) (hc:∀x y,lexI (f x) (f y)=cf x y):∀ {l k:List α},l.length=k.length→lexI (l.flatMap f) (k.flatMap f)=lexF cf l k
 | [],[],_=>rfl
 | [],_::_,h=>by simp at h
 | _::_,[],h=>by simp at h
 | x::l,y::k,h=>by
   rw[List.flatMap_cons,List.flatMap_cons,lexI_app (by rw[hf,hf]),hc,lexF_flat hf hc (l:=l) (k:=k) (by simpa using h)]
   rfl
theorem cmpN_eq (a b:List SqT×List HgT):cmpN a b=if c3 a.1.length b.1.length≠0 then c3 a.1.length b.1.length else if lexF cfS a.1 b.1≠0 then lexF cfS a.1 b.1 else if c3 a.2.length b.2.length≠0 then c3 a.2.length b.2.length else lexF cfG a.2 b.2:=by
 unfold cmpN kN
 have hcons:∀(x y:Int) (l k:List Int),lexI (x::l) (y::k)=if c3 x y=0 then lexI l k else c3 x y:=fun x y l k=>rfl
 rw[List.cons_append,List.cons_append,hcons]
 by_cases h1:c3 a.1.length b.1.length=0
 ·rw[if_pos h1,if_neg (by simpa using h1)]
  have e1:a.1.length=b.1.length:=by have:=c3_0.1 h1;omega
  rw[lexI_app (by rw[flat_len (f:=kS) (z:=2) fun _=>rfl,flat_len (f:=kS) (z:=2) fun _=>rfl,e1]),lexF_flat (f:=kS) (z:=2) (fun _=>rfl) lexI_kS e1]
  by_cases h2:lexF cfS a.1 b.1=0
  ·rw[if_pos h2,if_neg (by simpa using h2),hcons]
   by_cases h3:c3 a.2.length b.2.length=0
   ·rw[if_pos h3,if_neg (by simpa using h3)]
    have e2:a.2.length=b.2.length:=by have:=c3_0.1 h3;omega
    rw[lexF_flat (f:=kH) (z:=4) (fun _=>rfl) lexI_kH e2]
   ·rw[if_neg h3,if_pos h3]
  ·rw[if_neg h2,if_pos h2]
 ·rw[if_neg h1,if_pos h1]
theorem flat_inj {α:Type} {f:α→List Int} {z:Nat} (hf:∀x,(f x).length=z) (hi:∀x y,f x=f y→x=y):∀ {l k:List α},l.length=k.length→l.flatMap f=k.flatMap f→l=k
 | [],[],_,_=>rfl
 | [],_::_,h,_=>by simp at h
 | _::_,[],h,_=>by simp at h
 | x::l,y::k,h,e=>by
   rw[List.flatMap_cons,List.flatMap_cons] at e
   obtain⟨h1,h2⟩:=List.append_inj e (by rw[hf,hf])
   rw[hi x y h1,flat_inj hf hi (l:=l) (k:=k) (by simpa using h) h2]
theorem kN_inj {a b:List SqT×List HgT} (h:kN a=kN b):a=b:=by
 unfold kN at h
 have h0:(a.1.length:Int)=b.1.length:=by
  have:=congrArg List.head? h
  simpa using this
 have h0:a.1.length=b.1.length:=by omega
 obtain⟨h1,h2⟩:=List.append_inj h (by rw[List.length_cons,List.length_cons,flat_len (f:=kS) (z:=2) fun _=>rfl,flat_len (f:=kS) (z:=2) fun _=>rfl,h0])
 simp only[List.cons.injEq] at h1 h2
 have e1:=flat_inj (f:=kS) (z:=2) (fun _=>rfl) (fun x y e=>by
  unfold kS at e
  simp only[List.cons.injEq,and_true] at e
  exact Prod.ext e.2 e.1) h0 h1.2
 have e2:=flat_inj (f:=kH) (z:=4) (fun _=>rfl) (fun x y e=>by
  obtain⟨x1,x2,x3⟩:=x
  obtain⟨y1,y2,y3⟩:=y
  unfold kH wayI at e
  simp only[List.cons.injEq,and_true] at e
  have:x2=y2:=by
   have:=e.2.2.1
   cases x2<;>cases y2<;>first | rfl | (simp at this)
  rw[this,e.2.2.2]
  exact congrArg (·,_) (Prod.ext e.2.1 e.1)) (by omega) h2.2
 exact Prod.ext e1 e2
theorem cmpN_0 {a b:List SqT×List HgT}:cmpN a b=0↔a=b:=by
 unfold cmpN
 rw[lexI_0]
 exact⟨kN_inj,fun e=>by rw[e]⟩
end X
end Go.Vm
