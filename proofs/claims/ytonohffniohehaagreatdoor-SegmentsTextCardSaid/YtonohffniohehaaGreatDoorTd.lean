/-
  Words: a text is cut at its spaces, and put together again.
  Segments: texts of lines and of segments.
  Segments: texts of segments; the law SegmentsText.
  Segments: Parse; the law SegmentsText.
  Segments: the chapter's examples, run by the kernel.
  Segments: the law SegmentsText.
-/
import Derived.Test.YtonohffniohehaaGreatDoorTb
set_option linter.unusedSimpArgs false
set_option linter.unusedVariables false
set_option linter.unusedSectionVars false
set_option linter.unnecessarySimpa false
namespace Go.Vm
namespace X
open W
def splB (c:UInt8):List UInt8→List (List UInt8)
 | []=>[[]]
 | b::l=>if b=c then []::splB c l else match splB c l with
   | w::ws=>(b::w)::ws
   | []=>[[b]]
theorem index_ne {b c:UInt8} {l:List UInt8} (h:b≠c):Lib.index (b::l) [c]=if Lib.index l [c]== -1 then -1 else Lib.index l [c] +1:=by
 rw[Lib.index]
 have:([c]:List UInt8).isPrefixOf (b::l)=false:=by simp[List.isPrefixOf];exact fun e=>h e.symm
 rw[this];simp
theorem index_self {c:UInt8} {l:List UInt8}:Lib.index (c::l) [c]=0:=by
 rw[Lib.index]
 simp[List.isPrefixOf]
theorem splitK_ne {b c:UInt8} {l:List UInt8} (h:b≠c):∀k,∃w ws,Lib.splitK [c] 0 k l=w::ws∧Lib.splitK [c] 0 k (b::l)=(b::w)::ws
 | 0=>⟨l,[],rfl,rfl⟩
 | k+1=>by
   unfold Lib.splitK
   rw[index_ne h]
   by_cases h1:Lib.index l [c]= -1
   ·simp only[h1]
    exact⟨l,[],by simp,by simp⟩
   ·have hge:=Lib.index_ge l [c]
    have e1:(Lib.index l [c]== -1)=false:=by simpa using h1
    have e2:(Lib.index l [c] +1== -1)=false:=by simp;omega
    simp only[e1,e2,Bool.false_eq_true,if_false]
    obtain⟨j,hj⟩:=Int.eq_ofNat_of_zero_le (show 0≤Lib.index l [c] by omega)
    rw[hj]
    refine⟨_,_,rfl,?_⟩
    have e3:((j:Int)+1).toNat=j+1:=by omega
    simp only[e3,Int.toNat_natCast,Nat.add_zero,List.take_succ_cons,List.length_singleton,List.drop_succ_cons]
theorem split_spl (c:UInt8):∀s:List UInt8,Lib.split s [c]=splB c s
 | []=>by
   unfold Lib.split
   rw[Lib.count_one]
   rfl
 | b::l=>by
   have ih:=split_spl c l
   unfold Lib.split at ih ⊢
   by_cases h:b=c
   ·subst h
    rw[Lib.count_cons_eq,Nat.add_comm]
    unfold Lib.splitK
    rw[index_self]
    simp only[splB,if_true]
    rw[←ih]
    simp
   ·rw[Lib.count_cons_ne _ _ _ h]
    obtain⟨w,ws,e1,e2⟩:=splitK_ne h (Lib.count l [c])
    rw[e2]
    simp only[splB,h,if_false]
    rw[←ih,e1]
theorem spl_app {c:UInt8} {r:List UInt8} {v:List UInt8} {vs:List (List UInt8)} (hr:splB c r=v::vs):∀ {w:List UInt8},c∉w→splB c (w++r)=(w++v)::vs
 | [],_=>hr
 | b::w,h=>by
   have hb:b≠c:=fun e=>h (by rw[e];exact List.mem_cons_self ..)
   rw[List.cons_append]
   unfold splB
   rw[if_neg hb,spl_app hr (fun hm=>h (List.mem_cons_of_mem _ hm))]
   rfl
theorem spl_join {c:UInt8}:∀ {w:List UInt8} {ws:List (List UInt8)},(∀x∈w::ws,c∉x)→splB c (Lib.join (w::ws) [c])=w::ws
 | w,[],h=>by
   rw[Lib.join_one]
   have:=spl_app (c:=c) (r:=[]) (v:=[]) (vs:=[]) rfl (h w (List.mem_cons_self ..))
   simpa using this
 | w,w'::ws,h=>by
   have ih:=spl_join (c:=c) (w:=w') (ws:=ws) fun x hx=>h x (List.mem_cons_of_mem _ hx)
   have e:Lib.join (w::w'::ws) [c]=w++(c::Lib.join (w'::ws) [c]):=by
    rw[Lib.join_cons,Lib.join_cons]
    simp[Lib.joinTail]
   rw[e]
   have:=spl_app (c:=c) (r:=c::Lib.join (w'::ws) [c]) (v:=[]) (vs:=splB c (Lib.join (w'::ws) [c])) (by rw[splB,if_pos rfl]) (h w (List.mem_cons_self ..))
   rw[this,ih];simp
theorem u8_back {w:List Nat} (h:∀x∈w,x<256):(u8 w).map UInt8.toNat=w:=by
 unfold u8
 rw[List.map_map]
 conv=>rhs;rw[←List.map_id w]
 refine List.map_congr_left fun x hx=>?_
 have:=h x hx
 simp[Function.comp,UInt8.toNat_ofNat,Nat.mod_eq_of_lt this]
theorem back_u8 (w:List UInt8):u8 (w.map UInt8.toNat)=w:=by
 unfold u8
 rw[List.map_map]
 conv=>rhs;rw[←List.map_id w]
 exact List.map_congr_left fun x hx=>by simp[Function.comp]
theorem join_words {w:List Nat} {ws:List (List Nat)} (h:∀x∈w::ws,(∀y∈x,y<256∧y≠32)):words (joinS (w::ws) [32]) [32]=w::ws:=by
 unfold joinS words
 rw[back_u8,show u8 [32]=[32] from rfl,split_spl,List.map_cons,spl_join,←List.map_cons (f:=u8),List.map_map]
 ·conv=>rhs;rw[←List.map_id (w::ws)]
  exact List.map_congr_left fun x hx=>u8_back fun y hy=>(h x hx y hy).1
 ·intro x hx hm
  rw[←List.map_cons] at hx
  obtain⟨x',hx',rfl⟩:=List.mem_map.1 hx
  obtain⟨y,hy,e⟩:=List.mem_map.1 hm
  have:=h x' hx' y hy
  have e2:y=32:=by
   have:=congrArg UInt8.toNat e
   simpa[UInt8.toNat_ofNat,Nat.mod_eq_of_lt (h x' hx' y hy).1] using this
  exact this.2 e2
theorem splB_len {c:UInt8}:∀s:List UInt8,(splB c s).length≤s.length+1∧∀w∈splB c s,w.length≤s.length
 | []=>by simp[splB]
 | b::l=>by
   obtain⟨h1,h2⟩:=splB_len (c:=c) l
   unfold splB
   split
   ·refine⟨by simp;omega,fun w hw=>?_⟩
    rcases List.mem_cons.1 hw with rfl | hw
    ·simp
    ·have:=h2 w hw;simp;omega
   ·split
    ·rename_i w ws e
     rw[e] at h1 h2
     refine⟨by simp at h1 ⊢;omega,fun x hx=>?_⟩
     rcases List.mem_cons.1 hx with rfl | hx
     ·have:=h2 w (List.mem_cons_self ..);simpa using this
     ·have:=h2 x (List.mem_cons_of_mem _ hx);simp;omega
    ·refine⟨by simp,fun x hx=>?_⟩
     rw[List.mem_singleton.1 hx];simp
theorem words_len (s:List Nat):(words s [32]).length≤s.length+1∧∀w∈words s [32],w.length≤s.length:=by
 obtain⟨h1,h2⟩:=splB_len (c:=32) (u8 s)
 unfold words
 rw[show u8 [32]=[32] from rfl,split_spl]
 refine⟨by simpa[u8] using h1,fun w hw=>?_⟩
 obtain⟨w',hw',rfl⟩:=List.mem_map.1 hw
 simpa[u8] using h2 w' hw'
end X
end Go.Vm
namespace Go.Vm
namespace X
open W Go.RowKit
theorem eqNL_eq:∀ {a b:List Nat},eqNL a b=true→a=b
 | [],[],_=>rfl
 | [],b::m,h=>by cases h
 | a::l,[],h=>by cases h
 | a::l,b::m,h=>by
   simp only[eqNL,Bool.and_eq_true] at h
   rw[Nat.eq_of_beq_eq_true h.1,eqNL_eq h.2]
def nm (n:Int):List Nat:=(strconv_Itoa fuel n).getD []
structure NumOK (n:Int):Prop where
 it:strconv_Itoa fuel n=some (nm n)
 de:ref01_Decimal fuel n=some (nm n)
 at':strconv_Atoi fuel (nm n)=some (n,true)
 ch:∀y∈nm n,45≤y∧y≤57
 ne:1≤(nm n).length
 le:(nm n).length≤5
 l1:Go.Proofs.S07.lpFin (120::32::nm n)=(1,n)
 l2:Go.Proofs.S07.lpFin (121::32::nm n)=(2,n)
 l3:Go.Proofs.S07.lpFin (117::32::nm n)=(3,n)
 l4:Go.Proofs.S07.lpFin (100::32::nm n)=(4,n)
theorem lpIs_eq {k:Int} {b:Nat} {n:Int} {s:List Nat} (h:lpIs k b n s=true):Go.Proofs.S07.lpFin (b::32::s)=(k,n):=by
 unfold lpIs at h
 split at h
 rename_i a c e
 simp only[Bool.and_eq_true,ieq_dec,decide_eq_true_eq] at h
 rw[e,h.1,h.2]
theorem num_ok {n:Int} (h1: -4096≤n) (h2:n≤4096):NumOK n:=by
 have h:=num_all h1 h2
 unfold okN at h
 cases hs:strconv_Itoa fuel n with
 | none=>rw[hs] at h;cases h
 | some s=>
   have en:nm n=s:=by unfold nm;rw[hs];rfl
   rw[hs] at h
   simp only[Bool.and_eq_true] at h
   obtain⟨⟨⟨⟨⟨⟨a1,a2⟩,a3⟩,a4⟩,a5⟩,a6⟩,a7⟩:=h
   unfold isNum at a3
   simp only[Bool.and_eq_true,List.all_eq_true,ble_dec,decide_eq_true_eq] at a3
   obtain⟨⟨b1,b2⟩,b3⟩:=a3
   refine⟨by rw[en];exact hs,?_,?_,fun y hy=>?_,by rw[en];exact b2,by rw[en];exact b3,by rw[en];exact lpIs_eq a4,by rw[en];exact lpIs_eq a5,by rw[en];exact lpIs_eq a6,by rw[en];exact lpIs_eq a7⟩
   ·rw[en]
    cases hd:ref01_Decimal fuel n with
    | none=>rw[hd] at a1;cases a1
    | some t=>rw[hd] at a1;rw[eqNL_eq a1]
   ·rw[en]
    cases hd:strconv_Atoi fuel s with
    | none=>rw[hd] at a2;cases a2
    | some r=>
      obtain⟨a,b⟩:=r
      rw[hd] at a2
      simp only[Bool.and_eq_true,ieq_dec,decide_eq_true_eq] at a2
      rw[a2.1,a2.2]
   ·rw[en] at hy
    have:=b1 y hy
    omega
def VL (l:Int×Int):Prop:=1≤l.1∧l.1≤4∧ -4096≤l.2∧l.2≤4096
def ltr (k:Int):Nat:=([32,120,121,117,100]:List Nat).getD k.toNat 0
def lnT (l:Int×Int):List Nat:=ltr l.1::32::nm l.2
theorem wrap8 {k:Int} (h:0≤k) (h2:k≤254):IntKind.u8.wrap (k+1)=k+1:=by
 unfold IntKind.wrap
 simp[IntKind.bits,IntKind.signed]
 omega
abbrev SgT:=Int×((Int×Int)×(Int×Int))
structure OrdP (x:SgT):Prop where
 k1:1≤x.1
 k3:x.1≤3
 l1:1≤x.2.1.1
 l4:x.2.1.1≤4
 c0: -4096≤x.2.1.2
 c1:x.2.1.2≤4096
 ft:x.2.2.1<x.2.2.2
theorem lines_Check_ok (l:Int×Int):lines_Check fuel l=some 0∧(1≤l.1∧l.1≤4∧ -4096≤l.2∧l.2≤4096)∨lines_Check fuel l=some 1∧¬(1≤l.1∧l.1≤4∧ -4096≤l.2∧l.2≤4096):=by
 unfold lines_Check
 by_cases h1:l.1<1
 ·simp only[h1,decide_true,cond_true];exact .inr ⟨trivial,by omega⟩
 by_cases h2:4<l.1
 ·simp only[h1,h2,decide_true,decide_false,cond_true,cond_false];exact .inr ⟨trivial,by omega⟩
 by_cases h3:l.2 < -4096
 ·simp only[h1,h2,h3,decide_true,decide_false,cond_true,cond_false];exact .inr ⟨trivial,by omega⟩
 by_cases h4:4096<l.2
 ·simp only[h1,h2,h3,h4,decide_true,decide_false,cond_true,cond_false];exact .inr ⟨trivial,by omega⟩
 simp only[h1,h2,h3,h4,decide_false,cond_false]
 exact .inl ⟨trivial,by omega⟩
theorem ordinary_ok (x:SgT):∃b,segments_ordinary fuel x=some b∧(b=true↔OrdP x):=by
 unfold segments_ordinary
 by_cases h1:1≤x.1
 rotate_left
 ·simp only[h1,decide_false,cond_false];exact⟨_,rfl,by simp;intro h;exact h1 h.k1⟩
 by_cases h2:x.1≤3
 rotate_left
 ·simp only[h1,h2,decide_true,decide_false,cond_true,cond_false];exact⟨_,rfl,by simp;intro h;exact h2 h.k3⟩
 simp only[h1,h2,decide_true,cond_true]
 rcases lines_Check_ok (x.2.1.1,x.2.1.2) with⟨e,g⟩ | ⟨e,g⟩
 ·rw[e,Option.bind_some]
  simp only[decide_true,cond_true]
  simp only at g
  exact⟨_,rfl,by simp only[decide_eq_true_eq];exact⟨fun h=>⟨h1,h2,g.1,g.2.1,g.2.2.1,g.2.2.2,h⟩,fun h=>h.ft⟩⟩
 ·rw[e,Option.bind_some]
  simp only[show((1:Int)=0)=False by simp,decide_false,cond_false]
  exact⟨_,rfl,by simp;intro h;exact g ⟨h.l1,h.l4,h.c0,h.c1⟩⟩
theorem ref_Valid_ok (l:Int×Int):ref01_Valid fuel l=some 1∧(1≤l.1∧l.1≤4∧ -4096≤l.2∧l.2≤4096)∨ref01_Valid fuel l=some 0∧¬(1≤l.1∧l.1≤4∧ -4096≤l.2∧l.2≤4096):=by
 by_cases h1:1≤l.1
 rotate_left
 ·exact .inr ⟨by unfold ref01_Valid;simp only[h1,decide_false,cond_false],by omega⟩
 by_cases h2:l.1≤4
 rotate_left
 ·exact .inr ⟨by unfold ref01_Valid;simp only[h1,h2,decide_true,decide_false,cond_true,cond_false],by omega⟩
 by_cases h3: -4096≤l.2
 rotate_left
 ·exact .inr ⟨by unfold ref01_Valid;simp only[h1,h2,h3,decide_true,decide_false,cond_true,cond_false],by omega⟩
 by_cases h4:l.2≤4096
 rotate_left
 ·exact .inr ⟨by unfold ref01_Valid;simp only[h1,h2,h3,h4,decide_true,decide_false,cond_true,cond_false],by omega⟩
 exact .inl ⟨by unfold ref01_Valid;simp only[h1,h2,h3,h4,decide_true,cond_true],by omega⟩
theorem lines_Text_ok (l:Int×Int):VL l∧lines_Text fuel l=some (lnT l)∨¬VL l∧lines_Text fuel l=some []:=by
 rcases lines_Check_ok l with⟨e,h⟩ | ⟨e,h⟩
 ·left
  refine⟨h,?_⟩
  obtain⟨h1,h2,h3,h4⟩:=h
  have hn:=num_ok h3 h4
  have hle:=hn.le
  unfold lines_Text
  rw[show((l.1,l.2):Int×Int)=l from rfl,e,Option.bind_some]
  have hw:=wrap8 (k:=l.1) (by omega) (by omega)
  rw[hw,hn.it,Option.bind_some]
  have hk:l.1=1∨l.1=2∨l.1=3∨l.1=4:=by omega
  unfold lnT ltr
  generalize nm l.2=s at hle
  rcases hk with e | e | e | e<;>(rw[e];simp[chk,bnb,Bool.cond_decide];try omega)
 ·right
  refine⟨h,?_⟩
  unfold lines_Text
  rw[show((l.1,l.2):Int×Int)=l from rfl,e,Option.bind_some]
  rfl
theorem ref_Text_ok {l:Int×Int} (h:VL l):ref01_Text fuel l=some (lnT l):=by
 obtain⟨h1,h2,h3,h4⟩:=h
 have hn:=num_ok h3 h4
 have hle:=hn.le
 unfold ref01_Text
 rw[hn.de,Option.bind_some]
 have hk:l.1=1∨l.1=2∨l.1=3∨l.1=4:=by omega
 unfold lnT ltr
 generalize nm l.2=s at hle
 rcases hk with e | e | e | e<;>(rw[e];simp[chk,inb,Bool.cond_decide];try omega)
end X
end Go.Vm
namespace Go.Vm
namespace X
open W Go.RowKit
def kLt (k:Int):Nat:=([32,109,118,97]:List Nat).getD k.toNat 0
def sgT (x:SgT):List Nat:=((((([kLt x.1]++[32])++lnT x.2.1)++[32])++nm x.2.2.1)++[32])++nm x.2.2.2
structure OkX (x:SgT):Prop where
 o:OrdP x
 f0: -4096≤x.2.2.1
 t1:x.2.2.2≤4096
theorem lnT_len {l:Int×Int} (h:VL l):(lnT l).length≤7:=by
 have:=(num_ok h.2.2.1 h.2.2.2).le
 unfold lnT
 simp only[List.length_cons]
 omega
theorem OkX.vl {x:SgT} (h:OkX x):VL x.2.1:=⟨h.o.l1,h.o.l4,h.o.c0,h.o.c1⟩
theorem seg_Text_ok (x:SgT):OkX x∧segments_Text fuel x=some (sgT x)∨¬OkX x∧segments_Text fuel x=some []:=by
 obtain⟨b,hb,hb2⟩:=ordinary_ok x
 by_cases ho:OrdP x
 rotate_left
 ·refine .inr ⟨fun h=>ho h.o,?_⟩
  unfold segments_Text
  rw[show(x.1,((x.2.1.1,x.2.1.2),(x.2.2.1,x.2.2.2)))=x from rfl,hb,Option.bind_some]
  cases b with
  | true=>exact absurd (hb2.1 rfl) ho
  | false=>rfl
 have eb:b=true:=hb2.2 ho
 subst eb
 by_cases h1:x.2.2.1 < -4096
 ·refine .inr ⟨fun h=>by have:=h.f0;omega,?_⟩
  unfold segments_Text
  rw[show(x.1,((x.2.1.1,x.2.1.2),(x.2.2.1,x.2.2.2)))=x from rfl,hb,Option.bind_some]
  simp only[Bool.not_true,cond_false,h1,decide_true,cond_true]
 by_cases h2:4096<x.2.2.2
 ·refine .inr ⟨fun h=>by have:=h.t1;omega,?_⟩
  unfold segments_Text
  rw[show(x.1,((x.2.1.1,x.2.1.2),(x.2.2.1,x.2.2.2)))=x from rfl,hb,Option.bind_some]
  simp only[Bool.not_true,cond_false,h1,h2,decide_false,decide_true,cond_true]
 have hx:OkX x:=⟨ho,by omega,by omega⟩
 have hv:=hx.vl
 have hft:=ho.ft
 have n1:=num_ok (n:=x.2.2.1) (by omega) (by omega)
 have n2:=num_ok (n:=x.2.2.2) (by omega) (by omega)
 have hl:=lnT_len hv
 have le1:=n1.le
 have le2:=n2.le
 have hk:x.1=1∨x.1=2∨x.1=3:=by have:=ho.k1;have:=ho.k3;omega
 have hL:lines_Text fuel (x.2.1.1,x.2.1.2)=some (lnT x.2.1):=by
  rcases lines_Text_ok x.2.1 with⟨_,e⟩ | ⟨h,_⟩
  ·exact e
  ·exact absurd hv h
 refine .inl ⟨hx,?_⟩
 unfold segments_Text
 rw[show(x.1,((x.2.1.1,x.2.1.2),(x.2.2.1,x.2.2.2)))=x from rfl,hb,Option.bind_some]
 simp only[Bool.not_true,cond_false,h1,h2,decide_false]
 rw[wrap8 (k:=x.1) (by omega) (by omega),hL,Option.bind_some,n1.it,Option.bind_some,n2.it,Option.bind_some]
 unfold sgT kLt
 generalize nm x.2.2.1=s1 at le1
 generalize nm x.2.2.2=s2 at le2
 generalize lnT x.2.1=s3 at hl
 rcases hk with e | e | e<;>(rw[e];simp[chk,bnb,Bool.cond_decide];try omega)
theorem ref_SegText {x:SgT} (hx:OkX x):ref07_Text fuel x=some (sgT x):=by
 have hv:=hx.vl
 have hft:=hx.o.ft
 have f0:=hx.f0
 have t1:=hx.t1
 have n1:=num_ok (n:=x.2.2.1) (by omega) (by omega)
 have n2:=num_ok (n:=x.2.2.2) (by omega) (by omega)
 have hl:=lnT_len hv
 have le1:=n1.le
 have le2:=n2.le
 have hk:x.1=1∨x.1=2∨x.1=3:=by have:=hx.o.k1;have:=hx.o.k3;omega
 unfold ref07_Text
 rw[show(x.2.1.1,x.2.1.2)=x.2.1 from rfl,ref_Text_ok hv,Option.bind_some,n1.de,Option.bind_some,n2.de,Option.bind_some]
 unfold sgT kLt
 generalize nm x.2.2.1=s1 at le1
 generalize nm x.2.2.2=s2 at le2
 generalize lnT x.2.1=s3 at hl
 rcases hk with e | e | e<;>(rw[e];simp[chk,inb,Bool.cond_decide];try omega)
end X
end Go.Vm
namespace Go.Vm
namespace X
open W Go.RowKit
theorem join1 {w:List Nat} (h:∀y∈w,y<256):joinS [w] [32]=w:=by
 simp only[joinS,List.map_cons,List.map_nil,Lib.join_one]
 exact u8_back h
theorem join_snoc {w0:List Nat} {ws:List (List Nat)} {w:List Nat} (h:∀y∈w,y<256):joinS ((w0::ws)++[w]) [32]=joinS (w0::ws) [32]++32::w:=by
 have e:(u8 w).map UInt8.toNat=w:=u8_back h
 simp only[joinS,List.cons_append,List.map_cons,List.map_append,List.map_nil,Lib.join_cons]
 simp only[Lib.joinTail,List.map_append,List.flatten_append,List.map_cons,List.map_nil,List.flatten_cons,List.flatten_nil,List.append_nil,List.append_assoc,e]
 congr 2
theorem lparse_tot (s:List Nat):∃r,lines_Parse fuel s=some r:=by
 have htx:∀l:Int×Int,∃t,lines_Text fuel l=some t∧asc t=true:=fun l=>by
  rcases lines_Text_ok l with⟨hv,e⟩ | ⟨_,e⟩
  ·refine⟨_,e,?_⟩
   have hn:=num_ok hv.2.2.1 hv.2.2.2
   unfold lnT asc
   rw[List.all_eq_true]
   intro y hy
   have hl:ltr l.1<128:=by
    unfold ltr
    have hk:l.1=1∨l.1=2∨l.1=3∨l.1=4:=by have:=hv.1;have:=hv.2.1;omega
    rcases hk with e | e | e | e<;>(rw[e];decide)
   simp only[Nat.blt,ble_dec,decide_eq_true_eq]
   rcases List.mem_cons.1 hy with rfl | hy
   ·omega
   ·rcases List.mem_cons.1 hy with rfl | hy
    ·omega
    ·have:=hn.ch y hy;omega
  ·exact⟨_,e,rfl⟩
 unfold lines_Parse lparseR
 cases asc s with
 | true=>
   obtain⟨t,ht,_⟩:=htx (Go.Proofs.S07.lpFin s)
   rw[cond_true,ht]
   exact⟨_,rfl⟩
 | false=>
   rw[cond_false]
   unfold lpNone
   rw[if_pos fun k c _=>htx (k,c)]
   exact⟨_,rfl⟩
theorem atoi_tot {s:List Nat} (h:s.length≤1000000):∃r,strconv_Atoi fuel s=some r:=by
 unfold strconv_Atoi atoiR
 rw[ble_dec,decide_eq_true h,cond_true]
 split<;>exact⟨_,rfl⟩
theorem split_ok {t:List Nat} (h:t.length≤1000):strings_Split fuel (t,[32])=some (words t [32]):=by
 unfold strings_Split splitR
 simp only
 rw[ble_dec,decide_eq_true (by omega)]
 rfl
theorem idx_tot {w:List Nat} (h:w.length=1):∃r,strings_Index fuel ([32,109,118,97],w)=some r:=by
 unfold strings_Index indexR
 match w,h with
 | [c],_=>exact⟨_,rfl⟩
abbrev zSg:SgT:=(0,((0,0),(0,0)))
theorem parse_any {s:List Nat} (h:s.length≤1000):∃r,segments_Parse fuel s=some r∧(r=(zSg,4)∨(r.2=0∧segments_Text fuel r.1=some s∧s≠[])):=by
 suffices hs:Ret (segments_Parse fuel s) fun r=>(r=(zSg,4)∨(r.2=0∧segments_Text fuel r.1=some s∧s≠[])) from hs
 obtain⟨hw1,hw2⟩:=words_len s
 have hlen:∀i,i< (words s [32]).length→((words s [32]).getD i []).length≤1000:=fun i hi=>by
  rw[List.getD_eq_getElem?_getD,List.getElem?_eq_getElem hi,Option.getD_some]
  exact Nat.le_trans (hw2 _ (List.getElem_mem hi)) h
 unfold segments_Parse
 rw[split_ok h,Option.bind_some]
 refine Ret_dec (fun _=>Ret_some (.inl rfl)) fun h5=>?_
 have h5:(words s [32]).length=5:=by have:=Classical.not_not.1 h5;omega
 have hin:∀i:Nat,i<5→inb (i:Int) (words s [32]).length=true:=fun i hi=>inb_t (by omega) (by rw[h5];omega)
 have hne:s≠[]:=fun e=>by rw[e] at h5;exact absurd h5 (by decide)
 refine Ret_chk (hin 0 (by omega)) (Ret_dec (fun _=>Ret_some (.inl rfl)) fun h1=>?_)
 have h1:((words s [32]).getD 0 []).length=1:=by have:=Classical.not_not.1 h1;omega
 have l1:=hlen 1 (by omega)
 have l2:=hlen 2 (by omega)
 have l3:=hlen 3 (by omega)
 have l4:=hlen 4 (by omega)
 obtain⟨r2,e2⟩:=lparse_tot (((words s [32]).getD 1 []++[32])++(words s [32]).getD 2 [])
 obtain⟨r3,e3⟩:=atoi_tot (s:=(words s [32]).getD 3 []) (by omega)
 obtain⟨r4,e4⟩:=atoi_tot (s:=(words s [32]).getD 4 []) (by omega)
 obtain⟨r5,e5⟩:=idx_tot h1
 refine Ret_chk (hin 1 (by omega)) (Ret_chk (by rw[decide_eq_true_eq];omega) (Ret_chk (hin 2 (by omega)) (Ret_chk (by rw[decide_eq_true_eq,List.length_append,List.length_singleton];omega) ?_)))
 rw[e2,Option.bind_some]
 refine Ret_chk (hin 3 (by omega)) ?_
 rw[e3,Option.bind_some]
 refine Ret_chk (hin 4 (by omega)) ?_
 rw[e4,Option.bind_some]
 refine Ret_chk (hin 0 (by omega)) ?_
 rw[e5,Option.bind_some]
 refine Ret_dec (fun _=>Ret_some (.inl rfl)) fun _=>Ret_bif (fun _=>Ret_some (.inl rfl)) fun _=>Ret_bif (fun _=>Ret_some (.inl rfl)) fun _=>?_
 have hT:∃t,segments_Text fuel (IntKind.u8.wrap (max r5 0),((r2.1.1,r2.1.2),(r3.1,r4.1)))=some t:=by
  rcases seg_Text_ok (IntKind.u8.wrap (max r5 0),((r2.1.1,r2.1.2),(r3.1,r4.1))) with⟨_,e⟩ | ⟨_,e⟩<;>exact⟨_,e⟩
 obtain⟨t,et⟩:=hT
 rw[et,Option.bind_some]
 refine Ret_dec (fun _=>Ret_some (.inl rfl)) fun hr=>Ret_some (.inr ⟨rfl,?_,hne⟩)
 have hr:t=s:=Classical.not_not.1 hr
 rw[←hr]
 exact et
theorem kLt_ok {k:Int} (h:1≤k∧k≤3):kLt k<256∧kLt k≠32:=by
 have hk:k=1∨k=2∨k=3:=by omega
 unfold kLt
 rcases hk with rfl | rfl | rfl<;>decide
theorem ltr_ok {k:Int} (h:1≤k∧k≤4):ltr k<256∧ltr k≠32:=by
 have hk:k=1∨k=2∨k=3∨k=4:=by omega
 unfold ltr
 rcases hk with rfl | rfl | rfl | rfl<;>decide
theorem sgT_words {x:SgT} (hx:OkX x):words (sgT x) [32]=[[kLt x.1],[ltr x.2.1.1],nm x.2.1.2,nm x.2.2.1,nm x.2.2.2]:=by
 have hv:=hx.vl
 have hft:=hx.o.ft
 have f0:=hx.f0
 have t1:=hx.t1
 have n0:=num_ok hv.2.2.1 hv.2.2.2
 have n1:=num_ok (n:=x.2.2.1) (by omega) (by omega)
 have n2:=num_ok (n:=x.2.2.2) (by omega) (by omega)
 have k1:=kLt_ok ⟨hx.o.k1,hx.o.k3⟩
 have k2:=ltr_ok ⟨hv.1,hv.2.1⟩
 have c1:∀y∈[ltr x.2.1.1],y<256:=fun y hy=>by rw[List.mem_singleton.1 hy];exact k2.1
 have c0:∀y∈[kLt x.1],y<256:=fun y hy=>by rw[List.mem_singleton.1 hy];exact k1.1
 have cn:∀ {n:Int},NumOK n→∀y∈nm n,y<256:=fun h y hy=>by have:=h.ch y hy;omega
 have e:sgT x=joinS ([kLt x.1]::[[ltr x.2.1.1],nm x.2.1.2,nm x.2.2.1,nm x.2.2.2]) [32]:=by
  have j1:=join1 c0
  have j2:=join_snoc (w0:=[kLt x.1]) (ws:=[]) c1
  have j3:=join_snoc (w0:=[kLt x.1]) (ws:=[[ltr x.2.1.1]]) (cn n0)
  have j4:=join_snoc (w0:=[kLt x.1]) (ws:=[[ltr x.2.1.1],nm x.2.1.2]) (cn n1)
  have j5:=join_snoc (w0:=[kLt x.1]) (ws:=[[ltr x.2.1.1],nm x.2.1.2,nm x.2.2.1]) (cn n2)
  simp only[List.cons_append,List.nil_append] at j2 j3 j4 j5
  rw[j5,j4,j3,j2,j1]
  simp[sgT,lnT]
 rw[e,join_words]
 intro w hw y hy
 simp only[List.mem_cons,List.not_mem_nil,or_false] at hw
 rcases hw with rfl | rfl | rfl | rfl | rfl
 ·rw[List.mem_singleton.1 hy];exact k1
 ·rw[List.mem_singleton.1 hy];exact k2
 ·have:=n0.ch y hy;omega
 ·have:=n1.ch y hy;omega
 ·have:=n2.ch y hy;omega
theorem sgT_len {x:SgT} (hx:OkX x):(sgT x).length≤40:=by
 have hv:=hx.vl
 have hft:=hx.o.ft
 have f0:=hx.f0
 have t1:=hx.t1
 have n1:=(num_ok (n:=x.2.2.1) (by omega) (by omega)).le
 have n2:=(num_ok (n:=x.2.2.2) (by omega) (by omega)).le
 have n0:=lnT_len hv
 unfold sgT
 simp only[List.length_append,List.length_singleton]
 omega
theorem lparse_ok {l:Int×Int} (hv:VL l):lines_Parse fuel (lnT l)=some (l,0):=by
 have hn:=num_ok hv.2.2.1 hv.2.2.2
 have ha:asc (lnT l)=true:=by
  unfold lnT asc
  rw[List.all_eq_true]
  intro y hy
  have hl:ltr l.1<128:=by
   unfold ltr
   have hk:l.1=1∨l.1=2∨l.1=3∨l.1=4:=by have:=hv.1;have:=hv.2.1;omega
   rcases hk with e | e | e | e<;>(rw[e];decide)
  simp only[Nat.blt,ble_dec,decide_eq_true_eq]
  rcases List.mem_cons.1 hy with rfl | hy
  ·omega
  ·rcases List.mem_cons.1 hy with rfl | hy
   ·omega
   ·have:=hn.ch y hy;omega
 have hf:Go.Proofs.S07.lpFin (lnT l)=l:=by
  have hk:l.1=1∨l.1=2∨l.1=3∨l.1=4:=by have:=hv.1;have:=hv.2.1;omega
  unfold lnT ltr
  rcases hk with e | e | e | e
  ·rw[e];exact hn.l1.trans (Prod.ext e.symm rfl)
  ·rw[e];exact hn.l2.trans (Prod.ext e.symm rfl)
  ·rw[e];exact hn.l3.trans (Prod.ext e.symm rfl)
  ·rw[e];exact hn.l4.trans (Prod.ext e.symm rfl)
 have ht:lines_Text fuel l=some (lnT l):=by
  rcases lines_Text_ok l with⟨_,e⟩ | ⟨h,_⟩
  ·exact e
  ·exact absurd hv h
 unfold lines_Parse lparseR
 rw[ha,cond_true,hf,ht,Option.bind_some]
 have:(lnT l).isEmpty=false:=rfl
 rw[this]
 simp
theorem idx_ok {k:Int} (h:1≤k∧k≤3):strings_Index fuel ([32,109,118,97],[kLt k])=some k:=by
 have hk:k=1∨k=2∨k=3:=by omega
 unfold kLt
 rcases hk with rfl | rfl | rfl<;>rfl
theorem parse_text {x:SgT} (hx:OkX x):segments_Parse fuel (sgT x)=some (x,0):=by
 have hv:=hx.vl
 have hft:=hx.o.ft
 have f0:=hx.f0
 have t1:=hx.t1
 have n0:=num_ok hv.2.2.1 hv.2.2.2
 have n1:=num_ok (n:=x.2.2.1) (by omega) (by omega)
 have n2:=num_ok (n:=x.2.2.2) (by omega) (by omega)
 have le0:=n0.le
 have hk:1≤x.1∧x.1≤3:=⟨hx.o.k1,hx.o.k3⟩
 have hT:segments_Text fuel x=some (sgT x):=by
  rcases seg_Text_ok x with⟨_,e⟩ | ⟨h,_⟩
  ·exact e
  ·exact absurd hx h
 apply Ret.eq
 unfold segments_Parse
 rw[split_ok (by have:=sgT_len hx;omega),Option.bind_some,sgT_words hx]
 refine Ret_dec (fun g=>absurd (by rfl) g) fun _=>Ret_chk rfl (Ret_dec (fun g=>absurd (by rfl) g) fun _=>Ret_chk rfl (Ret_chk rfl (Ret_chk rfl (Ret_chk ?_ ?_))))
 ·rw[decide_eq_true_eq]
  show([ltr x.2.1.1]++[32]).length+ (nm x.2.1.2).length≤_
  simp only[List.length_append,List.length_singleton]
  omega
 have e1:(([[kLt x.1],[ltr x.2.1.1],nm x.2.1.2,nm x.2.2.1,nm x.2.2.2]:List (List Nat)).getD 1 []++[32])++([[kLt x.1],[ltr x.2.1.1],nm x.2.1.2,nm x.2.2.1,nm x.2.2.2]:List (List Nat)).getD 2 []=lnT x.2.1:=rfl
 have e3:([[kLt x.1],[ltr x.2.1.1],nm x.2.1.2,nm x.2.2.1,nm x.2.2.2]:List (List Nat)).getD 3 []=nm x.2.2.1:=rfl
 have e4:([[kLt x.1],[ltr x.2.1.1],nm x.2.1.2,nm x.2.2.1,nm x.2.2.2]:List (List Nat)).getD 4 []=nm x.2.2.2:=rfl
 have e0:([[kLt x.1],[ltr x.2.1.1],nm x.2.1.2,nm x.2.2.1,nm x.2.2.2]:List (List Nat)).getD 0 []=[kLt x.1]:=rfl
 rw[e1,lparse_ok hv,Option.bind_some]
 refine Ret_chk rfl ?_
 rw[e3,n1.at',Option.bind_some]
 refine Ret_chk rfl ?_
 rw[e4,n2.at',Option.bind_some]
 refine Ret_chk rfl ?_
 rw[e0,idx_ok hk,Option.bind_some]
 have hw:IntKind.u8.wrap (max x.1 0)=x.1:=by
  rcases(by omega:x.1=1∨x.1=2∨x.1=3) with e | e | e<;>(rw[e];rfl)
 refine Ret_dec (fun g=>absurd rfl g) fun _=>Ret_bif (fun g=>by cases g) fun _=>Ret_bif (fun g=>by cases g) fun _=>?_
 rw[hw,show(x.1,((x.2.1.1,x.2.1.2),(x.2.2.1,x.2.2.2)))=x from rfl,hT,Option.bind_some]
 exact Ret_dec (fun g=>absurd rfl g) fun _=>Ret_some rfl
end X
end Go.Vm
namespace Go.Vm
namespace X
open W
theorem lives07:law07_lives fuel ()=some true:=by kernel_rfl
end X
end Go.Vm
namespace Go.Vm
namespace X
open W Go.RowKit
theorem livesT:Ret ((law07_lives fuel ()).bind fun r=>some r) fun x=>x=true:=by rw[lives07];exact Ret_some rfl
theorem SegmentsText_true {x:SgT} {s:List Nat}:law07_SegmentsText fuel (x,s)=some true:=by
 apply Ret.eq
 unfold law07_SegmentsText
 refine Ret_dec (fun _=>Ret_some rfl) fun hl=>?_
 have hl:s.length≤40:=by simp only at hl;omega
 refine Ret_jn (fun b=>b=true↔OkX x) (fun b hb=>?_) fun j hj=>?_
 rotate_left
 ·refine Ret_dec (fun h1=>?_) fun h1=>hj _ ⟨fun g=>(by cases g),fun g=>absurd g.o.k1 h1⟩
  refine Ret_dec (fun h2=>?_) fun h2=>hj _ ⟨fun g=>(by cases g),fun g=>absurd g.o.k3 h2⟩
  rcases ref_Valid_ok x.2.1 with⟨e,hv⟩ | ⟨e,hv⟩
  ·rw[show((x.2.1.1,x.2.1.2):Int×Int)=x.2.1 from rfl,e,Option.bind_some]
   refine Ret_dec (fun _=>?_) fun g=>absurd rfl g
   refine Ret_dec (fun h3=>?_) fun h3=>hj _ ⟨fun g=>(by cases g),fun g=>absurd g.o.ft h3⟩
   refine Ret_dec (fun h4=>?_) fun h4=>hj _ ⟨fun g=>(by cases g),fun g=>absurd g.f0 h4⟩
   refine hj _ ⟨fun g=>⟨⟨h1,h2,hv.1,hv.2.1,hv.2.2.1,hv.2.2.2,h3⟩,h4,by simpa using g⟩,fun g=>by simpa using g.t1⟩
  ·rw[show((x.2.1.1,x.2.1.2):Int×Int)=x.2.1 from rfl,e,Option.bind_some]
   exact Ret_dec (fun g=>absurd g (by decide)) fun _=>hj _ ⟨fun g=>(by cases g),fun g=>absurd ⟨g.o.l1,g.o.l4,g.o.c0,g.o.c1⟩ hv⟩
 refine Ret_jn (fun w=>segments_Text fuel x=some w) (fun w hw=>?_) fun j hj=>?_
 ·rw[show(x.1,((x.2.1.1,x.2.1.2),(x.2.2.1,x.2.2.2)))=x from rfl,hw,Option.bind_some]
  refine Ret_dec (fun g=>absurd rfl g) fun _=>?_
  obtain⟨r,hr,h⟩:=parse_any (s:=s) (by omega)
  rw[hr,Option.bind_some]
  rcases h with rfl | ⟨h1,h2,h3⟩
  ·refine Ret_dec (fun _=>Ret_dec (fun _=>Ret_bif (fun _=>livesT) fun g=>by cases g) fun g=>absurd rfl g) fun g=>absurd (by decide) g
  ·refine Ret_dec (fun g=>absurd h1 g) fun _=>?_
   rcases seg_Text_ok r.1 with⟨ho,e⟩ | ⟨_,e⟩
   ·rw[h2] at e
    have e:s=sgT r.1:=Option.some.inj e
    refine Ret_dec (fun _=>Ret_dec (fun _=>Ret_dec (fun _=>?_) fun g=>absurd ho.t1 g) fun g=>absurd ho.f0 g) fun g=>absurd ho.o.ft g
    rw[show(r.1.1,((r.1.2.1.1,r.1.2.1.2),(r.1.2.2.1,r.1.2.2.2)))=r.1 from rfl,ref_SegText ho,Option.bind_some]
    exact Ret_dec (fun _=>livesT) fun g=>absurd e.symm g
   ·rw[h2] at e
    exact absurd (Option.some.inj e) h3
 ·refine Ret_bif (fun hbt=>?_) fun hbf=>hj _ ?_
  ·have ho:=hb.1 hbt
   have hT:segments_Text fuel x=some (sgT x):=by
    rcases seg_Text_ok x with⟨_,e⟩ | ⟨h,_⟩
    ·exact e
    ·exact absurd ho h
   rw[show(x.1,((x.2.1.1,x.2.1.2),(x.2.2.1,x.2.2.2)))=x from rfl,ref_SegText ho,Option.bind_some,parse_text ho,Option.bind_some]
   refine Ret_jn (fun b=>b=false) (fun b hb=>?_) fun j6 hj6=>?_
   ·subst hb
    exact hj _ hT
   ·exact Ret_bif (fun g=>by simp at g) fun _=>hj6 _ (by simp)
  ·rcases seg_Text_ok x with⟨h,_⟩ | ⟨_,e⟩
   ·rw[hb.2 h] at hbf;cases hbf
   ·exact e
end X
end Go.Vm
