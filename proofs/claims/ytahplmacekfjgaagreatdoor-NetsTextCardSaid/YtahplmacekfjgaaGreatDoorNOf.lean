/-
  An append to a slice that came in: the tape stays; and what a call beside it leaves.
  Nets: vectors and frames.
  Nets: the hinges that (N).Of adds to those of the tree, as a plain function.
  A jkm function: (N).Of: the tree's call, hinges behind those of the tree (which may lie behind them in memory), and the last call.
  A jkm function: (N).Of: the machine's answer is right.
  A jkm function: (N).Of: the whole.
  The extraction: (N).Of of the nets, jkm.
  Nets: the orders of squares and of hinges.
-/
import Derived.Handy
import Derived.Deep.Onto
import Derived.Deep.AppendLies
import Derived.Test.YtahplmacekfjgaaGreatDoorXG8
set_option linter.unusedSimpArgs false
set_option linter.unusedVariables false
set_option linter.unusedSectionVars false
set_option linter.unnecessarySimpa false
namespace Go
open Go.RowKit
section
variable {W:World} {e:TypeId} {size:Nat} {ao:Option Addr} {b off len cap:Nat} {olds:List Value} {w w':World} {v:Value} {m:Nat} {ks:List Value}
theorem Onto.below (h:Onto W e size ao b off len cap olds w v m ks) (hc:Came W size ao b off len cap olds) (hB:Below w.heap.size w w'):Onto W e size ao b off len cap olds w' v m ks:=
 h.carry hc hB.os hB.output (fun i hi=>hB.block i (Nat.lt_of_lt_of_le hi h.kept.size)) fun ho=>
  ho.kept (row:=none) ⟨hB.os,hB.tape,hB.output,hB.size,fun k hk _=>hB.block k hk⟩ (by
   cases hv:v.ownBlock with
   | none=>exact .inl rfl
   | some k=>exact .inr (by simp))
end
section
variable {P:Program}
theorem jq2 {W:World} {e:TypeId} {size:Nat} {ao:Option Addr} {b off len cap:Nat} {olds:List Value} (hc:Came W size ao b off len cap olds) (hmax:cap≤maxLen)
  (t ty:TypeId) (i:TypeInfo) (z:Value) (bytes:Nat) (ht:P.underlying t=some (.slice e)) (hi:P.info? e=some i) (hz:i.zero=some z) (hsize:i.size=size) (hby:i.bytes=bytes) (hzs:z.cells.size=size) (hsz:0<size)
  {w:World} {v:Value} {m:Nat} {ks:List Value} (h:Onto W e size ao b off len cap olds w v m ks)
  (ad:Addr) (c:Nat) (news:List Value) (hl:news.length=1*size) (hnews:∀j u,news[j]?=some u→w.cell? (ad.add j)=some u) (h1:∀u∈news,u.oneCell'=true)
  (h63:len+m+1≤maxLen) (hbytes:(len+m+1)*bytes≤140737488355328):
  ∃v' w',(Builtin.append_ #[t,t] ty #[v,.slice (some ad) 1 c]).run P w=.ok v' w'∧Onto W e size ao b off len cap olds w' v' (m+1) (ks++news)∧w'.tape=w.tape:=by
 obtain⟨v',w',hrun,r⟩:=run_append_onto (P:=P) hc t ty i z bytes ht hi hz hsize hby hzs hsz h ad c news hl hnews h1 h63 hbytes
 refine⟨v',w',hrun,r,?_⟩
 have key:∀v2 w2,(Builtin.append_ #[t,t] ty #[v,.slice (some ad) 1 c]).run P w=.ok v2 w2→w2.tape=w.tape→w'.tape=w.tape:=fun v2 w2 h2 h3=>by
  rw[hrun] at h2
  cases h2
  exact h3
 subst hsize
 have hkl:=h.ksLen
 have hnl:news.length=i.size:=by rw[hl,Nat.one_mul]
 have tpc:∀(vs:List Value) (g o:Nat) (u:World),(u.setCells g o vs).tape=u.tape:=by
  intro vs
  induction vs with
  | nil=>intro g o u;rfl
  | cons x vs ih=>intro g o u;rw[World.setCells,ih];rfl
 rcases h.val with⟨hle,rfl⟩ | ⟨hgt,hown⟩
 ·by_cases hr:len+m+1≤cap
  ·have hcap:0<cap:=by omega
   have hao:=hc.addr hcap
   subst hao
   have hrc:(m+1)*i.size≤(cap-len)*i.size:=Nat.mul_le_mul_right _ (by omega)
   rw[Nat.add_mul,Nat.one_mul] at hrc
   have eaddr:∀j,off+ (len+m)*i.size+j=off+len*i.size+ (m*i.size+j):=fun j=>by rw[Nat.add_mul];omega
   refine key _ _ (run_append_room_cells (P:=P) w t ty e i ht hi b off (len+m) cap ad 1 c news hl hnews h1 hr (fun j hj=>?_) (fun j hj=>?_)) (tpc _ _ _ _)
   ·rw[eaddr,h.old (hc.lt hcap) (fun j' a1 _ ⟨_,a3⟩=>by omega)]
    exact(hc.spare (m*i.size+j) (by omega)).1
   ·rw[h.frozen _ (hc.lt hcap),eaddr]
    exact(hc.spare (m*i.size+j) (by omega)).2
  ·rcases Nat.eq_zero_or_pos cap with h0 | hcap
   ·subst h0
    obtain rfl:len=0:=by omega
    obtain rfl:m=0:=by omega
    cases ao with
    | none=>
      obtain⟨v2,w2,hrun2,r1,r2,_⟩:=run_append_own (P:=P) w w.heap.size t ty e i z i.size bytes ht hi hz rfl hby hzs hsz (.slice none 0 0) 0 [] (World.ownsRow_nil w _ e i.size) ad 1 c news hl hnews h1 (by simpa using h63) (by simpa using hbytes) (Nat.le_refl _)
      exact key _ _ hrun2 r2.tape
    | some a'=>
      obtain⟨v2,w2,hrun2,r1,r2⟩:=run_append_arg_grows (P:=P) w t ty e i z i.size bytes ht hi hz rfl hby hzs hsz a' 0 0 [] (by simp) (by intro _ _ h';simp at h') ad 1 c news hl hnews (by omega) (by simpa using h63) (by simpa using hbytes)
      exact key _ _ hrun2 r2.tape
   ·obtain⟨g,o',cap',e1,_,_,e2⟩:=h.value hc hmax (.inl hcap)
    have hao:=hc.addr hcap
    subst hao
    cases e1
    obtain⟨v2,w2,hrun2,r1,r2⟩:=run_append_arg_grows (P:=P) w t ty e i z i.size bytes ht hi hz rfl hby hzs hsz ⟨b,off,none⟩ (len+m) cap (olds++ks) (by rw[List.length_append,hc.oldsLen,hkl,Nat.add_mul]) (fun j u hu=>by
     rw[Addr.add_lit]
     have hj:j< (len+m)*i.size:=by
      have:=(List.getElem?_eq_some_iff.1 hu).1
      rw[List.length_append,hc.oldsLen,hkl,←Nat.add_mul] at this
      exact this
     exact(e2 j hj).trans hu) ad 1 c news hl hnews (by omega) h63 hbytes
    exact key _ _ hrun2 r2.tape
 ·obtain⟨v2,w2,hrun2,r1,r2,_⟩:=run_append_own (P:=P) w W.heap.size t ty e i z i.size bytes ht hi hz rfl hby hzs hsz v (len+m) (olds++ks) hown ad 1 c news hl hnews h1 h63 hbytes h.kept.size
  exact key _ _ hrun2 r2.tape
theorem jkn {ops:Array Oper} {o:Oper} {a:Act} {K:Act→World→Prop} {Q:Exit→Act→World→Prop} {E:Prop} {w:World} (hgd:o.guard=none) (s x:Operand) (t:TypeId)
  (ho:o.op=.call { callee:=.builtin .append,args:=#[s,x],argTypes:=#[t,t] })
  {W:World} {e:TypeId} {size:Nat} {ao:Option Addr} {b off len cap:Nat} {olds:List Value} (hc:Came W size ao b off len cap olds) (hmax:cap≤maxLen)
  (i:TypeInfo) (z:Value) (bytes:Nat) (ht:P.underlying t=some (.slice e)) (hi:P.info? e=some i) (hz:i.zero=some z) (hsize:i.size=size) (hby:i.bytes=bytes) (hzs:z.cells.size=size) (hsz:0<size)
  {v:Value} {m:Nat} {ks:List Value} (hs:a.eval s=v) (h:Onto W e size ao b off len cap olds w v m ks) (htp:w.tape=W.tape)
  (ad:Addr) (c:Nat) (news:List Value) (hx:a.eval x=.slice (some ad) 1 c) (hl:news.length=1*size) (hnews:∀j u,news[j]?=some u→w.cell? (ad.add j)=some u) (h1:∀u∈news,u.oneCell'=true)
  (h63:len+m+1≤maxLen) (hbytes:(len+m+1)*bytes≤140737488355328)
  (hK:∀v' w',Onto W e size ao b off len cap olds w' v' (m+1) (ks++news)→w'.tape=W.tape→K (a.put o.dst v') w'):
  if Region.wanted o (yielded ops a.tmps)=true then Oper.wp P o a w K Q else E:=by
 have hw:Region.wanted o (yielded ops a.tmps)=true:=by simp[Region.wanted,hgd]
 rw[if_pos hw]
 obtain⟨v',w',hrun,r,tp⟩:=jq2 (P:=P) hc hmax t o.type i z bytes ht hi hz hsize hby hzs hsz h ad c news hl hnews h1 h63 hbytes
 unfold Oper.wp
 simp[execOp,ho,resolve,invoke,builtin,hs,hx,hrun,Result.andThen]
 exact hK v' w' r (tp.trans htp)
end
end Go
namespace Go.Vm
namespace X
abbrev fu (nn:Nat):Nat:=nn+1000000
abbrev FrT:Type:=List Int×(List Int×List Int)
abbrev SqT:Type:=Int×Int
abbrev HgT:Type:=(Int×Int)×(Bool×Int)
def kio (a b:List Int) (k:Int):List Int:=[a.getD 0 0+k*b.getD 0 0,a.getD 1 0+k*b.getD 1 0,a.getD 2 0+k*b.getD 2 0]
def kjo (a b:List Int):List Int:=[a.getD 1 0*b.getD 2 0-a.getD 2 0*b.getD 1 0,a.getD 2 0*b.getD 0 0-a.getD 0 0*b.getD 2 0,a.getD 0 0*b.getD 1 0-a.getD 1 0*b.getD 0 0]
def kjx (a b:List Int):Int:=a.getD 0 0*b.getD 0 0+a.getD 1 0*b.getD 1 0+a.getD 2 0*b.getD 2 0
def kee:List (List Int):=[[1,0,0],[-1,0,0],[0,1,0],[0, -1,0],[0,0,1],[0,0, -1]]
def RU:List (List Int×List Int):=kee.flatMap fun r=>(kee.filter fun u=>decide (kjx r u=0)).map fun u=>(r,u)
def khs (d front:List Int) (b:Int):List Int:=if b=0 then d else kio [0,0,0] front b
def ovF (f:FrT) (h:HgT):FrT:=if h.2.1=true then(kio f.1 f.2.2 1,(f.2.1,khs f.2.2 (kjo f.2.1 f.2.2) h.2.2)) else(kio f.1 f.2.1 1,(khs f.2.1 (kjo f.2.1 f.2.2) h.2.2,f.2.2))
def kau:FrT:=([0,0,0],([1,0,0],[0,1,0]))
structure FrOK (B:Int) (f:FrT):Prop where
 len:f.1.length=3
 lo:∀k:Nat,k<3→ -B≤f.1.getD k 0
 hi:∀k:Nat,k<3→f.1.getD k 0≤B
 ru:f.2∈RU
def ltS (s t:SqT):Prop:=s.2<t.2∨(s.2=t.2∧s.1<t.1)
instance (s t:SqT):Decidable (ltS s t):=by unfold ltS;infer_instance
theorem j6o (s t:SqT):ltS s t∨s=t∨ltS t s:=by
 obtain⟨a,b⟩:=s;obtain⟨c,d⟩:=t
 unfold ltS
 simp only[Prod.mk.injEq]
 omega
theorem jlr (s:SqT):¬ltS s s:=by unfold ltS;omega
theorem jh4 {s t u:SqT} (h:ltS s t) (k:ltS t u):ltS s u:=by unfold ltS at *;omega
def j37 (s t:SqT):Int:=if ltS s t then -1 else if s=t then 0 else 1
def jef (h:HgT):SqT:=if h.2.1=true then(h.1.1,h.1.2+1) else(h.1.1+1,h.1.2)
def jtl (h:HgT):Int:=if h.2.1=true then 1 else 0
def ltH (g h:HgT):Prop:=ltS g.1 h.1∨(g.1=h.1∧jtl g<jtl h)
def Sorted (L:List SqT):Prop:=L.Pairwise ltS
theorem Sorted.nodup {L:List SqT} (h:Sorted L):L.Nodup:=h.imp fun {a b} hab e=>by subst e;exact jlr a hab
def idxS (L:List SqT) (s:SqT):Int:=if s∈L then(L.idxOf s:Nat) else -1
theorem js0 {L:List SqT} (h:L.Nodup) {i:Nat} (hi:i<L.length):idxS L (L.getD i (0,0))=i:=by
 have e:L.getD i (0,0)=L[i]:=by rw[List.getD,List.getElem?_eq_getElem hi];rfl
 rw[e,idxS,if_pos (List.getElem_mem _),h.idxOf_getElem i hi]
theorem jia {L:List SqT} {s:SqT} (h:s∈L):0≤idxS L s∧(idxS L s).toNat<L.length∧L.getD (idxS L s).toNat (0,0)=s:=by
 have h1:=List.idxOf_lt_length_of_mem h
 rw[idxS,if_pos h]
 refine⟨by omega,by omega,?_⟩
 rw[Int.toNat_natCast,List.getD,List.getElem?_eq_getElem h1,Option.getD_some,List.getElem_idxOf h1]
theorem jrf {L:List SqT} {s:SqT}:idxS L s<0↔s∉L:=by
 unfold idxS
 by_cases h:s∈L
 ·rw[if_pos h];simp[h]
 ·rw[if_neg h];simp[h]
theorem j2g {L:List SqT} {s t:SqT} (hs:s∈L) (ht:t∈L) (e:idxS L s=idxS L t):s=t:=by
 rw[←(jia hs).2.2,e,(jia ht).2.2]
def Connd (L:List SqT) (H:List HgT):Prop:=∀C:SqT→Prop,(∃s∈L,C s)→(∀h∈H,(C h.1↔C (jef h)))→∀s∈L,C s
theorem Connd.one (s:SqT):Connd [s] []:=fun C ⟨t,ht,hc⟩ _ u hu=>by
 simp at ht hu
 subst ht;subst hu;exact hc
theorem Connd.cons {L:List SqT} {H:List HgT} (h:Connd L H) {s:SqT} {g:HgT} (hg:(g.1=s∧jef g∈L)∨(jef g=s∧g.1∈L)):Connd (L++[s]) (H++[g]):=fun C ⟨t,ht,hc⟩ hh u hu=>by
 have hgc:=hh g (by simp)
 have ex:∃t∈L,C t:=by
  rcases List.mem_append.1 ht with g1 | g1
  ·exact⟨t,g1,hc⟩
  ·simp at g1
   subst g1
   rcases hg with⟨a,b⟩ | ⟨a,b⟩
   ·exact⟨_,b,hgc.1 (by rw[a];exact hc)⟩
   ·exact⟨_,b,hgc.2 (by rw[a];exact hc)⟩
 have all:=h C ex fun x hx=>hh x (List.mem_append_left _ hx)
 rcases List.mem_append.1 hu with g1 | g1
 ·exact all u g1
 ·simp at g1
  subst g1
  rcases hg with⟨a,b⟩ | ⟨a,b⟩
  ·rw[←a];exact hgc.2 (all _ b)
  ·rw[←a];exact hgc.1 (all _ b)
theorem Connd.more {L L':List SqT} {H H':List HgT} (h:Connd L H) (hL:∀s,s∈L↔s∈L') (hH:∀g∈H,g∈H'):Connd L' H':=fun C ⟨t,ht,hc⟩ hh u hu=>
 h C ⟨t,(hL t).2 ht,hc⟩ (fun g hg=>hh g (hH g hg)) u ((hL u).2 hu)
end X
end Go.Vm
namespace Go.Vm
namespace X
def kj4 (s:SqT) (u:Bool):SqT:=if u=true then(s.1,s.2+1) else(s.1+1,s.2)
def jju (H:List HgT) (s:SqT) (u:Bool):Bool:=H.any fun g=>decide (g.1=s)&&decide (g.2.1=u)
def kjc (c k:Int):Bool:=(c / 2^ (k%64).toNat).tmod 2==1
def jqd (b k:Int):Int:=((b.fdiv (2^ (min (k.tmod 62).toNat 64))).tmod 4).tmod 3-1
def jdn (S:List SqT) (H:List HgT) (c b:Int) (st:List HgT×Int) (p:SqT×Bool):List HgT×Int:=
 if kj4 p.1 p.2∈S∧jju H p.1 p.2=false then(if kjc c st.2=true then st.1++[(p.1,(p.2,jqd b st.2))] else st.1,st.2+1) else st
def prs (S:List SqT):List (SqT×Bool):=S.flatMap fun s=>[(s,false),(s,true)]
def jxp (S:List SqT) (H:List HgT) (c b:Int) (l:List (SqT×Bool)):List HgT×Int:=l.foldl (jdn S H c b) (H,0)
def ofL (S:List SqT) (H:List HgT) (c b:Int):List HgT:=(jxp S H c b (prs S)).1
def okT (S:List SqT) (H:List HgT):Bool:=S.length.ble 64&&H.length.ble 1000&&S.all fun s=>decide (-1000≤s.1)&&decide (s.1≤1000)&&decide (-1000≤s.2)&&decide (s.2≤1000)
theorem jwl {b:Int} (hb:0≤b) (k:Int): -1≤jqd b k∧jqd b k≤1:=by
 unfold jqd
 have hx:0≤b.fdiv (2^ (min (k.tmod 62).toNat 64)):=Int.fdiv_nonneg hb (by exact Int.le_of_lt (Int.pow_pos (by decide)))
 generalize b.fdiv _=x at hx
 have h1:=Int.tmod_nonneg 4 hx
 have h2:=Int.tmod_nonneg 3 h1
 have h3:=Int.tmod_lt_of_pos (x.tmod 4) (show(0:Int)<3 by decide)
 omega
theorem jp3 {H:List HgT} {s:SqT} {u:Bool}:jju H s u=true↔∃g∈H,g.1=s∧g.2.1=u:=by
 unfold jju
 rw[List.any_eq_true]
 simp only[Bool.and_eq_true,decide_eq_true_eq]
structure OfInv (S:List SqT) (H:List HgT) (l:List (SqT×Bool)) (st:List HgT×Int):Prop where
 pre:∃X,st.1=H++X∧∀g∈X,(g.1,g.2.1)∈l∧jef g∈S∧jju H g.1 g.2.1=false∧ -1≤g.2.2∧g.2.2≤1
 kd:st.1.Pairwise fun a b=>¬(a.1=b.1∧a.2.1=b.2.1)
 n0:0≤st.2
 n1:st.2≤l.length
 len:st.1.length≤H.length+l.length
theorem OfInv.step {S:List SqT} {H:List HgT} {l:List (SqT×Bool)} {st:List HgT×Int} (h:OfInv S H l st) (c:Int) {b:Int} (hb:0≤b) {p:SqT×Bool} (hp:p∉l):OfInv S H (l++[p]) (jdn S H c b st p):=by
 obtain⟨X,e,hX⟩:=h.pre
 have wk:∀g∈X,(g.1,g.2.1)∈l++[p]∧jef g∈S∧jju H g.1 g.2.1=false∧ -1≤g.2.2∧g.2.2≤1:=fun g hg=>⟨List.mem_append_left _ (hX g hg).1,(hX g hg).2⟩
 have n0:=h.n0;have n1:=h.n1;have ln:=h.len
 unfold jdn
 split
 ·rename_i hc
  split
  ·refine⟨⟨X++[(p.1,(p.2,jqd b st.2))],by rw[e,List.append_assoc],fun g hg=>?_⟩,?_,by simp only;omega,by simp;omega,by simp;omega⟩
   ·rcases List.mem_append.1 hg with g1 | g1
    ·exact wk g g1
    ·rw[List.mem_singleton.1 g1]
     exact⟨by simp,hc.1,hc.2,jwl hb _⟩
   ·simp only
    rw[List.pairwise_append]
    refine⟨h.kd,List.pairwise_singleton _ _,fun x hx y hy ⟨e1,e2⟩=>?_⟩
    rw[List.mem_singleton.1 hy] at e1 e2
    simp only at e1 e2
    rw[e] at hx
    rcases List.mem_append.1 hx with g1 | g1
    ·have:jju H p.1 p.2=true:=jp3.2 ⟨x,g1,e1,e2⟩
     rw[hc.2] at this
     cases this
    ·have:=(hX x g1).1
     rw[e1,e2] at this
     exact hp this
  ·exact⟨⟨X,e,wk⟩,h.kd,by simp only;omega,by simp;omega,by simp;omega⟩
 ·exact⟨⟨X,e,wk⟩,h.kd,n0,by simp;omega,by simp;omega⟩
theorem OfInv.all {S:List SqT} {H:List HgT} {c b:Int} (hb:0≤b):∀(l pre:List (SqT×Bool)) (st:List HgT×Int),OfInv S H pre st→(pre++l).Nodup→OfInv S H (pre++l) (l.foldl (jdn S H c b) st)
 | [],pre,st,h,_=>by rw[List.append_nil];exact h
 | p::l,pre,st,h,hn=>by
   have e:pre++p::l=(pre++[p])++l:=by simp
   rw[e] at hn ⊢
   refine OfInv.all hb l (pre++[p]) _ (h.step c hb fun hp=>?_) hn
   rw[List.nodup_append] at hn
   have:=(List.nodup_append.1 hn.1).2.2 p hp p (by simp)
   exact this rfl
theorem OfInv.start {S:List SqT} {H:List HgT} (hk:H.Pairwise fun a b=>¬(a.1=b.1∧a.2.1=b.2.1)):OfInv S H [] (H,0):=
 ⟨⟨[],by simp,fun g hg=>by cases hg⟩,hk,by simp,by simp,by simp⟩
theorem jxh:∀ {S:List SqT},S.Nodup→(prs S).Nodup
 | [],_=>by simp[prs]
 | s::S,h=>by
   obtain⟨h1,h2⟩:=List.nodup_cons.1 h
   have ih:=jxh h2
   have hs:∀u,(s,u)∉prs S:=fun u hm=>by
    unfold prs at hm
    rw[List.mem_flatMap] at hm
    obtain⟨t,ht,e⟩:=hm
    have:s=t:=by
     simp only[List.mem_cons,Prod.mk.injEq,List.not_mem_nil,or_false] at e
     rcases e with e | e<;>exact e.1
    exact h1 (this▸ht)
   show((s,false)::(s,true)::prs S).Nodup
   rw[List.nodup_cons,List.nodup_cons]
   exact⟨by simp[hs false],hs true,ih⟩
theorem jz0:∀(S:List SqT),(prs S).length=2*S.length
 | []=>rfl
 | s::S=>by
   have:=jz0 S
   show((s,false)::(s,true)::prs S).length=_
   simp only[List.length_cons,this]
   omega
theorem kb8 {S:List SqT} {H:List HgT} (c:Int) {b:Int} (hb:0≤b) (hS:S.Nodup) (hk:H.Pairwise fun a b=>¬(a.1=b.1∧a.2.1=b.2.1)):OfInv S H (prs S) (jxp S H c b (prs S)):=by
 have:=OfInv.all (c:=c) (b:=b) hb (prs S) [] _ (OfInv.start (S:=S) hk) (by simpa using jxh hS)
 simpa[jxp] using this
end X
end Go.Vm
namespace Go.Vm
namespace W
open Go Go.RowKit Go.Vm.X
variable {P:Program} {gl:List Nat} {B:Base}
def j8r (w:World) (b o:Nat) (S:List SqT):Prop:=∀j (h:j<S.length),w.cell? ⟨b,o+j*2,none⟩=some (.int .i64 S[j].1)∧w.cell? ⟨b,o+j*2+1,none⟩=some (.int .i64 S[j].2)
def j33 (g:HgT):List Value:=[.int .i64 g.1.1,.int .i64 g.1.2,.bool g.2.1,.int .i8 g.2.2]
def jpi (H:List HgT):List Value:=H.flatMap j33
def kjf (P:Program) (fT fF tN tH:Nat) (xv:Value) (bt:Nat) (c bb:Int) (S:List SqT) (H:List HgT) (R:Ending→World→Prop) (W0:World):Prop:=
 Calls P fT #[.agg #[xv,.int .u64 c,.int .u64 bb]] W0 fun e W1=>∃sb so sc ao hb ho hcap,e=.returned (.agg #[.slice (some ⟨sb,so,none⟩) S.length sc,.slice ao H.length hcap])∧Below W0.heap.size W0 W1∧j8r W1 sb so S∧
  Came W1 4 ao hb ho H.length hcap (jpi H)∧hcap≤maxLen∧(0<hcap→W0.heap.size≤hb)∧(0<hcap→sb≠hb)∧
  ∀W2 bn hv m ks,bn=W1.heap.size→Onto (W1.alloc (.cells #[.slice (some ⟨sb,so,none⟩) S.length sc,.slice ao H.length hcap] tN)) tH 4 ao hb ho H.length hcap (jpi H) W2 hv m ks→W2.tape=W1.tape→jpi H++ks=jpi (ofL S H c bb)→
   Calls P fF #[.slice (some ⟨sb,so,none⟩) S.length sc,hv] W2 fun e2 W3=>∃qa qn qc,e2=.returned (.slice qa qn qc)∧Below W2.heap.size W2 W3∧
    ∀W4:World,W4.os=W3.os→W4.tape=W3.tape→W4.output=W3.output→W3.heap.size≤W4.heap.size→(∀x,x<W3.heap.size→x≠bt→W4.heap[x]?=W3.heap[x]?)→R (.returned (.agg #[.slice (some ⟨sb,so,none⟩) S.length sc,.slice qa qn qc])) W4
def hgA (g:HgT):List AV:=[.int .i64 g.1.1,.int .i64 g.1.2,.bool g.2.1,.int .i8 g.2.2]
def jyj (H:List HgT):List AV:=H.flatMap hgA
def rdS (c:Tr AV):Nat→Nat→Option (List SqT)
 | _,0=>some []
 | o,n+1=>match c.get o,c.get (o+1) with
   | some (.int .i64 x),some (.int .i64 y)=>match rdS c (o+2) n with
     | some l=>some ((x,y)::l)
     | none=>none
   | _,_=>none
def rdG (c:Tr AV):Nat→Nat→Option (List HgT)
 | _,0=>some []
 | o,n+1=>match c.get o,c.get (o+1),c.get (o+2),c.get (o+3) with
   | some (.int .i64 x),some (.int .i64 y),some (.bool u),some (.int .i8 b)=>match rdG c (o+4) n with
     | some l=>some (((x,y),(u,b))::l)
     | none=>none
   | _,_,_,_=>none
theorem j50 {c:Tr AV}:∀ {n o:Nat} {L:List SqT},rdS c o n=some L→L.length=n∧∀j (h:j<L.length),c.get (o+j*2)=some (.int .i64 L[j].1)∧c.get (o+j*2+1)=some (.int .i64 L[j].2)
 | 0,o,L,h=>by
   simp only[rdS,Option.some.injEq] at h
   subst h
   exact⟨rfl,fun j h=>by simp at h⟩
 | n+1,o,L,h=>by
   simp only[rdS] at h
   split at h<;>try (cases h;done)
   rename_i x y e1 e2
   split at h<;>try (cases h;done)
   rename_i l hl
   cases h
   obtain⟨h1,h2⟩:=j50 hl
   refine⟨by simp[h1],fun j hj=>?_⟩
   cases j with
   | zero=>exact⟨by simpa using e1,by simpa using e2⟩
   | succ j=>
     have:=h2 j (by simpa using hj)
     rw[show o+ (j+1)*2=o+2+j*2 by omega]
     exact this
theorem j53 {c:Tr AV}:∀ {n o:Nat} {L:List HgT},rdG c o n=some L→L.length=n∧∀j (h:j<L.length) k,k<4→c.get (o+j*4+k)=(hgA L[j])[k]?
 | 0,o,L,h=>by
   simp only[rdG,Option.some.injEq] at h
   subst h
   exact⟨rfl,fun j h=>by simp at h⟩
 | n+1,o,L,h=>by
   simp only[rdG] at h
   split at h<;>try (cases h;done)
   rename_i x y u b e1 e2 e3 e4
   split at h<;>try (cases h;done)
   rename_i l hl
   cases h
   obtain⟨h1,h2⟩:=j53 hl
   refine⟨by simp[h1],fun j hj k hk=>?_⟩
   cases j with
   | zero=>
     rcases(by omega:k=0∨k=1∨k=2∨k=3) with rfl | rfl | rfl | rfl
     ·simpa[hgA] using e1
     ·simpa[hgA] using e2
     ·simpa[hgA] using e3
     ·simpa[hgA] using e4
   | succ j=>
     have:=h2 j (by simpa using hj) k hk
     rw[show o+ (j+1)*4+k=o+4+j*4+k by omega]
     exact this
def j52 (H:Tr Blk) (nx b1:Nat):AV→Option (List HgT)
 | .nils=>some []
 | .sl b o n _ 4=>match H.get b with
   | some (.cells c m)=>bif(o+n*4).ble m&&RO.ble b&&nx.ble b&& !(b.beq b1) then rdG c o n else none
   | _=>none
 | _=>none
def jmp:AV→Option Nat
 | .sl b _ _ _ _=>some b
 | _=>none
def kit:AV→Bool
 | .nils | .sl _ _ _ _ _=>true
 | _=>false
def jgp (H:Tr Blk) (nx:Nat) (hg:AV) (L:List HgT):AV×Tr Blk×Nat:=
 match L with
 | []=>(hg,H,nx)
 | _::_=>(.sl nx 0 L.length none 4,(match jmp hg with | some b=>H.del b | none=>H).set nx (.cells (put (jyj L) 0 .e) (jyj L).length),nx+1)
def j82 (call:FuncId→List AV→Tr Blk→Nat→Nat→Out) (fT fF:FuncId) (az:List AV) (c bb:Int):Tr Blk→Nat→Nat→Out:=fun H nx _=>
 match call fT az H nx nx with
 | some (.agg [.sl b1 o1 n1 c1 2,hg],H1,nx1)=>(match H1.get b1 with
   | some (.cells cs m)=>bif(o1+n1*2).ble m&&RO.ble nx then(match rdS cs o1 n1,j52 H1 nx b1 hg with
     | some S,some G=>bif okT S G&&decide (0≤c∧c≤18446744073709551615)&&decide (0≤bb∧bb≤18446744073709551615) then
        (match call fF [.sl b1 o1 n1 c1 2,(jgp H1 nx1 hg (ofL S G c bb)).1] (jgp H1 nx1 hg (ofL S G c bb)).2.1 (jgp H1 nx1 hg (ofL S G c bb)).2.2 (jgp H1 nx1 hg (ofL S G c bb)).2.2 with
        | some (q,H3,nx3)=>bif kit q then some (.agg [.sl b1 o1 n1 c1 2,q],H3,nx3) else none
        | none=>none) else none
     | _,_=>none) else none
   | _=>none)
 | _=>none
def tOf (call:FuncId→List AV→Tr Blk→Nat→Nat→Out) (f fT fF:FuncId):jky:=fun g az=>bif Nat.beq g f then(match az with
 | [.agg [_,.int .u64 c,.int .u64 bb]]=>some (j82 call fT fF az c bb)
 | _=>none) else none
end W
end Go.Vm
namespace Go.Vm
namespace W
open Go Go.RowKit Go.Vm.X
variable {P:Program} {gl:List Nat} {B:Base}
theorem jri (H:List HgT):(jpi H).length=H.length*4:=by
 induction H with
 | nil=>rfl
 | cons g H ih=>show(j33 g++jpi H).length=_;rw[List.length_append,ih];simp[j33];omega
theorem jkd (H:List HgT):(jyj H).length=H.length*4:=by
 induction H with
 | nil=>rfl
 | cons g H ih=>show(hgA g++jyj H).length=_;rw[List.length_append,ih];simp[hgA];omega
theorem j9s (H:List HgT) {j k:Nat} (hj:j<H.length) (hk:k<4):(jpi H)[j*4+k]?=(j33 H[j])[k]?:=by
 induction H generalizing j with
 | nil=>simp at hj
 | cons g H ih=>
   show(j33 g++jpi H)[j*4+k]?=_
   cases j with
   | zero=>rw[List.getElem?_append_left (by simp[j33];omega)];simp
   | succ j=>
     have:=ih (j:=j) (by simpa using hj)
     rw[List.getElem?_append_right (by simp[j33];omega),show(j+1)*4+k-(j33 g).length=j*4+k by simp[j33];omega,this]
     simp
theorem j71 {ρ:RM}:∀(H:List HgT),VRs ρ (jyj H) (jpi H)
 | []=>by simp[jyj,jpi,VRs]
 | g::H=>by
   show VRs ρ (hgA g++jyj H) (j33 g++jpi H)
   refine VRs.append ?_ (j71 H)
   simp[hgA,j33,VRs,VR]
theorem kas {ρ:RM} {g:HgT} {k:Nat} {v:Value} (hk:k<4) (h:∃a,(hgA g)[k]?=some a∧VR ρ a v):(j33 g)[k]?=some v:=by
 obtain⟨a,h1,h2⟩:=h
 rcases(by omega:k=0∨k=1∨k=2∨k=3) with rfl | rfl | rfl | rfl<;>
  (simp only[hgA,List.getElem?_cons_zero,List.getElem?_cons_succ,Option.some.injEq] at h1;subst h1;simp only[VR] at h2;subst h2;rfl)
theorem kcv {ρ:RM} {H:Tr Blk} {W:World} {nx b1:Nat} {hg:AV} {hgv:Value} {G:List HgT} (hr:HR ρ H W) (hv:VR ρ hg hgv) (hG:j52 H nx b1 hg=some G):
  ∃ao hb ho hcap,hgv=.slice ao G.length hcap∧Came W 4 ao hb ho G.length hcap (jpi G)∧hcap≤maxLen∧
   (0<hcap→∃b2 l2 cs fr el,jmp hg=some b2∧b2≠b1∧nx≤b2∧RO≤b2∧(H.get b2).isSome∧ρ b2=some l2∧l2.blk=hb∧W.heap[hb]?=some (.cells cs el fr)∧ho+hcap*4≤l2.lim∧l2.lim≤cs.size∧l2.base≤ho∧∀i,l2.base≤i→¬(fr.1≤i∧i<fr.2))∧
   (jmp hg=none→hg=.nils):=by
 unfold j52 at hG
 split at hG<;>try (cases hG;done)
 ·cases hG
  simp only[VR] at hv
  exact⟨none,0,0,0,hv,⟨by simp,fun h=>absurd h (by omega),fun h=>absurd h (by omega),rfl,fun j u h=>by simp[jpi] at h,fun j h=>by simp at h⟩,by simp[maxLen],fun h=>absurd h (by omega),fun _=>rfl⟩
 ·rename_i b2 o2 n2 cp
  split at hG<;>try (cases hG;done)
  rename_i c m hb
  obtain⟨hc,hG⟩:=jaf hG
  simp only[Bool.and_eq_true,jab,jaa,decide_eq_true_eq,Bool.not_eq_true',decide_eq_false_iff_not] at hc
  obtain⟨⟨⟨hc1,hc2⟩,hc3⟩,hc4⟩:=hc
  simp only[VR] at hv
  obtain⟨l2,c2,off2,q1,rfl,q3,q4,q5,q6⟩:=hv
  have q6:l2.base+o2+c2*4≤l2.lim∧c2<9223372036854775808:=by
   rcases q6 with⟨_,h1,h2⟩ | ⟨_,h1,h2⟩
   ·exact⟨h1,h2 hc2⟩
   ·exact⟨by omega,h2⟩
  obtain⟨hl,hat⟩:=j53 hG
  obtain⟨cs,el,fr,r1,r2,r3,r4,r5⟩:=hr.blk b2 _ l2 hb q1
  have hRO:RO.ble b2=true:=by rw[jab];exact decide_eq_true hc2
  refine⟨some ⟨l2.blk,off2,none⟩,l2.blk,off2,c2,by rw[hl],⟨by omega,fun _=>rfl,fun _=>(Array.getElem?_eq_some_iff.1 r1).1,by rw[jri],fun j u hu=>?_,fun j hj=>?_⟩,by simp only[maxLen];omega,fun h0=>?_,fun h=>by simp[jmp] at h⟩
  ·have hj:j<G.length*4:=by rw[←jri];exact(List.getElem?_eq_some_iff.1 hu).1
   have ho:off2=l2.base+o2:=by rcases q5 with h | h<;>omega
   have hj4:j / 4<G.length:=by omega
   have e:=j9s G hj4 (show j%4<4 by omega)
   rw[show j / 4*4+j%4=j by omega,hu] at e
   obtain⟨a,v,a1,a2,a3⟩:=r5 (o2+j) (by omega)
   have:=hat (j / 4) hj4 (j%4) (by omega)
   rw[show o2+j / 4*4+j%4=o2+j by omega,a1] at this
   have:=kas (g:=G[j / 4]) (k:=j%4) (by omega) ⟨a,this.symm,a3⟩
   rw[this] at e
   cases e
   simp only[World.cell?,r1,Option.isSome_none,Bool.false_eq_true,if_false]
   rw[ho,Nat.add_assoc]
   exact a2
  ·have hc0:0<c2:=by
    rcases Nat.eq_zero_or_pos c2 with h | h
    ·subst h;simp at hj
    ·exact h
   have ho:off2=l2.base+o2:=by rcases q5 with h | h<;>omega
   have hlt:off2+G.length*4+j<cs.size:=by
    have:(c2-G.length)*4+G.length*4=c2*4:=by rw[←Nat.add_mul];congr 1;omega
    omega
   constructor
   ·simp only[World.cell?,r1,Option.isSome_none,Bool.false_eq_true,if_false]
    rw[Array.getElem?_eq_getElem hlt];rfl
   ·simp only[World.frozen?,r1]
    have:=r4 (off2+G.length*4+j) (by omega) (fun h=>by rw[hRO] at h;cases h)
    simp only[Bool.and_eq_false_iff,decide_eq_false_iff_not]
    omega
  ·have ho:off2=l2.base+o2:=by rcases q5 with h | h<;>omega
   exact⟨b2,l2,cs,fr,el,rfl,hc4,hc3,hc2,by rw[hb];rfl,q1,rfl,r1,by rw[ho];exact q6.1,r3,by omega,fun i hi=>r4 i hi (fun h=>by rw[hRO] at h;cases h)⟩
theorem jus {G L:List HgT} {ks:List Value} {m:Nat} (h:jpi G++ks=jpi L) (hk:ks.length=m*4):G.length+m=L.length:=by
 have:=congrArg List.length h
 rw[List.length_append,jri,jri,hk] at this
 omega
theorem j9i {W1 W2:World} {o:Obj} {tH:TypeId} {ao:Option Addr} {hb ho hcap m:Nat} {G L:List HgT} {hv:Value} {ks:List Value}
  (hc:Came W1 4 ao hb ho G.length hcap (jpi G)) (hmax:hcap≤maxLen) (hblk:0<hcap→∃cs fr el,W1.heap[hb]?=some (.cells cs el fr)∧ho+hcap*4≤cs.size∧∀i,ho≤i→¬(fr.1≤i∧i<fr.2))
  (hcw:Came (W1.alloc o) 4 ao hb ho G.length hcap (jpi G)) (hon:Onto (W1.alloc o) tH 4 ao hb ho G.length hcap (jpi G) W2 hv m ks) (hL:jpi G++ks=jpi L) (hne:0<L.length):
  ∃g o' cap' cs fr el,hv=.slice (some ⟨g,o',none⟩) L.length cap'∧L.length≤cap'∧cap'<9223372036854775808∧W2.heap[g]?=some (.cells cs el fr)∧o'+cap'*4≤cs.size∧(∀i,o'≤i→¬(fr.1≤i∧i<fr.2))∧
   (∀j,j<L.length*4→cs[o'+j]?=(jpi L)[j]?)∧(W1.heap.size≤g∨(0<hcap∧g=hb)):=by
 have jbh:=jus hL hon.ksLen
 obtain⟨g,o',cap',e1,e2,e3,e4⟩:=hon.value hcw hmax (by have:=hc.le;omega)
 rw[jbh] at e1 e2 e4
 rw[hL] at e4
 have cells:∀ {cs:Array Value} {el:TypeId} {fr:Nat×Nat},W2.heap[g]?=some (.cells cs el fr)→∀j,j<L.length*4→cs[o'+j]?=(jpi L)[j]?:=fun {cs el fr} h j hj=>by
  have:=e4 j hj
  simp only[World.cell?,h,Option.isSome_none,Bool.false_eq_true,if_false] at this
  exact this
 have hm:maxLen<9223372036854775808:=by simp[maxLen]
 rcases hon.val with⟨v1,v2⟩ | ⟨v1,v2⟩
 ·have hcap:0<hcap:=by omega
  rw[hc.addr hcap] at v2
  rw[e1] at v2
  simp only[Value.slice.injEq,Option.some.injEq,Addr.mk.injEq,and_true] at v2
  obtain⟨⟨rfl,rfl⟩,_,rfl⟩:=v2
  obtain⟨cs,fr,el,h1,h2,h3⟩:=hblk hcap
  have h1w:(W1.alloc o).heap[g]?=some (.cells cs el fr):=(Below.heap_alloc W1 o g (Array.getElem?_eq_some_iff.1 h1).1).trans h1
  have hk:=hon.kept.2.2 g (Array.getElem?_eq_some_iff.1 h1w).1
  rw[h1w] at hk
  split at hk
  ·rename_i c t f c' t' f' a1 a2
   cases a1
   obtain⟨rfl,rfl,hs,_⟩:=hk
   exact⟨g,o',cap',c',_,_,e1,e2,by omega,a2,by omega,h3,cells a2,.inr ⟨hcap,rfl⟩⟩
  ·rename_i a1 _;cases a1
  ·rename_i h7 _
   exact⟨g,o',cap',cs,fr,el,e1,e2,by omega,hk,h2,h3,cells hk,.inr ⟨hcap,rfl⟩⟩
 ·obtain⟨_,⟨w1,w2⟩ | ⟨g',cap2,cur,w1,w2,w3,w4,w5,w6,w7⟩⟩:=v2
  ·omega
  ·rw[e1] at w1
   simp only[Value.slice.injEq,Option.some.injEq,Addr.mk.injEq,and_true] at w1
   obtain⟨⟨rfl,rfl⟩,_,rfl⟩:=w1
   exact⟨g,0,cap',cur,(0,0),tH,e1,e2,by omega,w3,by omega,fun i _ h=>by omega,cells w3,.inl (by simp at w2;omega)⟩
theorem juh {W1 W2:World} {o:Obj} {tH:TypeId} {ao:Option Addr} {hb ho hcap m:Nat} {G:List HgT} {hv:Value} {ks:List Value}
  (hon:Onto (W1.alloc o) tH 4 ao hb ho G.length hcap (jpi G) W2 hv m ks) {x:Nat} (hx:x<W1.heap.size) (hne:0<hcap→x≠hb):W2.heap[x]?=W1.heap[x]?:=by
 rw[hon.kept.block (i:=x) (by simp;omega) (fun p ⟨j,h1,h2,e⟩=>by
  have hcap:0<hcap:=by
   rcases Nat.eq_zero_or_pos hcap with h | h
   ·subst h;simp at h2
   ·exact h
  subst e
  exact fun e=>hne hcap e.symm)]
 exact Below.heap_alloc W1 o x hx
theorem j87 {ρ1:RM} {H1:Tr Blk} {W1 W2:World} {nx nx1 ro b1:Nat} {hg:AV} {hgv hv:Value} {G L:List HgT} {o:Obj} {tH:TypeId} {ao:Option Addr} {hb ho hcap m:Nat} {ks:List Value}
  (hr:HR ρ1 H1 W1) (hvg:VR ρ1 hg hgv) (hG:j52 H1 nx b1 hg=some G) (e0:hgv=.slice ao G.length hcap) (hc:Came W1 4 ao hb ho G.length hcap (jpi G)) (hmax:hcap≤maxLen)
  (hblk:0<hcap→∃b2 l2 cs fr el,jmp hg=some b2∧b2≠b1∧nx≤b2∧RO≤b2∧(H1.get b2).isSome∧ρ1 b2=some l2∧l2.blk=hb∧W1.heap[hb]?=some (.cells cs el fr)∧ho+hcap*4≤l2.lim∧l2.lim≤cs.size∧l2.base≤ho∧∀i,l2.base≤i→¬(fr.1≤i∧i<fr.2))
  (hold:∀b,jmp hg=some b→nx≤b) (hro:ro≤nx) (hnx:nx≤nx1) (hwf:WF H1 nx1) (hfr:0<L.length→ρ1 nx1=none)
  (hcw:Came (W1.alloc o) 4 ao hb ho G.length hcap (jpi G)) (hon:Onto (W1.alloc o) tH 4 ao hb ho G.length hcap (jpi G) W2 hv m ks) (htp:W2.tape=W1.tape) (hL:jpi G++ks=jpi L):
  ∃ρ2,Step ρ1 H1 nx1 ro W1 ρ2 (jgp H1 nx1 hg L).2.1 (jgp H1 nx1 hg L).2.2 W2∧HR ρ2 (jgp H1 nx1 hg L).2.1 W2∧VR ρ2 (jgp H1 nx1 hg L).1 hv∧WF (jgp H1 nx1 hg L).2.1 (jgp H1 nx1 hg L).2.2:=by
 have hsz:W1.heap.size≤W2.heap.size:=by have:=hon.kept.size;simp at this;omega
 have jbh:=jus hL hon.ksLen
 cases L with
 | nil=>
   simp only[List.length_nil] at jbh
   have hq:Quiet W1 W2:=⟨hon.kept.1,htp,hon.kept.2.1,hsz,fun x hx=>by
    rw[hon.kept.block (i:=x) (by simp;omega) (fun p ⟨j,h1,h2,e⟩=>by have:=hon.ksLen;omega)]
    exact Below.heap_alloc W1 o x hx⟩
   refine⟨ρ1,hq.step,hq.hr hr,?_,hwf⟩
   show VR ρ1 hg hv
   have:hv=hgv:=by
    rcases hon.val with⟨v1,v2⟩ | ⟨v1,_⟩
    ·rw[v2,e0];congr 1;omega
    ·omega
   rw[this]
   exact hvg
 | cons g0 L0=>
   have hne:0< (g0::L0).length:=by simp
   obtain⟨g,o',cap',cs,fr,el,k1,k2,k3,k4,k5,k6,k7,k8⟩:=j9i hc hmax (fun h=>by
    obtain⟨b2,l2,cs,fr,el,_,_,_,_,_,_,_,h1,h2,h3,h4,h5⟩:=hblk h
    exact⟨cs,fr,el,h1,by omega,fun i hi=>h5 i (by omega)⟩) hcw hon hL hne
   have hgs:g<W2.heap.size:=(Array.getElem?_eq_some_iff.1 k4).1
   generalize hLL:g0::L0=L at *
   have hM:jgp H1 nx1 hg L=(.sl nx1 0 L.length none 4,(match jmp hg with | some b=>H1.del b | none=>H1).set nx1 (.cells (put (jyj L) 0 .e) (jyj L).length),nx1+1):=by rw[←hLL];rfl
   rw[hM]
   simp only
   generalize hH2:(match jmp hg with | some b=>H1.del b | none=>H1)=H2
   have dl:∀b k,H2.get b=some k→H1.get b=some k∧jmp hg≠some b:=fun b k h=>by
    rw[←hH2] at h
    cases hb2:jmp hg with
    | none=>rw[hb2] at h;exact⟨h,fun e=>by cases e⟩
    | some b2=>
      rw[hb2] at h
      simp only[Tr.get_del] at h
      split at h
      ·cases h
      ·rename_i hne2
       exact⟨h,fun e=>hne2 (by cases e;rfl)⟩
   have dk:∀b,jmp hg≠some b→H2.get b=H1.get b:=fun b h=>by
    rw[←hH2]
    cases hb2:jmp hg with
    | none=>rfl
    | some b2=>
      simp only[Tr.get_del]
      rw[if_neg fun e=>h (by rw[hb2,e])]
   have hle:ρ1.Le (ρ1.upd nx1 ⟨g,o',o'+cap'*4⟩):=RM.le_upd (hfr hne)
   have up1:(ρ1.upd nx1 ⟨g,o',o'+cap'*4⟩) nx1=some ⟨g,o',o'+cap'*4⟩:=by unfold RM.upd;rw[if_pos rfl]
   have upn:∀b,b≠nx1→(ρ1.upd nx1 ⟨g,o',o'+cap'*4⟩) b=ρ1 b:=fun b h=>by unfold RM.upd;rw[if_neg h]
   have far:∀b k l,H2.get b=some k→ρ1 b=some l→l.blk≠g∧(0<hcap→l.blk≠hb):=fun b k l h1 h2=>by
    obtain⟨h3,h4⟩:=dl b k h1
    have hlt:=(hr.blk b k l h3 h2).lt
    have hh:0<hcap→l.blk≠hb:=fun hcap e=>by
     obtain⟨b2,l2,_,_,_,q1,_,_,q4,q5,q6,q7,_⟩:=hblk hcap
     rcases hr.inj b b2 l l2 (by rw[h3];rfl) q5 h2 q6 (e.trans q7.symm) with e | e
     ·exact h4 (by rw[q1,e])
     ·omega
    refine⟨fun e=>?_,hh⟩
    rcases k8 with h | ⟨h,h'⟩
    ·omega
    ·exact hh h (e.trans h')
   refine⟨ρ1.upd nx1 ⟨g,o',o'+cap'*4⟩,⟨hon.kept.1,htp,hon.kept.2.1,hsz,by omega,fun b hb=>upn b (by omega),fun x hx hk=>?_,fun b l h1 h2 hl=>?_,fun b hb=>?_,fun b h1 h2=>?_⟩,⟨fun b k l hb hl=>?_,fun b b' l l' h1 h2 e1 e2 e=>?_⟩,?_,fun b hb=>?_⟩
   ·refine juh hon hx fun hcap e=>?_
    obtain⟨b2,l2,_,_,_,q1,_,q3,_,q5,q6,q7,_⟩:=hblk hcap
    have:=hk b2 l2 q6 (q7.trans e.symm) q5
    omega
   ·have:b=nx1:=by omega
    subst this
    rw[up1] at hl
    cases hl
    rcases k8 with h | ⟨h,h'⟩
    ·exact .inl ⟨h,hgs⟩
    ·obtain⟨b2,l2,_,_,_,q1,_,q3,_,q5,q6,q7,_⟩:=hblk h
     exact .inr ⟨b2,l2,by omega,q5,q6,q7.trans h'.symm⟩
   ·rw[Tr.get_set] at hb
    by_cases e:b=nx1
    ·exact .inl (by omega)
    ·rw[if_neg e] at hb
     obtain⟨k,hk⟩:=Option.isSome_iff_exists.1 hb
     exact .inr (by rw[(dl b k hk).1];rfl)
   ·rw[Tr.get_set,if_neg (by omega)]
    exact dk b fun e=>by have:=hold b e;omega
   ·rw[Tr.get_set] at hb
    by_cases e:b=nx1
    ·subst e
     rw[if_pos rfl] at hb
     cases hb
     rw[up1] at hl
     cases hl
     refine⟨cs,el,fr,k4,by simp only[jkd];omega,k5,fun i hi _=>k6 i hi,fun i hi=>?_⟩
     rw[jkd] at hi
     obtain⟨a,ha⟩:∃a,(jyj L)[i]?=some a:=⟨(jyj L)[i]'(by rw[jkd];exact hi),List.getElem?_eq_getElem (by rw[jkd];exact hi)⟩
     obtain⟨v,hv2,hv3⟩:=(j71 (ρ:=ρ1.upd b ⟨g,o',o'+cap'*4⟩) L).get ha
     refine⟨a,v,?_,(k7 i hi).trans hv2,hv3⟩
     rw[jet,if_pos (by rw[jkd];omega),Nat.sub_zero,ha]
    ·rw[if_neg e] at hb
     rw[upn b e] at hl
     have hb1:=dl b k hb
     have hr1:=hr.blk b k l hb1.1 hl
     exact hr1.mono hle (juh hon hr1.lt (far b k l hb hl).2)
   ·rw[Tr.get_set] at h1 h2
    by_cases x1:b=nx1
    ·by_cases x2:b'=nx1
     ·exact .inl (x1.trans x2.symm)
     ·rw[if_neg x2] at h2
      rw[x1,up1] at e1
      cases e1
      rw[upn b' x2] at e2
      obtain⟨k,hk⟩:=Option.isSome_iff_exists.1 h2
      exact absurd e.symm (far b' k l' hk e2).1
    ·rw[if_neg x1] at h1
     rw[upn b x1] at e1
     obtain⟨k,hk⟩:=Option.isSome_iff_exists.1 h1
     by_cases x2:b'=nx1
     ·rw[x2,up1] at e2
      cases e2
      exact absurd e (far b k l hk e1).1
     ·rw[if_neg x2] at h2
      rw[upn b' x2] at e2
      obtain⟨k',hk'⟩:=Option.isSome_iff_exists.1 h2
      exact hr.inj b b' l l' (by rw[(dl b k hk).1];rfl) (by rw[(dl b' k' hk').1];rfl) e1 e2 e
   ·simp only[VR]
    exact⟨_,cap',o',up1,k1,k2,by omega,.inl rfl,.inr ⟨trivial,by simp,k3⟩⟩
   ·rw[Tr.get_set] at hb
    by_cases e:b=nx1
    ·omega
    ·rw[if_neg e] at hb
     obtain⟨k,hk⟩:=Option.isSome_iff_exists.1 hb
     have:=hwf b (by rw[(dl b k hk).1];rfl)
     omega
end W
end Go.Vm
namespace Go.Vm
namespace W
open Go Go.RowKit Go.Vm.X
variable {P:Program} {gl:List Nat} {B:Base}
theorem j51 {H:Tr Blk} {nx b1:Nat} {hg:AV} {G:List HgT} (hG:j52 H nx b1 hg=some G):∀b,jmp hg=some b→nx≤b:=by
 intro b h
 unfold j52 at hG
 split at hG<;>try (cases hG;done)
 ·cases h
 ·cases h
  split at hG<;>try (cases hG;done)
  obtain⟨hc,_⟩:=jaf hG
  simp only[Bool.and_eq_true,jab,jaa,decide_eq_true_eq,Bool.not_eq_true',decide_eq_false_iff_not] at hc
  exact hc.1.2
theorem j6h {H:Tr Blk} {nx nx1 b1:Nat} {hg:AV} {G:List HgT} (hG:j52 H nx b1 hg=some G) (hx:nx≤nx1) (L:List HgT):Syn H nx1 nx (jgp H nx1 hg L).2.1 (jgp H nx1 hg L).2.2:=by
 have hold:=j51 hG
 cases L with
 | nil=>exact Syn.refl _ _ _
 | cons g L=>
   refine Syn.trans (nx1:=nx1) (H1:=match jmp hg with | some b=>H.del b | none=>H) ⟨Nat.le_refl _,fun b hb=>.inr ?_,fun b h1 h2=>?_⟩ (Syn.new _ _ _ _)
   ·cases h:jmp hg with
    | none=>rw[h] at hb;exact hb
    | some b2=>
      rw[h] at hb
      simp only[Tr.get_del] at hb
      split at hb
      ·cases hb
      ·exact hb
   ·cases h:jmp hg with
    | none=>rfl
    | some b2=>
      have:=hold b2 h
      simp only[Tr.get_del]
      rw[if_neg (by omega)]
theorem j39 {W:World} {size:Nat} {ao:Option Addr} {b off len cap:Nat} {olds:List Value} (h:Came W size ao b off len cap olds) (o:Obj):Came (W.alloc o) size ao b off len cap olds:=by
 have al:∀ {a:Addr} {v:Value},W.cell? a=some v→(W.alloc o).cell? a=some v:=fun {a v} hc=>(World.cell?_of_block (Below.heap_alloc W o a.block (World.block_lt_of_cell? _ _ hc))).trans hc
 refine⟨h.le,h.addr,fun hc=>by have:=h.lt hc;simp;omega,h.oldsLen,fun j u hu=>al (h.olds j u hu),fun j hj=>?_⟩
 obtain⟨h1,h2⟩:=h.spare j hj
 obtain⟨v,hv⟩:=Option.isSome_iff_exists.1 h1
 refine⟨by rw[al hv];rfl,?_⟩
 rw[World.frozen?_of_block (Below.heap_alloc W o _ (World.block_lt_of_cell? _ _ hv))]
 exact h2
theorem kfb {S:List SqT} {H:List HgT} (h:okT S H=true):S.length≤64∧H.length≤1000∧∀s∈S,(-1000≤s.1∧s.1≤1000)∧(-1000≤s.2∧s.2≤1000):=by
 unfold okT at h
 rw[Bool.and_eq_true,Bool.and_eq_true] at h
 obtain⟨⟨h1,h2⟩,h3⟩:=h
 refine⟨by simpa using h1,by simpa using h2,fun s hs=>?_⟩
 have:=List.all_eq_true.1 h3 s hs
 simp only[Bool.and_eq_true,decide_eq_true_eq] at this
 omega
theorem keh {call:FuncId→List AV→Tr Blk→Nat→Nat→Out} {f fT fF tN tH xt:Nat} (hcall:ji2 P gl call) (hsyn:jid call) (hfn:ka6 P f)
  (c1:∀(xv:Value) (c bb:Int) (S:List SqT) (H:List HgT) (R:Ending→World→Prop) (w:World) (_:H.length≤1000) (_:S.length≤64) (_:∀s∈S,(-1000≤s.1∧s.1≤1000)∧(-1000≤s.2∧s.2≤1000))
    (_:0≤c∧c≤18446744073709551615) (_:0≤bb∧bb≤18446744073709551615)
    (_:kjf P fT fF tN tH xv (w.heap.size+1) c bb S H R ((w.alloc (.cells #[xv,.int .u64 c,.int .u64 bb] xt)).alloc (.cells #[.slice none 0 0,.slice none 0 0] tN))),
    Calls P f #[.agg #[xv,.int .u64 c,.int .u64 bb]] w R):
  jgm P gl B (tOf call f fT fF):=by
 intro g az k hk H nx v H' nx' ro hv hb
 unfold tOf at hk
 obtain⟨e,hk2⟩:=jaf hk
 rw[jaa,decide_eq_true_eq] at e
 clear hk
 subst e
 split at hk2<;>try (cases hk2;done)
 rename_i x c bb
 cases hk2
 unfold j82 at hv
 split at hv<;>try (cases hv;done)
 rename_i b1 o1 n1 c1' hg H1 nx1 hc
 split at hv<;>try (cases hv;done)
 rename_i cs m hb1
 obtain⟨hom,hv1⟩:=jaf hv
 clear hv
 split at hv1<;>try (cases hv1;done)
 rename_i S G hS hG
 obtain⟨hok,hv2⟩:=jaf hv1
 clear hv1
 split at hv2<;>try (cases hv2;done)
 rename_i q H3 nx3 hq
 obtain⟨hsl,hv3⟩:=jaf hv2
 clear hv2
 simp only[Option.some.injEq,Prod.mk.injEq] at hv3
 obtain⟨rfl,rfl,rfl⟩:=hv3
 simp only[Bool.and_eq_true,jab,decide_eq_true_eq] at hom hok
 obtain⟨⟨hok,hc0⟩,hb0⟩:=hok
 obtain⟨k1,k2,k3⟩:=kfb hok
 obtain⟨hSl,hSat⟩:=j50 hS
 subst hSl
 have s1:=hsyn _ _ _ _ _ _ _ _ hc
 have sM:=j6h hG s1.up (ofL S G c bb)
 have s3:=hsyn _ _ _ _ _ _ _ _ hq
 have up1:=s1.up
 have upM:=sM.up
 have up3:=s3.up
 have s13:Syn H nx nx H3 nx3:=s1.trans (sM.trans (s3.weaken (by omega)))
 have hMn:0< (ofL S G c bb).length→nx1< (jgp H1 nx1 hg (ofL S G c bb)).2.2:=fun h=>by
  cases hL:ofL S G c bb with
  | nil=>rw[hL] at h;simp at h
  | cons a l=>simp[jgp]
 refine⟨?_,fun ρ w args hr hf hro hgl hwf ha=>⟨hfn,?_⟩⟩
 ·exact⟨s13.up,s13.live,fun b h1 h2=>s13.old b h2 h2⟩
 simp only[VRs,VR] at ha
 obtain⟨v,vs,h1,⟨cs2,rfl,xv,vs2,h2,hx,cv,vs3,rfl,rfl,bv,vs4,rfl,rfl,rfl⟩,rfl⟩:=ha
 obtain rfl:args=#[.agg cs2]:=Array.toList_inj.1 h1
 obtain rfl:cs2=#[xv,.int .u64 c,.int .u64 bb]:=Array.toList_inj.1 h2
 refine c1 xv c bb S G _ w k2 k1 k3 hc0 hb0 ?_
 generalize hW0:(w.alloc (.cells #[xv,.int .u64 c,.int .u64 bb] xt)).alloc (.cells #[.slice none 0 0,.slice none 0 0] tN)=W0
 have hB0:Below w.heap.size w W0:=by
  subst hW0
  exact⟨rfl,rfl,rfl,by simp;omega,fun y hy=>by rw[Below.heap_alloc _ _ y (by simp;omega),Below.heap_alloc _ _ y hy]⟩
 have hsz0:W0.heap.size=w.heap.size+2:=by subst hW0;simp
 have hr0:=(Below.quiet hB0).hr hr
 refine((hcall _ _ _ _ _ _ _ _ hc).2 ρ W0 _ hr0 (hf.left (by omega)) (Nat.le_refl _) hgl hwf (by simp only[VRs,VR];exact⟨_,[],rfl,⟨_,rfl,_,_,rfl,hx,_,_,rfl,rfl,_,_,rfl,rfl,rfl⟩,rfl⟩)).2.mono ?_
 rintro en W1 ⟨v',rfl,ρ1,st1,hr1,hv1⟩
 have hf1:Free ρ1 nx1 nx3:=st1.free hf
 simp only[VR] at hv1
 obtain⟨cs3,rfl,sv,vs5,e3,⟨l1,cc,off,r1,rfl,r3,r4,r5,r6⟩,hgv,vs6,rfl,hvg,rfl⟩:=hv1
 obtain rfl:cs3=#[_,_]:=Array.toList_inj.1 e3
 have hB1:Below W0.heap.size W0 W1:=⟨st1.os,st1.tape,st1.output,st1.size,fun y hy=>st1.keep y hy (fun b l _ _ hb=>hwf b hb)⟩
 obtain⟨ao,hb,ho,hcap,rfl,hcame,hmax,hblk,hnil⟩:=kcv hr1 hvg hG
 obtain⟨cs',elem,fr,q1,q2,q3,q4,q5⟩:=hr1.blk b1 _ l1 hb1 r1
 have hsq:j8r W1 l1.blk off S:=fun j hj=>by
  have ho:off=l1.base+o1:=by rcases r5 with h | h<;>omega
  have cell:∀i,W1.cell? ⟨l1.blk,i,none⟩=cs'[i]?:=fun i=>by simp only[World.cell?,q1,Option.isSome_none,Bool.false_eq_true,if_false]
  obtain⟨a1,a2⟩:=hSat j hj
  have e1:=q5 (o1+j*2) (by omega)
  have e2:=q5 (o1+j*2+1) (by omega)
  rw[a1] at e1
  rw[a2] at e2
  obtain⟨_,v1,g1,g2,g3⟩:=e1
  obtain⟨_,v2,g4,g5,g6⟩:=e2
  cases g1
  cases g4
  simp only[VR] at g3 g6
  subst g3 g6
  rw[cell,cell,ho]
  exact⟨by rw[Nat.add_assoc];exact g2,by rw[show l1.base+o1+j*2+1=l1.base+ (o1+j*2+1) by omega];exact g5⟩
 have lives:∀b l,nx≤b→(H1.get b).isSome→ρ1 b=some l→W0.heap.size≤l.blk:=fun b l hn hb hl=>by
  rcases st1.live b hb with h | h
  ·rcases st1.fresh b l h.1 h.2 hl with h | ⟨b0,_,h1,h2,_⟩
   ·exact h.1
   ·have:=hwf b0 h2;omega
  ·have:=hwf b h;omega
 refine⟨l1.blk,off,cc,ao,hb,ho,hcap,rfl,hB1,hsq,hcame,hmax,fun h=>?_,fun h e=>?_,?_⟩
 ·obtain⟨b2,l2,_,_,_,_,_,a3,_,a5,a6,a7,_⟩:=hblk h
  rw[←a7]
  exact lives b2 l2 a3 a5 a6
 ·obtain⟨b2,l2,_,_,_,_,a2,a3,a4,a5,a6,a7,_⟩:=hblk h
  rcases hr1.inj b1 b2 l1 l2 (by rw[hb1];rfl) a5 r1 a6 (e.trans a7.symm) with h | h
  ·exact a2 h.symm
  ·omega
 ·intro W2 bn hv m2 ks hbn hon htp hL
  have hcw:=j39 hcame (.cells #[.slice (some ⟨l1.blk,off,none⟩) S.length cc,.slice ao G.length hcap] tN)
  have hwf1:WF H1 nx1:=s1.wf hwf
  obtain⟨ρ2,st2,hr2,hvr2,hwf2⟩:=j87 (ro:=nx) hr1 hvg hG rfl hcame hmax hblk (j51 hG) (Nat.le_refl _) up1 hwf1 (fun h=>hf1 nx1 (Nat.le_refl _) (by have:=hMn h;omega)) hcw hon htp hL
  have hf2:=st2.free hf1
  have le1:=st1.le (hf.left (by omega))
  have le2:=st2.le (hf1.left (by omega))
  have hvs1:VR ρ1 (.sl b1 o1 S.length c1' 2) (.slice (some ⟨l1.blk,off,none⟩) S.length cc):=by simp only[VR];exact⟨l1,cc,off,r1,rfl,r3,r4,r5,r6⟩
  have hvs2:=VR.mono le2 _ _ hvs1
  refine((hcall _ _ _ _ _ _ _ _ hq).2 ρ2 W2 _ hr2 hf2 (Nat.le_refl _) ((hgl.mono le1).mono le2) hwf2 (by simp only[VRs];exact⟨_,_,rfl,hvs2,_,_,rfl,hvr2,rfl⟩)).2.mono ?_
  rintro e2 W3 ⟨v3,rfl,ρ3,st3,hr3,hv3⟩
  have hv3s:∃qa qn qc,v3=.slice qa qn qc:=by
   unfold kit at hsl
   split at hsl
   ·simp only[VR] at hv3
    exact⟨_,_,_,hv3⟩
   ·simp only[VR] at hv3
    obtain⟨_,_,_,_,e,_⟩:=hv3
    exact⟨_,_,_,e⟩
   ·cases hsl
  obtain⟨qa,qn,qc,rfl⟩:=hv3s
  refine⟨qa,qn,qc,rfl,⟨st3.os,st3.tape,st3.output,st3.size,fun y hy=>st3.keep y hy (fun b l _ _ hb=>hwf2 b hb)⟩,fun W4 e1 e2 e3 e4 e5=>?_⟩
  have stW:Step ρ H nx nx W0 ρ3 H3 nx3 W3:=(st1.trans st2).trans (st3.weaken (by omega))
  have far:∀b l,(H3.get b).isSome→ρ3 b=some l→l.blk≠w.heap.size+1:=fun b l hb hl=>by
   rcases stW.live b hb with h | h
   ·rcases stW.fresh b l h.1 h.2 hl with h | ⟨b0,_,h1,h2,_⟩
    ·omega
    ·have:=hwf b0 h2;omega
   ·have hbn:=hwf b h
    rw[stW.ext b (.inl hbn)] at hl
    obtain⟨k,hk⟩:=Option.isSome_iff_exists.1 h
    have:=(hr.blk b k l hk hl).lt
    omega
  have z3:=stW.size
  refine⟨_,rfl,ρ3,⟨e1.trans (stW.os.trans hB0.os),e2.trans (stW.tape.trans hB0.tape),e3.trans (stW.output.trans hB0.output),by omega,stW.up,stW.ext,fun y hy _=>?_,fun b l h1 h2 hl=>?_,stW.live,fun b h1 h2=>stW.old b h2 h2⟩,⟨fun b k l hb hl=>?_,hr3.inj⟩,?_⟩
  ·rw[e5 y (by omega) (by omega),stW.keep y (by omega) (fun b l _ _ hb=>hwf b hb)]
   exact hB0.block y hy
  ·rcases stW.fresh b l h1 h2 hl with h | ⟨b0,_,h1,h2,_⟩
   ·exact .inl (by omega)
   ·have:=hwf b0 h2;omega
  ·have hk:=hr3.blk b k l hb hl
   exact hk.mono (RM.Le.refl _) (e5 _ hk.lt (far b l (by rw[hb];rfl) hl))
  ·have:=VR.mono (st3.le hf2) _ _ hvs2
   simp only[VR,VRs] at this ⊢
   exact⟨_,rfl,_,_,rfl,this,_,_,rfl,hv3,rfl⟩
end W
end Go.Vm
namespace Go.Vm
namespace X
open W
variable {B:Base} {memo:jky} {prog:Tr CFn} {ro:Nat} {O:List Ent} {H:Tr Blk} {nx:Nat} {F:jai}
abbrev tSQ:Ty:=.prod (.int .i64) (.int .i64)
abbrev tHG:Ty:=.prod tSQ (.prod .bool (.int .i8))
abbrev tNN:Ty:=.prod (.sl (.arr 3 (.int .u8))) (.prod (.int .u64) (.int .u64))
def sqA (s:SqT):List AV:=[.int .i64 s.1,.int .i64 s.2]
theorem jlg {α:Type} {f:α→List AV} {z:Nat} (hf:∀x,(f x).length=z):∀(L:List α) {j k:Nat} (hj:j<L.length) (hk:k<z),(L.flatMap f)[j*z+k]?=(f L[j])[k]?
 | [],j,k,hj,_=>by simp at hj
 | x::L,0,k,hj,hk=>by
   rw[List.flatMap_cons,List.getElem?_append_left (by rw[hf];omega)]
   simp
 | x::L,j+1,k,hj,hk=>by
   have:=jlg hf L (j:=j) (k:=k) (by simpa using hj) hk
   rw[List.flatMap_cons,List.getElem?_append_right (by rw[hf,Nat.add_mul];omega),hf,show(j+1)*z+k-z=j*z+k by rw[Nat.add_mul];omega,this]
   simp
theorem jjn {α:Type} {P:α→List AV→Prop} {f:α→List AV} (hP:∀x l,P x l→l=f x):∀ {xs:List α} {l:List AV},jcv P xs l→l=xs.flatMap f
 | [],l,h=>h
 | x::xs,l,⟨l1,l2,e,h1,h2⟩=>by rw[e,hP _ _ h1,jjn hP h2];rfl
theorem jop {α:Type} {P:α→List AV→Prop} {f:α→List AV} (hP:∀x,P x (f x)):∀(xs:List α),jcv P xs (xs.flatMap f)
 | []=>rfl
 | x::xs=>⟨f x,xs.flatMap f,rfl,hP x,jop hP xs⟩
theorem j06 {x:SqT} {l:List AV} (h:jbo F tSQ x l):l=sqA x:=by
 obtain⟨l1,l2,rfl,h1,h2⟩:=h
 have h1:l1=[.int .i64 x.1]:=h1
 have h2:l2=[.int .i64 x.2]:=h2
 rw[h1,h2];rfl
theorem j78 {x:HgT} {l:List AV} (h:jbo F tHG x l):l=hgA x:=by
 obtain⟨l1,l2,rfl,h1,l3,l4,rfl,h3,h4⟩:=h
 have h1:=j06 h1
 have h3:l3=[.bool x.2.1]:=h3
 have h4:l4=[.int .i8 x.2.2]:=h4
 rw[h1,h3,h4];rfl
theorem j4m (x:HgT):jbo F tHG x (hgA x):=⟨sqA x.1,[.bool x.2.1,.int .i8 x.2.2],rfl,⟨[_],[_],rfl,rfl,rfl⟩,[_],[_],rfl,rfl,rfl⟩
theorem j6i {F:jai} (L:List HgT):jcv (jbo F tHG) L (((jyj L).drop 0).take (List.length (α:=HgT) L*tHG.size)):=by
 show jcv _ L ((List.drop 0 (jyj L)).take (L.length*4))
 rw[List.drop_zero,List.take_of_length_le (by rw[jkd];exact Nat.le_refl _)]
 exact jop j4m L
theorem jz5 {c:Tr AV}:∀ {L:List SqT} {o:Nat},(∀j (h:j<L.length),c.get (o+j*2)=some (.int .i64 L[j].1)∧c.get (o+j*2+1)=some (.int .i64 L[j].2))→rdS c o L.length=some L
 | [],o,h=>rfl
 | x::L,o,h=>by
   have h0:=h 0 (by simp)
   simp only[Nat.zero_mul,Nat.add_zero,List.getElem_cons_zero] at h0
   have:=jz5 (L:=L) (o:=o+2) (c:=c) fun j hj=>by
    have:=h (j+1) (by simpa using hj)
    rw[show o+ (j+1)*2=o+2+j*2 by omega] at this
    exact this
   simp only[List.length_cons,rdS,h0.1,h0.2,this]
theorem jz6 {c:Tr AV}:∀ {L:List HgT} {o:Nat},(∀j (h:j<L.length) k,k<4→c.get (o+j*4+k)=(hgA L[j])[k]?)→rdG c o L.length=some L
 | [],o,h=>rfl
 | x::L,o,h=>by
   have h0:=h 0 (by simp)
   simp only[Nat.zero_mul,Nat.add_zero,List.getElem_cons_zero] at h0
   have e0:=h0 0 (by omega)
   have e1:=h0 1 (by omega)
   have e2:=h0 2 (by omega)
   have e3:=h0 3 (by omega)
   simp only[hgA,Nat.add_zero,List.getElem?_cons_zero,List.getElem?_cons_succ] at e0 e1 e2 e3
   have:=jz6 (L:=L) (o:=o+4) (c:=c) fun j hj k hk=>by
    have:=h (j+1) (by simpa using hj) k hk
    rw[show o+ (j+1)*4=o+4+j*4 by omega] at this
    exact this
   simp only[List.length_cons,rdG,e0,e1,e2,e3,this]
theorem kfe {S:List SqT} {G:List HgT} {c bb:Int} (h:ofL S G c bb=[]):G=[]:=by
 have key:∀(l:List (SqT×Bool)) (st:List HgT×Int),st.1.length≤(l.foldl (jdn S G c bb) st).1.length:=by
  intro l
  induction l with
  | nil=>intro st;exact Nat.le_refl _
  | cons p l ih=>
    intro st
    refine Nat.le_trans ?_ (ih _)
    unfold jdn
    split
    ·split
     ·simp
     ·exact Nat.le_refl _
    ·exact Nat.le_refl _
 have:=key (prs S) (G,0)
 unfold ofL jxp at h
 rw[h] at this
 exact List.length_eq_zero_iff.1 (by simpa using this)
theorem ke8 {α:Type} (E P N N2 Q:List α):((E++P++(N++N2))++Q).Perm ((E++N)++(P++(N2++Q))):=by
 have:(P++N).Perm (N++P):=List.perm_append_comm
 have:=(this.append_right (N2++Q)).append_left E
 simpa only[List.append_assoc] using this
def ofR (runT:jho [.d tNN]→Option (jho [.p (.own tSQ) (.own tHG)])) (runF:jho [.d (.sl tSQ),.d (.sl tHG)]→Option (jho [.own tHG])) (a:jho [.d tNN]):Option (jho [.p (.own tSQ) (.own tHG)]):=
 (runT a).bind fun n=>bif okT n.1 n.2&& !(List.length (α:=SqT) n.1).beq 0&&decide (0≤a.2.1∧a.2.1≤18446744073709551615)&&decide (0≤a.2.2∧a.2.2≤18446744073709551615) then
   (runF (n.1,ofL n.1 n.2 a.2.1 a.2.2)).bind fun q=>some (n.1,q) else none
theorem jvj {t:Ty} {L:List t.den} {cap:Option Nat} {v:AV} {E:List Ent} (h:j4o F t L cap v E):(L=[]∧v=.nils∧E=[])∨
  ∃b w m cp,v=.sl b 0 (List.length (α:=t.den) L) cp t.size∧E=[⟨b,w,.cells m⟩]∧(∀k,cp=some k→k*t.size≤m.length∧List.length (α:=t.den) L≤k)∧List.length (α:=t.den) L*t.size≤m.length∧jcv (jbo F t) L (m.take (List.length (α:=t.den) L*t.size)):=by
 obtain⟨x,rfl,_,h⟩:=h
 rcases h with⟨h,rfl⟩ | ⟨w,m,rfl,h,hr,_⟩
 ·rcases h with⟨h1,_,h2,_⟩ | ⟨c,n,_,h,_⟩
  ·exact .inl ⟨List.length_eq_zero_iff.1 h2,h1,rfl⟩
  ·cases h
 ·rcases h with⟨_,h,_⟩ | ⟨c,n,e,h1,h2,h3,_⟩
  ·cases h
  ·cases h1
   exact .inr ⟨x.1,w,m,c,e,rfl,h3,h2,hr⟩
theorem kei {call0:FuncId→List AV→Tr Blk→Nat→Nat→Out} {f fT fF:FuncId} {runT:jho [.d tNN]→Option (jho [.p (.own tSQ) (.own tHG)])} {runF:jho [.d (.sl tSQ),.d (.sl tHG)]→Option (jho [.own tHG])}
  (hT:TE.OK B call0 ⟨fT,[.d tNN],[.p (.own tSQ) (.own tHG)],runT⟩) (hF:TE.OK B call0 ⟨fF,[.d (.sl tSQ),.d (.sl tHG)],[.own tHG],runF⟩)
  (hm:∀az g,tOf call0 f fT fF f az=some g→memo f az=some g):OKs B memo prog 1 [⟨f,[.d tNN],[.p (.own tSQ) (.own tHG)],ofR runT runF⟩]:=by
 refine jm9 fun a r hr ro O H nx hk A hA vs hv=>?_
 obtain⟨v,rfl,hv'⟩:=hv
 have hv0:=hv'
 unfold jqf at hv'
 simp only[Rep.agg,Ty.agg,cond_true] at hv'
 obtain⟨m,rfl,_,⟨l1,l2,rfl,⟨v1,rfl,h1⟩,⟨l3,l4,rfl,h3,h4⟩⟩,_⟩:=hv'
 have h3:l3=[.int .u64 a.2.1]:=h3
 have h4:l4=[.int .u64 a.2.2]:=h4
 subst h3 h4
 have hr:ofR runT runF a=some r:=hr
 unfold ofR at hr
 cases he:runT a with
 | none=>rw[he] at hr;cases hr
 | some n=>
 rw[he,Option.bind_some] at hr
 obtain⟨hok,hr⟩:=jaf hr
 generalize hL:ofL n.1 n.2 a.2.1 a.2.2=L at hr
 cases hq:runF (n.1,L) with
 | none=>rw[hq] at hr;cases hr
 | some q=>
 rw[hq,Option.bind_some] at hr
 cases hr
 simp only[Bool.and_eq_true,Bool.not_eq_true',jaa,decide_eq_false_iff_not,decide_eq_true_eq] at hok
 obtain⟨⟨⟨hok,hne⟩,hc0⟩,hb0⟩:=hok
 have hkq:HK B nx (O.map unw) H nx:=hk.quiet
 obtain⟨u,E,N,Hc,nxc,F',k1,k2,k3,k4,vs',rfl,u',e1,k5⟩:=hT a n he nx _ [] H nx hkq (fun _ h=>by cases h) A (fun x hx=>(hA x hx).imp (fun h=>h.quiet) id) _ ⟨_,rfl,hv0⟩
 subst e1
 unfold jqf at k5
 simp only[Rep.agg,cond_true] at k5
 obtain⟨_,rfl,l1,l2,E1,E2,rfl,rfl,⟨s,rfl,hs⟩,⟨h,rfl,hh⟩⟩:=k5
 have hup:nx≤nxc:=(ji8 k2.r1).1
 have hRO:RO≤nx:=(ji8 hk.r1).2
 have szS:tSQ.size=2:=rfl
 have szH:tHG.size=4:=rfl
 have hs0:=hs
 rcases jvj hs with⟨h0,_⟩ | ⟨b1,w1,m1,c1,rfl,rfl,a1,a2,a3⟩
 ·exact absurd (by rw[h0];rfl) hne
 rw[szS] at a1 a2 a3
 have a4:=jjn (f:=sqA) (fun x l h=>j06 h) a3
 have ent1:=k2.ent ⟨b1,w1,.cells m1⟩ (by simp)
 have hw1:w1=true:=k3 ⟨b1,w1,.cells m1⟩ (by simp)
 subst hw1
 obtain⟨c,hb1,hb2⟩:=ent1.2.2
 have hb1:Hc.get b1=some (.cells c m1.length):=hb1
 have hb2:∀i,i<m1.length→c.get i=m1[i]?:=hb2
 have hS:rdS c 0 (List.length (α:=SqT) n.1)=some n.1:=jz5 fun j hj=>by
  have key:∀k,k<2→c.get (0+j*2+k)=(sqA n.1[j])[k]?:=fun k hk2=>by
   have hj':j<List.length (α:=SqT) n.1:=hj
   have jbh:List.length (α:=SqT) n.1*2≤m1.length:=a2
   have e:=jlg (f:=sqA) (z:=2) (fun _=>rfl) n.1 hj hk2
   have hlt:j*2+k<List.length (α:=SqT) n.1*2:=by omega
   rw[←e,Nat.zero_add,hb2 _ (by omega)]
   have:=congrArg (fun l=>l[j*2+k]?) a4
   simp only[List.getElem?_take] at this
   rw[←this]
   exact(if_pos hlt).symm
  exact⟨key 0 (by omega),key 1 (by omega)⟩
 have hle1:(0+List.length (α:=SqT) n.1*2).ble m1.length=true:=by rw[jab,Nat.zero_add];exact decide_eq_true a2
 have hROb:RO.ble nx=true:=by rw[jab];exact decide_eq_true hRO
 have mem:∃X,j52 Hc nx b1 h=some n.2∧HK B nx (X++([⟨b1,true,.cells m1⟩]++(N++O.map unw))) (jgp Hc nxc h L).2.1 (jgp Hc nxc h L).2.2∧nxc≤(jgp Hc nxc h L).2.2∧∃A2:jai,(∀x∈A2,Has X x.1 x.2)∧jqf A2 (.d (.sl tHG)) L (jgp Hc nxc h L).1 []:=by
  have newX:∀(L:List HgT) (b:Nat),jqf [(b,HB.cells (jyj L))] (.d (.sl tHG)) L (.sl b 0 L.length none 4) []:=fun L b=>
   ⟨rfl,⟨_,rfl,.inr ⟨b,0,none,jyj L,rfl,List.mem_singleton.2 rfl,(fun _ h=>by cases h),(by rw[jkd,Nat.zero_add];exact Nat.le_refl _),(j6i L)⟩⟩,rfl⟩
  have one:∀(b:Nat) (c:HB) (x:Nat×HB),x∈[(b,c)]→Has [⟨b,true,c⟩] x.1 x.2:=fun b c x hx=>by rw[List.mem_singleton.1 hx];exact .here
  rcases jvj hh with⟨h0,rfl,rfl⟩ | ⟨b2,w2,m2,c2,rfl,rfl,d1,d2,d3⟩
  ·have hg:j52 Hc nx b1 .nils=some n.2:=by rw[h0];rfl
   cases L with
   | nil=>exact⟨[],hg,k2,Nat.le_refl _,[],(fun _ h=>by cases h),⟨rfl,⟨_,rfl,.inl ⟨rfl,rfl⟩⟩,rfl⟩⟩
   | cons g L=>exact⟨[⟨nxc,true,.cells (jyj (g::L))⟩],hg,k2.cells _,Nat.le_succ _,_,one _ _,newX _ _⟩
  ·rw[szH] at d1 d2 d3
   have d4:=jjn (f:=hgA) (fun x l h=>j78 h) d3
   have ent2:=k2.ent ⟨b2,w2,.cells m2⟩ (by simp)
   have hw2:w2=true:=k3 ⟨b2,w2,.cells m2⟩ (by simp)
   subst hw2
   obtain⟨c',hc1,hc2⟩:=ent2.2.2
   have hc1:Hc.get b2=some (.cells c' m2.length):=hc1
   have hc2:∀i,i<m2.length→c'.get i=m2[i]?:=hc2
   have hb2:=ji8 (ent2.2.1 rfl)
   simp only at hb2
   have hnd:b2≠b1:=by
    have:=k2.nd
    simp only[List.cons_append,List.nil_append,List.map_cons,List.nodup_cons,List.mem_cons,not_or] at this
    exact this.1.1
   have hG:rdG c' 0 (List.length (α:=HgT) n.2)=some n.2:=jz6 fun j hj k hk4=>by
    have hj':j<List.length (α:=HgT) n.2:=hj
    have jbh:List.length (α:=HgT) n.2*4≤m2.length:=d2
    have e:=jlg (f:=hgA) (z:=4) (fun _=>rfl) n.2 hj hk4
    have hlt:j*4+k<List.length (α:=HgT) n.2*4:=by omega
    rw[←e,Nat.zero_add,hc2 _ (by omega)]
    have:=congrArg (fun l=>l[j*4+k]?) d4
    simp only[List.getElem?_take] at this
    rw[←this]
    exact(if_pos hlt).symm
   have hg:j52 Hc nx b1 (.sl b2 0 (List.length (α:=HgT) n.2) c2 4)=some n.2:=by
    have e1:((0+List.length (α:=HgT) n.2*4).ble m2.length&&RO.ble b2&&nx.ble b2&& !(b2.beq b1))=true:=by
     simp only[Bool.and_eq_true,jab,jaa,decide_eq_true_eq,Bool.not_eq_true',decide_eq_false_iff_not]
     exact⟨⟨⟨by rw[Nat.zero_add];exact d2,hb2.2⟩,hb2.1⟩,hnd⟩
    simp only[j52,hc1]
    erw[e1,cond_true]
    exact hG
   cases L with
   | nil=>
     have h0:=kfe hL
     refine⟨[⟨b2,true,.cells m2⟩],hg,k2,Nat.le_refl _,_,one _ _,⟨rfl,⟨_,rfl,.inr ⟨b2,0,c2,m2,?_,List.mem_singleton.2 rfl,fun _ _=>Nat.zero_le _,by simp,rfl⟩⟩,rfl⟩⟩
     show AV.sl b2 0 (List.length (α:=HgT) n.2) c2 4=_
     rw[h0]
     rfl
   | cons g L=>exact⟨[⟨nxc,true,.cells (jyj (g::L))⟩],hg,(k2.del .here).cells _,Nat.le_succ _,_,one _ _,newX _ _⟩
 obtain⟨X,hg,kM,hup2,A2,hA2,hrep⟩:=mem
 obtain⟨u2,E',N',H3,nx3,F2,j1,j2,j3,j4,vs2,rfl,u3,e3,j5⟩:=hF (n.1,L) q hq (jgp Hc nxc h L).2.2 ((X++([(⟨b1,true,.cells m1⟩:Ent)]++(N++O.map unw))).map unw) [] _ _ kM.quiet (fun _ h=>by cases h) ((b1,.cells m1)::A2) (fun x hx=>by
   refine .inl (Has.quiet ?_)
   rcases List.mem_cons.1 hx with rfl | hx
   ·exact Has.of_mem (w:=true) (List.mem_append_right _ (List.mem_cons_self ..))
   ·obtain⟨w,hw⟩:=(hA2 x hx).mem
    exact Has.of_mem (w:=w) (List.mem_append_left _ hw)) [.sl b1 0 (List.length (α:=SqT) n.1) c1 2,(jgp Hc nxc h L).1]
  ⟨_,_,[],[],rfl,rfl,⟨rfl,⟨_,rfl,.inr ⟨b1,0,c1,m1,rfl,by simp,fun k hk=>(a1 k hk).2,by rw[Nat.zero_add];exact a2,jbm (ji1 tSQ rfl) a3⟩⟩,rfl⟩,_,rfl,jgl (r:=.d (.sl tHG)) (fun x hx=>List.mem_cons_of_mem _ hx) _ _ _ hrep⟩
 subst e3
 obtain⟨u4,e4,j6⟩:=j5
 cases e4
 have hsl:kit u3=true:=by
  rcases jvj j6 with⟨_,rfl,_⟩ | ⟨_,_,_,_,rfl,_⟩<;>rfl
 have kE:=hk.unquiet (show HK B nx ((E'++[⟨b1,true,.cells m1⟩]++(N'++N))++O.map unw) H3 nx3 from by
  have k:=kM.unquiet (N:=E'++N') (H':=H3) (nx':=nx3) (by rw[List.append_assoc];exact j2)
  refine(k.sub (O':=(E'++N')++([⟨b1,true,.cells m1⟩]++(N++O.map unw))) (List.Sublist.append_left (List.sublist_append_right _ _) _)).perm ?_
  exact ke8 _ _ _ _ _)
 refine⟨j82 call0 fT fF [AV.agg [v1,.int .u64 a.2.1,.int .u64 a.2.2]] a.2.1 a.2.2,.agg [.sl b1 0 (List.length (α:=SqT) n.1) c1 2,u3],E'++[⟨b1,true,.cells m1⟩],N'++N,H3,nx3,[],hm _ _ (by simp only[tOf,jaa,decide_true,cond_true];rfl),?_,?_,fun x hx=>?_,jm4,[_],rfl,_,rfl,⟨_,rfl,[_],[_],_,_,rfl,rfl,⟨_,rfl,jmf rfl hs⟩,⟨_,rfl,jmf rfl j6⟩⟩⟩
 ·have e1:call0 fT [AV.agg [v1,.int .u64 a.2.1,.int .u64 a.2.2]] H nx nx=some (.agg [.sl b1 0 (List.length (α:=SqT) n.1) c1 2,h],Hc,nxc):=k1
  have e2:(okT n.1 n.2&&decide (0≤a.2.1∧a.2.1≤18446744073709551615)&&decide (0≤a.2.2∧a.2.2≤18446744073709551615))=true:=by
   simp only[Bool.and_eq_true,decide_eq_true_eq]
   exact⟨⟨hok,hc0⟩,hb0⟩
  have e3:((0+List.length (α:=SqT) n.1*2).ble m1.length&&RO.ble nx)=true:=by rw[hle1,hROb];rfl
  subst hL
  have j1:call0 fF [.sl b1 0 (List.length (α:=SqT) n.1) c1 2,(jgp Hc nxc h (ofL n.1 n.2 a.2.1 a.2.2)).1] (jgp Hc nxc h (ofL n.1 n.2 a.2.1 a.2.2)).2.1 (jgp Hc nxc h (ofL n.1 n.2 a.2.1 a.2.2)).2.2 (jgp Hc nxc h (ofL n.1 n.2 a.2.1 a.2.2)).2.2=some (u3,H3,nx3):=j1
  unfold j82
  simp only[e1,hb1]
  erw[e3,cond_true]
  erw[hS]
  simp only[hg]
  erw[e2,cond_true]
  simp only[j1]
  erw[hsl,cond_true]
 ·rw[←List.append_assoc];exact kE
 ·rcases List.mem_append.1 hx with h1 | h1
  ·exact j3 x h1
  ·rw[List.mem_singleton.1 h1]
end X
end Go.Vm
namespace Go.Vm
namespace X
open W Go Go.RowKit Go.Shelf Go.Sort Go.Lib Go.Proofs
def c3 (a b:Int):Int:=bif decide (a<b) then -1 else bif decide (b<a) then 1 else 0
def cfS (x y:SqT):Int:=bif decide (c3 x.2 y.2=0) then c3 x.1 y.1 else c3 x.2 y.2
def ked (g:HgT):Int:=bif g.2.1 then 1 else 0
def cfH (x y:HgT):Int:=bif decide (cfS x.1 y.1=0) then c3 (ked x) (ked y) else cfS x.1 y.1
def okS (L:List SqT):Bool:=true
def okH (L:List HgT):Bool:=j7h cfH (jrz cfH L)
theorem kdb {a b:Int}:c3 a b<0↔a<b:=by
 unfold c3
 by_cases h:a<b
 ·simp[h]
 ·by_cases h2:b<a<;>simp[h,h2]
theorem khr {a b:Int}:c3 a b=0↔a=b:=by
 unfold c3
 by_cases h:a<b
 ·simp[h];omega
 ·by_cases h2:b<a<;>simp[h,h2]<;>omega
theorem jyo {x y:SqT}:cfS x y<0↔x.2<y.2∨x.2=y.2∧x.1<y.1:=by
 unfold cfS
 by_cases h:c3 x.2 y.2=0
 ·simp only[h,decide_true,cond_true,kdb]
  have:=khr.1 h
  omega
 ·simp only[h,decide_false,cond_false,kdb]
  have:¬x.2=y.2:=fun e=>h (khr.2 e)
  omega
theorem khn {x y:SqT}:cfS x y=0↔x.2=y.2∧x.1=y.1:=by
 unfold cfS
 by_cases h:c3 x.2 y.2=0
 ·simp only[h,decide_true,cond_true,khr]
  have:=khr.1 h
  omega
 ·rw[decide_eq_false h,cond_false]
  have:¬x.2=y.2:=fun e=>h (khr.2 e)
  exact⟨fun e=>absurd e h,fun e=>absurd e.1 this⟩
theorem j7k {x y:HgT}:cfH x y<0↔x.1.2<y.1.2∨x.1.2=y.1.2∧(x.1.1<y.1.1∨x.1.1=y.1.1∧ked x<ked y):=by
 unfold cfH
 by_cases h:cfS x.1 y.1=0
 ·simp only[h,decide_true,cond_true,kdb]
  have:=khn.1 h
  omega
 ·simp only[h,decide_false,cond_false,jyo]
  have:¬(x.1.2=y.1.2∧x.1.1=y.1.1):=fun e=>h (khn.2 e)
  omega
theorem kjy:SWO (ltOf cfS) where
 irrefl x:=by unfold ltOf;rw[decide_eq_false_iff_not,jyo];omega
 trans x y z h k:=by
  unfold ltOf at *
  rw[decide_eq_true_eq,jyo] at *
  omega
 ntrans x y z h k:=by
  unfold ltOf at *
  rw[decide_eq_false_iff_not,jyo] at *
  omega
theorem kjp:SWO (ltOf cfH) where
 irrefl x:=by unfold ltOf;rw[decide_eq_false_iff_not,j7k];omega
 trans x y z h k:=by
  unfold ltOf at *
  rw[decide_eq_true_eq,j7k] at *
  omega
 ntrans x y z h k:=by
  unfold ltOf at *
  rw[decide_eq_false_iff_not,j7k] at *
  omega
theorem eqS (L:List SqT) (_:okS L=true) (x:SqT) (_:x∈L) (y:SqT) (_:y∈L) (h1:¬cfS x y<0) (h2:¬cfS y x<0):x=y:=by
 rw[jyo] at h1 h2
 exact Prod.ext (by omega) (by omega)
theorem j2o {α:Type} {cf:α→α→Int} (hO:SWO (ltOf cf)):∀ {l:List α},j7h cf l=true→l.Pairwise fun a b=>cf a b<0
 | [],_=>List.Pairwise.nil
 | [x],_=>List.pairwise_singleton _ _
 | x::y::l,h=>by
   simp only[j7h,Bool.and_eq_true,decide_eq_true_eq] at h
   have ih:=j2o hO (l:=y::l) (by simp only[j7h,Bool.and_eq_true];exact h.2)
   refine List.pairwise_cons.2 ⟨fun a ha=>?_,ih⟩
   rcases List.mem_cons.1 ha with rfl | ha
   ·exact h.1
   ·have:=(List.pairwise_cons.1 ih).1 a ha
    have:=hO.trans x y a (by unfold ltOf;exact decide_eq_true h.1) (by unfold ltOf;exact decide_eq_true this)
    unfold ltOf at this
    exact of_decide_eq_true this
theorem eqH (L:List HgT) (h:okH L=true) (x:HgT) (hx:x∈L) (y:HgT) (hy:y∈L) (h1:¬cfH x y<0) (h2:¬cfH y x<0):x=y:=by
 have hp:=j2o kjp h
 have hx:=(jey cfH L).symm.subset hx
 have hy:=(jey cfH L).symm.subset hy
 obtain⟨i,hi,rfl⟩:=List.getElem_of_mem hx
 obtain⟨j,hj,rfl⟩:=List.getElem_of_mem hy
 rw[List.pairwise_iff_getElem] at hp
 rcases Nat.lt_trichotomy i j with h | h | h
 ·exact absurd (hp i j hi hj h) h1
 ·subst h;rfl
 ·exact absurd (hp j i hj hi h) h2
end X
end Go.Vm
