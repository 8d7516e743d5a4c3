/-
  Nets: Text, walked: one line.
  Nets: Text, walked: the whole.
  Nets: Text of a net that is not valid.
-/
import Derived.Test.YtahplmacekfjgaaGreatDoorCmp
import Derived.Lib.AppendIntMem
set_option linter.unusedSimpArgs false
set_option linter.unusedVariables false
set_option linter.unusedSectionVars false
set_option linter.unnecessarySimpa false
namespace Go.Proofs
open Go.RowKit Go.Shelf Go.Lib Go.Vm.X Go.Vm
namespace N38
def Bd (B b:Nat) (l:List UInt8) (w:World):Prop:=IsBuilderF 81 5 B b (byteCells l) w
theorem Bd.quiet {B b:Nat} {l:List UInt8} {w w':World} (h:Bd B b l w) (hB:Go.RowKit.Below w.heap.size w w'):Bd B b l w':=by
 have key:∀p,BuilderAtF 81 5 B b p (byteCells l) w→BuilderAtF 81 5 B b p (byteCells l) w':=fun p h=>by
  have hlt:=h.lt
  obtain⟨h1,v,h2,h3,h4⟩:=h
  exact⟨h1,v,(hB.block b hlt).trans h2,h3.kept (row:=none) ⟨hB.os,hB.tape,hB.output,hB.size,fun k hk _=>hB.block k hk⟩ (by cases h:v.ownBlock<;>simp),h4⟩
 exact h.imp (key _) (key _)
theorem Bd.al {B b:Nat} {l:List UInt8} {w:World} (h:Bd B b l w) (o:Obj):Bd B b l (w.alloc o):=
 h.quiet ⟨rfl,rfl,rfl,by simp,fun y hy=>Go.RowKit.Below.heap_alloc w o y hy⟩
theorem Bd.dr {B b:Nat} {l:List UInt8} {w:World} (h:Bd B b l w):Bd B b l w.drew:=h
theorem kci {e:TypeId} {b:Option Nat} {w w':World} (h:Go.RowKit.Below w.heap.size w w'):OthersKept e b w w':=fun k o hk _ _=>(h.block k (Array.getElem?_eq_some_iff.1 hk).1).trans hk
theorem kea (B b:Nat) (l:List UInt8) (s:ByteArray) (w:World) (h:Bd B b l w) (jbh:l.length+s.size≤140737488355328) (hBw:B≤w.heap.size):
  Calls Tryz.prog 38 #[.pointer (some ⟨b,0,none⟩),.string s] w fun e w'=>e=.returned (.tuple #[.int .i64 s.size,.nilIface])∧Bd B b (l++s.data.toList) w'∧Go.RowKit.Below B w w'∧OthersKept 5 (some b) w w':=by
 refine(Any.Builder_WriteString_k (ρ:=Tryz.lays156_ren) { Tryz.lays156 with } Tryz.Builder_Extra_156 B b (byteCells l) s w h (by rw[byteCells_length];exact jbh) hBw).mono ?_
 rintro e w' ⟨rfl,h1,h2,h3⟩
 refine⟨rfl,.inr ?_,h2,h3⟩
 have:byteCells (l++s.data.toList)=byteCells l++strCells s:=by simp[byteCells,strCells]
 rw[this]
 exact h1
theorem kbm (B b:Nat) (l:List UInt8) (w:World) (h:Bd B b l w) (hBw:B≤w.heap.size):
  Calls Tryz.prog 41 #[.pointer (some ⟨b,0,none⟩)] w fun e w'=>e=.returned (.string ⟨l.toArray⟩)∧Go.RowKit.Below B w w':=by
 refine(Any.Builder_String_any_k (ρ:=Tryz.lays156_ren) { Tryz.lays156 with } Tryz.Builder_Extra_156 B b l w h hBw).mono ?_
 rintro e w' ⟨rfl,h1,h2,h3⟩
 exact⟨rfl,h2⟩
def jdf (xs:List ByteArray):List UInt8:=Lib.join (xs.map (·.data.toList)) [32]++[10]
set_option maxHeartbeats 4000000 in
set_option maxRecDepth 100000 in
theorem jdv {B b wb c:Nat} {l:List UInt8} {xs:List ByteArray} (w:World) (hb:Bd B b l w) (hBw:B≤w.heap.size) (hcells:∀(j:Nat) x,xs[j]?=some x→w.cell? ⟨wb,0+j,none⟩=some (.string x)) (hbk:wb<w.heap.size) (hN:xs.length≤1000) (hcap:xs.length≤c)
  (jbh:l.length≤10000000∧(jdf xs).length≤10000000):
  Calls Tryz.prog 37 #[.slice (some ⟨wb,0,none⟩) xs.length c,.pointer (some ⟨b,0,none⟩)] w fun e w'=>e=.returned (.tuple #[])∧Bd B b (l++jdf xs) w'∧Go.RowKit.Below B w w'∧OthersKept 5 (some b) w w':=by
 have mixed:=mixed
 have hl2:(Lib.join (xs.map (·.data.toList)) [32]).length+1≤10000000:=by have:=jbh.2;simpa[jdf] using this
 have hsz:((⟨(Lib.join (xs.map (·.data.toList)) [32]).toArray⟩:ByteArray)++⟨#[10]⟩).data.toList=jdf xs:=by simp[jdf]
 have hsz2:((⟨(Lib.join (xs.map (·.data.toList)) [32]).toArray⟩:ByteArray)++⟨#[10]⟩).size=(jdf xs).length:=by rw[←hsz];rfl
 go_enter Tryz.func37,Tryz.ntmps37
 go_wp2_with (first | (go_at_call 39;refine(Tryz.strings_Join wb 0 c xs _ _ (fun j x hx=>hcells j x hx) hbk (by omega) hcap (by show(Lib.join _ [32]).length≤_;omega)).mono ?_;rintro e w1 ⟨rfl,hB1⟩) | (go_at_call 38;refine(kea B b l _ _ (hb.quiet hB1) (by rw[hsz2];omega) (by have:=hB1.size;omega)).mono ?_;rintro e w2 ⟨rfl,h1,h2,h3⟩))
 go_end0
 rw[hsz] at h1
 exact⟨rfl,h1,(hB1.mono hBw).trans h2,(kci hB1).trans h3⟩
end N38
end Go.Proofs
namespace Go.Proofs
open Go.RowKit Go.Shelf Go.Lib Go.Vm.X Go.Vm
namespace N38
abbrev sqB:ByteArray:=⟨#[115,113,117,97,114,101]⟩
abbrev hgB:ByteArray:=⟨#[104,105,110,103,101]⟩
abbrev upB:ByteArray:=⟨#[117,112]⟩
abbrev rtB:ByteArray:=⟨#[114,105,103,104,116]⟩
def j30 (it:Int→ByteArray) (s:SqT):List UInt8:=jdf [sqB,it s.1,it s.2]
def j6v (it:Int→ByteArray) (g:HgT):List UInt8:=jdf [hgB,it g.1.1,it g.1.2,bif g.2.1 then upB else rtB,it g.2.2]
def txS (it:Int→ByteArray) (S:List SqT) (k:Nat):List UInt8:=(S.take k).flatMap (j30 it)
def txH (it:Int→ByteArray) (S:List SqT) (H:List HgT) (k:Nat):List UInt8:=S.flatMap (j30 it)++(H.take k).flatMap (j6v it)
def Box (W:World) (k:Nat) (cs:Array Value) (T:TypeId) (w':World):Prop:=w'.heap[k]?=some (.cells cs T (0,0))∧Go.RowKit.Below W.heap.size W w'
theorem Box.quiet {W w w':World} {k:Nat} {cs:Array Value} {T:TypeId} (hB:Go.RowKit.Below w.heap.size w w') (h:Box W k cs T w):Box W k cs T w':=
 ⟨(hB.block k (Array.getElem?_eq_some_iff.1 h.1).1).trans h.1,h.2.trans (hB.mono h.2.size)⟩
theorem Box.bl {W w:World} {k:Nat} {cs:Array Value} {T:TypeId} (h:Box W k cs T w):Go.RowKit.Below W.heap.size W w:=h.2
theorem Box.al {W w:World} {k:Nat} {cs:Array Value} {T:TypeId} (h:Box W k cs T w) (o:Obj):Box W k cs T (w.alloc o):=Box.quiet (w:=w) ⟨rfl,rfl,rfl,by simp,fun y hy=>Go.RowKit.Below.heap_alloc w o y hy⟩ h
theorem Box.cell {W w:World} {k:Nat} {cs:Array Value} {T:TypeId} (h:Box W k cs T w) (j:Nat):w.cell? ⟨k,j,none⟩=cs[j]?:=Lib.cell_of_heap h.1 j
theorem Bd.start (w:World):Bd w.heap.size w.heap.size [] (w.alloc (.cells #[.pointer none,.slice none 0 0] 81)):=IsBuilderF.of (Lib.fresh_isBuilder 81 5 w)
theorem j8g {it:Int→ByteArray} {S:List SqT} {k:Nat} (hk:k<S.length):txS it S (k+1)=txS it S k++j30 it S[k]:=by
 unfold txS
 have h1:S.take (k+1)=S.take k++[S[k]]:=by rw[List.take_add_one,List.getElem?_eq_getElem hk];rfl
 rw[h1,List.flatMap_append]
 simp
theorem j9a (sep:List UInt8):∀(xs:List (List UInt8)),(Lib.join xs sep).length≤(xs.map (fun x=>x.length+sep.length)).sum
 | []=>by simp[Lib.join_nil]
 | x::r=>by
   have key:∀r:List (List UInt8),(Lib.joinTail sep r).length≤(r.map (fun x=>x.length+sep.length)).sum:=fun r=>by
    unfold Lib.joinTail
    induction r with
    | nil=>simp
    | cons y r ih=>
      simp only[List.map_cons,List.flatten_cons,List.length_append,List.sum_cons]
      omega
   have:=key r
   rw[Lib.join_cons,List.length_append,List.map_cons,List.sum_cons]
   omega
theorem jug (xs:List ByteArray):(jdf xs).length≤(xs.map (fun b=>b.size+1)).sum+1:=by
 have h:=j9a [32] (xs.map (·.data.toList))
 have e:(xs.map (·.data.toList)).map (fun x=>x.length+ ([32]:List UInt8).length)=xs.map (fun b=>b.size+1):=by
  rw[List.map_map]
  apply List.map_congr_left
  intro b _
  show b.data.toList.length+1=b.size+1
  rw[Array.length_toList]
  rfl
 rw[e] at h
 unfold jdf
 rw[List.length_append,List.length_singleton]
 omega
theorem jxy {it:Int→ByteArray} (hit:∀x,(it x).size≤100) (s:SqT):(j30 it s).length≤300:=by
 have h:=jug [sqB,it s.1,it s.2]
 have h0:([sqB,it s.1,it s.2].map (fun b:ByteArray=>b.size+1)).sum=7+ ((it s.1).size+1+ ((it s.2).size+1+0)):=rfl
 rw[h0] at h
 have h1:=hit s.1
 have h2:=hit s.2
 unfold j30
 omega
theorem j41 {it:Int→ByteArray} (hit:∀x,(it x).size≤100) (S:List SqT) (k:Nat):(txS it S k).length≤300*k:=by
 unfold txS
 induction k generalizing S with
 | zero=>simp
 | succ k ih=>
   cases S with
   | nil=>simp
   | cons s S=>
     have:=ih S
     have h1:=jxy hit s
     simp only[List.take_succ_cons,List.flatMap_cons,List.length_append]
     omega
theorem j8h {it:Int→ByteArray} {S:List SqT} {H:List HgT} {k:Nat} (hk:k<H.length):txH it S H (k+1)=txH it S H k++j6v it H[k]:=by
 unfold txH
 have h1:H.take (k+1)=H.take k++[H[k]]:=by rw[List.take_add_one,List.getElem?_eq_getElem hk];rfl
 rw[h1,List.flatMap_append,List.append_assoc]
 simp
theorem jxz {it:Int→ByteArray} (hit:∀x,(it x).size≤100) (g:HgT):(j6v it g).length≤400:=by
 have h:=jug [hgB,it g.1.1,it g.1.2,bif g.2.1 then upB else rtB,it g.2.2]
 have h0:([hgB,it g.1.1,it g.1.2,bif g.2.1 then upB else rtB,it g.2.2].map (fun b:ByteArray=>b.size+1)).sum=6+ ((it g.1.1).size+1+ ((it g.1.2).size+1+ ((bif g.2.1 then upB else rtB).size+1+ ((it g.2.2).size+1+0)))):=rfl
 rw[h0] at h
 have h1:=hit g.1.1
 have h2:=hit g.1.2
 have h3:=hit g.2.2
 have h4:(bif g.2.1 then upB else rtB).size≤5:=by cases g.2.1<;>decide
 unfold j6v
 omega
theorem kbb {it:Int→ByteArray} (hit:∀x,(it x).size≤100) (S:List SqT) (H:List HgT) (k:Nat):(txH it S H k).length≤300*S.length+400*k:=by
 have h0:=j41 hit S S.length
 have e0:txS it S S.length=S.flatMap (j30 it):=by simp[txS]
 rw[e0] at h0
 have key:∀(H:List HgT) (k:Nat),((H.take k).flatMap (j6v it)).length≤400*k:=fun H k=>by
  induction k generalizing H with
  | zero=>simp
  | succ k ih=>
    cases H with
    | nil=>simp
    | cons s H=>
      have:=ih H
      have h1:=jxz hit s
      simp only[List.take_succ_cons,List.flatMap_cons,List.length_append]
      omega
 have:=key H k
 unfold txH
 rw[List.length_append]
 omega
theorem kho (w:World) (a b c:ByteArray) (T:TypeId):∀(j:Nat) x,[a,b,c][j]?=some x→(w.alloc (.cells #[.string a,.string b,.string c] T)).cell? ⟨w.heap.size,0+j,none⟩=some (.string x):=by
 intro j x h
 rw[Nat.zero_add,World.cell?_alloc_new]
 match j,h with
 | 0,h=>cases h;rfl
 | 1,h=>cases h;rfl
 | 2,h=>cases h;rfl
theorem Bd.lt' {B b:Nat} {l:List UInt8} {w:World} (h:Bd B b l w):b<w.heap.size:=h.elim (fun h=>h.lt) (fun h=>h.lt)
abbrev Bx4 (W:World) (k:Nat) (a b c d:Value) (w':World):Prop:=w'.cell? ⟨k,0,none⟩=some a∧w'.cell? ⟨k,1,none⟩=some b∧w'.cell? ⟨k,2,none⟩=some c∧w'.cell? ⟨k,3,none⟩=some d∧Box W k #[a,b,c,d] 39 w'
theorem Bx4.of {W w:World} {k:Nat} {a b c d:Value} (h:Box W k #[a,b,c,d] 39 w):Bx4 W k a b c d w:=⟨h.cell 0,h.cell 1,h.cell 2,h.cell 3,h⟩
theorem Bx4.step {W w w':World} {k:Nat} {a b c d:Value} (hB:Go.RowKit.Below w.heap.size w w') (h:Bx4 W k a b c d w):Bx4 W k a b c d w':=Bx4.of (Box.quiet hB h.2.2.2.2)
theorem Bx4.alo {W w:World} {k:Nat} {a b c d:Value} (h:Bx4 W k a b c d w) (o:Obj):Bx4 W k a b c d (w.alloc o):=Bx4.of (h.2.2.2.2.al o)
theorem Bx4.dr {W w:World} {k:Nat} {a b c d:Value} (h:Bx4 W k a b c d w):Bx4 W k a b c d w.drew:=Bx4.of ⟨h.2.2.2.2.1,h.2.2.2.2.2.trans ⟨rfl,rfl,rfl,Nat.le_refl _,fun y hy=>rfl⟩⟩
theorem Bx4.size {W w:World} {k:Nat} {a b c d:Value} (h:Bx4 W k a b c d w):W.heap.size≤w.heap.size:=h.2.2.2.2.2.size
theorem Bx4.last {W w w':World} {b:Nat} {k:Nat} {x y u v:Value} (hk:k≠b) (hB:Go.RowKit.Below W.heap.size w w') (hO:OthersKept 5 (some b) w w') (h:Bx4 W k x y u v w):Bx4 W k x y u v w':=
 Bx4.of ⟨hO k _ h.2.2.2.2.1 (by intro e;cases e;exact hk rfl) (by intro c fz e;cases e),h.2.2.2.2.2.trans hB⟩
theorem jkr (w:World) (p:Nat) (hp:p=w.heap.size) (a b c d e:ByteArray) (T:TypeId):∀(j:Nat) x,[a,b,c,d,e][j]?=some x→(w.alloc (.cells #[.string a,.string b,.string c,.string d,.string e] T)).cell? ⟨p,0+j,none⟩=some (.string x):=by
 intro j x h
 subst hp
 rw[Nat.zero_add,World.cell?_alloc_new]
 match j,h with
 | 0,h=>cases h;rfl
 | 1,h=>cases h;rfl
 | 2,h=>cases h;rfl
 | 3,h=>cases h;rfl
 | 4,h=>cases h;rfl
theorem jx9 {w w':World} (h:Grw w w'):Go.RowKit.Below w.heap.size w w':=by
 obtain⟨q,os,rfl⟩:=h
 exact Go.Lib.below_grow _ w (Nat.le_refl _) q os
theorem jv1 (w:World) (o:Obj):(w.alloc o).heap[w.heap.size]?=some o:=Go.heap_alloc_new w o
theorem Box.new {W w:World} {cs:Array Value} {T:TypeId} (h:Go.RowKit.Below W.heap.size W w):Box W w.heap.size cs T (w.alloc (.cells cs T)):=
 ⟨jv1 w _,h.trans ⟨rfl,rfl,rfl,by simp,fun z hz=>Go.RowKit.Below.heap_alloc w _ z (by have:=h.size;omega)⟩⟩
theorem Box.dr {W w:World} {k:Nat} {cs:Array Value} {T:TypeId} (h:Box W k cs T w):Box W k cs T w.drew:=⟨h.1,h.2.trans ⟨rfl,rfl,rfl,Nat.le_refl _,fun y hy=>rfl⟩⟩
abbrev Bxa (W:World) (p:Nat) (w':World):Prop:=w'.cell? ⟨p,0,none⟩=some (.string rtB)∧w'.cell? ⟨p,1,none⟩=some (.string upB)∧Box W p #[.string rtB,.string upB] 9 w'
theorem Bxa.of {W w:World} {p:Nat} (h:Box W p #[.string rtB,.string upB] 9 w):Bxa W p w:=⟨h.cell 0,h.cell 1,h⟩
theorem Bxa.step {W w w':World} {p:Nat} (hB:Go.RowKit.Below w.heap.size w w') (h:Bxa W p w):Bxa W p w':=Bxa.of (Box.quiet hB h.2.2)
theorem Bxa.alo {W w:World} {p:Nat} (h:Bxa W p w) (o:Obj):Bxa W p (w.alloc o):=Bxa.of (h.2.2.al o)
theorem Bxa.last {W w w':World} {b p:Nat} (hk:p≠b) (hB:Go.RowKit.Below W.heap.size w w') (hO:OthersKept 5 (some b) w w') (h:Bxa W p w):Bxa W p w':=
 Bxa.of ⟨hO p _ h.2.2.1 (by intro e;cases e;exact hk rfl) (by intro c fz e;cases e),h.2.2.2.trans hB⟩
theorem Bxa.new {W w:World} (h:Go.RowKit.Below W.heap.size W w):Bxa W w.heap.size (w.alloc (.cells #[.string rtB,.string upB] 9)):=Bxa.of (Box.new h)
theorem Bxa.newd {W w:World} {o:Obj} (h:Go.RowKit.Below W.heap.size W w):Bxa W (w.heap.size+1) ((w.alloc o).alloc (.cells #[.string rtB,.string upB] 9)).drew:=by
 have h2:Go.RowKit.Below W.heap.size W (w.alloc o):=h.trans ⟨rfl,rfl,rfl,by simp,fun z hz=>Go.RowKit.Below.heap_alloc w _ z (by have:=h.size;omega)⟩
 have:=Bxa.of (Box.dr (Box.new (cs:=#[.string rtB,.string upB]) (T:=9) h2))
 have e:(w.alloc o).heap.size=w.heap.size+1:=by simp
 rw[e] at this
 exact this
theorem jcw {P:Program} {md:Region.Mode} {ops:Array Oper} {Q:Exit→Act→World→Prop} {S S':World→Prop} (hS:∀w,S' w→S w):∀(fuel:Nat) (listed:Array Bool) (a:Act) (w:World),wpAnyH P md ops Q S' fuel listed a w→wpAnyH P md ops Q S fuel listed a w
 | 0,_,_,_,h=>h
 | n+1,_,_,_,h=>⟨h.1,fun i hi=>wpOp_mono (fun a' w' h'=>⟨hS _ h'.1,jcw hS n _ a' w' h'.2⟩) (h.2 i hi)⟩
abbrev Bx2 (W:World) (k:Nat) (a b:Value) (w':World):Prop:=w'.cell? ⟨k,0,none⟩=some a∧w'.cell? ⟨k,1,none⟩=some b∧Box W k #[a,b] 35 w'
theorem Bx2.step {W w w':World} {k:Nat} {a b:Value} (hB:Go.RowKit.Below w.heap.size w w') (h:Bx2 W k a b w):Bx2 W k a b w':=
 have:=Box.quiet hB h.2.2
 ⟨this.cell 0,this.cell 1,this⟩
theorem Bx2.size {W w:World} {k:Nat} {a b:Value} (h:Bx2 W k a b w):W.heap.size≤w.heap.size:=h.2.2.2.size
theorem Bx2.alo {W w:World} {k:Nat} {a b:Value} (h:Bx2 W k a b w) (o:Obj):Bx2 W k a b (w.alloc o):=h.step (w:=w) ⟨rfl,rfl,rfl,by simp,fun y hy=>Go.RowKit.Below.heap_alloc w o y hy⟩
theorem Bx2.last {W w w':World} {b:Nat} {k:Nat} {x y:Value} (hk:k≠b) (hB:Go.RowKit.Below W.heap.size w w') (hO:OthersKept 5 (some b) w w') (h:Bx2 W k x y w):Bx2 W k x y w':=by
 have:Box W k #[x,y] 35 w':=⟨hO k _ h.2.2.1 (by intro e;cases e;exact hk rfl) (by intro c fz e;cases e),h.2.2.2.trans hB⟩
 exact⟨this.cell 0,this.cell 1,this⟩
theorem kh3 (x y b:Int) (w:World):Calls Tryz.prog 40 #[.agg #[.int .i64 x,.int .i64 y,.bool false,.int .i8 b]] w fun e w'=>e=.returned (.int .i64 0)∧Go.RowKit.Below w.heap.size w w':=(ju5 x y false b w).mono (fun e w' h=>⟨h.1,jx9 h.2⟩)
theorem kh2 (x y b:Int) (w:World):Calls Tryz.prog 40 #[.agg #[.int .i64 x,.int .i64 y,.bool true,.int .i8 b]] w fun e w'=>e=.returned (.int .i64 1)∧Go.RowKit.Below w.heap.size w w':=(ju5 x y true b w).mono (fun e w' h=>⟨h.1,jx9 h.2⟩)
set_option maxHeartbeats 8000000 in
set_option maxRecDepth 100000 in
theorem text_walk {it:Int→ByteArray} {S:List SqT} {H:List HgT} {sb so sc hb ho hcap:Nat} {ao:Option Addr} (w:World) (hS:khw w sb so S) (hH:kjj w hb ho H) (ha:0<H.length→ao=some ⟨hb,ho,none⟩) (hl:S.length≤1000∧H.length≤1000)
  (hit:∀x,(it x).size≤100) (hbd8:∀g∈H,∀bd,g.2.2=bd→IntKind.i64.wrap bd=bd)
  (hC:∀w',Go.RowKit.Below w.heap.size w w'→Calls Tryz.prog 16 #[.agg #[.slice (some ⟨sb,so,none⟩) S.length sc,.slice ao H.length hcap]] w' fun e w''=>e=.returned (.int .i64 0)∧Go.RowKit.Below w'.heap.size w' w'')
  (hI:∀x,((∃s∈S,x=s.1∨x=s.2)∨∃g∈H,x=g.1.1∨x=g.1.2∨x=g.2.2)→∀w',Go.RowKit.Below w.heap.size w w'→Calls Tryz.prog 21 #[.int .i64 x] w' fun e w''=>e=.returned (.string (it x))∧Go.RowKit.Below w'.heap.size w' w''):
  Calls Tryz.prog 8 #[.agg #[.slice (some ⟨sb,so,none⟩) S.length sc,.slice ao H.length hcap]] w fun e w'=>e=.returned (.string ⟨(txH it S H H.length).toArray⟩)∧Go.RowKit.Below w.heap.size w w':=by
 have mixed:=mixed
 have hW0:Go.RowKit.Below w.heap.size w (w.alloc (.cells #[.slice (some ⟨sb,so,none⟩) S.length sc,.slice ao H.length hcap] 29)):=⟨rfl,rfl,rfl,by simp,fun y hy=>Go.RowKit.Below.heap_alloc w _ y hy⟩
 obtain⟨p0,p1⟩:=j6l w (.slice (some ⟨sb,so,none⟩) S.length sc) (.slice ao H.length hcap) 29
 have hsz0:(w.alloc (.cells #[.slice (some ⟨sb,so,none⟩) S.length sc,.slice ao H.length hcap] 29)).heap.size=w.heap.size+1:=by simp
 go_enter Tryz.func8,Tryz.ntmps8
 go_wp2_with (first | (go_at_call 16;refine(hC _ hW0).mono ?_;rintro e W1 ⟨rfl,hB1⟩;have q0:=jcf hB1 p0;have q1:=jcf hB1 p1;have q0':=jcq (.cells #[.pointer none,.slice none 0 0] 81) q0))
 go_loopg [17] S.length (fun g s17 wr=>∃k:Nat,k≤S.length∧S.length-k≤g∧s17=.int .i64 k∧Bd W1.heap.size W1.heap.size (txS it S k) wr∧Go.RowKit.Below W1.heap.size W1 wr)
 case atStart=>exact⟨0,Nat.zero_le _,by omega,rfl,Bd.start W1,⟨rfl,rfl,rfl,by simp,fun y hy=>Go.RowKit.Below.heap_alloc W1 _ y hy⟩⟩
 case round=>
  obtain⟨k,hk,hg,rfl,hbd,hbl⟩:=hrel
  have hs1:=hB1.size
  rw[hsz0] at hs1
  have hs2:=hbl.size
  by_cases hlt:k<S.length
  ·obtain⟨x,y,hxy⟩:∃x y,S[k]=(x,y):=⟨_,_,rfl⟩
   have hw1:Go.RowKit.Below w.heap.size w wr:=(hW0.trans (hB1.mono (by omega))).trans (hbl.mono (by omega))
   obtain⟨g1,g2⟩:=hS k hlt
   rw[hxy] at g1 g2
   replace g1:=jcf hw1 g1
   replace g2:=jcf hw1 g2
   have k0:(0:Int)≤(k:Int):=by omega
   have k1:(k:Int)< (S.length:Int):=by omega
   have n2:=j6l wr (.int .i64 x) (.int .i64 y) 35
   have X:=j8g (it:=it) hlt
   rw[hxy] at X
   have L1:=j41 hit S k
   have L2:=jxy hit (x,y)
   have hbd1:Bd W1.heap.size W1.heap.size (txS it S k) (wr.alloc (.cells #[.int .i64 x,.int .i64 y] 35)).drew:=(hbd.al _).dr
   have hbx:Bx2 W1 wr.heap.size (.int .i64 x) (.int .i64 y) (wr.alloc (.cells #[.int .i64 x,.int .i64 y] 35)).drew:=⟨n2.1,n2.2,jv1 wr _,hbl.trans ⟨rfl,rfl,rfl,by simp[World.drew],fun z hz=>Go.RowKit.Below.heap_alloc wr _ z (by omega)⟩⟩
   have hIx:=hI x (.inl ⟨S[k],List.getElem_mem hlt,by rw[hxy];exact .inl rfl⟩)
   have hIy:=hI y (.inl ⟨S[k],List.getElem_mem hlt,by rw[hxy];exact .inr rfl⟩)
   have hwb:∀ {w'},Bx2 W1 wr.heap.size (.int .i64 x) (.int .i64 y) w'→Go.RowKit.Below w.heap.size w w':=fun h=>(hW0.trans (hB1.mono (by omega))).trans (h.2.2.2.mono (by omega))
   have hne:wr.heap.size≠W1.heap.size:=by have:=hbd.lt';omega
   have L3:(jdf [sqB,it x,it y]).length≤10000000:=Nat.le_trans (show(jdf [sqB,it x,it y]).length≤300 from L2) (by decide)
   go_wp2
   go_region_held3 (fun w'=>w'.cell? ⟨wr.heap.size,0,none⟩=some (.int .i64 x)∧w'.cell? ⟨wr.heap.size,1,none⟩=some (.int .i64 y)∧Box W1 wr.heap.size #[.int .i64 x,.int .i64 y] 35 w')
    (first | (with_reducible exact hbx) | (with_reducible assumption) | (with_reducible exact Bx2.step (by assumption) (by assumption)) | (with_reducible (refine Bx2.alo ?_ _;assumption)) | (with_reducible (refine Bx2.last hne hB3 hO3 ?_;assumption)) | fail)
    (first | (go_at_call 21;refine(hIx _ (hwb (by with_reducible assumption))).mono ?_;rintro e w' ⟨rfl,hB2⟩;have hbd2:=Bd.quiet (by with_reducible assumption) hB2) | (go_at_call 21;refine(hIy _ (hwb (by with_reducible assumption))).mono ?_;rintro e w' ⟨rfl,hB2⟩;have hbd2:=Bd.quiet (by with_reducible assumption) hB2) | (go_at_call 37;refine(jdv (xs:=[sqB,it x,it y]) _ (Bd.al (by with_reducible assumption) _) (Bx2.size (by with_reducible assumption)) (kho _ _ _ _ _) (by simp) (Nat.le_of_ble_eq_true rfl) (Nat.le_refl 3) ⟨by omega,L3⟩).mono ?_;rintro e w' ⟨rfl,hbd3,hB3,hO3⟩))
   go_split_ands
   go_wp2
   go_roundg (S.length-(k+1))
   case measure=>omega
   case rel=>
    have X2:txS it S k++jdf [sqB,it x,it y]=txS it S (k+1):=X.symm
    rw[X2] at hbd3
    exact⟨k+1,by omega,by omega,by go_num,hbd3,Box.bl (k:=wr.heap.size) (cs:=#[.int .i64 x,.int .i64 y]) (T:=35) (by assumption)⟩
  ·have hkn:k=S.length:=by omega
   subst hkn
   have q1':=jcf hbl q1
   have e0:txS it S S.length=txH it S H 0:=by simp[txS,txH]
   rw[e0] at hbd
   have L0:=kbb hit S H
   go_wp2
   go_loopg [36] H.length (fun g s36 wr=>∃k:Nat,k≤H.length∧H.length-k≤g∧s36=.int .i64 k∧Bd W1.heap.size W1.heap.size (txH it S H k) wr∧Go.RowKit.Below W1.heap.size W1 wr)
   case atStart=>exact⟨0,Nat.zero_le _,by omega,rfl,hbd,hbl⟩
   case round=>
    clear hlt hg hs2 q1' e0 hbd hbl
    obtain⟨k,hk,hg,rfl,hbd,hbl⟩:=hrel
    have hs2:=hbl.size
    by_cases hlt:k<H.length
    ·obtain rfl:=ha (by omega)
     obtain⟨x,y,u,bd,hxy⟩:∃x y u bd,H[k]=((x,y),(u,bd)):=⟨_,_,_,_,rfl⟩
     have hw1:Go.RowKit.Below w.heap.size w wr:=(hW0.trans (hB1.mono (by omega))).trans (hbl.mono (by omega))
     obtain⟨g1,g2,g3,g4⟩:=hH k hlt
     rw[hxy] at g1 g2 g3 g4
     replace g1:=jcf hw1 g1
     replace g2:=jcf hw1 g2
     replace g3:=jcf hw1 g3
     replace g4:=jcf hw1 g4
     have k0:(0:Int)≤(k:Int):=by omega
     have k1:(k:Int)< (H.length:Int):=by omega
     have n4:=kiz wr (.int .i64 x) (.int .i64 y) (.bool u) (.int .i8 bd) 39
     have X:=j8h (it:=it) (S:=S) hlt
     rw[hxy] at X
     have L1:=L0 k
     have L2:=jxz hit ((x,y),(u,bd))
     have hbd1:Bd W1.heap.size W1.heap.size (txH it S H k) (wr.alloc (.cells #[.int .i64 x,.int .i64 y,.bool u,.int .i8 bd] 39)).drew:=(hbd.al _).dr
     have hne:wr.heap.size≠W1.heap.size:=by have:=hbd.lt';omega
     have hIx:=hI x (.inr ⟨H[k],List.getElem_mem hlt,by rw[hxy];exact .inl rfl⟩)
     have hIy:=hI y (.inr ⟨H[k],List.getElem_mem hlt,by rw[hxy];exact .inr (.inl rfl)⟩)
     have hIb:=hI bd (.inr ⟨H[k],List.getElem_mem hlt,by rw[hxy];exact .inr (.inr rfl)⟩)
     have hwb:∀ {w'},Bx4 W1 wr.heap.size (.int .i64 x) (.int .i64 y) (.bool u) (.int .i8 bd) w'→Go.RowKit.Below w.heap.size w w':=fun h=>(hW0.trans (hB1.mono (by omega))).trans (h.2.2.2.2.2.mono (by omega))
     have hbx:Bx4 W1 wr.heap.size (.int .i64 x) (.int .i64 y) (.bool u) (.int .i8 bd) (wr.alloc (.cells #[.int .i64 x,.int .i64 y,.bool u,.int .i8 bd] 39)).drew:=Bx4.of ⟨jv1 wr _,hbl.trans ⟨rfl,rfl,rfl,by simp[World.drew],fun z hz=>Go.RowKit.Below.heap_alloc wr _ z (by omega)⟩⟩
     have hbxd:∀o,Bx4 W1 wr.heap.size (.int .i64 x) (.int .i64 y) (.bool u) (.int .i8 bd) ((wr.alloc (.cells #[.int .i64 x,.int .i64 y,.bool u,.int .i8 bd] 39)).alloc o).drew:=fun o=>Bx4.dr (Bx4.alo (Bx4.of ⟨jv1 wr _,hbl.trans ⟨rfl,rfl,rfl,by simp,fun z hz=>Go.RowKit.Below.heap_alloc wr _ z (by omega)⟩⟩) o)
     have hbdd:∀o,Bd W1.heap.size W1.heap.size (txH it S H k) ((wr.alloc (.cells #[.int .i64 x,.int .i64 y,.bool u,.int .i8 bd] 39)).alloc o).drew:=fun o=>((hbd.al _).al o).dr
     have L3:(jdf [hgB,it x,it y,bif u then upB else rtB,it bd]).length≤10000000:=Nat.le_trans (show(jdf [hgB,it x,it y,bif u then upB else rtB,it bd]).length≤400 from L2) (by decide)
     have hwr:IntKind.i64.wrap bd=bd:=hbd8 _ (List.getElem_mem hlt) bd (by rw[hxy])
     clear hxy hS hH hI hit hbd8 L0 L2
     cases u
     ·go_wp2
      clear g1 g2 g3 g4 n4 hw1 q0 q1
      refine wp_region_held_drew (S:=fun w'=>w'.cell? ⟨wr.heap.size,0,none⟩=some (.int .i64 x)∧w'.cell? ⟨wr.heap.size,1,none⟩=some (.int .i64 y)∧w'.cell? ⟨wr.heap.size,2,none⟩=some (.bool false)∧w'.cell? ⟨wr.heap.size,3,none⟩=some (.int .i8 bd)∧Box W1 wr.heap.size #[.int .i64 x,.int .i64 y,.bool false,.int .i8 bd] 39 w') (by kernel_rfl) hbx (fun hHeld=>?_)
      refine wpAnyH_take (i:=0) (oi:=⟨some 40,_,_,_,_,none⟩) (v:=?_) rfl (by kernel_rfl) (by kernel_rfl) (by kernel_rfl) (fun _ _ _ h=>h) (Or.inl ⟨by rfl,?_⟩) (by assumption) ?_
      rotate_left
      ·intro w hSw;(try dsimp only at hSw);go_simp;try with_reducible rfl
      try simp only[Act.put,List.setIfInBounds_toArray,List.set_cons_zero,List.set_cons_succ]
      refine wpAnyH_take (i:=1) (oi:=⟨some 41,_,_,_,_,none⟩) (v:=?_) rfl (by kernel_rfl) (by kernel_rfl) (by kernel_rfl) (fun _ _ _ h=>h) (Or.inl ⟨by rfl,?_⟩) (by assumption) ?_
      rotate_left
      ·intro w hSw;(try dsimp only at hSw);go_simp;try with_reducible rfl
      try simp only[Act.put,List.setIfInBounds_toArray,List.set_cons_zero,List.set_cons_succ]
      refine wpAnyH_take (i:=2) (oi:=⟨some 42,_,_,_,_,none⟩) (v:=?_) rfl (by kernel_rfl) (by kernel_rfl) (by kernel_rfl) (fun _ _ _ h=>h) (Or.inl ⟨by rfl,?_⟩) (by assumption) ?_
      rotate_left
      ·intro w hSw;(try dsimp only at hSw);go_simp;try with_reducible rfl
      try simp only[Act.put,List.setIfInBounds_toArray,List.set_cons_zero,List.set_cons_succ]
      refine wpAnyH_take (i:=3) (oi:=⟨some 43,_,_,_,_,none⟩) (v:=?_) rfl (by kernel_rfl) (by kernel_rfl) (by kernel_rfl) (fun _ _ _ h=>h) (Or.inl ⟨by rfl,?_⟩) (by assumption) ?_
      rotate_left
      ·intro w hSw;(try dsimp only at hSw);go_simp;try with_reducible rfl
      try simp only[Act.put,List.setIfInBounds_toArray,List.set_cons_zero,List.set_cons_succ]
      refine wpAnyH_take (i:=4) (oi:=⟨some 44,_,_,_,_,none⟩) (v:=?_) rfl (by kernel_rfl) (by kernel_rfl) (by kernel_rfl) (fun _ _ _ h=>h) (Or.inl ⟨by rfl,?_⟩) (by assumption) ?_
      rotate_left
      ·intro w hSw;(try dsimp only at hSw);go_simp;try with_reducible rfl
      try simp only[Act.put,List.setIfInBounds_toArray,List.set_cons_zero,List.set_cons_succ]
      refine wpAnyH_take (i:=6) (oi:=⟨some 46,_,_,_,_,none⟩) (v:=?_) rfl (by kernel_rfl) (by kernel_rfl) (by kernel_rfl) (fun _ _ _ h=>h) (Or.inl ⟨by rfl,?_⟩) (by assumption) ?_
      rotate_left
      ·intro w hSw;(try dsimp only at hSw);go_simp;try with_reducible rfl
      try simp only[Act.put,List.setIfInBounds_toArray,List.set_cons_zero,List.set_cons_succ]
      refine wpAnyH_take (i:=7) (oi:=⟨some 47,_,_,_,_,none⟩) (v:=?_) rfl (by kernel_rfl) (by kernel_rfl) (by kernel_rfl) (fun _ _ _ h=>h) (Or.inl ⟨by rfl,?_⟩) (by assumption) ?_
      rotate_left
      ·intro w hSw;(try dsimp only at hSw);go_simp;try with_reducible rfl
      try simp only[Act.put,List.setIfInBounds_toArray,List.set_cons_zero,List.set_cons_succ]
      refine wpAnyH_take (i:=8) (oi:=⟨some 48,_,_,_,_,none⟩) (v:=?_) rfl (by kernel_rfl) (by kernel_rfl) (by kernel_rfl) (fun _ _ _ h=>h) (Or.inl ⟨by rfl,?_⟩) (by assumption) ?_
      rotate_left
      ·intro w hSw;(try dsimp only at hSw);go_simp;try with_reducible rfl
      try simp only[Act.put,List.setIfInBounds_toArray,List.set_cons_zero,List.set_cons_succ]
      refine wpAnyH_take (i:=9) (oi:=⟨some 49,_,_,_,_,none⟩) (v:=?_) rfl (by kernel_rfl) (by kernel_rfl) (by kernel_rfl) (fun _ _ _ h=>h) (Or.inl ⟨by rfl,?_⟩) (by assumption) ?_
      rotate_left
      ·intro w hSw;(try dsimp only at hSw);go_simp;try with_reducible rfl
      try simp only[Act.put,List.setIfInBounds_toArray,List.set_cons_zero,List.set_cons_succ]
      refine wpAnyH_take (i:=12) (oi:=⟨some 52,_,_,_,_,none⟩) (v:=?_) rfl (by kernel_rfl) (by kernel_rfl) (by kernel_rfl) (fun _ _ _ h=>h) (Or.inl ⟨by rfl,?_⟩) (by assumption) ?_
      rotate_left
      ·intro w hSw;(try dsimp only at hSw);go_simp;try with_reducible rfl
      try simp only[Act.put,List.setIfInBounds_toArray,List.set_cons_zero,List.set_cons_succ]
      refine wpAnyH_take (i:=16) (oi:=⟨some 56,_,_,_,_,none⟩) (v:=?_) rfl (by kernel_rfl) (by kernel_rfl) (by kernel_rfl) (fun _ _ _ h=>h) (Or.inl ⟨by rfl,?_⟩) (by assumption) ?_
      rotate_left
      ·intro w hSw;(try dsimp only at hSw);go_simp;try with_reducible rfl
      try simp only[Act.put,List.setIfInBounds_toArray,List.set_cons_zero,List.set_cons_succ]
      refine wpAnyH_take (i:=17) (oi:=⟨some 57,_,_,_,_,none⟩) (v:=?_) rfl (by kernel_rfl) (by kernel_rfl) (by kernel_rfl) (fun _ _ _ h=>h) (Or.inl ⟨by rfl,?_⟩) (by assumption) ?_
      rotate_left
      ·intro w hSw;(try dsimp only at hSw);go_simp;try with_reducible rfl
      try simp only[Act.put,List.setIfInBounds_toArray,List.set_cons_zero,List.set_cons_succ]
      refine wpAnyH_take (i:=18) (oi:=⟨some 58,_,_,_,_,none⟩) (v:=?_) rfl (by kernel_rfl) (by kernel_rfl) (by kernel_rfl) (fun _ _ _ h=>h) (Or.inl ⟨by rfl,?_⟩) (by assumption) ?_
      rotate_left
      ·intro w hSw;(try dsimp only at hSw);go_simp;try with_reducible rfl
      try simp only[Act.put,List.setIfInBounds_toArray,List.set_cons_zero,List.set_cons_succ]
      refine wpAnyH_take (i:=19) (oi:=⟨some 59,_,_,_,_,none⟩) (v:=?_) rfl (by kernel_rfl) (by kernel_rfl) (by kernel_rfl) (fun _ _ _ h=>h) (Or.inl ⟨by rfl,?_⟩) (by assumption) ?_
      rotate_left
      ·intro w hSw;(try dsimp only at hSw);go_simp;try with_reducible rfl
      try simp only[Act.put,List.setIfInBounds_toArray,List.set_cons_zero,List.set_cons_succ]
      refine wpAnyH_ready (rs:=[5,11]) (by kernel_rfl) (by simp) ?_
      refine AllReadyH.cons (o:=⟨some 45,_,_,_,_,none⟩) rfl (fun K2 hK2=>?_) ?_
      ·go_simp
       (go_at_call 21;refine(hIx _ (hwb hHeld)).mono ?_;rintro e w5 ⟨rfl,hB5⟩)
       have hbd5:=Bd.quiet hbd1 hB5
       go_wp2_with fail
       refine hK2.out _ _ (Bx4.step hB5 hHeld) (fun hHeld=>?_)
       clear hK2 K2
       try simp only[Act.put,List.setIfInBounds_toArray,List.set_cons_zero,List.set_cons_succ]
       refine wpAnyH_ready (rs:=[10,11]) (by kernel_rfl) (by simp) ?_
       refine AllReadyH.cons (o:=⟨some 50,_,_,_,_,none⟩) rfl (fun K2 hK2=>?_) ?_
       ·go_simp
        (go_at_call 21;refine(hIy _ (hwb hHeld)).mono ?_;rintro e w10 ⟨rfl,hB10⟩)
        have hbd10:=Bd.quiet hbd5 hB10
        go_wp2_with fail
        refine hK2.out _ _ (Bx4.step hB10 hHeld) (fun hHeld=>?_)
        clear hK2 K2
        try simp only[Act.put,List.setIfInBounds_toArray,List.set_cons_zero,List.set_cons_succ]
        refine wpAnyH_ready (rs:=[11,13]) (by kernel_rfl) (by simp) ?_
        refine AllReadyH.cons (o:=⟨some 51,_,_,_,_,none⟩) rfl (fun K2 hK2=>?_) ?_
        ·go_simp
         go_wp2_with fail
         have hlw:=hHeld.2.2.2.2.2
         refine hK2.out _ _ (Bx4.alo hHeld _) (fun hHeld=>?_)
         have hA:=Bxa.new hlw
         have hp:w10.heap.size≠W1.heap.size:=by have:=Bd.lt' hbd10;omega
         clear hK2 K2
         try simp only[Act.put,List.setIfInBounds_toArray,List.set_cons_zero,List.set_cons_succ]
         refine wpAnyH_ready (rs:=[13]) (by kernel_rfl) (by simp) ?_
         refine AllReadyH.cons (o:=⟨some 53,_,_,_,_,none⟩) rfl (fun K2 hK2=>?_) ?_
         ·go_simp
          (go_at_call 40;refine(kh3 x y bd _).mono ?_;rintro e w13 ⟨rfl,hB13⟩)
          have hbd13:=Bd.quiet (Bd.al hbd10 _) hB13
          go_wp2_with fail
          refine hK2.out _ _ (Bx4.step hB13 hHeld) (fun hHeld=>?_)
          have hA:=Bxa.step hB13 hA
          clear hK2 K2
          try simp only[Act.put,List.setIfInBounds_toArray,List.set_cons_zero,List.set_cons_succ]
          refine wpAnyH_take (i:=14) (oi:=⟨some 54,_,_,_,_,none⟩) (v:=?_) rfl (by kernel_rfl) (by kernel_rfl) (by kernel_rfl) (fun _ _ _ h=>h) (Or.inl ⟨by rfl,?_⟩) (by assumption) ?_
          rotate_left
          ·intro w hSw;(try dsimp only at hSw);go_simp;try with_reducible rfl
          try simp only[Act.put,List.setIfInBounds_toArray,List.set_cons_zero,List.set_cons_succ]
          refine jcw (S':=fun w'=>(w'.cell? ⟨wr.heap.size,0,none⟩=some (.int .i64 x)∧w'.cell? ⟨wr.heap.size,1,none⟩=some (.int .i64 y)∧w'.cell? ⟨wr.heap.size,2,none⟩=some (.bool false)∧w'.cell? ⟨wr.heap.size,3,none⟩=some (.int .i8 bd)∧Box W1 wr.heap.size #[.int .i64 x,.int .i64 y,.bool false,.int .i8 bd] 39 w')∧Bxa W1 (w10.heap.size) w') (fun _ h=>h.1) _ _ _ _ ?_
          replace hHeld:=And.intro hHeld hA
          refine wpAnyH_take (i:=15) (oi:=⟨some 55,_,_,_,_,none⟩) (v:=?_) rfl (by kernel_rfl) (by kernel_rfl) (by kernel_rfl) (fun _ _ _ h=>h) (Or.inl ⟨by rfl,?_⟩) (by assumption) ?_
          rotate_left
          ·intro w hSw;(try dsimp only at hSw);go_simp;try with_reducible rfl
          try simp only[Act.put,List.setIfInBounds_toArray,List.set_cons_zero,List.set_cons_succ]
          refine wpAnyH_ready (rs:=[20]) (by kernel_rfl) (by simp) ?_
          refine AllReadyH.cons (o:=⟨some 60,_,_,_,_,none⟩) rfl (fun K2 hK2=>?_) ?_
          ·go_simp
           (go_at_call 21;refine(hIb _ (hwb hHeld.1)).mono ?_;rintro e w20 ⟨rfl,hB20⟩)
           have hbd20:=Bd.quiet hbd13 hB20
           go_wp2_with fail
           refine hK2.out _ _ (⟨Bx4.step hB20 hHeld.1,Bxa.step hB20 hHeld.2⟩) (fun hHeld=>?_)
           clear hK2 K2
           try simp only[Act.put,List.setIfInBounds_toArray,List.set_cons_zero,List.set_cons_succ]
           refine wpAnyH_ready (rs:=[21]) (by kernel_rfl) (by simp) ?_
           refine AllReadyH.cons (o:=⟨some 61,_,_,_,_,none⟩) rfl (fun K2 hK2=>?_) AllReadyH.nil
           go_simp
           go_wp2_with fail
           refine hK2.out _ _ ⟨Bx4.alo hHeld.1 _,Bxa.alo hHeld.2 _⟩ (fun hHeld=>?_)
           clear hK2 K2
           try simp only[Act.put,List.setIfInBounds_toArray,List.set_cons_zero,List.set_cons_succ]
           refine wpAnyH_ready (rs:=[22]) (by kernel_rfl) (by simp) ?_
           refine AllReadyH.cons (o:=⟨some 62,_,_,_,_,none⟩) rfl (fun K2 hK2=>?_) AllReadyH.nil
           go_simp
           (go_at_call 37;refine(jdv (xs:=[hgB,it x,it y,rtB,it bd]) _ (Bd.al hbd20 _) (Bx4.size hHeld.1) (jkr _ _ (by simp) _ _ _ _ _ _) (by simp) (Nat.le_of_ble_eq_true rfl) (Nat.le_refl 5) ⟨by omega,L3⟩).mono ?_;rintro e w22 ⟨rfl,hbd3,hB3,hO3⟩)
           go_wp2_with fail
           refine hK2.out _ _ ⟨Bx4.last hne hB3 hO3 hHeld.1,Bxa.last hp hB3 hO3 hHeld.2⟩ (fun hHeld=>?_)
           clear hK2 K2
           try simp only[Act.put,List.setIfInBounds_toArray,List.set_cons_zero,List.set_cons_succ]
           refine wpAnyH_done (by kernel_rfl) ?_ _
           have hHeld:=hHeld.1
           go_split_ands
           go_wp2
           go_roundg (H.length-(k+1))
           case measure=>omega
           case rel=>
            have X2:txH it S H k++jdf [hgB,it x,it y,rtB,it bd]=txH it S H (k+1):=X.symm
            rw[X2] at hbd3
            exact⟨k+1,by omega,by omega,by go_num,hbd3,Box.bl (k:=wr.heap.size) (cs:=#[.int .i64 x,.int .i64 y,.bool false,.int .i8 bd]) (T:=39) (by assumption)⟩
          exact AllReadyH.nil
         exact AllReadyH.nil
        refine AllReadyH.cons (o:=⟨some 53,_,_,_,_,none⟩) rfl (fun K2 hK2=>?_) ?_
        ·go_simp
         (go_at_call 40;refine(kh3 x y bd _).mono ?_;rintro e w13 ⟨rfl,hB13⟩)
         have hbd13:=Bd.quiet hbd10 hB13
         go_wp2_with fail
         refine hK2.out _ _ (Bx4.step hB13 hHeld) (fun hHeld=>?_)
         clear hK2 K2
         try simp only[Act.put,List.setIfInBounds_toArray,List.set_cons_zero,List.set_cons_succ]
         refine wpAnyH_ready (rs:=[11,20]) (by kernel_rfl) (by simp) ?_
         refine AllReadyH.cons (o:=⟨some 51,_,_,_,_,none⟩) rfl (fun K2 hK2=>?_) ?_
         ·go_simp
          go_wp2_with fail
          have hlw:=hHeld.2.2.2.2.2
          refine hK2.out _ _ (Bx4.alo hHeld _) (fun hHeld=>?_)
          have hA:=Bxa.new hlw
          have hp:w13.heap.size≠W1.heap.size:=by have:=Bd.lt' hbd13;omega
          clear hK2 K2
          try simp only[Act.put,List.setIfInBounds_toArray,List.set_cons_zero,List.set_cons_succ]
          refine wpAnyH_take (i:=14) (oi:=⟨some 54,_,_,_,_,none⟩) (v:=?_) rfl (by kernel_rfl) (by kernel_rfl) (by kernel_rfl) (fun _ _ _ h=>h) (Or.inl ⟨by rfl,?_⟩) (by assumption) ?_
          rotate_left
          ·intro w hSw;(try dsimp only at hSw);go_simp;try with_reducible rfl
          try simp only[Act.put,List.setIfInBounds_toArray,List.set_cons_zero,List.set_cons_succ]
          refine jcw (S':=fun w'=>(w'.cell? ⟨wr.heap.size,0,none⟩=some (.int .i64 x)∧w'.cell? ⟨wr.heap.size,1,none⟩=some (.int .i64 y)∧w'.cell? ⟨wr.heap.size,2,none⟩=some (.bool false)∧w'.cell? ⟨wr.heap.size,3,none⟩=some (.int .i8 bd)∧Box W1 wr.heap.size #[.int .i64 x,.int .i64 y,.bool false,.int .i8 bd] 39 w')∧Bxa W1 (w13.heap.size) w') (fun _ h=>h.1) _ _ _ _ ?_
          replace hHeld:=And.intro hHeld hA
          refine wpAnyH_take (i:=15) (oi:=⟨some 55,_,_,_,_,none⟩) (v:=?_) rfl (by kernel_rfl) (by kernel_rfl) (by kernel_rfl) (fun _ _ _ h=>h) (Or.inl ⟨by rfl,?_⟩) (by assumption) ?_
          rotate_left
          ·intro w hSw;(try dsimp only at hSw);go_simp;try with_reducible rfl
          try simp only[Act.put,List.setIfInBounds_toArray,List.set_cons_zero,List.set_cons_succ]
          refine wpAnyH_ready (rs:=[20]) (by kernel_rfl) (by simp) ?_
          refine AllReadyH.cons (o:=⟨some 60,_,_,_,_,none⟩) rfl (fun K2 hK2=>?_) ?_
          ·go_simp
           (go_at_call 21;refine(hIb _ (hwb hHeld.1)).mono ?_;rintro e w20 ⟨rfl,hB20⟩)
           have hbd20:=Bd.quiet (Bd.al hbd13 _) hB20
           go_wp2_with fail
           refine hK2.out _ _ (⟨Bx4.step hB20 hHeld.1,Bxa.step hB20 hHeld.2⟩) (fun hHeld=>?_)
           clear hK2 K2
           try simp only[Act.put,List.setIfInBounds_toArray,List.set_cons_zero,List.set_cons_succ]
           refine wpAnyH_ready (rs:=[21]) (by kernel_rfl) (by simp) ?_
           refine AllReadyH.cons (o:=⟨some 61,_,_,_,_,none⟩) rfl (fun K2 hK2=>?_) AllReadyH.nil
           go_simp
           go_wp2_with fail
           refine hK2.out _ _ ⟨Bx4.alo hHeld.1 _,Bxa.alo hHeld.2 _⟩ (fun hHeld=>?_)
           clear hK2 K2
           try simp only[Act.put,List.setIfInBounds_toArray,List.set_cons_zero,List.set_cons_succ]
           refine wpAnyH_ready (rs:=[22]) (by kernel_rfl) (by simp) ?_
           refine AllReadyH.cons (o:=⟨some 62,_,_,_,_,none⟩) rfl (fun K2 hK2=>?_) AllReadyH.nil
           go_simp
           (go_at_call 37;refine(jdv (xs:=[hgB,it x,it y,rtB,it bd]) _ (Bd.al hbd20 _) (Bx4.size hHeld.1) (jkr _ _ (by simp) _ _ _ _ _ _) (by simp) (Nat.le_of_ble_eq_true rfl) (Nat.le_refl 5) ⟨by omega,L3⟩).mono ?_;rintro e w22 ⟨rfl,hbd3,hB3,hO3⟩)
           go_wp2_with fail
           refine hK2.out _ _ ⟨Bx4.last hne hB3 hO3 hHeld.1,Bxa.last hp hB3 hO3 hHeld.2⟩ (fun hHeld=>?_)
           clear hK2 K2
           try simp only[Act.put,List.setIfInBounds_toArray,List.set_cons_zero,List.set_cons_succ]
           refine wpAnyH_done (by kernel_rfl) ?_ _
           have hHeld:=hHeld.1
           go_split_ands
           go_wp2
           go_roundg (H.length-(k+1))
           case measure=>omega
           case rel=>
            have X2:txH it S H k++jdf [hgB,it x,it y,rtB,it bd]=txH it S H (k+1):=X.symm
            rw[X2] at hbd3
            exact⟨k+1,by omega,by omega,by go_num,hbd3,Box.bl (k:=wr.heap.size) (cs:=#[.int .i64 x,.int .i64 y,.bool false,.int .i8 bd]) (T:=39) (by assumption)⟩
          exact AllReadyH.nil
         refine AllReadyH.cons (o:=⟨some 60,_,_,_,_,none⟩) rfl (fun K2 hK2=>?_) ?_
         ·go_simp
          (go_at_call 21;refine(hIb _ (hwb hHeld)).mono ?_;rintro e w20 ⟨rfl,hB20⟩)
          have hbd20:=Bd.quiet hbd13 hB20
          go_wp2_with fail
          refine hK2.out _ _ (Bx4.step hB20 hHeld) (fun hHeld=>?_)
          clear hK2 K2
          try simp only[Act.put,List.setIfInBounds_toArray,List.set_cons_zero,List.set_cons_succ]
          refine wpAnyH_ready (rs:=[11]) (by kernel_rfl) (by simp) ?_
          refine AllReadyH.cons (o:=⟨some 51,_,_,_,_,none⟩) rfl (fun K2 hK2=>?_) ?_
          ·go_simp
           go_wp2_with fail
           have hlw:=hHeld.2.2.2.2.2
           refine hK2.out _ _ (Bx4.alo hHeld _) (fun hHeld=>?_)
           have hA:=Bxa.new hlw
           have hp:w20.heap.size≠W1.heap.size:=by have:=Bd.lt' hbd20;omega
           clear hK2 K2
           try simp only[Act.put,List.setIfInBounds_toArray,List.set_cons_zero,List.set_cons_succ]
           refine wpAnyH_take (i:=14) (oi:=⟨some 54,_,_,_,_,none⟩) (v:=?_) rfl (by kernel_rfl) (by kernel_rfl) (by kernel_rfl) (fun _ _ _ h=>h) (Or.inl ⟨by rfl,?_⟩) (by assumption) ?_
           rotate_left
           ·intro w hSw;(try dsimp only at hSw);go_simp;try with_reducible rfl
           try simp only[Act.put,List.setIfInBounds_toArray,List.set_cons_zero,List.set_cons_succ]
           refine jcw (S':=fun w'=>(w'.cell? ⟨wr.heap.size,0,none⟩=some (.int .i64 x)∧w'.cell? ⟨wr.heap.size,1,none⟩=some (.int .i64 y)∧w'.cell? ⟨wr.heap.size,2,none⟩=some (.bool false)∧w'.cell? ⟨wr.heap.size,3,none⟩=some (.int .i8 bd)∧Box W1 wr.heap.size #[.int .i64 x,.int .i64 y,.bool false,.int .i8 bd] 39 w')∧Bxa W1 (w20.heap.size) w') (fun _ h=>h.1) _ _ _ _ ?_
           replace hHeld:=And.intro hHeld hA
           refine wpAnyH_take (i:=15) (oi:=⟨some 55,_,_,_,_,none⟩) (v:=?_) rfl (by kernel_rfl) (by kernel_rfl) (by kernel_rfl) (fun _ _ _ h=>h) (Or.inl ⟨by rfl,?_⟩) (by assumption) ?_
           rotate_left
           ·intro w hSw;(try dsimp only at hSw);go_simp;try with_reducible rfl
           try simp only[Act.put,List.setIfInBounds_toArray,List.set_cons_zero,List.set_cons_succ]
           refine wpAnyH_ready (rs:=[21]) (by kernel_rfl) (by simp) ?_
           refine AllReadyH.cons (o:=⟨some 61,_,_,_,_,none⟩) rfl (fun K2 hK2=>?_) AllReadyH.nil
           go_simp
           go_wp2_with fail
           refine hK2.out _ _ ⟨Bx4.alo hHeld.1 _,Bxa.alo hHeld.2 _⟩ (fun hHeld=>?_)
           clear hK2 K2
           try simp only[Act.put,List.setIfInBounds_toArray,List.set_cons_zero,List.set_cons_succ]
           refine wpAnyH_ready (rs:=[22]) (by kernel_rfl) (by simp) ?_
           refine AllReadyH.cons (o:=⟨some 62,_,_,_,_,none⟩) rfl (fun K2 hK2=>?_) AllReadyH.nil
           go_simp
           (go_at_call 37;refine(jdv (xs:=[hgB,it x,it y,rtB,it bd]) _ (Bd.al (Bd.al hbd20 _) _) (Bx4.size hHeld.1) (jkr _ _ (by simp) _ _ _ _ _ _) (by simp) (Nat.le_of_ble_eq_true rfl) (Nat.le_refl 5) ⟨by omega,L3⟩).mono ?_;rintro e w22 ⟨rfl,hbd3,hB3,hO3⟩)
           go_wp2_with fail
           refine hK2.out _ _ ⟨Bx4.last hne hB3 hO3 hHeld.1,Bxa.last hp hB3 hO3 hHeld.2⟩ (fun hHeld=>?_)
           clear hK2 K2
           try simp only[Act.put,List.setIfInBounds_toArray,List.set_cons_zero,List.set_cons_succ]
           refine wpAnyH_done (by kernel_rfl) ?_ _
           have hHeld:=hHeld.1
           go_split_ands
           go_wp2
           go_roundg (H.length-(k+1))
           case measure=>omega
           case rel=>
            have X2:txH it S H k++jdf [hgB,it x,it y,rtB,it bd]=txH it S H (k+1):=X.symm
            rw[X2] at hbd3
            exact⟨k+1,by omega,by omega,by go_num,hbd3,Box.bl (k:=wr.heap.size) (cs:=#[.int .i64 x,.int .i64 y,.bool false,.int .i8 bd]) (T:=39) (by assumption)⟩
          exact AllReadyH.nil
         exact AllReadyH.nil
        exact AllReadyH.nil
       refine AllReadyH.cons (o:=⟨some 51,_,_,_,_,none⟩) rfl (fun K2 hK2=>?_) ?_
       ·go_simp
        go_wp2_with fail
        have hlw:=hHeld.2.2.2.2.2
        refine hK2.out _ _ (Bx4.alo hHeld _) (fun hHeld=>?_)
        have hA:=Bxa.new hlw
        have hp:w5.heap.size≠W1.heap.size:=by have:=Bd.lt' hbd5;omega
        clear hK2 K2
        try simp only[Act.put,List.setIfInBounds_toArray,List.set_cons_zero,List.set_cons_succ]
        refine wpAnyH_ready (rs:=[10]) (by kernel_rfl) (by simp) ?_
        refine AllReadyH.cons (o:=⟨some 50,_,_,_,_,none⟩) rfl (fun K2 hK2=>?_) ?_
        ·go_simp
         (go_at_call 21;refine(hIy _ (hwb hHeld)).mono ?_;rintro e w10 ⟨rfl,hB10⟩)
         have hbd10:=Bd.quiet (Bd.al hbd5 _) hB10
         go_wp2_with fail
         refine hK2.out _ _ (Bx4.step hB10 hHeld) (fun hHeld=>?_)
         have hA:=Bxa.step hB10 hA
         clear hK2 K2
         try simp only[Act.put,List.setIfInBounds_toArray,List.set_cons_zero,List.set_cons_succ]
         refine wpAnyH_ready (rs:=[13]) (by kernel_rfl) (by simp) ?_
         refine AllReadyH.cons (o:=⟨some 53,_,_,_,_,none⟩) rfl (fun K2 hK2=>?_) ?_
         ·go_simp
          (go_at_call 40;refine(kh3 x y bd _).mono ?_;rintro e w13 ⟨rfl,hB13⟩)
          have hbd13:=Bd.quiet hbd10 hB13
          go_wp2_with fail
          refine hK2.out _ _ (Bx4.step hB13 hHeld) (fun hHeld=>?_)
          have hA:=Bxa.step hB13 hA
          clear hK2 K2
          try simp only[Act.put,List.setIfInBounds_toArray,List.set_cons_zero,List.set_cons_succ]
          refine wpAnyH_take (i:=14) (oi:=⟨some 54,_,_,_,_,none⟩) (v:=?_) rfl (by kernel_rfl) (by kernel_rfl) (by kernel_rfl) (fun _ _ _ h=>h) (Or.inl ⟨by rfl,?_⟩) (by assumption) ?_
          rotate_left
          ·intro w hSw;(try dsimp only at hSw);go_simp;try with_reducible rfl
          try simp only[Act.put,List.setIfInBounds_toArray,List.set_cons_zero,List.set_cons_succ]
          refine jcw (S':=fun w'=>(w'.cell? ⟨wr.heap.size,0,none⟩=some (.int .i64 x)∧w'.cell? ⟨wr.heap.size,1,none⟩=some (.int .i64 y)∧w'.cell? ⟨wr.heap.size,2,none⟩=some (.bool false)∧w'.cell? ⟨wr.heap.size,3,none⟩=some (.int .i8 bd)∧Box W1 wr.heap.size #[.int .i64 x,.int .i64 y,.bool false,.int .i8 bd] 39 w')∧Bxa W1 (w5.heap.size) w') (fun _ h=>h.1) _ _ _ _ ?_
          replace hHeld:=And.intro hHeld hA
          refine wpAnyH_take (i:=15) (oi:=⟨some 55,_,_,_,_,none⟩) (v:=?_) rfl (by kernel_rfl) (by kernel_rfl) (by kernel_rfl) (fun _ _ _ h=>h) (Or.inl ⟨by rfl,?_⟩) (by assumption) ?_
          rotate_left
          ·intro w hSw;(try dsimp only at hSw);go_simp;try with_reducible rfl
          try simp only[Act.put,List.setIfInBounds_toArray,List.set_cons_zero,List.set_cons_succ]
          refine wpAnyH_ready (rs:=[20]) (by kernel_rfl) (by simp) ?_
          refine AllReadyH.cons (o:=⟨some 60,_,_,_,_,none⟩) rfl (fun K2 hK2=>?_) ?_
          ·go_simp
           (go_at_call 21;refine(hIb _ (hwb hHeld.1)).mono ?_;rintro e w20 ⟨rfl,hB20⟩)
           have hbd20:=Bd.quiet hbd13 hB20
           go_wp2_with fail
           refine hK2.out _ _ (⟨Bx4.step hB20 hHeld.1,Bxa.step hB20 hHeld.2⟩) (fun hHeld=>?_)
           clear hK2 K2
           try simp only[Act.put,List.setIfInBounds_toArray,List.set_cons_zero,List.set_cons_succ]
           refine wpAnyH_ready (rs:=[21]) (by kernel_rfl) (by simp) ?_
           refine AllReadyH.cons (o:=⟨some 61,_,_,_,_,none⟩) rfl (fun K2 hK2=>?_) AllReadyH.nil
           go_simp
           go_wp2_with fail
           refine hK2.out _ _ ⟨Bx4.alo hHeld.1 _,Bxa.alo hHeld.2 _⟩ (fun hHeld=>?_)
           clear hK2 K2
           try simp only[Act.put,List.setIfInBounds_toArray,List.set_cons_zero,List.set_cons_succ]
           refine wpAnyH_ready (rs:=[22]) (by kernel_rfl) (by simp) ?_
           refine AllReadyH.cons (o:=⟨some 62,_,_,_,_,none⟩) rfl (fun K2 hK2=>?_) AllReadyH.nil
           go_simp
           (go_at_call 37;refine(jdv (xs:=[hgB,it x,it y,rtB,it bd]) _ (Bd.al hbd20 _) (Bx4.size hHeld.1) (jkr _ _ (by simp) _ _ _ _ _ _) (by simp) (Nat.le_of_ble_eq_true rfl) (Nat.le_refl 5) ⟨by omega,L3⟩).mono ?_;rintro e w22 ⟨rfl,hbd3,hB3,hO3⟩)
           go_wp2_with fail
           refine hK2.out _ _ ⟨Bx4.last hne hB3 hO3 hHeld.1,Bxa.last hp hB3 hO3 hHeld.2⟩ (fun hHeld=>?_)
           clear hK2 K2
           try simp only[Act.put,List.setIfInBounds_toArray,List.set_cons_zero,List.set_cons_succ]
           refine wpAnyH_done (by kernel_rfl) ?_ _
           have hHeld:=hHeld.1
           go_split_ands
           go_wp2
           go_roundg (H.length-(k+1))
           case measure=>omega
           case rel=>
            have X2:txH it S H k++jdf [hgB,it x,it y,rtB,it bd]=txH it S H (k+1):=X.symm
            rw[X2] at hbd3
            exact⟨k+1,by omega,by omega,by go_num,hbd3,Box.bl (k:=wr.heap.size) (cs:=#[.int .i64 x,.int .i64 y,.bool false,.int .i8 bd]) (T:=39) (by assumption)⟩
          exact AllReadyH.nil
         exact AllReadyH.nil
        exact AllReadyH.nil
       exact AllReadyH.nil
      refine AllReadyH.cons (o:=⟨some 51,_,_,_,_,none⟩) rfl (fun K2 hK2=>?_) ?_
      ·go_simp
       go_wp2_with fail
       refine hK2.out _ _ (hbxd _) (fun hHeld=>?_)
       have hA:=Bxa.newd (o:=.cells #[.int .i64 x,.int .i64 y,.bool false,.int .i8 bd] 39) hbl
       have hp:wr.heap.size+1≠W1.heap.size:=by have:=hbd.lt';omega
       clear hK2 K2
       try simp only[Act.put,List.setIfInBounds_toArray,List.set_cons_zero,List.set_cons_succ]
       refine wpAnyH_ready (rs:=[5]) (by kernel_rfl) (by simp) ?_
       refine AllReadyH.cons (o:=⟨some 45,_,_,_,_,none⟩) rfl (fun K2 hK2=>?_) ?_
       ·go_simp
        (go_at_call 21;refine(hIx _ (hwb hHeld)).mono ?_;rintro e w5 ⟨rfl,hB5⟩)
        have hbd5:=Bd.quiet (hbdd _) hB5
        go_wp2_with fail
        refine hK2.out _ _ (Bx4.step hB5 hHeld) (fun hHeld=>?_)
        have hA:=Bxa.step hB5 hA
        clear hK2 K2
        try simp only[Act.put,List.setIfInBounds_toArray,List.set_cons_zero,List.set_cons_succ]
        refine wpAnyH_ready (rs:=[10]) (by kernel_rfl) (by simp) ?_
        refine AllReadyH.cons (o:=⟨some 50,_,_,_,_,none⟩) rfl (fun K2 hK2=>?_) ?_
        ·go_simp
         (go_at_call 21;refine(hIy _ (hwb hHeld)).mono ?_;rintro e w10 ⟨rfl,hB10⟩)
         have hbd10:=Bd.quiet hbd5 hB10
         go_wp2_with fail
         refine hK2.out _ _ (Bx4.step hB10 hHeld) (fun hHeld=>?_)
         have hA:=Bxa.step hB10 hA
         clear hK2 K2
         try simp only[Act.put,List.setIfInBounds_toArray,List.set_cons_zero,List.set_cons_succ]
         refine wpAnyH_ready (rs:=[13]) (by kernel_rfl) (by simp) ?_
         refine AllReadyH.cons (o:=⟨some 53,_,_,_,_,none⟩) rfl (fun K2 hK2=>?_) ?_
         ·go_simp
          (go_at_call 40;refine(kh3 x y bd _).mono ?_;rintro e w13 ⟨rfl,hB13⟩)
          have hbd13:=Bd.quiet hbd10 hB13
          go_wp2_with fail
          refine hK2.out _ _ (Bx4.step hB13 hHeld) (fun hHeld=>?_)
          have hA:=Bxa.step hB13 hA
          clear hK2 K2
          try simp only[Act.put,List.setIfInBounds_toArray,List.set_cons_zero,List.set_cons_succ]
          refine wpAnyH_take (i:=14) (oi:=⟨some 54,_,_,_,_,none⟩) (v:=?_) rfl (by kernel_rfl) (by kernel_rfl) (by kernel_rfl) (fun _ _ _ h=>h) (Or.inl ⟨by rfl,?_⟩) (by assumption) ?_
          rotate_left
          ·intro w hSw;(try dsimp only at hSw);go_simp;try with_reducible rfl
          try simp only[Act.put,List.setIfInBounds_toArray,List.set_cons_zero,List.set_cons_succ]
          refine jcw (S':=fun w'=>(w'.cell? ⟨wr.heap.size,0,none⟩=some (.int .i64 x)∧w'.cell? ⟨wr.heap.size,1,none⟩=some (.int .i64 y)∧w'.cell? ⟨wr.heap.size,2,none⟩=some (.bool false)∧w'.cell? ⟨wr.heap.size,3,none⟩=some (.int .i8 bd)∧Box W1 wr.heap.size #[.int .i64 x,.int .i64 y,.bool false,.int .i8 bd] 39 w')∧Bxa W1 (wr.heap.size+1) w') (fun _ h=>h.1) _ _ _ _ ?_
          replace hHeld:=And.intro hHeld hA
          refine wpAnyH_take (i:=15) (oi:=⟨some 55,_,_,_,_,none⟩) (v:=?_) rfl (by kernel_rfl) (by kernel_rfl) (by kernel_rfl) (fun _ _ _ h=>h) (Or.inl ⟨by rfl,?_⟩) (by assumption) ?_
          rotate_left
          ·intro w hSw;(try dsimp only at hSw);go_simp;try with_reducible rfl
          try simp only[Act.put,List.setIfInBounds_toArray,List.set_cons_zero,List.set_cons_succ]
          refine wpAnyH_ready (rs:=[20]) (by kernel_rfl) (by simp) ?_
          refine AllReadyH.cons (o:=⟨some 60,_,_,_,_,none⟩) rfl (fun K2 hK2=>?_) ?_
          ·go_simp
           (go_at_call 21;refine(hIb _ (hwb hHeld.1)).mono ?_;rintro e w20 ⟨rfl,hB20⟩)
           have hbd20:=Bd.quiet hbd13 hB20
           go_wp2_with fail
           refine hK2.out _ _ (⟨Bx4.step hB20 hHeld.1,Bxa.step hB20 hHeld.2⟩) (fun hHeld=>?_)
           clear hK2 K2
           try simp only[Act.put,List.setIfInBounds_toArray,List.set_cons_zero,List.set_cons_succ]
           refine wpAnyH_ready (rs:=[21]) (by kernel_rfl) (by simp) ?_
           refine AllReadyH.cons (o:=⟨some 61,_,_,_,_,none⟩) rfl (fun K2 hK2=>?_) AllReadyH.nil
           go_simp
           go_wp2_with fail
           refine hK2.out _ _ ⟨Bx4.alo hHeld.1 _,Bxa.alo hHeld.2 _⟩ (fun hHeld=>?_)
           clear hK2 K2
           try simp only[Act.put,List.setIfInBounds_toArray,List.set_cons_zero,List.set_cons_succ]
           refine wpAnyH_ready (rs:=[22]) (by kernel_rfl) (by simp) ?_
           refine AllReadyH.cons (o:=⟨some 62,_,_,_,_,none⟩) rfl (fun K2 hK2=>?_) AllReadyH.nil
           go_simp
           (go_at_call 37;refine(jdv (xs:=[hgB,it x,it y,rtB,it bd]) _ (Bd.al hbd20 _) (Bx4.size hHeld.1) (jkr _ _ (by simp) _ _ _ _ _ _) (by simp) (Nat.le_of_ble_eq_true rfl) (Nat.le_refl 5) ⟨by omega,L3⟩).mono ?_;rintro e w22 ⟨rfl,hbd3,hB3,hO3⟩)
           go_wp2_with fail
           refine hK2.out _ _ ⟨Bx4.last hne hB3 hO3 hHeld.1,Bxa.last hp hB3 hO3 hHeld.2⟩ (fun hHeld=>?_)
           clear hK2 K2
           try simp only[Act.put,List.setIfInBounds_toArray,List.set_cons_zero,List.set_cons_succ]
           refine wpAnyH_done (by kernel_rfl) ?_ _
           have hHeld:=hHeld.1
           go_split_ands
           go_wp2
           go_roundg (H.length-(k+1))
           case measure=>omega
           case rel=>
            have X2:txH it S H k++jdf [hgB,it x,it y,rtB,it bd]=txH it S H (k+1):=X.symm
            rw[X2] at hbd3
            exact⟨k+1,by omega,by omega,by go_num,hbd3,Box.bl (k:=wr.heap.size) (cs:=#[.int .i64 x,.int .i64 y,.bool false,.int .i8 bd]) (T:=39) (by assumption)⟩
          exact AllReadyH.nil
         exact AllReadyH.nil
        exact AllReadyH.nil
       exact AllReadyH.nil
      exact AllReadyH.nil
     ·go_wp2
      clear g1 g2 g3 g4 n4 hw1 q0 q1
      refine wp_region_held_drew (S:=fun w'=>w'.cell? ⟨wr.heap.size,0,none⟩=some (.int .i64 x)∧w'.cell? ⟨wr.heap.size,1,none⟩=some (.int .i64 y)∧w'.cell? ⟨wr.heap.size,2,none⟩=some (.bool true)∧w'.cell? ⟨wr.heap.size,3,none⟩=some (.int .i8 bd)∧Box W1 wr.heap.size #[.int .i64 x,.int .i64 y,.bool true,.int .i8 bd] 39 w') (by kernel_rfl) hbx (fun hHeld=>?_)
      refine wpAnyH_take (i:=0) (oi:=⟨some 40,_,_,_,_,none⟩) (v:=?_) rfl (by kernel_rfl) (by kernel_rfl) (by kernel_rfl) (fun _ _ _ h=>h) (Or.inl ⟨by rfl,?_⟩) (by assumption) ?_
      rotate_left
      ·intro w hSw;(try dsimp only at hSw);go_simp;try with_reducible rfl
      try simp only[Act.put,List.setIfInBounds_toArray,List.set_cons_zero,List.set_cons_succ]
      refine wpAnyH_take (i:=1) (oi:=⟨some 41,_,_,_,_,none⟩) (v:=?_) rfl (by kernel_rfl) (by kernel_rfl) (by kernel_rfl) (fun _ _ _ h=>h) (Or.inl ⟨by rfl,?_⟩) (by assumption) ?_
      rotate_left
      ·intro w hSw;(try dsimp only at hSw);go_simp;try with_reducible rfl
      try simp only[Act.put,List.setIfInBounds_toArray,List.set_cons_zero,List.set_cons_succ]
      refine wpAnyH_take (i:=2) (oi:=⟨some 42,_,_,_,_,none⟩) (v:=?_) rfl (by kernel_rfl) (by kernel_rfl) (by kernel_rfl) (fun _ _ _ h=>h) (Or.inl ⟨by rfl,?_⟩) (by assumption) ?_
      rotate_left
      ·intro w hSw;(try dsimp only at hSw);go_simp;try with_reducible rfl
      try simp only[Act.put,List.setIfInBounds_toArray,List.set_cons_zero,List.set_cons_succ]
      refine wpAnyH_take (i:=3) (oi:=⟨some 43,_,_,_,_,none⟩) (v:=?_) rfl (by kernel_rfl) (by kernel_rfl) (by kernel_rfl) (fun _ _ _ h=>h) (Or.inl ⟨by rfl,?_⟩) (by assumption) ?_
      rotate_left
      ·intro w hSw;(try dsimp only at hSw);go_simp;try with_reducible rfl
      try simp only[Act.put,List.setIfInBounds_toArray,List.set_cons_zero,List.set_cons_succ]
      refine wpAnyH_take (i:=4) (oi:=⟨some 44,_,_,_,_,none⟩) (v:=?_) rfl (by kernel_rfl) (by kernel_rfl) (by kernel_rfl) (fun _ _ _ h=>h) (Or.inl ⟨by rfl,?_⟩) (by assumption) ?_
      rotate_left
      ·intro w hSw;(try dsimp only at hSw);go_simp;try with_reducible rfl
      try simp only[Act.put,List.setIfInBounds_toArray,List.set_cons_zero,List.set_cons_succ]
      refine wpAnyH_take (i:=6) (oi:=⟨some 46,_,_,_,_,none⟩) (v:=?_) rfl (by kernel_rfl) (by kernel_rfl) (by kernel_rfl) (fun _ _ _ h=>h) (Or.inl ⟨by rfl,?_⟩) (by assumption) ?_
      rotate_left
      ·intro w hSw;(try dsimp only at hSw);go_simp;try with_reducible rfl
      try simp only[Act.put,List.setIfInBounds_toArray,List.set_cons_zero,List.set_cons_succ]
      refine wpAnyH_take (i:=7) (oi:=⟨some 47,_,_,_,_,none⟩) (v:=?_) rfl (by kernel_rfl) (by kernel_rfl) (by kernel_rfl) (fun _ _ _ h=>h) (Or.inl ⟨by rfl,?_⟩) (by assumption) ?_
      rotate_left
      ·intro w hSw;(try dsimp only at hSw);go_simp;try with_reducible rfl
      try simp only[Act.put,List.setIfInBounds_toArray,List.set_cons_zero,List.set_cons_succ]
      refine wpAnyH_take (i:=8) (oi:=⟨some 48,_,_,_,_,none⟩) (v:=?_) rfl (by kernel_rfl) (by kernel_rfl) (by kernel_rfl) (fun _ _ _ h=>h) (Or.inl ⟨by rfl,?_⟩) (by assumption) ?_
      rotate_left
      ·intro w hSw;(try dsimp only at hSw);go_simp;try with_reducible rfl
      try simp only[Act.put,List.setIfInBounds_toArray,List.set_cons_zero,List.set_cons_succ]
      refine wpAnyH_take (i:=9) (oi:=⟨some 49,_,_,_,_,none⟩) (v:=?_) rfl (by kernel_rfl) (by kernel_rfl) (by kernel_rfl) (fun _ _ _ h=>h) (Or.inl ⟨by rfl,?_⟩) (by assumption) ?_
      rotate_left
      ·intro w hSw;(try dsimp only at hSw);go_simp;try with_reducible rfl
      try simp only[Act.put,List.setIfInBounds_toArray,List.set_cons_zero,List.set_cons_succ]
      refine wpAnyH_take (i:=12) (oi:=⟨some 52,_,_,_,_,none⟩) (v:=?_) rfl (by kernel_rfl) (by kernel_rfl) (by kernel_rfl) (fun _ _ _ h=>h) (Or.inl ⟨by rfl,?_⟩) (by assumption) ?_
      rotate_left
      ·intro w hSw;(try dsimp only at hSw);go_simp;try with_reducible rfl
      try simp only[Act.put,List.setIfInBounds_toArray,List.set_cons_zero,List.set_cons_succ]
      refine wpAnyH_take (i:=16) (oi:=⟨some 56,_,_,_,_,none⟩) (v:=?_) rfl (by kernel_rfl) (by kernel_rfl) (by kernel_rfl) (fun _ _ _ h=>h) (Or.inl ⟨by rfl,?_⟩) (by assumption) ?_
      rotate_left
      ·intro w hSw;(try dsimp only at hSw);go_simp;try with_reducible rfl
      try simp only[Act.put,List.setIfInBounds_toArray,List.set_cons_zero,List.set_cons_succ]
      refine wpAnyH_take (i:=17) (oi:=⟨some 57,_,_,_,_,none⟩) (v:=?_) rfl (by kernel_rfl) (by kernel_rfl) (by kernel_rfl) (fun _ _ _ h=>h) (Or.inl ⟨by rfl,?_⟩) (by assumption) ?_
      rotate_left
      ·intro w hSw;(try dsimp only at hSw);go_simp;try with_reducible rfl
      try simp only[Act.put,List.setIfInBounds_toArray,List.set_cons_zero,List.set_cons_succ]
      refine wpAnyH_take (i:=18) (oi:=⟨some 58,_,_,_,_,none⟩) (v:=?_) rfl (by kernel_rfl) (by kernel_rfl) (by kernel_rfl) (fun _ _ _ h=>h) (Or.inl ⟨by rfl,?_⟩) (by assumption) ?_
      rotate_left
      ·intro w hSw;(try dsimp only at hSw);go_simp;try with_reducible rfl
      try simp only[Act.put,List.setIfInBounds_toArray,List.set_cons_zero,List.set_cons_succ]
      refine wpAnyH_take (i:=19) (oi:=⟨some 59,_,_,_,_,none⟩) (v:=?_) rfl (by kernel_rfl) (by kernel_rfl) (by kernel_rfl) (fun _ _ _ h=>h) (Or.inl ⟨by rfl,?_⟩) (by assumption) ?_
      rotate_left
      ·intro w hSw;(try dsimp only at hSw);go_simp;try with_reducible rfl
      try simp only[Act.put,List.setIfInBounds_toArray,List.set_cons_zero,List.set_cons_succ]
      refine wpAnyH_ready (rs:=[5,11]) (by kernel_rfl) (by simp) ?_
      refine AllReadyH.cons (o:=⟨some 45,_,_,_,_,none⟩) rfl (fun K2 hK2=>?_) ?_
      ·go_simp
       (go_at_call 21;refine(hIx _ (hwb hHeld)).mono ?_;rintro e w5 ⟨rfl,hB5⟩)
       have hbd5:=Bd.quiet hbd1 hB5
       go_wp2_with fail
       refine hK2.out _ _ (Bx4.step hB5 hHeld) (fun hHeld=>?_)
       clear hK2 K2
       try simp only[Act.put,List.setIfInBounds_toArray,List.set_cons_zero,List.set_cons_succ]
       refine wpAnyH_ready (rs:=[10,11]) (by kernel_rfl) (by simp) ?_
       refine AllReadyH.cons (o:=⟨some 50,_,_,_,_,none⟩) rfl (fun K2 hK2=>?_) ?_
       ·go_simp
        (go_at_call 21;refine(hIy _ (hwb hHeld)).mono ?_;rintro e w10 ⟨rfl,hB10⟩)
        have hbd10:=Bd.quiet hbd5 hB10
        go_wp2_with fail
        refine hK2.out _ _ (Bx4.step hB10 hHeld) (fun hHeld=>?_)
        clear hK2 K2
        try simp only[Act.put,List.setIfInBounds_toArray,List.set_cons_zero,List.set_cons_succ]
        refine wpAnyH_ready (rs:=[11,13]) (by kernel_rfl) (by simp) ?_
        refine AllReadyH.cons (o:=⟨some 51,_,_,_,_,none⟩) rfl (fun K2 hK2=>?_) ?_
        ·go_simp
         go_wp2_with fail
         have hlw:=hHeld.2.2.2.2.2
         refine hK2.out _ _ (Bx4.alo hHeld _) (fun hHeld=>?_)
         have hA:=Bxa.new hlw
         have hp:w10.heap.size≠W1.heap.size:=by have:=Bd.lt' hbd10;omega
         clear hK2 K2
         try simp only[Act.put,List.setIfInBounds_toArray,List.set_cons_zero,List.set_cons_succ]
         refine wpAnyH_ready (rs:=[13]) (by kernel_rfl) (by simp) ?_
         refine AllReadyH.cons (o:=⟨some 53,_,_,_,_,none⟩) rfl (fun K2 hK2=>?_) ?_
         ·go_simp
          (go_at_call 40;refine(kh2 x y bd _).mono ?_;rintro e w13 ⟨rfl,hB13⟩)
          have hbd13:=Bd.quiet (Bd.al hbd10 _) hB13
          go_wp2_with fail
          refine hK2.out _ _ (Bx4.step hB13 hHeld) (fun hHeld=>?_)
          have hA:=Bxa.step hB13 hA
          clear hK2 K2
          try simp only[Act.put,List.setIfInBounds_toArray,List.set_cons_zero,List.set_cons_succ]
          refine wpAnyH_take (i:=14) (oi:=⟨some 54,_,_,_,_,none⟩) (v:=?_) rfl (by kernel_rfl) (by kernel_rfl) (by kernel_rfl) (fun _ _ _ h=>h) (Or.inl ⟨by rfl,?_⟩) (by assumption) ?_
          rotate_left
          ·intro w hSw;(try dsimp only at hSw);go_simp;try with_reducible rfl
          try simp only[Act.put,List.setIfInBounds_toArray,List.set_cons_zero,List.set_cons_succ]
          refine jcw (S':=fun w'=>(w'.cell? ⟨wr.heap.size,0,none⟩=some (.int .i64 x)∧w'.cell? ⟨wr.heap.size,1,none⟩=some (.int .i64 y)∧w'.cell? ⟨wr.heap.size,2,none⟩=some (.bool true)∧w'.cell? ⟨wr.heap.size,3,none⟩=some (.int .i8 bd)∧Box W1 wr.heap.size #[.int .i64 x,.int .i64 y,.bool true,.int .i8 bd] 39 w')∧Bxa W1 (w10.heap.size) w') (fun _ h=>h.1) _ _ _ _ ?_
          replace hHeld:=And.intro hHeld hA
          refine wpAnyH_take (i:=15) (oi:=⟨some 55,_,_,_,_,none⟩) (v:=?_) rfl (by kernel_rfl) (by kernel_rfl) (by kernel_rfl) (fun _ _ _ h=>h) (Or.inl ⟨by rfl,?_⟩) (by assumption) ?_
          rotate_left
          ·intro w hSw;(try dsimp only at hSw);go_simp;try with_reducible rfl
          try simp only[Act.put,List.setIfInBounds_toArray,List.set_cons_zero,List.set_cons_succ]
          refine wpAnyH_ready (rs:=[20]) (by kernel_rfl) (by simp) ?_
          refine AllReadyH.cons (o:=⟨some 60,_,_,_,_,none⟩) rfl (fun K2 hK2=>?_) ?_
          ·go_simp
           (go_at_call 21;refine(hIb _ (hwb hHeld.1)).mono ?_;rintro e w20 ⟨rfl,hB20⟩)
           have hbd20:=Bd.quiet hbd13 hB20
           go_wp2_with fail
           refine hK2.out _ _ (⟨Bx4.step hB20 hHeld.1,Bxa.step hB20 hHeld.2⟩) (fun hHeld=>?_)
           clear hK2 K2
           try simp only[Act.put,List.setIfInBounds_toArray,List.set_cons_zero,List.set_cons_succ]
           refine wpAnyH_ready (rs:=[21]) (by kernel_rfl) (by simp) ?_
           refine AllReadyH.cons (o:=⟨some 61,_,_,_,_,none⟩) rfl (fun K2 hK2=>?_) AllReadyH.nil
           go_simp
           go_wp2_with fail
           refine hK2.out _ _ ⟨Bx4.alo hHeld.1 _,Bxa.alo hHeld.2 _⟩ (fun hHeld=>?_)
           clear hK2 K2
           try simp only[Act.put,List.setIfInBounds_toArray,List.set_cons_zero,List.set_cons_succ]
           refine wpAnyH_ready (rs:=[22]) (by kernel_rfl) (by simp) ?_
           refine AllReadyH.cons (o:=⟨some 62,_,_,_,_,none⟩) rfl (fun K2 hK2=>?_) AllReadyH.nil
           go_simp
           (go_at_call 37;refine(jdv (xs:=[hgB,it x,it y,upB,it bd]) _ (Bd.al hbd20 _) (Bx4.size hHeld.1) (jkr _ _ (by simp) _ _ _ _ _ _) (by simp) (Nat.le_of_ble_eq_true rfl) (Nat.le_refl 5) ⟨by omega,L3⟩).mono ?_;rintro e w22 ⟨rfl,hbd3,hB3,hO3⟩)
           go_wp2_with fail
           refine hK2.out _ _ ⟨Bx4.last hne hB3 hO3 hHeld.1,Bxa.last hp hB3 hO3 hHeld.2⟩ (fun hHeld=>?_)
           clear hK2 K2
           try simp only[Act.put,List.setIfInBounds_toArray,List.set_cons_zero,List.set_cons_succ]
           refine wpAnyH_done (by kernel_rfl) ?_ _
           have hHeld:=hHeld.1
           go_split_ands
           go_wp2
           go_roundg (H.length-(k+1))
           case measure=>omega
           case rel=>
            have X2:txH it S H k++jdf [hgB,it x,it y,upB,it bd]=txH it S H (k+1):=X.symm
            rw[X2] at hbd3
            exact⟨k+1,by omega,by omega,by go_num,hbd3,Box.bl (k:=wr.heap.size) (cs:=#[.int .i64 x,.int .i64 y,.bool true,.int .i8 bd]) (T:=39) (by assumption)⟩
          exact AllReadyH.nil
         exact AllReadyH.nil
        refine AllReadyH.cons (o:=⟨some 53,_,_,_,_,none⟩) rfl (fun K2 hK2=>?_) ?_
        ·go_simp
         (go_at_call 40;refine(kh2 x y bd _).mono ?_;rintro e w13 ⟨rfl,hB13⟩)
         have hbd13:=Bd.quiet hbd10 hB13
         go_wp2_with fail
         refine hK2.out _ _ (Bx4.step hB13 hHeld) (fun hHeld=>?_)
         clear hK2 K2
         try simp only[Act.put,List.setIfInBounds_toArray,List.set_cons_zero,List.set_cons_succ]
         refine wpAnyH_ready (rs:=[11,20]) (by kernel_rfl) (by simp) ?_
         refine AllReadyH.cons (o:=⟨some 51,_,_,_,_,none⟩) rfl (fun K2 hK2=>?_) ?_
         ·go_simp
          go_wp2_with fail
          have hlw:=hHeld.2.2.2.2.2
          refine hK2.out _ _ (Bx4.alo hHeld _) (fun hHeld=>?_)
          have hA:=Bxa.new hlw
          have hp:w13.heap.size≠W1.heap.size:=by have:=Bd.lt' hbd13;omega
          clear hK2 K2
          try simp only[Act.put,List.setIfInBounds_toArray,List.set_cons_zero,List.set_cons_succ]
          refine wpAnyH_take (i:=14) (oi:=⟨some 54,_,_,_,_,none⟩) (v:=?_) rfl (by kernel_rfl) (by kernel_rfl) (by kernel_rfl) (fun _ _ _ h=>h) (Or.inl ⟨by rfl,?_⟩) (by assumption) ?_
          rotate_left
          ·intro w hSw;(try dsimp only at hSw);go_simp;try with_reducible rfl
          try simp only[Act.put,List.setIfInBounds_toArray,List.set_cons_zero,List.set_cons_succ]
          refine jcw (S':=fun w'=>(w'.cell? ⟨wr.heap.size,0,none⟩=some (.int .i64 x)∧w'.cell? ⟨wr.heap.size,1,none⟩=some (.int .i64 y)∧w'.cell? ⟨wr.heap.size,2,none⟩=some (.bool true)∧w'.cell? ⟨wr.heap.size,3,none⟩=some (.int .i8 bd)∧Box W1 wr.heap.size #[.int .i64 x,.int .i64 y,.bool true,.int .i8 bd] 39 w')∧Bxa W1 (w13.heap.size) w') (fun _ h=>h.1) _ _ _ _ ?_
          replace hHeld:=And.intro hHeld hA
          refine wpAnyH_take (i:=15) (oi:=⟨some 55,_,_,_,_,none⟩) (v:=?_) rfl (by kernel_rfl) (by kernel_rfl) (by kernel_rfl) (fun _ _ _ h=>h) (Or.inl ⟨by rfl,?_⟩) (by assumption) ?_
          rotate_left
          ·intro w hSw;(try dsimp only at hSw);go_simp;try with_reducible rfl
          try simp only[Act.put,List.setIfInBounds_toArray,List.set_cons_zero,List.set_cons_succ]
          refine wpAnyH_ready (rs:=[20]) (by kernel_rfl) (by simp) ?_
          refine AllReadyH.cons (o:=⟨some 60,_,_,_,_,none⟩) rfl (fun K2 hK2=>?_) ?_
          ·go_simp
           (go_at_call 21;refine(hIb _ (hwb hHeld.1)).mono ?_;rintro e w20 ⟨rfl,hB20⟩)
           have hbd20:=Bd.quiet (Bd.al hbd13 _) hB20
           go_wp2_with fail
           refine hK2.out _ _ (⟨Bx4.step hB20 hHeld.1,Bxa.step hB20 hHeld.2⟩) (fun hHeld=>?_)
           clear hK2 K2
           try simp only[Act.put,List.setIfInBounds_toArray,List.set_cons_zero,List.set_cons_succ]
           refine wpAnyH_ready (rs:=[21]) (by kernel_rfl) (by simp) ?_
           refine AllReadyH.cons (o:=⟨some 61,_,_,_,_,none⟩) rfl (fun K2 hK2=>?_) AllReadyH.nil
           go_simp
           go_wp2_with fail
           refine hK2.out _ _ ⟨Bx4.alo hHeld.1 _,Bxa.alo hHeld.2 _⟩ (fun hHeld=>?_)
           clear hK2 K2
           try simp only[Act.put,List.setIfInBounds_toArray,List.set_cons_zero,List.set_cons_succ]
           refine wpAnyH_ready (rs:=[22]) (by kernel_rfl) (by simp) ?_
           refine AllReadyH.cons (o:=⟨some 62,_,_,_,_,none⟩) rfl (fun K2 hK2=>?_) AllReadyH.nil
           go_simp
           (go_at_call 37;refine(jdv (xs:=[hgB,it x,it y,upB,it bd]) _ (Bd.al hbd20 _) (Bx4.size hHeld.1) (jkr _ _ (by simp) _ _ _ _ _ _) (by simp) (Nat.le_of_ble_eq_true rfl) (Nat.le_refl 5) ⟨by omega,L3⟩).mono ?_;rintro e w22 ⟨rfl,hbd3,hB3,hO3⟩)
           go_wp2_with fail
           refine hK2.out _ _ ⟨Bx4.last hne hB3 hO3 hHeld.1,Bxa.last hp hB3 hO3 hHeld.2⟩ (fun hHeld=>?_)
           clear hK2 K2
           try simp only[Act.put,List.setIfInBounds_toArray,List.set_cons_zero,List.set_cons_succ]
           refine wpAnyH_done (by kernel_rfl) ?_ _
           have hHeld:=hHeld.1
           go_split_ands
           go_wp2
           go_roundg (H.length-(k+1))
           case measure=>omega
           case rel=>
            have X2:txH it S H k++jdf [hgB,it x,it y,upB,it bd]=txH it S H (k+1):=X.symm
            rw[X2] at hbd3
            exact⟨k+1,by omega,by omega,by go_num,hbd3,Box.bl (k:=wr.heap.size) (cs:=#[.int .i64 x,.int .i64 y,.bool true,.int .i8 bd]) (T:=39) (by assumption)⟩
          exact AllReadyH.nil
         refine AllReadyH.cons (o:=⟨some 60,_,_,_,_,none⟩) rfl (fun K2 hK2=>?_) ?_
         ·go_simp
          (go_at_call 21;refine(hIb _ (hwb hHeld)).mono ?_;rintro e w20 ⟨rfl,hB20⟩)
          have hbd20:=Bd.quiet hbd13 hB20
          go_wp2_with fail
          refine hK2.out _ _ (Bx4.step hB20 hHeld) (fun hHeld=>?_)
          clear hK2 K2
          try simp only[Act.put,List.setIfInBounds_toArray,List.set_cons_zero,List.set_cons_succ]
          refine wpAnyH_ready (rs:=[11]) (by kernel_rfl) (by simp) ?_
          refine AllReadyH.cons (o:=⟨some 51,_,_,_,_,none⟩) rfl (fun K2 hK2=>?_) ?_
          ·go_simp
           go_wp2_with fail
           have hlw:=hHeld.2.2.2.2.2
           refine hK2.out _ _ (Bx4.alo hHeld _) (fun hHeld=>?_)
           have hA:=Bxa.new hlw
           have hp:w20.heap.size≠W1.heap.size:=by have:=Bd.lt' hbd20;omega
           clear hK2 K2
           try simp only[Act.put,List.setIfInBounds_toArray,List.set_cons_zero,List.set_cons_succ]
           refine wpAnyH_take (i:=14) (oi:=⟨some 54,_,_,_,_,none⟩) (v:=?_) rfl (by kernel_rfl) (by kernel_rfl) (by kernel_rfl) (fun _ _ _ h=>h) (Or.inl ⟨by rfl,?_⟩) (by assumption) ?_
           rotate_left
           ·intro w hSw;(try dsimp only at hSw);go_simp;try with_reducible rfl
           try simp only[Act.put,List.setIfInBounds_toArray,List.set_cons_zero,List.set_cons_succ]
           refine jcw (S':=fun w'=>(w'.cell? ⟨wr.heap.size,0,none⟩=some (.int .i64 x)∧w'.cell? ⟨wr.heap.size,1,none⟩=some (.int .i64 y)∧w'.cell? ⟨wr.heap.size,2,none⟩=some (.bool true)∧w'.cell? ⟨wr.heap.size,3,none⟩=some (.int .i8 bd)∧Box W1 wr.heap.size #[.int .i64 x,.int .i64 y,.bool true,.int .i8 bd] 39 w')∧Bxa W1 (w20.heap.size) w') (fun _ h=>h.1) _ _ _ _ ?_
           replace hHeld:=And.intro hHeld hA
           refine wpAnyH_take (i:=15) (oi:=⟨some 55,_,_,_,_,none⟩) (v:=?_) rfl (by kernel_rfl) (by kernel_rfl) (by kernel_rfl) (fun _ _ _ h=>h) (Or.inl ⟨by rfl,?_⟩) (by assumption) ?_
           rotate_left
           ·intro w hSw;(try dsimp only at hSw);go_simp;try with_reducible rfl
           try simp only[Act.put,List.setIfInBounds_toArray,List.set_cons_zero,List.set_cons_succ]
           refine wpAnyH_ready (rs:=[21]) (by kernel_rfl) (by simp) ?_
           refine AllReadyH.cons (o:=⟨some 61,_,_,_,_,none⟩) rfl (fun K2 hK2=>?_) AllReadyH.nil
           go_simp
           go_wp2_with fail
           refine hK2.out _ _ ⟨Bx4.alo hHeld.1 _,Bxa.alo hHeld.2 _⟩ (fun hHeld=>?_)
           clear hK2 K2
           try simp only[Act.put,List.setIfInBounds_toArray,List.set_cons_zero,List.set_cons_succ]
           refine wpAnyH_ready (rs:=[22]) (by kernel_rfl) (by simp) ?_
           refine AllReadyH.cons (o:=⟨some 62,_,_,_,_,none⟩) rfl (fun K2 hK2=>?_) AllReadyH.nil
           go_simp
           (go_at_call 37;refine(jdv (xs:=[hgB,it x,it y,upB,it bd]) _ (Bd.al (Bd.al hbd20 _) _) (Bx4.size hHeld.1) (jkr _ _ (by simp) _ _ _ _ _ _) (by simp) (Nat.le_of_ble_eq_true rfl) (Nat.le_refl 5) ⟨by omega,L3⟩).mono ?_;rintro e w22 ⟨rfl,hbd3,hB3,hO3⟩)
           go_wp2_with fail
           refine hK2.out _ _ ⟨Bx4.last hne hB3 hO3 hHeld.1,Bxa.last hp hB3 hO3 hHeld.2⟩ (fun hHeld=>?_)
           clear hK2 K2
           try simp only[Act.put,List.setIfInBounds_toArray,List.set_cons_zero,List.set_cons_succ]
           refine wpAnyH_done (by kernel_rfl) ?_ _
           have hHeld:=hHeld.1
           go_split_ands
           go_wp2
           go_roundg (H.length-(k+1))
           case measure=>omega
           case rel=>
            have X2:txH it S H k++jdf [hgB,it x,it y,upB,it bd]=txH it S H (k+1):=X.symm
            rw[X2] at hbd3
            exact⟨k+1,by omega,by omega,by go_num,hbd3,Box.bl (k:=wr.heap.size) (cs:=#[.int .i64 x,.int .i64 y,.bool true,.int .i8 bd]) (T:=39) (by assumption)⟩
          exact AllReadyH.nil
         exact AllReadyH.nil
        exact AllReadyH.nil
       refine AllReadyH.cons (o:=⟨some 51,_,_,_,_,none⟩) rfl (fun K2 hK2=>?_) ?_
       ·go_simp
        go_wp2_with fail
        have hlw:=hHeld.2.2.2.2.2
        refine hK2.out _ _ (Bx4.alo hHeld _) (fun hHeld=>?_)
        have hA:=Bxa.new hlw
        have hp:w5.heap.size≠W1.heap.size:=by have:=Bd.lt' hbd5;omega
        clear hK2 K2
        try simp only[Act.put,List.setIfInBounds_toArray,List.set_cons_zero,List.set_cons_succ]
        refine wpAnyH_ready (rs:=[10]) (by kernel_rfl) (by simp) ?_
        refine AllReadyH.cons (o:=⟨some 50,_,_,_,_,none⟩) rfl (fun K2 hK2=>?_) ?_
        ·go_simp
         (go_at_call 21;refine(hIy _ (hwb hHeld)).mono ?_;rintro e w10 ⟨rfl,hB10⟩)
         have hbd10:=Bd.quiet (Bd.al hbd5 _) hB10
         go_wp2_with fail
         refine hK2.out _ _ (Bx4.step hB10 hHeld) (fun hHeld=>?_)
         have hA:=Bxa.step hB10 hA
         clear hK2 K2
         try simp only[Act.put,List.setIfInBounds_toArray,List.set_cons_zero,List.set_cons_succ]
         refine wpAnyH_ready (rs:=[13]) (by kernel_rfl) (by simp) ?_
         refine AllReadyH.cons (o:=⟨some 53,_,_,_,_,none⟩) rfl (fun K2 hK2=>?_) ?_
         ·go_simp
          (go_at_call 40;refine(kh2 x y bd _).mono ?_;rintro e w13 ⟨rfl,hB13⟩)
          have hbd13:=Bd.quiet hbd10 hB13
          go_wp2_with fail
          refine hK2.out _ _ (Bx4.step hB13 hHeld) (fun hHeld=>?_)
          have hA:=Bxa.step hB13 hA
          clear hK2 K2
          try simp only[Act.put,List.setIfInBounds_toArray,List.set_cons_zero,List.set_cons_succ]
          refine wpAnyH_take (i:=14) (oi:=⟨some 54,_,_,_,_,none⟩) (v:=?_) rfl (by kernel_rfl) (by kernel_rfl) (by kernel_rfl) (fun _ _ _ h=>h) (Or.inl ⟨by rfl,?_⟩) (by assumption) ?_
          rotate_left
          ·intro w hSw;(try dsimp only at hSw);go_simp;try with_reducible rfl
          try simp only[Act.put,List.setIfInBounds_toArray,List.set_cons_zero,List.set_cons_succ]
          refine jcw (S':=fun w'=>(w'.cell? ⟨wr.heap.size,0,none⟩=some (.int .i64 x)∧w'.cell? ⟨wr.heap.size,1,none⟩=some (.int .i64 y)∧w'.cell? ⟨wr.heap.size,2,none⟩=some (.bool true)∧w'.cell? ⟨wr.heap.size,3,none⟩=some (.int .i8 bd)∧Box W1 wr.heap.size #[.int .i64 x,.int .i64 y,.bool true,.int .i8 bd] 39 w')∧Bxa W1 (w5.heap.size) w') (fun _ h=>h.1) _ _ _ _ ?_
          replace hHeld:=And.intro hHeld hA
          refine wpAnyH_take (i:=15) (oi:=⟨some 55,_,_,_,_,none⟩) (v:=?_) rfl (by kernel_rfl) (by kernel_rfl) (by kernel_rfl) (fun _ _ _ h=>h) (Or.inl ⟨by rfl,?_⟩) (by assumption) ?_
          rotate_left
          ·intro w hSw;(try dsimp only at hSw);go_simp;try with_reducible rfl
          try simp only[Act.put,List.setIfInBounds_toArray,List.set_cons_zero,List.set_cons_succ]
          refine wpAnyH_ready (rs:=[20]) (by kernel_rfl) (by simp) ?_
          refine AllReadyH.cons (o:=⟨some 60,_,_,_,_,none⟩) rfl (fun K2 hK2=>?_) ?_
          ·go_simp
           (go_at_call 21;refine(hIb _ (hwb hHeld.1)).mono ?_;rintro e w20 ⟨rfl,hB20⟩)
           have hbd20:=Bd.quiet hbd13 hB20
           go_wp2_with fail
           refine hK2.out _ _ (⟨Bx4.step hB20 hHeld.1,Bxa.step hB20 hHeld.2⟩) (fun hHeld=>?_)
           clear hK2 K2
           try simp only[Act.put,List.setIfInBounds_toArray,List.set_cons_zero,List.set_cons_succ]
           refine wpAnyH_ready (rs:=[21]) (by kernel_rfl) (by simp) ?_
           refine AllReadyH.cons (o:=⟨some 61,_,_,_,_,none⟩) rfl (fun K2 hK2=>?_) AllReadyH.nil
           go_simp
           go_wp2_with fail
           refine hK2.out _ _ ⟨Bx4.alo hHeld.1 _,Bxa.alo hHeld.2 _⟩ (fun hHeld=>?_)
           clear hK2 K2
           try simp only[Act.put,List.setIfInBounds_toArray,List.set_cons_zero,List.set_cons_succ]
           refine wpAnyH_ready (rs:=[22]) (by kernel_rfl) (by simp) ?_
           refine AllReadyH.cons (o:=⟨some 62,_,_,_,_,none⟩) rfl (fun K2 hK2=>?_) AllReadyH.nil
           go_simp
           (go_at_call 37;refine(jdv (xs:=[hgB,it x,it y,upB,it bd]) _ (Bd.al hbd20 _) (Bx4.size hHeld.1) (jkr _ _ (by simp) _ _ _ _ _ _) (by simp) (Nat.le_of_ble_eq_true rfl) (Nat.le_refl 5) ⟨by omega,L3⟩).mono ?_;rintro e w22 ⟨rfl,hbd3,hB3,hO3⟩)
           go_wp2_with fail
           refine hK2.out _ _ ⟨Bx4.last hne hB3 hO3 hHeld.1,Bxa.last hp hB3 hO3 hHeld.2⟩ (fun hHeld=>?_)
           clear hK2 K2
           try simp only[Act.put,List.setIfInBounds_toArray,List.set_cons_zero,List.set_cons_succ]
           refine wpAnyH_done (by kernel_rfl) ?_ _
           have hHeld:=hHeld.1
           go_split_ands
           go_wp2
           go_roundg (H.length-(k+1))
           case measure=>omega
           case rel=>
            have X2:txH it S H k++jdf [hgB,it x,it y,upB,it bd]=txH it S H (k+1):=X.symm
            rw[X2] at hbd3
            exact⟨k+1,by omega,by omega,by go_num,hbd3,Box.bl (k:=wr.heap.size) (cs:=#[.int .i64 x,.int .i64 y,.bool true,.int .i8 bd]) (T:=39) (by assumption)⟩
          exact AllReadyH.nil
         exact AllReadyH.nil
        exact AllReadyH.nil
       exact AllReadyH.nil
      refine AllReadyH.cons (o:=⟨some 51,_,_,_,_,none⟩) rfl (fun K2 hK2=>?_) ?_
      ·go_simp
       go_wp2_with fail
       refine hK2.out _ _ (hbxd _) (fun hHeld=>?_)
       have hA:=Bxa.newd (o:=.cells #[.int .i64 x,.int .i64 y,.bool true,.int .i8 bd] 39) hbl
       have hp:wr.heap.size+1≠W1.heap.size:=by have:=hbd.lt';omega
       clear hK2 K2
       try simp only[Act.put,List.setIfInBounds_toArray,List.set_cons_zero,List.set_cons_succ]
       refine wpAnyH_ready (rs:=[5]) (by kernel_rfl) (by simp) ?_
       refine AllReadyH.cons (o:=⟨some 45,_,_,_,_,none⟩) rfl (fun K2 hK2=>?_) ?_
       ·go_simp
        (go_at_call 21;refine(hIx _ (hwb hHeld)).mono ?_;rintro e w5 ⟨rfl,hB5⟩)
        have hbd5:=Bd.quiet (hbdd _) hB5
        go_wp2_with fail
        refine hK2.out _ _ (Bx4.step hB5 hHeld) (fun hHeld=>?_)
        have hA:=Bxa.step hB5 hA
        clear hK2 K2
        try simp only[Act.put,List.setIfInBounds_toArray,List.set_cons_zero,List.set_cons_succ]
        refine wpAnyH_ready (rs:=[10]) (by kernel_rfl) (by simp) ?_
        refine AllReadyH.cons (o:=⟨some 50,_,_,_,_,none⟩) rfl (fun K2 hK2=>?_) ?_
        ·go_simp
         (go_at_call 21;refine(hIy _ (hwb hHeld)).mono ?_;rintro e w10 ⟨rfl,hB10⟩)
         have hbd10:=Bd.quiet hbd5 hB10
         go_wp2_with fail
         refine hK2.out _ _ (Bx4.step hB10 hHeld) (fun hHeld=>?_)
         have hA:=Bxa.step hB10 hA
         clear hK2 K2
         try simp only[Act.put,List.setIfInBounds_toArray,List.set_cons_zero,List.set_cons_succ]
         refine wpAnyH_ready (rs:=[13]) (by kernel_rfl) (by simp) ?_
         refine AllReadyH.cons (o:=⟨some 53,_,_,_,_,none⟩) rfl (fun K2 hK2=>?_) ?_
         ·go_simp
          (go_at_call 40;refine(kh2 x y bd _).mono ?_;rintro e w13 ⟨rfl,hB13⟩)
          have hbd13:=Bd.quiet hbd10 hB13
          go_wp2_with fail
          refine hK2.out _ _ (Bx4.step hB13 hHeld) (fun hHeld=>?_)
          have hA:=Bxa.step hB13 hA
          clear hK2 K2
          try simp only[Act.put,List.setIfInBounds_toArray,List.set_cons_zero,List.set_cons_succ]
          refine wpAnyH_take (i:=14) (oi:=⟨some 54,_,_,_,_,none⟩) (v:=?_) rfl (by kernel_rfl) (by kernel_rfl) (by kernel_rfl) (fun _ _ _ h=>h) (Or.inl ⟨by rfl,?_⟩) (by assumption) ?_
          rotate_left
          ·intro w hSw;(try dsimp only at hSw);go_simp;try with_reducible rfl
          try simp only[Act.put,List.setIfInBounds_toArray,List.set_cons_zero,List.set_cons_succ]
          refine jcw (S':=fun w'=>(w'.cell? ⟨wr.heap.size,0,none⟩=some (.int .i64 x)∧w'.cell? ⟨wr.heap.size,1,none⟩=some (.int .i64 y)∧w'.cell? ⟨wr.heap.size,2,none⟩=some (.bool true)∧w'.cell? ⟨wr.heap.size,3,none⟩=some (.int .i8 bd)∧Box W1 wr.heap.size #[.int .i64 x,.int .i64 y,.bool true,.int .i8 bd] 39 w')∧Bxa W1 (wr.heap.size+1) w') (fun _ h=>h.1) _ _ _ _ ?_
          replace hHeld:=And.intro hHeld hA
          refine wpAnyH_take (i:=15) (oi:=⟨some 55,_,_,_,_,none⟩) (v:=?_) rfl (by kernel_rfl) (by kernel_rfl) (by kernel_rfl) (fun _ _ _ h=>h) (Or.inl ⟨by rfl,?_⟩) (by assumption) ?_
          rotate_left
          ·intro w hSw;(try dsimp only at hSw);go_simp;try with_reducible rfl
          try simp only[Act.put,List.setIfInBounds_toArray,List.set_cons_zero,List.set_cons_succ]
          refine wpAnyH_ready (rs:=[20]) (by kernel_rfl) (by simp) ?_
          refine AllReadyH.cons (o:=⟨some 60,_,_,_,_,none⟩) rfl (fun K2 hK2=>?_) ?_
          ·go_simp
           (go_at_call 21;refine(hIb _ (hwb hHeld.1)).mono ?_;rintro e w20 ⟨rfl,hB20⟩)
           have hbd20:=Bd.quiet hbd13 hB20
           go_wp2_with fail
           refine hK2.out _ _ (⟨Bx4.step hB20 hHeld.1,Bxa.step hB20 hHeld.2⟩) (fun hHeld=>?_)
           clear hK2 K2
           try simp only[Act.put,List.setIfInBounds_toArray,List.set_cons_zero,List.set_cons_succ]
           refine wpAnyH_ready (rs:=[21]) (by kernel_rfl) (by simp) ?_
           refine AllReadyH.cons (o:=⟨some 61,_,_,_,_,none⟩) rfl (fun K2 hK2=>?_) AllReadyH.nil
           go_simp
           go_wp2_with fail
           refine hK2.out _ _ ⟨Bx4.alo hHeld.1 _,Bxa.alo hHeld.2 _⟩ (fun hHeld=>?_)
           clear hK2 K2
           try simp only[Act.put,List.setIfInBounds_toArray,List.set_cons_zero,List.set_cons_succ]
           refine wpAnyH_ready (rs:=[22]) (by kernel_rfl) (by simp) ?_
           refine AllReadyH.cons (o:=⟨some 62,_,_,_,_,none⟩) rfl (fun K2 hK2=>?_) AllReadyH.nil
           go_simp
           (go_at_call 37;refine(jdv (xs:=[hgB,it x,it y,upB,it bd]) _ (Bd.al hbd20 _) (Bx4.size hHeld.1) (jkr _ _ (by simp) _ _ _ _ _ _) (by simp) (Nat.le_of_ble_eq_true rfl) (Nat.le_refl 5) ⟨by omega,L3⟩).mono ?_;rintro e w22 ⟨rfl,hbd3,hB3,hO3⟩)
           go_wp2_with fail
           refine hK2.out _ _ ⟨Bx4.last hne hB3 hO3 hHeld.1,Bxa.last hp hB3 hO3 hHeld.2⟩ (fun hHeld=>?_)
           clear hK2 K2
           try simp only[Act.put,List.setIfInBounds_toArray,List.set_cons_zero,List.set_cons_succ]
           refine wpAnyH_done (by kernel_rfl) ?_ _
           have hHeld:=hHeld.1
           go_split_ands
           go_wp2
           go_roundg (H.length-(k+1))
           case measure=>omega
           case rel=>
            have X2:txH it S H k++jdf [hgB,it x,it y,upB,it bd]=txH it S H (k+1):=X.symm
            rw[X2] at hbd3
            exact⟨k+1,by omega,by omega,by go_num,hbd3,Box.bl (k:=wr.heap.size) (cs:=#[.int .i64 x,.int .i64 y,.bool true,.int .i8 bd]) (T:=39) (by assumption)⟩
          exact AllReadyH.nil
         exact AllReadyH.nil
        exact AllReadyH.nil
       exact AllReadyH.nil
      exact AllReadyH.nil
    ·have hkn:k=H.length:=by omega
     subst hkn
     go_wp2_with (go_at_call 41;refine(kbm W1.heap.size W1.heap.size _ _ hbd hs2).mono ?_;rintro e w' ⟨rfl,hB5⟩)
     go_ret
     exact⟨rfl,((hW0.trans (hB1.mono (by omega))).trans (hbl.mono (by omega))).trans (hB5.mono (by omega))⟩
end N38
end Go.Proofs
namespace Go.Proofs
open Go.RowKit Go.Shelf Go.Lib Go.Vm.X Go.Vm
namespace N38
set_option maxHeartbeats 4000000 in
set_option maxRecDepth 100000 in
theorem text_walk0 (sv hv:Value) (c:Int) (w:World) (hc:c≠0) (hC:∀w',Go.RowKit.Below w.heap.size w w'→Calls Tryz.prog 16 #[.agg #[sv,hv]] w' fun e w''=>e=.returned (.int .i64 c)∧Go.RowKit.Below w'.heap.size w' w''):
  Calls Tryz.prog 8 #[.agg #[sv,hv]] w fun e w'=>e=.returned (.string ⟨#[]⟩)∧Go.RowKit.Below w.heap.size w w':=by
 have mixed:=mixed
 have hW0:Go.RowKit.Below w.heap.size w (w.alloc (.cells #[sv,hv] 29)):=⟨rfl,rfl,rfl,by simp,fun y hy=>Go.RowKit.Below.heap_alloc w _ y hy⟩
 have hsz0:(w.alloc (.cells #[sv,hv] 29)).heap.size=w.heap.size+1:=by simp
 go_enter Tryz.func8,Tryz.ntmps8
 go_wp2_with (first | (go_at_call 16;refine(hC _ hW0).mono ?_;rintro e W1 ⟨rfl,hB1⟩))
 go_ret
 exact⟨rfl,hW0.trans (hB1.mono (by omega))⟩
end N38
end Go.Proofs
