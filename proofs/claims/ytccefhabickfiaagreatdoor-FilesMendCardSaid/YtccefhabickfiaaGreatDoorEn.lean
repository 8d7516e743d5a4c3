/- Parts of the proof. -/
import Derived.Test.YtccefhabickfiaaGreatDoorTT
set_option linter.unusedSimpArgs false
set_option linter.defProp false
set_option linter.unusedVariables false
namespace Go.Proofs
open Go.RowKit Go.Shelf Go.Lib Go.Vm.X Go.Vm
namespace F11
def mixed:Tryz.prog.follows .mixedOrders=true:=by kernel_rfl
def jvr (w:World) (s:ByteArray):Go.RowKit.Below w.heap.size w (bytesWorld w 5 s):=
 ⟨rfl,rfl,rfl,by rw[bytesWorld_size];omega,λj hj=>bytesWorld_at_old w 5 s j hj⟩
def jy6 (s:ByteArray) (k:Nat) (h:k<s.size):(s.data[k]'h).toNat=(s.data.toList.map UInt8.toNat).getD k 0:=by
 have h2:k<s.data.toList.length:=by rw[gS];exact h
 rw[List.getD,jH,dK h2];rfl
def j79 {L:List Nat} {A C:Int} {k x:Nat} (hAC:mH (L.take k)=(A,C)) (hk:k<L.length) (hx:x=L.getD k 0) (hx2:x<256):
  (wrap64 (A+wrap64 x)).tmod 65521=(mH (L.take (k+1))).1/\(wrap64 (C+ (wrap64 (A+wrap64 x)).tmod 65521)).tmod 65521=(mH (L.take (k+1))).2:=by
 have hbd:=jqe (L.take k);rw[hAC] at hbd;simp only at hbd;have e:L.take (k+1)=L.take k++[x]:=by
  rw[Fy,dK hk];rw[List.getD,dK hk,nL] at hx;rw[hx];rfl
 have w1:wrap64 (x:Int)=x:=by unfold wrap64;omega
 have w2:wrap64 (A+x)=A+x:=by unfold wrap64;omega
 have t1:(A+x).tmod 65521=(A+x)%65521:=Td (by omega);have w3:wrap64 (C+ (A+x)%65521)=C+ (A+x)%65521:=by unfold wrap64;omega
 have t2:(C+ (A+x)%65521).tmod 65521=(C+ (A+x)%65521)%65521:=Td (by omega);rw[e,j78,hAC];simp only[rL,w1,w2,t1,w3,t2];exact⟨trivial,trivial⟩
set_option maxHeartbeats 1000000 in
set_option maxRecDepth 100000 in
theorem sum_walk (s:ByteArray) (hs:s.size<=1000000000) (w:World):Calls Tryz.prog 11 #[.string s] w λe w'=>e=.returned (.int .u16 (dE (s.data.toList.map UInt8.toNat)))/\Go.RowKit.Below w.heap.size w w':=by
 have mixed:=mixed;obtain⟨L,hL⟩:∃L,L=s.data.toList.map UInt8.toNat:=⟨_,rfl⟩
 have hlen:L.length=s.size:=by rw[hL,dM,gS];rfl
 rw[<-hL]
 go_enter Tryz.func11,Tryz.ntmps11
 go_wp2
 rw[Go.Lib.run_convert_string_bytes w 9 41 5 s Tryz.underlying9 Tryz.underlying41 Tryz.underlying5];simp only[cJ]
 go_wp2
 go_loopg [3,4,10] s.size (λg s3 s4 s10 wr=>∃k:Nat,k<=s.size/\s.size-k<=g/\s3=.int .i64 (mH (L.take k)).1/\s4=.int .i64 (mH (L.take k)).2/\s10=.int .i64 k/\wr=bytesWorld w 5 s)
 case atStart=>exact⟨0,fM _,by omega,rfl,rfl,rfl,rfl⟩
 case round=>
  obtain⟨k,hk,hg,h3,h4,rfl,rfl⟩:=hrel;obtain⟨A,C,hAC⟩:∃A C,mH (L.take k)=(A,C):=⟨_,_,rfl⟩
  have hbd:=jqe (L.take k);rw[hAC] at h3 h4 hbd;simp only at h3 h4 hbd;subst h3 h4;by_cases hlt:k<s.size
  ·have hc:=bytesWorld_cell w 5 s k hlt;have hd:decide ((k:Int)< (s.size:Int))=true:=cK (by omega)
   go_wp2
   go_roundg (s.size-(k+1))
   case measure=>omega
   case rel=>
    have hx:=jy6 s k hlt;obtain⟨n1,n2⟩:=j79 hAC (by omega) (hx.trans (by rw[hL])) (UInt8.toNat_lt _);exact⟨k+1,by omega,by omega,by rw[<-n1],by rw[<-n2],by rfl,rfl⟩
  ·obtain rfl:k=s.size:=by omega
   have hall:L.take s.size=L:=iU (by omega);rw[hall] at hAC;have w2:wrap64 (17*A)=17*A:=by unfold wrap64;omega
   have w3:wrap64 (C+17*A)=C+17*A:=by unfold wrap64;omega
   have t1:(C+17*A).tmod 65521=(C+17*A)%65521:=Td (by omega);have hu:IntKind.u16.wrap ((C+17*A)%65521)=(C+17*A)%65521:=by simp[IntKind.wrap,IntKind.bits,IntKind.signed];omega
   go_wp2
   go_ret
   refine⟨?_,jvr w s⟩;unfold dE;rw[hAC];rfl
end F11
end Go.Proofs
namespace Go.Proofs
open Go.RowKit Go.Shelf Go.Lib Go.Vm.X Go.Vm
namespace F11
abbrev sg (x:dH):Value:=.agg #[.int .u8 x.1,.int .u8 x.2.1.1,.int .i64 x.2.1.2,.int .i64 x.2.2.1,.int .i64 x.2.2.2]
def Bd (B b:Nat) (l:List UInt8) (w:World):Prop:=IsBuilderF 86 5 B b (byteCells l) w
def Bd.quiet {B b:Nat} {l:List UInt8} {w w':World} (h:Bd B b l w) (hB:Go.RowKit.Below w.heap.size w w'):Bd B b l w':=by
 have key:∀p,BuilderAtF 86 5 B b p (byteCells l) w->BuilderAtF 86 5 B b p (byteCells l) w':=λp h=>by
  have hlt:=h.lt;obtain⟨h1,v,h2,h3,h4⟩:=h;exact⟨h1,v,(hB.block b hlt).trans h2,h3.kept (row:=none) ⟨hB.os,hB.tape,hB.output,hB.size,λk hk _=>hB.block k hk⟩ (by cases h:v.ownBlock<;>simp),h4⟩
 exact h.imp (key _) (key _)
def Bd.dr {B b:Nat} {l:List UInt8} {w:World} (h:Bd B b l w):Bd B b l w.drew:=h
def Bd.start (w:World):Bd w.heap.size w.heap.size [] (w.alloc (.cells #[.pointer none,.slice none 0 0] 86)):=IsBuilderF.of (Lib.fresh_isBuilder 86 5 w)
def jru (B b:Nat) (l:List UInt8) (s:ByteArray) (w:World) (h:Bd B b l w) (hlen:l.length+s.size<=140737488355328) (hBw:B<=w.heap.size):
  Calls Tryz.prog 36 #[.pointer (some ⟨b,0,none⟩),.string s] w λe w'=>e=.returned (.tuple #[.int .i64 s.size,.nilIface])/\Bd B b (l++s.data.toList) w'/\Go.RowKit.Below B w w'/\OthersKept 5 (some b) w w':=by
 refine(Tryz.Builder_WriteString_k B b (byteCells l) s w h (by rw[byteCells_length];exact hlen) hBw).mono ?_;rintro e w' ⟨rfl,h1,h2,h3⟩;refine⟨rfl,.inr ?_,h2,h3⟩;have:byteCells (l++s.data.toList)=byteCells l++strCells s:=by simp[byteCells,strCells]
 rw[this];exact h1
def jqc (B b:Nat) (l:List UInt8) (w:World) (h:Bd B b l w) (hBw:B<=w.heap.size):
  Calls Tryz.prog 40 #[.pointer (some ⟨b,0,none⟩)] w λe w'=>e=.returned (.string ⟨l.toArray⟩)/\Go.RowKit.Below B w w':=by
 refine(Tryz.Builder_String_any_k B b l w h hBw).mono ?_;rintro e w' ⟨rfl,h1,h2,h3⟩;exact⟨rfl,h2⟩
def It {w w':World} (h:Go.RowKit.Below w.heap.size w w') {b o:Nat} {v:Value} (hc:w.cell? ⟨b,o,none⟩=some v):w'.cell? ⟨b,o,none⟩=some v:=by
 have hlt:b<w.heap.size:=by
  rcases Nat.lt_or_ge b w.heap.size with h | h
  ·exact h
  ·simp only[World.cell?,Lf h] at hc;cases hc
 simp only[World.cell?] at hc ⊢;rw[h.block b hlt];exact hc
def Box (W:World) (k:Nat) (cs:Array Value) (T:TypeId) (w':World):Prop:=w'.heap[k]?=some (.cells cs T (0,0))/\Go.RowKit.Below W.heap.size W w'
def Box.quiet {W w w':World} {k:Nat} {cs:Array Value} {T:TypeId} (hB:Go.RowKit.Below w.heap.size w w') (h:Box W k cs T w):Box W k cs T w':=
 ⟨(hB.block k (eJ.1 h.1).1).trans h.1,h.2.trans (hB.mono h.2.size)⟩
def Box.al {W w:World} {k:Nat} {cs:Array Value} {T:TypeId} (h:Box W k cs T w) (o:Obj):Box W k cs T (w.alloc o):=Box.quiet (w:=w) ⟨rfl,rfl,rfl,by simp,λy hy=>Ft w o y hy⟩ h
def Box.cell {W w:World} {k:Nat} {cs:Array Value} {T:TypeId} (h:Box W k cs T w) (j:Nat):w.cell? ⟨k,j,none⟩=cs[j]?:=Lib.cell_of_heap h.1 j
def Box.new {W w:World} {cs:Array Value} {T:TypeId} (h:Go.RowKit.Below W.heap.size W w):Box W w.heap.size cs T (w.alloc (.cells cs T)):=
 ⟨Go.heap_alloc_new w _,h.trans ⟨rfl,rfl,rfl,by simp,λz hz=>Ft w _ z (by have:=h.size;omega)⟩⟩
def Box.dr {W w:World} {k:Nat} {cs:Array Value} {T:TypeId} (h:Box W k cs T w):Box W k cs T w.drew:=⟨h.1,h.2.trans ⟨rfl,rfl,rfl,aU _,λy hy=>rfl⟩⟩
abbrev Bp (w0:World) (k:Nat) (W H:Int) (cv:Value) (w':World):Prop:=w'.cell? ⟨k,0,none⟩=some (.int .i64 W)/\w'.cell? ⟨k,1,none⟩=some (.int .i64 H)/\Box w0 k #[.int .i64 W,.int .i64 H,cv] 34 w'
def Bp.step {w0 w w':World} {k:Nat} {W H:Int} {cv:Value} (hB:Go.RowKit.Below w.heap.size w w') (h:Bp w0 k W H cv w):Bp w0 k W H cv w':=
 have:=Box.quiet hB h.2.2
 ⟨this.cell 0,this.cell 1,this⟩
def Bp.bl {w0 w:World} {k:Nat} {W H:Int} {cv:Value} (h:Bp w0 k W H cv w):Go.RowKit.Below w0.heap.size w0 w:=h.2.2.2
def Bp.size {w0 w:World} {k:Nat} {W H:Int} {cv:Value} (h:Bp w0 k W H cv w):w0.heap.size<=w.heap.size:=h.2.2.2.size
def Bp.last {w0 w w':World} {b k:Nat} {W H:Int} {cv:Value} (hk:k≠b) (hB:Go.RowKit.Below w0.heap.size w w') (hO:OthersKept 5 (some b) w w') (h:Bp w0 k W H cv w):Bp w0 k W H cv w':=by
 have:Box w0 k #[.int .i64 W,.int .i64 H,cv] 34 w':=⟨hO _ _ h.2.2.1 (by intro e;cases e;exact hk rfl) (by intro c fz e;cases e),h.2.2.2.trans hB⟩
 exact⟨this.cell 0,this.cell 1,this⟩
def jge (w:World) (b o:Nat) (L:List dH):Prop:=∀j (h:j<L.length),w.cell? ⟨b,o+j*5,none⟩=some (.int .u8 L[j].1)/\w.cell? ⟨b,o+j*5+1,none⟩=some (.int .u8 L[j].2.1.1)/\w.cell? ⟨b,o+j*5+2,none⟩=some (.int .i64 L[j].2.1.2)/\w.cell? ⟨b,o+j*5+3,none⟩=some (.int .i64 L[j].2.2.1)/\w.cell? ⟨b,o+j*5+4,none⟩=some (.int .i64 L[j].2.2.2)
def Ae (it:Int->ByteArray) (W H:Int):List UInt8:=[99,114,101,97,115,101,32]++(it W).data.toList++[32]++(it H).data.toList++[10]
def pA (it:Int->ByteArray) (tx:dH->ByteArray) (W H:Int) (L:List dH) (k:Nat):List UInt8:=Ae it W H++(L.take k).flatMap λx=>(tx x).data.toList++[10]
def Box.bl {W w:World} {k:Nat} {cs:Array Value} {T:TypeId} (h:Box W k cs T w):Go.RowKit.Below W.heap.size W w:=h.2
def jvi {it:Int->ByteArray} {tx:dH->ByteArray} (hit:∀x,(it x).size<=100) (htx:∀x,(tx x).size<=100) (W H:Int) (L:List dH) (k:Nat):(pA it tx W H L k).length<=300+101*k:=by
 unfold pA Ae;have h1:=hit W;have h2:=hit H;have key:∀(L:List dH) (k:Nat),((L.take k).flatMap λx=>(tx x).data.toList++[10]).length<=101*k:=by
  intro L k;induction k generalizing L with
  | zero=>simp
  | succ k ih=>
    cases L with
    | nil=>simp
    | cons x L=>
      have:=ih L;have h3:=htx x;have h4:(tx x).data.toList.length=(tx x).size:=by rw[gS];rfl
      simp only[Fs,lM,dS,kC];omega
 have:=key L k;have e1:(it W).data.toList.length=(it W).size:=by rw[gS];rfl
 have e2:(it H).data.toList.length=(it H).size:=by rw[gS];rfl
 simp only[dS,dG,iT];omega
set_option maxHeartbeats 4000000 in
set_option maxRecDepth 100000 in
theorem jyd {it:Int->ByteArray} {tx:dH->ByteArray} {L:List dH} {en:ByteArray} (W H:Int) (cv:Value) (w:World) (hL:L.length<=1000000) (hit:∀x,(it x).size<=100) (htx:∀x,(tx x).size<=100)
  (hOf:∀w',Go.RowKit.Below w.heap.size w w'->Calls Tryz.prog 35 #[.agg #[.int .i64 W,.int .i64 H,cv]] w' λe w''=>(∃ao b o c,e=.returned (.tuple #[.slice ao L.length c,.int .i64 0])/\(0<L.length->ao=some ⟨b,o,none⟩)/\jge w'' b o L/\(0<L.length->b<w''.heap.size))/\Go.RowKit.Below w'.heap.size w' w'')
  (hI:∀x,x=W\/x=H->∀w',Go.RowKit.Below w.heap.size w w'->Calls Tryz.prog 37 #[.int .i64 x] w' λe w''=>e=.returned (.string (it x))/\Go.RowKit.Below w'.heap.size w' w'')
  (hT:∀x∈L,∀w',Go.RowKit.Below w.heap.size w w'->Calls Tryz.prog 38 #[sg x] w' λe w''=>e=.returned (.string (tx x))/\Go.RowKit.Below w'.heap.size w' w'')
  (hE:∀w',Go.RowKit.Below w.heap.size w w'->Calls Tryz.prog 39 #[.string ⟨(pA it tx W H L L.length).toArray⟩] w' λe w''=>e=.returned (.string en)/\Go.RowKit.Below w'.heap.size w' w''):
  Calls Tryz.prog 19 #[.agg #[.int .i64 W,.int .i64 H,cv]] w λe w'=>e=.returned (if 65536<en.size then .tuple #[.string ⟨#[]⟩,.int .i64 3] else .tuple #[.string en,.int .i64 0])/\Go.RowKit.Below w.heap.size w w':=by
 have mixed:=mixed;have hW0:Go.RowKit.Below w.heap.size w (w.alloc (.cells #[.int .i64 W,.int .i64 H,cv] 34)):=⟨rfl,rfl,rfl,by simp,λy hy=>Ft w _ y hy⟩
 have hsz0:(w.alloc (.cells #[.int .i64 W,.int .i64 H,cv] 34)).heap.size=w.heap.size+1:=by simp
 have hbp0:=Box.new (W:=w) (w:=w) (cs:=#[.int .i64 W,.int .i64 H,cv]) (T:=34) (Go.RowKit.Below.refl _ _)
 go_enter Tryz.func19,Tryz.ntmps19
 go_wp2_with (first | (go_at_call 35;refine(hOf _ hW0).mono ?_;rintro e W1 ⟨⟨ao,sb,so,sc,rfl,hao,hsg,hsb⟩,hB1⟩))
 have hs1:=hB1.size;have hne:w.heap.size≠W1.heap.size:=by rw[hsz0] at hs1;omega
 have hle:w.heap.size<=W1.heap.size:=by rw[hsz0] at hs1;omega
 have hbd1:Bd W1.heap.size W1.heap.size [] (W1.alloc (.cells #[.pointer none,.slice none 0 0] 86)).drew:=(Bd.start W1).dr;have hbp1:Box W1 w.heap.size #[.int .i64 W,.int .i64 H,cv] 34 W1:=⟨(Box.quiet hB1 hbp0).1,Go.RowKit.Below.refl _ _⟩
 have hbpQ:Box W1 w.heap.size #[.int .i64 W,.int .i64 H,cv] 34 (W1.alloc (.cells #[.pointer none,.slice none 0 0] 86)).drew:=(hbp1.al _).dr;have hbpA:Bp W1 w.heap.size W H cv (W1.alloc (.cells #[.pointer none,.slice none 0 0] 86)).drew:=⟨hbpQ.cell 0,hbpQ.cell 1,hbpQ⟩
 have hwW:Go.RowKit.Below w.heap.size w W1:=hW0.trans (hB1.mono (by omega));have hwb:∀ {w'},Bp W1 w.heap.size W H cv w'->Go.RowKit.Below w.heap.size w w':=λh=>hwW.trans (h.bl.mono hle)
 have hIW:=hI W (.inl rfl);have hIH:=hI H (.inr rfl);have hsW:=hit W;have hsH:=hit H;have c1:¬9223372036854775807<7+ (it W).size:=by omega
 have c2:¬9223372036854775807<7+ (it W).size+1:=by omega
 have c3:¬9223372036854775807<7+ (it W).size+1+ (it H).size:=by omega
 have c4:¬9223372036854775807<7+ (it W).size+1+ (it H).size+1:=by omega
 have hhd:((((((⟨#[99,114,101,97,115,101,32]⟩:ByteArray)++it W)++⟨#[32]⟩)++it H)++⟨#[10]⟩).data.toList)=Ae it W H:=by simp[Ae]
 have hhs:((((((⟨#[99,114,101,97,115,101,32]⟩:ByteArray)++it W)++⟨#[32]⟩)++it H)++⟨#[10]⟩).size)<=300:=by
  simp only[ByteArray.size_append];have e1:(⟨#[99,114,101,97,115,101,32]⟩:ByteArray).size=7:=rfl;have e2:(⟨#[32]⟩:ByteArray).size=1:=rfl;have e3:(⟨#[10]⟩:ByteArray).size=1:=rfl;omega
 go_region_held3 (λw'=>w'.cell? ⟨w.heap.size,0,none⟩=some (.int .i64 W)/\w'.cell? ⟨w.heap.size,1,none⟩=some (.int .i64 H)/\Box W1 w.heap.size #[.int .i64 W,.int .i64 H,cv] 34 w')
  (first | (with_reducible exact hbpA) | (with_reducible assumption) | (with_reducible exact Bp.step (by assumption) (by assumption)) | (with_reducible (refine Bp.last hne hB3 hO3 ?_;assumption)) | fail)
  (first | (go_at_call 37;refine(hIW _ (hwb (by with_reducible assumption))).mono ?_;rintro e w' ⟨rfl,hB2⟩;have hbd2:=Bd.quiet (by with_reducible assumption) hB2) | (go_at_call 37;refine(hIH _ (hwb (by with_reducible assumption))).mono ?_;rintro e w' ⟨rfl,hB2⟩;have hbd2:=Bd.quiet (by with_reducible assumption) hB2) | (go_at_call 36;refine(jru W1.heap.size W1.heap.size [] _ _ (by with_reducible assumption) (by rw[iT,iC];exact eA hhs (by decide)) (Bp.size (by with_reducible assumption))).mono ?_;rintro e w' ⟨rfl,hbd3,hB3,hO3⟩))
 go_split_ands
 rw[dZ,hhd] at hbd3
 go_wp2
 go_loopg [33] L.length (λg s33 wr=>∃k:Nat,k<=L.length/\L.length-k<=g/\s33=.int .i64 k/\Bd W1.heap.size W1.heap.size (pA it tx W H L k) wr/\Go.RowKit.Below W1.heap.size W1 wr)
 case atStart=>
  have e0:pA it tx W H L 0=Ae it W H:=by simp[pA]
  rw[<-e0] at hbd3;exact⟨0,fM _,by omega,rfl,hbd3,Box.bl (k:=w.heap.size) (cs:=#[.int .i64 W,.int .i64 H,cv]) (T:=34) (by assumption)⟩
 case round=>
  obtain⟨k,hk,hg,rfl,hbd,hbl⟩:=hrel;have hs2:=hbl.size;by_cases hlt:k<L.length
  ·obtain rfl:=hao (by omega);obtain⟨g0,g1,g2,g3,g4⟩:=hsg k hlt;replace g0:=It hbl g0;replace g1:=It hbl g1;replace g2:=It hbl g2;replace g3:=It hbl g3;replace g4:=It hbl g4;have hTx:=hT L[k] (dU hlt);have htk:=htx L[k];have X:pA it tx W H L (k+1)=pA it tx W H L k++((tx L[k]).data.toList++[10]):=by
    unfold pA;have h1:L.take (k+1)=L.take k++[L[k]]:=by rw[Fy,dK hlt];rfl
    rw[h1,List.flatMap_append,cD];simp
   have hlen:=jvi hit htx W H L k;have k0:(0:Int)<=(k:Int):=by omega
   have k1:(k:Int)< (L.length:Int):=by omega
   have c5:¬9223372036854775807< (tx L[k]).size+1:=by omega
   have hww:Go.RowKit.Below w.heap.size w wr:=hwW.trans (hbl.mono hle);obtain⟨⟨x0,⟨x1,x2⟩,x3,x4⟩,hx⟩:∃x,L[k]=x:=⟨_,rfl⟩
   rw[hx] at g0 g1 g2 g3 g4 hTx htk X c5;simp only at g0 g1 g2 g3 g4;have hal:Go.RowKit.Below wr.heap.size wr (wr.alloc (.cells #[.int .u8 x0,.int .u8 x1,.int .i64 x2,.int .i64 x3,.int .i64 x4] 56)):=⟨rfl,rfl,rfl,by simp,λy hy=>Ft wr _ y hy⟩
   have hbd5:=hbd.quiet hal;have hwa:=hww.trans (hal.mono hww.size);have hsa:=hal.size;have hs4:(tx (x0,((x1,x2),(x3,x4)))++⟨#[10]⟩).size<=101:=by
    rw[ByteArray.size_append];have e3:(⟨#[10]⟩:ByteArray).size=1:=rfl;omega
   go_wp2_with (first | (go_at_call 38;refine(hTx _ hwa).mono ?_;rintro e W4 ⟨rfl,hB4⟩) | (go_at_call 36;refine(jru W1.heap.size W1.heap.size _ _ _ (hbd5.quiet hB4) (by omega) (by have:=hB4.size;omega)).mono ?_;rintro e W5 ⟨rfl,hbd6,hB5,hO5⟩))
   go_roundg (L.length-(k+1))
   case measure=>omega
   case rel=>
    have hda:(tx (x0,((x1,x2),(x3,x4)))++⟨#[10]⟩).data.toList=(tx (x0,((x1,x2),(x3,x4)))).data.toList++[10]:=by simp
    rw[hda,<-X] at hbd6;exact⟨k+1,by omega,by omega,by go_num,hbd6,(hbl.trans ((hal.mono hs2).trans (hB4.mono (by omega)))).trans hB5⟩
  ·have hkn:k=L.length:=by omega
   subst hkn;have hww:Go.RowKit.Below w.heap.size w wr:=hwW.trans (hbl.mono hle);by_cases h6:65536<en.size
   ·have h6':decide ((65536:Int)< (en.size:Int))=true:=cK (by omega);go_wp2_with (first | (go_at_call 40;refine(jqc W1.heap.size W1.heap.size _ _ hbd hs2).mono ?_;rintro e W6 ⟨rfl,hB6⟩;have hw6:=hww.trans (hB6.mono hle)) | (go_at_call 39;refine(hE _ hw6).mono ?_;rintro e W7 ⟨rfl,hB7⟩))
    refine bodyPost_ret (by simp[results,Tryz.results19,go_sem];try rfl) rfl ?_;exact⟨rfl,hw6.trans (hB7.mono hw6.size)⟩
   ·have h6':decide ((65536:Int)< (en.size:Int))=false:=pS (by omega);go_wp2_with (first | (go_at_call 40;refine(jqc W1.heap.size W1.heap.size _ _ hbd hs2).mono ?_;rintro e W6 ⟨rfl,hB6⟩;have hw6:=hww.trans (hB6.mono hle)) | (go_at_call 39;refine(hE _ hw6).mono ?_;rintro e W7 ⟨rfl,hB7⟩))
    refine bodyPost_ret (by simp[results,Tryz.results19,go_sem];try rfl) rfl ?_;exact⟨rfl,hw6.trans (hB7.mono hw6.size)⟩
set_option maxHeartbeats 4000000 in
set_option maxRecDepth 100000 in
theorem jye (W H:Int) (cv:Value) (c:Int) (w:World) (hc:c≠0)
  (hOf:∀w',Go.RowKit.Below w.heap.size w w'->Calls Tryz.prog 35 #[.agg #[.int .i64 W,.int .i64 H,cv]] w' λe w''=>(∃sv,e=.returned (.tuple #[sv,.int .i64 c]))/\Go.RowKit.Below w'.heap.size w' w''):
  Calls Tryz.prog 19 #[.agg #[.int .i64 W,.int .i64 H,cv]] w λe w'=>e=.returned (.tuple #[.string ⟨#[]⟩,.int .i64 c])/\Go.RowKit.Below w.heap.size w w':=by
 have mixed:=mixed;have hW0:Go.RowKit.Below w.heap.size w (w.alloc (.cells #[.int .i64 W,.int .i64 H,cv] 34)):=⟨rfl,rfl,rfl,by simp,λy hy=>Ft w _ y hy⟩
 have hsz0:(w.alloc (.cells #[.int .i64 W,.int .i64 H,cv] 34)).heap.size=w.heap.size+1:=by simp
 go_enter Tryz.func19,Tryz.ntmps19
 go_wp2_with (first | (go_at_call 35;refine(hOf _ hW0).mono ?_;rintro e W1 ⟨⟨sv,rfl⟩,hB1⟩))
 refine bodyPost_ret (by simp[results,Tryz.results19,go_sem];try rfl) rfl ?_;exact⟨rfl,hW0.trans (hB1.mono (by omega))⟩
end F11
end Go.Proofs
namespace Go.Vm
namespace W
open Go Go.RowKit Go.Vm.X Go.Proofs Go.Proofs.F11
variable {gl:List Nat} {B:Base}
def iD (x:dH):List AV:=[.int .u8 x.1,.int .u8 x.2.1.1,.int .i64 x.2.1.2,.int .i64 x.2.2.1,.int .i64 x.2.2.2]
def yU:List AV->Option (List dH)
 | []=>some []
 | .int .u8 k:: .int .u8 l:: .int .i64 c:: .int .i64 f:: .int .i64 t::r=>match yU r with
   | some L=>some ((k,((l,c),(f,t)))::L)
   | none=>none
 | _=>none
def jpn:∀ {l:List AV} {L:List dH},yU l=some L->l=L.flatMap iD
 | [],L,h=>by cases h;rfl
 | .int .u8 k:: .int .u8 l:: .int .i64 c:: .int .i64 f:: .int .i64 t::r,L,h=>by
   simp only[yU] at h;split at h
   ·rename_i L' hL;cases h;rw[jpn hL];rfl
   ·cases h
def jpo:∀L:List dH,yU (L.flatMap iD)=some L
 | []=>rfl
 | (k,((l,c),(f,t)))::L=>by
   have ih:=jpo L;show yU (.int .u8 k:: .int .u8 l:: .int .i64 c:: .int .i64 f:: .int .i64 t::L.flatMap iD)=_;simp only[yU,ih]
def jpf:∀(L:List dH) {j k:Nat} (hj:j<L.length) (hk:k<5),(L.flatMap iD)[j*5+k]?=(iD L[j])[k]?
 | [],j,k,hj,_=>by simp at hj
 | x::L,0,k,hj,hk=>by
   rw[lM,Ld (by show 0*5+k<5;omega)];simp
 | x::L,j+1,k,hj,hk=>by
   have:=jpf L (j:=j) (k:=k) (by simpa using hj) hk;rw[lM,Bc (by show 5<=_;rw[fU];omega),show(iD x).length=5 from rfl,show(j+1)*5+k-5=j*5+k by rw[fU];omega,this];simp
def jpg:∀L:List dH,(L.flatMap iD).length=L.length*5
 | []=>rfl
 | x::L=>by rw[lM,dS,jpg L,show(iD x).length=5 from rfl,dG];omega
def Lu (H:Tr Blk):AV->Option (List dH)
 | .nils=>some []
 | .sl b o n _ 5=>match H.get b with
   | some (.cells c m)=>bif(o+n*5).ble m then(match take c o (n*5) with
     | some l=>yU l
     | none=>none) else none
   | _=>none
 | _=>none
def jgj {ρ:RM}:∀ {l:List AV} {vs:List Value} {i:Nat} {a:AV},VRs ρ l vs->l[i]?=some a->∃v,vs[i]?=some v/\VR ρ a v
 | a::l,vs,0,x,hv,h=>by
   obtain⟨v,vs',rfl,h1,h2⟩:=hv;cases h;exact⟨v,rfl,h1⟩
 | a::l,vs,i+1,x,hv,h=>by
   obtain⟨v,vs',rfl,h1,h2⟩:=hv;exact jgj (i:=i) h2 h
 | [],_,_,_,_,h=>by simp at h
def j5l {ρ:RM} {H:Tr Blk} {W:World} {a:AV} {v:Value} {L:List dH} (hr:HR ρ H W) (hv:VR ρ a v) (h:Lu H a=some L):∃ao b o c,v=.slice ao L.length c/\(0<L.length->ao=some ⟨b,o,none⟩)/\jge W b o L/\(0<L.length->b<W.heap.size):=by
 unfold Lu at h;split at h<;>try (cases h;done)
 ·cases h;simp only[VR] at hv;exact⟨none,0,0,0,hv,λh=>by simp at h,(λj hj=>by simp at hj),λh=>by simp at h⟩
 rename_i b o n cp;split at h<;>try (cases h;done)
 rename_i c m hb;obtain⟨hc,h⟩:=aR h;simp only[aP,aH] at hc;split at h<;>try (cases h;done)
 rename_i l ht;simp only[VR] at hv;obtain⟨lc,cc,off,q1,rfl,q3,_,q5,_⟩:=hv;obtain⟨vs,h3,h4,h5,_⟩:=zW (P:=Tryz.prog) hr hb q1 hc ht;have hl:=jpn h;have hlen:=jpg L;rw[<-hl,(Cm _ _ _ _ ht).1] at hlen;have hn:n=L.length:=by omega
 subst hn;refine⟨some ⟨lc.blk,off,none⟩,lc.blk,off,cc,rfl,λ_=>rfl,λj hj=>?_,λ_=>(hr.blk b _ lc hb q1).lt⟩;have ho:off=lc.base+o:=by rcases q5 with h | h<;>omega
 have key:∀k a,(iD L[j])[k]?=some a->k<5->∃u,W.cell? ⟨lc.blk,off+j*5+k,none⟩=some u/\VR ρ a u:=λk a ha hk=>by
  have:=jpf L hj hk;rw[ha,<-hl] at this;obtain⟨u,e1,e2⟩:=jgj h3 this;have e3:=h5 _ u e1;refine⟨u,?_,e2⟩;rw[nZ] at e3;rw[<-e3,ho]
  congr 2
  omega
 obtain⟨u0,a0,b0⟩:=key 0 _ rfl (by omega);obtain⟨u1,a1,b1⟩:=key 1 _ rfl (by omega);obtain⟨u2,a2,b2⟩:=key 2 _ rfl (by omega);obtain⟨u3,a3,b3⟩:=key 3 _ rfl (by omega);obtain⟨u4,a4,b4⟩:=key 4 _ rfl (by omega);simp only[VR] at b0 b1 b2 b3 b4;subst b0 b1 b2 b3 b4;exact⟨a0,a1,a2,a3,a4⟩
def mkS (o:Option (List Nat)):ByteArray:=match o with
 | some s=>bif s.length.ble 100 then pL s else⟨#[]⟩
 | none=>⟨#[]⟩
def jmk (s:List Nat):(pL s).size=s.length:=by show(pL s).data.size=_;simp[pL,u8]
def jmm (o:Option (List Nat)):(mkS o).size<=100:=by
 unfold mkS;split
 ·rename_i s;cases h:s.length.ble 100
  ·exact fM _
  ·rw[aP,aH] at h;rw[aB,jmk];exact h
 ·exact fM _
def oH (o:Option (List Nat)):Bool:=match o with
 | some s=>s.length.ble 100
 | none=>false
def Kr {o:Option (List Nat)} (h:oH o=true):∃s,o=some s/\mkS o=pL s:=by
 unfold oH at h;split at h
 ·rename_i s;exact⟨s,rfl,by simp only[mkS,h,aB]⟩
 ·cases h
def eZ (call:FuncId->List AV->Tr Blk->Nat->Nat->bN) (f:FuncId) (H:Tr Blk) (nx:Nat) (az:List AV):Option (List Nat×Nat):=match call f az H nx nx with
 | some (.str s,_,n)=>some (s,n)
 | _=>none
def uF (f:List AV->Option (List Nat×Nat)) (L:List (List AV)) (n:Nat):Nat:=L.foldl (λm x=>match f x with | some (_,k)=>max m k | none=>m) n
def Nw (f:List AV->Option (List Nat×Nat)):∀(L:List (List AV)) (n:Nat),n<=uF f L n/\∀x∈L,∀s k,f x=some (s,k)->k<=uF f L n
 | [],n=>⟨aU _,λx h=>by cases h⟩
 | y::L,n=>by
   obtain⟨h1,h2⟩:=Nw f L (match f y with | some (_,k)=>max n k | none=>n);refine⟨eA ?_ h1,λx hx s k e=>?_⟩
   ·split
    ·omega
    ·exact aU _
   ·rcases bL.1 hx with rfl | hx
    ·refine eA ?_ h1;rw[e];exact Nat.le_max_right _ _
    ·exact h2 x hx s k e
def Kd (g:List AV->Option (List Nat)) (x:Int):ByteArray:=mkS (g [.int .i64 x])
def Wu (g:List AV->Option (List Nat)) (x:dH):ByteArray:=mkS (g [.agg (iD x)])
def Pk (gI gT:List AV->Option (List Nat)) (W H:Int) (L:List dH):List Nat:=(pA (Kd gI) (Wu gT) W H L L.length).map UInt8.toNat
def Sl (gI gT:List AV->Option (List Nat)) (W H:Int) (L:List dH):Bool:=L.length.ble 1000000&&oH (gI [.int .i64 W])&&oH (gI [.int .i64 H])&&L.all λx=>oH (gT [.agg (iD x)])
def encV (s:List Nat):AV:=bif(65537).ble s.length then .tup [.str [],.int .i64 3] else .tup [.str s,.int .i64 0]
def uZ (call:FuncId->List AV->Tr Blk->Nat->Nat->bN) (fO fI fT fE:FuncId) (W Hh:Int) (cv:AV) (H:Tr Blk) (nx:Nat):bN:=match call fO [.agg [.int .i64 W,.int .i64 Hh,cv]] H nx nx with
 | some (.tup [sv,.int .i64 e],H1,n1)=>bif decide (e=0) then(match Lu H1 sv with
   | some L=>bif Sl (λaz=>(eZ call fI H nx az).map (·.1)) (λaz=>(eZ call fT H nx az).map (·.1)) W Hh L then(match eZ call fE H nx [.str (Pk (λaz=>(eZ call fI H nx az).map (·.1)) (λaz=>(eZ call fT H nx az).map (·.1)) W Hh L)] with
     | some (s,n2)=>some (encV s,H,max n2 (uF (eZ call fI H nx) [[.int .i64 W],[.int .i64 Hh]] (uF (eZ call fT H nx) (L.map λx=>[.agg (iD x)]) n1)))
     | none=>none) else none
   | none=>none) else some (.tup [.str [],.int .i64 e],H,n1)
 | _=>none
def Gz (call:FuncId->List AV->Tr Blk->Nat->Nat->bN) (f fO fI fT fE:FuncId):dX:=λg az=>bif Nat.beq g f then(match az with
 | [.agg [.int .i64 W,.int .i64 Hh,cv]]=>some λH nx _=>uZ call fO fI fT fE W Hh cv H nx
 | _=>none) else none
def Pv {call:FuncId->List AV->Tr Blk->Nat->Nat->bN} {P:Program} (hcall:lS P gl call) {f:FuncId} {az:List AV} {H H':Tr Blk} {nx nx':Nat} {v:AV} (h:call f az H nx nx=some (v,H',nx')) {ρ:RM} {w w':World} {args:Array Value}
  (hr:HR ρ H w) (hf:Free ρ nx nx') (hgl:GLok gl ρ) (hwf:WF H nx) (ha:VRs ρ az args.toList) (hB:Below w.heap.size w w'):
  Calls P f args w' λe w''=>(∃ρ' v',e=.returned v'/\VR ρ' v v'/\HR ρ' H' w'')/\Below w'.heap.size w' w'':=by
 refine((hcall _ _ _ _ _ _ _ _ h).2 ρ w' args ((Below.quiet hB).hr hr) hf (aU _) hgl hwf ha).2.mono ?_;rintro en w1 ⟨v',rfl,ρ',st,hr',hv'⟩;exact⟨⟨ρ',v',rfl,hv',hr'⟩,st.os,st.tape,st.output,st.size,λy hy=>st.keep y hy (λb l _ _ hb=>hwf b hb)⟩
def jje {ρ:RM} {H:Tr Blk} {nx nx' ro:Nat} {w w':World} {v:AV} {v':Value} (q:Quiet w w') (hr:HR ρ H w) (hn:nx<=nx') (hf:Free ρ nx nx') (hv:VR ρ v v'):Ends ρ H nx ro w v H nx' v' w':=
 ⟨ρ,⟨q.os,q.tape,q.output,q.size,hn,λ_ _=>rfl,λx hx _=>q.keep x hx,λb l h h' e=>(by rw[hf b h h'] at e;cases e),λ_ h=>.inr h,λ_ _ _=>rfl⟩,q.hr hr,hv⟩
def jdt {call:FuncId->List AV->Tr Blk->Nat->Nat->bN} {P:Program} (hcall:lS P gl call) {f:FuncId} {az:List AV} {H:Tr Blk} {nx n:Nat} {s:List Nat} (h:eZ call f H nx az=some (s,n)) {ρ:RM} {w w':World} {args:Array Value}
  (hr:HR ρ H w) (hf:∀m,m<=n->Free ρ nx m) (hgl:GLok gl ρ) (hwf:WF H nx) (ha:VRs ρ az args.toList) (hB:Below w.heap.size w w'):
  Calls P f args w' λe w''=>e=.returned (.string (pL s))/\Below w'.heap.size w' w'':=by
 unfold eZ at h;split at h<;>try (cases h;done)
 rename_i hc;cases h;refine(Pv hcall hc hr (hf _ (aU _)) hgl hwf ha hB).mono ?_;rintro e w2 ⟨⟨ρ',v',rfl,hv',_⟩,hB2⟩;simp only[VR] at hv';obtain⟨bs,rfl,hbs⟩:=hv';refine⟨?_,hB2⟩;have:=mJ hbs;unfold pL;rw[<-this]
def j76 {call:FuncId->List AV->Tr Blk->Nat->Nat->bN} {P:Program} (hcall:lS P gl call) {f:FuncId} {az:List AV} {H:Tr Blk} {nx n:Nat} {s:List Nat} (h:eZ call f H nx az=some (s,n)) {ρ:RM} {w:World} {args:Array Value}
  (hr:HR ρ H w) (hf:∀m,m<=n->Free ρ nx m) (hgl:GLok gl ρ) (hwf:WF H nx) (ha:VRs ρ az args.toList):(pL s).data.toList.map UInt8.toNat=s:=by
 unfold eZ at h;split at h<;>try (cases h;done)
 rename_i hc;cases h;have hq:=Pv hcall hc hr (hf _ (aU _)) hgl hwf ha (Below.refl _ w);obtain⟨_,_,_,⟨⟨ρ',v',_,hv',_⟩,_⟩,_⟩:=hq [];simp only[VR] at hv';obtain⟨bs,_,hbs⟩:=hv';have:=mJ hbs;unfold pL;rw[<-this];exact hbs
def jgk (ρ:RM) (l:List UInt8):VRs ρ [.str (l.map UInt8.toNat)] (#[Value.string ⟨l.toArray⟩]:Array Value).toList:=⟨_,_,rfl,⟨_,rfl,rfl⟩,rfl⟩
def j8i {call:FuncId->List AV->Tr Blk->Nat->Nat->bN} (hcall:lS Tryz.prog gl call) (hfn:tI Tryz.prog 19):iX Tryz.prog gl B (Gz call 19 35 37 38 39):=by
 intro g az k hk H nx v H' nx' ro hv hb;unfold Gz at hk;obtain⟨e,hk2⟩:=aR hk;rw[aL,aH] at e;clear hk;subst e;split at hk2<;>try (cases hk2;done)
 rename_i W Hh cv;cases hk2;replace hv:uZ call 35 37 38 39 W Hh cv H nx=some (v,H',nx'):=hv;unfold uZ at hv;split at hv<;>try (cases hv;done)
 rename_i sv c H1 n1 hc;have up1:=(hcall _ _ _ _ _ _ _ _ hc).1;cases h0:decide (c=0) with
 | false=>
   rw[h0,aF] at hv;simp only[aG,aM] at hv;obtain⟨rfl,rfl,rfl⟩:=hv;refine⟨⟨up1,λ_ h=>.inr h,λ_ _ _=>rfl⟩,λρ w args hr hf hro hgl hwf ha=>⟨hfn,?_⟩⟩;have ha0:=ha;simp only[VRs,VR] at ha;obtain⟨v,vs,h1,⟨cs2,rfl,xv,vs2,h2,rfl,yv,vs3,rfl,rfl,zv,vs4,rfl,hz,rfl⟩,rfl⟩:=ha;obtain rfl:args=#[.agg cs2]:=gF.1 h1;obtain rfl:cs2=#[.int .i64 W,.int .i64 Hh,zv]:=gF.1 h2;refine(jye W Hh zv c w (by simpa using h0) λw' hB=>(Pv hcall hc hr hf hgl hwf ha0 hB).mono ?_).mono ?_
   ·rintro e w2 ⟨⟨ρ',v',rfl,hv',_⟩,hB2⟩;simp only[VR,VRs] at hv';obtain⟨cs,rfl,sv',vs',e1,_,iv,vs2,rfl,rfl,rfl⟩:=hv';exact⟨⟨sv',by rw[show cs=#[sv',.int .i64 c] from gF.1 e1]⟩,hB2⟩
   ·rintro e w2 ⟨rfl,hB2⟩;refine⟨_,rfl,jje (Below.quiet hB2) hr up1 hf ?_⟩;simp only[VR,VRs];exact⟨_,rfl,_,_,rfl,⟨⟨#[]⟩,rfl,rfl⟩,_,_,rfl,rfl,rfl⟩
 | true=>
   rw[h0,aB] at hv;rw[aH] at h0;subst h0;split at hv<;>try (cases hv;done)
   rename_i L hL;obtain⟨hok,hv⟩:=aR hv;split at hv<;>try (cases hv;done)
   rename_i s n2 hs;unfold Pk at hs;simp only[aG,aM] at hv;obtain⟨rfl,rfl,rfl⟩:=hv;obtain⟨t1,t2⟩:=Nw (eZ call 38 H nx) (L.map λx=>[.agg (iD x)]) n1;obtain⟨t3,t4⟩:=Nw (eZ call 37 H nx) [[.int .i64 W],[.int .i64 Hh]] (uF (eZ call 38 H nx) (L.map λx=>[.agg (iD x)]) n1);generalize hN1:uF (eZ call 38 H nx) (L.map λx=>[.agg (iD x)]) n1=N1 at t1 t2 t3 t4 ⊢;generalize hN2:uF (eZ call 37 H nx) [[.int .i64 W],[.int .i64 Hh]] N1=N2 at t3 t4 ⊢;have hle:n1<=max n2 N2:=by omega
   refine⟨⟨eA up1 hle,λ_ h=>.inr h,λ_ _ _=>rfl⟩,λρ w args hr hf hro hgl hwf ha=>⟨hfn,?_⟩⟩;have ha0:=ha;simp only[VRs,VR] at ha;obtain⟨v,vs,h1,⟨cs2,rfl,xv,vs2,h2,rfl,yv,vs3,rfl,rfl,zv,vs4,rfl,hz,rfl⟩,rfl⟩:=ha;obtain rfl:args=#[.agg cs2]:=gF.1 h1;obtain rfl:cs2=#[.int .i64 W,.int .i64 Hh,zv]:=gF.1 h2;simp only[Sl,aN,aP,aH,bS] at hok;obtain⟨⟨⟨k1,k2⟩,k3⟩,k4⟩:=hok;have fr:∀m,m<=max n2 N2->Free ρ nx m:=λm hm=>hf.left hm
   have num:∀x,x=W\/x=Hh->oH ((eZ call 37 H nx [.int .i64 x]).map (·.1))=true->∀w',Below w.heap.size w w'->Calls Tryz.prog 37 #[.int .i64 x] w' λe w''=>e=.returned (.string (Kd (λaz=>(eZ call 37 H nx az).map (·.1)) x))/\Below w'.heap.size w' w'':=λx hx ho w' hB=>by
    obtain⟨t,e1,e2⟩:=Kr ho;cases hi:eZ call 37 H nx [.int .i64 x] with
    | none=>rw[hi] at e1;cases e1
    | some p=>
      obtain⟨t',n3⟩:=p;rw[hi] at e1;cases e1;have h3:n3<=N2:=t4 _ (by rcases hx with rfl | rfl<;>simp) _ _ hi;unfold Kd;simp only;rw[e2];exact jdt hcall hi hr (λm hm=>fr m (by omega)) hgl hwf ⟨_,_,rfl,rfl,rfl⟩ hB
   refine(jyd (it:=Kd λaz=>(eZ call 37 H nx az).map (·.1)) (tx:=Wu λaz=>(eZ call 38 H nx az).map (·.1)) (L:=L) (en:=pL s) W Hh zv w k1 (λx=>jmm _) (λx=>jmm _)
    (λw' hB=>(Pv hcall hc hr (fr _ hle) hgl hwf ha0 hB).mono ?_) (λx hx=>num x hx (by rcases hx with rfl | rfl<;>assumption)) (λx hx w' hB=>?_) (λw' hB=>?_)).mono ?_
   ·rintro e w2 ⟨⟨ρ',v',rfl,hv',hr'⟩,hB2⟩;simp only[VR,VRs] at hv';obtain⟨cs,rfl,sv',vs',e1,hsv,iv,vs2,rfl,rfl,rfl⟩:=hv';obtain rfl:cs=#[sv',.int .i64 0]:=gF.1 e1;obtain⟨ao,b,o,cp,rfl,q1,q2,q3⟩:=j5l hr' hsv hL;exact⟨⟨ao,b,o,cp,rfl,q1,q2,q3⟩,hB2⟩
   ·obtain⟨t,e1,e2⟩:=Kr (k4 x hx);cases hi:eZ call 38 H nx [.agg (iD x)] with
    | none=>rw[hi] at e1;cases e1
    | some p=>
      obtain⟨t',n3⟩:=p;rw[hi] at e1;cases e1;have h3:n3<=N1:=t2 _ (bU.2 ⟨x,hx,rfl⟩) _ _ hi;unfold Wu;simp only;rw[e2];refine jdt hcall hi hr (λm hm=>fr m (by omega)) hgl hwf ?_ hB;exact⟨_,_,rfl,⟨_,rfl,_,_,rfl,rfl,_,_,rfl,rfl,_,_,rfl,rfl,_,_,rfl,rfl,_,_,rfl,rfl,rfl⟩,rfl⟩
   ·exact jdt hcall hs hr (λm hm=>fr m (by omega)) hgl hwf (jgk ρ _) hB
   ·rintro e w2 ⟨rfl,hB2⟩;have hsz:=jmk s;have hbs:(pL s).data.toList.map UInt8.toNat=s:=j76 hcall hs hr (λm hm=>fr m (by omega)) hgl hwf (jgk ρ _);refine⟨_,rfl,jje (Below.quiet hB2) hr (eA up1 hle) (fr _ (aU _)) ?_⟩;unfold encV;have e9:(65537:Nat).ble s.length=decide (65536< (pL s).size):=by
     rw[aP,hsz];exact decide_eq_decide.2 ⟨λh=>by omega,λh=>by omega⟩
    rw[e9];by_cases h6:65536< (pL s).size
    ·rw[aK h6,cK h6,aB];simp only[VR,VRs];exact⟨_,rfl,_,_,rfl,⟨⟨#[]⟩,rfl,rfl⟩,_,_,rfl,rfl,rfl⟩
    ·rw[aD h6,pS h6,aF];simp only[VR,VRs];exact⟨_,rfl,_,_,rfl,⟨_,rfl,hbs⟩,_,_,rfl,rfl,rfl⟩
end W
end Go.Vm
namespace Go.Vm
namespace X
open W Go.Proofs
variable {B:Base} {memo:dX} {prog:Tr CFn}
def Ca (s:List Nat):Option Int:=bif s.length.ble 1000000000 then some (dE s) else none
def jqp {f:FuncId} (hm:∀az g,Ci f f az=some g->memo f az=some g):cE B memo prog 1 [⟨f,[.d .str],[.d (.int .u16)],Ca⟩]:=by
 refine wF λs r hr ro O H nx hk A hA vs hv=>?_
 obtain⟨v1,rfl,_,h1,_⟩:=hv;have h1:v1=AV.str s:=by simpa[aX] using h1
 subst h1;have hr:Ca s=some r:=hr;unfold Ca at hr;obtain⟨hb,hr⟩:=aR hr;cases hr;exact⟨λH nx _=>some (.int .u16 (dE s),H,nx),_,[],[],H,nx,[],hm _ _ (by simp only[Ci,aL,bA,aB,hb]),rfl,hk,pO,oD,[_],rfl,_,rfl,rfl,rfl,rfl⟩
def Ej (a:List Nat×List Nat):Option Int:=match a.2 with
 | [c]=>bif a.1.length.ble 1000000000&&c.blt 256 then some (lX c a.1) else none
 | _=>none
def j8n {f:FuncId} (hm:∀az g,Ng f f az=some g->memo f az=some g):cE B memo prog 1 [⟨f,[.d .str,.d .str],[.d (.int .i64)],Ej⟩]:=by
 refine wF λa r hr ro O H nx hk A hA vs hv=>?_
 obtain⟨v1,_,_,_,rfl,_,⟨_,h1,_⟩,v2,rfl,_,h2,_⟩:=hv;obtain⟨s,t⟩:=a;have h1:v1=AV.str s:=by simpa[aX] using h1
 have h2:v2=AV.str t:=by simpa[aX] using h2
 subst h1;subst h2;have hr:Ej (s,t)=some r:=hr;unfold Ej at hr;split at hr<;>try (cases hr;done)
 rename_i c hc;simp only at hc;subst hc;obtain⟨hb,hr⟩:=aR hr;cases hr;exact⟨λH nx _=>some (.int .i64 (lX c s),H,nx),_,[],[],H,nx,[],hm _ _ (by simp only[Ng,aL,bA,aB];simp only at hb;rw[hb];rfl),rfl,hk,pO,oD,[_],rfl,_,rfl,rfl,rfl,rfl⟩
end X
end Go.Vm
namespace Go.Vm
namespace X
open W Go.Proofs Go.Proofs.F11
variable {B:Base} {memo:dX} {prog:Tr CFn} {ro:Nat} {O:List Ent} {H:Tr Blk} {nx:Nat} {F:aQ}
abbrev Ha:Ty:=.prod (.int .u8) (.prod (.prod (.int .u8) (.int .i64)) (.prod (.int .i64) (.int .i64)))
abbrev tPa:Ty:=.prod (.int .i64) (.prod (.int .i64) (.sl (.prod (.int .i64) (.prod (.int .u8) (.int .u8)))))
def De (rT:dH->Option (List Nat)) (rI:Int->Option (List Nat)) (W H:Int) (L:List dH):List Nat:=(pA (λx=>Go.Vm.W.mkS (rI x)) (λx=>Go.Vm.W.mkS (rT x)) W H L L.length).map UInt8.toNat
def Sm (rT:dH->Option (List Nat)) (rI:Int->Option (List Nat)) (W H:Int) (L:List dH):Bool:=L.length.ble 1000000&&oH (rI W)&&oH (rI H)&&L.all λx=>oH (rT x)
def Dp (rO:(Int×(Int×List (Int×(Int×Int))))->Option (List dH×Int)) (rT:dH->Option (List Nat)) (rI:Int->Option (List Nat)) (rE:List Nat->Option (List Nat)) (a:Int×(Int×List (Int×(Int×Int)))):Option (List Nat×Int):=
 (rO a).bind λr=>bif decide (r.2=0) then(bif Sm rT rI a.1 a.2.1 r.1 then(rE (De rT rI a.1 a.2.1 r.1)).bind λs=>some (bif(65537).ble s.length then([],3) else(s,0)) else none) else some ([],r.2)
def jut {x:dH} {l:List AV} (h:aX F Ha x l):l=iD x:=by
 obtain⟨l1,l2,rfl,h1,l3,l4,rfl,⟨l5,l6,rfl,h5,h6⟩,l7,l8,rfl,h7,h8⟩:=h;have h1:l1=[.int .u8 x.1]:=h1;have h5:l5=[.int .u8 x.2.1.1]:=h5;have h6:l6=[.int .i64 x.2.1.2]:=h6;have h7:l7=[.int .i64 x.2.2.1]:=h7;have h8:l8=[.int .i64 x.2.2.2]:=h8;rw[h1,h5,h6,h7,h8];rfl
def juu (x:dH):aX F Ha x (iD x):=⟨[_],[_,_,_,_],rfl,rfl,[_,_],[_,_],rfl,⟨[_],[_],rfl,rfl,rfl⟩,[_],[_],rfl,rfl,rfl⟩
def jf0:∀ {L:List dH} {l:List AV},bO (aX F Ha) L l->l=L.flatMap iD
 | [],l,h=>h
 | x::L,l,⟨l1,l2,e,h1,h2⟩=>by rw[e,jut h1,jf0 h2];rfl
def j5m {L:List dH} {cap:Option Nat} {v:AV} {E N:List Ent} (h:oV F Ha L cap v E) (hk:HK B ro (E++N) H nx):Lu H v=some L:=by
 obtain⟨x,rfl,_,h⟩:=h;rcases h with⟨h,rfl⟩ | ⟨w,m,rfl,h,hr,_⟩
 ·rcases h with⟨h1,_,h2,_⟩ | ⟨c,n,_,h,_⟩
  ·rw[h1,yF.1 h2];rfl
  ·cases h
 ·rcases h with⟨_,h,_⟩ | ⟨c,n,e,h1,h2,h3,_⟩
  ·cases h
  ·cases h1;obtain⟨_,cc,k1,k2⟩:=hk.at (b:=x.1) (c:=.cells m) .here;have e1:(0+List.length (α:=dH) L*5).ble m.length=true:=by
    rw[aP,aH];have:List.length (α:=dH) L*5<=m.length:=h2;omega
   have e2:take cc 0 (List.length (α:=dH) L*5)=some (L.flatMap iD):=by
    have h2':List.length (α:=dH) L*5<=m.length:=h2;rw[Go.Vm.W.take_at (H:=H) (b:=x.1) k2 _ 0 (by omega),fZ];have:=jf0 hr;rw[<-this];rfl
   show Lu H x.2=some L;rw[e]
   show(match H.get x.1 with
    | some (.cells c m)=>bif(0+List.length (α:=dH) L*5).ble m then(match take c 0 (List.length (α:=dH) L*5) with
      | some l=>yU l
      | none=>none) else none
    | _=>none)=some L
   rw[k1];simp only[e1,aB,e2];exact jpo L
def jds {call0:FuncId->List AV->Tr Blk->Nat->Nat->bN} {f:FuncId} {t:Ty} {run:t.den->Option (List Nat)} (hT:TE.OK B call0 ⟨f,[.d t],[.d .str],run⟩) {x:t.den} {s:List Nat} (hr:run x=some s) {A:aQ} (hk:HK B ro O H nx) (hA:∀x∈A,Has O x.1 x.2\/iW B x)
  {v:AV} (hv:gC A (.d t) x v []):∃n,nx<=n/\eZ call0 f H nx [v]=some (s,n):=by
 have hq:HK B nx (O.map eG) H nx:=hk.quiet;have hAq:∀x∈A,Has (O.map eG) x.1 x.2\/iW B x:=λx hx=>(hA x hx).imp (λh=>h.quiet) id
 obtain⟨u,EE,NN,Hi,nxi,F',i1,i2,i3,i4,vs',rfl,u',e1,i5⟩:=hT x s hr nx _ [] H nx hq (λ_ h=>by cases h) A hAq [v] ⟨_,rfl,hv⟩;subst e1;unfold gC at i5;simp only[Rep.agg,Ty.agg,aF] at i5;obtain⟨_,i6,_⟩:=i5;have i6:u'=AV.str s:=by simpa[aX] using i6
 subst i6;have hi:call0 f [v] H nx nx=some (.str s,Hi,nxi):=i1;exact⟨nxi,(jC i2.r1).1,by simp only[eZ,hi]⟩
def j8h {call0:FuncId->List AV->Tr Blk->Nat->Nat->bN} {f fO fI fT fE:FuncId} {rO:(Int×(Int×List (Int×(Int×Int))))->Option (List dH×Int)} {rT:dH->Option (List Nat)} {rI:Int->Option (List Nat)} {rE:List Nat->Option (List Nat)}
  (hO:TE.OK B call0 ⟨fO,[.d tPa],[.ownx Ha,.d (.int .i64)],rO⟩) (hT:TE.OK B call0 ⟨fT,[.d Ha],[.d .str],rT⟩) (hI:TE.OK B call0 ⟨fI,[.d (.int .i64)],[.d .str],rI⟩) (hE:TE.OK B call0 ⟨fE,[.d .str],[.d .str],rE⟩)
  (hm:∀az g,Gz call0 f fO fI fT fE f az=some g->memo f az=some g):cE B memo prog 1 [⟨f,[.d tPa],[.d .str,.d (.int .i64)],Dp rO rT rI rE⟩]:=by
 refine wF λa r hr ro O H nx hk A hA vs hv=>?_
 obtain⟨v,rfl,hv'⟩:=hv;have hv0:=hv';unfold gC at hv';simp only[Rep.agg,Ty.agg,aB] at hv';obtain⟨m,rfl,_,⟨l1,l2,rfl,h1,l3,l4,rfl,h3,⟨cv,rfl,h4⟩⟩,_⟩:=hv';have h1:l1=[.int .i64 a.1]:=h1;have h3:l3=[.int .i64 a.2.1]:=h3;subst h1;subst h3;have hr:Dp rO rT rI rE a=some r:=hr;unfold Dp at hr;cases he:rO a with
 | none=>rw[he] at hr;cases hr
 | some e=>
 rw[he,aO] at hr;have hq:HK B nx (O.map eG) H nx:=hk.quiet;have hAq:∀x∈A,Has (O.map eG) x.1 x.2\/iW B x:=λx hx=>(hA x hx).imp (λh=>h.quiet) id
 obtain⟨u,EE,NN,Hc,nxc,F',k1,k2,k3,k4,vs',rfl,k5⟩:=hO a e he nx _ [] H nx hq (λ_ h=>by cases h) A hAq _ ⟨_,rfl,hv0⟩;obtain⟨sv,vs2,E1,E2,rfl,rfl,k5,iv,rfl,k6⟩:=k5;unfold gC at k5 k6;simp only[Rep.agg,Ty.agg,aF] at k5 k6;obtain⟨_,k6,rfl⟩:=k6;have k6:iv=AV.int .i64 e.2:=by simpa[aX] using k6
 subst k6;obtain⟨v',e1,k5⟩:=k5;simp only[kX,mD] at e1;subst e1;rw[dZ] at k2;have hL:=j5m k5 k2;have hup:nx<=nxc:=(jC k2.r1).1;have hcall:call0 fO [.agg [.int .i64 a.1,.int .i64 a.2.1,cv]] H nx nx=some (.tup [sv,.int .i64 e.2],Hc,nxc):=k1;by_cases h0:e.2=0
 ·simp only[h0,bA,aB] at hr;obtain⟨hok,hr⟩:=aR hr;obtain⟨s,hs,hr⟩:=dN.1 hr;simp only[aG] at hr;have hok0:=hok;simp only[Sm,aN,aP,aH,bS] at hok;obtain⟨⟨⟨o1,o2⟩,o3⟩,o4⟩:=hok;have hnum:∀x,oH (rI x)=true->(eZ call0 fI H nx [.int .i64 x]).map (·.1)=rI x:=λx ho=>by
   obtain⟨t,e1,_⟩:=Kr ho;obtain⟨n,_,h⟩:=jds hI e1 hk hA (v:=.int .i64 x) ⟨rfl,rfl,rfl⟩;rw[h,e1];rfl
  have htxt:∀x∈e.1,(eZ call0 fT H nx [.agg (iD x)]).map (·.1)=rT x:=λx hx=>by
   obtain⟨t,e1,_⟩:=Kr (o4 x hx);obtain⟨n,_,h⟩:=jds hT e1 hk hA (v:=.agg (iD x)) ⟨_,rfl,rfl,juu x,rfl⟩;rw[h,e1];rfl
  have hok2:Sl (λaz=>(eZ call0 fI H nx az).map (·.1)) (λaz=>(eZ call0 fT H nx az).map (·.1)) a.1 a.2.1 e.1=true:=by
   simp only[Sl,aN,aP,aH,bS];refine⟨⟨⟨o1,by rw[hnum _ o2];exact o2⟩,by rw[hnum _ o3];exact o3⟩,λx hx=>by rw[htxt x hx];exact o4 x hx⟩
  have hbody:Pk (λaz=>(eZ call0 fI H nx az).map (·.1)) (λaz=>(eZ call0 fT H nx az).map (·.1)) a.1 a.2.1 e.1=De rT rI a.1 a.2.1 e.1:=by
   unfold Pk De pA Ae Kd Wu;rw[iU (aU _)];simp only[hnum _ o2,hnum _ o3]
   congr 2
   have cg:∀(L:List dH),(∀x∈L,x∈e.1)->(L.flatMap λx=>(W.mkS ((eZ call0 fT H nx [.agg (iD x)]).map (·.1))).data.toList++[10])=L.flatMap λx=>(W.mkS (rT x)).data.toList++[10]:=λL hL=>by
    induction L with
    | nil=>rfl
    | cons x L ih=>rw[lM,lM,htxt x (hL x (bY ..)),ih λy hy=>hL y (bX _ hy)]
   exact cg _ λ_ h=>h
  obtain⟨n2,hn2,hse⟩:=jds hE hs hk hA (v:=.str (De rT rI a.1 a.2.1 e.1)) ⟨rfl,rfl,rfl⟩;obtain⟨t1,_⟩:=Nw (eZ call0 fT H nx) (e.1.map λx=>[.agg (iD x)]) nxc;obtain⟨t3,_⟩:=Nw (eZ call0 fI H nx) [[.int .i64 a.1],[.int .i64 a.2.1]] (uF (eZ call0 fT H nx) (e.1.map λx=>[.agg (iD x)]) nxc);refine⟨λH nx _=>uZ call0 fO fI fT fE a.1 a.2.1 cv H nx,W.encV s,[],[],H,max n2 (uF (eZ call0 fI H nx) [[.int .i64 a.1],[.int .i64 a.2.1]] (uF (eZ call0 fT H nx) (e.1.map λx=>[.agg (iD x)]) nxc)),[],hm _ _ (by simp only[Gz,aL,bA,aB];rfl),?_,zA hk (by omega),pO,oD,[.str r.1,.int .i64 r.2],?_,_,_,[],[],rfl,rfl,⟨rfl,rfl,rfl⟩,_,rfl,rfl,rfl,rfl⟩
  ·show uZ call0 fO fI fT fE a.1 a.2.1 cv H nx=_;unfold uZ;simp only[hcall,h0,bA,aB];erw[hL];simp only[hok2,aB,hbody,hse]
  ·unfold W.encV;rw[<-hr];cases (65537).ble s.length<;>rfl
 ·simp only[h0,bM,aF,aG] at hr;subst hr;refine⟨λH nx _=>uZ call0 fO fI fT fE a.1 a.2.1 cv H nx,.tup [.str [],.int .i64 e.2],[],[],H,nxc,[],hm _ _ (by simp only[Gz,aL,bA,aB];rfl),?_,zA hk hup,pO,oD,[.str [],.int .i64 e.2],rfl,_,_,[],[],rfl,rfl,⟨rfl,rfl,rfl⟩,_,rfl,rfl,rfl,rfl⟩;show uZ call0 fO fI fT fE a.1 a.2.1 cv H nx=_;unfold uZ;simp only[hcall,h0,bM,aF]
end X
end Go.Vm
