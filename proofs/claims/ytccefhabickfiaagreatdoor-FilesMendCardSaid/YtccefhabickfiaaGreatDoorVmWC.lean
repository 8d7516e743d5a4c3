/- Parts of the proof. -/
import Derived.Test.YtccefhabickfiaaGreatDoorVmWB
set_option linter.unusedSimpArgs false
set_option linter.unusedVariables false
namespace Go.Vm
namespace W
variable {B:Base} {call:FuncId->List AV->Tr Blk->Nat->Nat->bN} {ro:Nat}
def dQ (l:List AV) (o:Nat) (new:List AV):List AV:=l.take o++(new++l.drop (o+new.length))
theorem Gu {l:List AV} {o:Nat} {new:List AV} (h:o+new.length<=l.length):(dQ l o new).length=l.length:=by
 simp only[dQ,dS,yG,tZ];omega
theorem By {l:List AV} {o:Nat} {new:List AV} (h:o+new.length<=l.length) (i:Nat):(dQ l o new)[i]?=if o<=i/\i<o+new.length then new[i-o]? else l[i]?:=by
 unfold dQ;have ht:(l.take o).length=o:=by rw[yG];omega
 by_cases h1:i<o
 ·rw[Ld (by omega),aD (by omega),rD,aK h1]
 ·rw[Bc (by omega),ht];by_cases h2:i<o+new.length
  ·rw[Ld (by omega),aK ⟨by omega,h2⟩]
  ·rw[Bc (by omega),aD (by omega),sM]
   congr 1;omega
theorem Ok {H:Tr Blk} {b:Nat} {c:Tr AV} {l new:List AV} {o:Nat} (h2:∀i,i<l.length->c.get i=l[i]?) (h:o+new.length<=l.length):
  HB.At (H.set b (.cells (put new o c) l.length)) b (.cells (dQ l o new)):=by
 refine⟨put new o c,by rw[Tr.get_set,aK rfl,Gu h],λi hi=>?_⟩;rw[Gu h] at hi;rw[mP,By h];split
 ·rfl
 ·exact h2 i hi
section
variable {t:Fr} {O:List Ent} {K:Fr->List Ent->Prop} {r:List COp} {d:Option Nat} {q:Bool} {ex:List Opd}
theorem jln {l:List AV} {agg:Bool} {n o:Nat} {v:AV} (h:Aj agg n o l=some v):o+n<=l.length/\nG agg ((l.drop o).take n)=some v:=by
 unfold Aj at h;obtain⟨h1,h2⟩:=aR h;rw[aP,aH] at h1;exact⟨h1,h2⟩
theorem hop_load {tm:Tr AV} {H:Tr Blk} {nx rr:Nat} {agg:Bool} {n:Nat} {x:Opd} {b o:Nat} {l:List AV} {v:AV} (hx:aT tm x=.ptr b o) (hb:HB.At H b (.cells l)) (hl:Aj agg n o l=some v):
  hop call rr (aT tm) H nx (.load agg n x)=some (v,H,nx):=by
 obtain⟨c,h1,h2⟩:=hb;obtain⟨h3,h4⟩:=jln hl;simp only[hop,hx,h1,aP,h3,bA,aB,take_at (H:=H) (b:=b) h2 n o h3,h4]
def jud (B:Base) (b:Nat) (l:List AV):Prop:=b<B.nx0/\HB.At B.H0 b (.cells l)
theorem hop_store {tm:Tr AV} {H:Tr Blk} {nx rr:Nat} {n:Nat} {x y:Opd} {b o:Nat} {l:List AV} {u:AV} (hx:aT tm x=.ptr b o) (hy:aT tm y=u) (hb:HB.At H b (.cells l)) (hr:rx rr<=b) (h1:(gD u).length=n) (h2:(gD u).all hZ=true)
  (h3:o+n<=l.length):∃H',hop call rr (aT tm) H nx (.store n x y)=some (.tup [],H',nx)/\∃c,H'=H.set b (.cells (put (gD u) o c) l.length)/\∀i,i<l.length->c.get i=l[i]?:=by
 obtain⟨c,k1,k2⟩:=hb;refine⟨_,?_,c,rfl,k2⟩;simp only[hop,hx,hy,k1,aP,hr,h3,aL,h1,h2,bA,nM,aB,jP,kJ]
theorem j7r {l:List AV} {o:Nat} {u:AV} (h:o<l.length):dQ l o [u]=l.set o u:=by
 apply Bg;intro i;rw[By (by simp;omega),Fz];simp only[dG,iT,iC];by_cases hi:o=i
 ·subst hi;simp[h]
 ·rw[aD (by omega),aD hi]
inductive Src (O:List Ent) (z:Nat):AV->Nat->List AV->Prop where
 | nils:Src O z .nils 0 []
 | str {s}:z=1->Src O z (.str s) s.length (s.map λc=>.int .u8 (.ofNat c))
 | sl {b o len cap l}:Has O b (.cells l)->o+len*z<=l.length->Src O z (.sl b o len cap z) len ((l.drop o).take (len*z))
 | none {b o cap}:Src O z (.sl b o 0 cap z) 0 []
theorem SpecQ.use {f:FuncId} {as:List AV} {I:List (Nat×HB)} {R:AV->List Ent->Prop} (hs:SpecQ B call f as I R) (hI:uN I O) {H:Tr Blk} {nx:Nat} (hk:HK B ro O H nx):
  ∃v N H' nx',call f as H nx (bif q then nx else ro)=some (v,H',nx')/\HK B ro (N++O) H' nx'/\R v N:=by
 cases q with
 | true=>exact hs.quiet hk hI
 | false=>exact hs ro O H nx hk hI
theorem HK.perm {O O':List Ent} {H:Tr Blk} {nx:Nat} (hk:HK B ro O H nx) (h:O'.Perm O):HK B ro O' H nx:=
 ⟨hk.r0,hk.r1,hk.base,λe he=>hk.ent e (h.mem_iff.1 he),(h.map Ent.b).nodup_iff.2 hk.nd⟩
end
end W
end Go.Vm
namespace Go.Vm
namespace W
variable {B:Base} {call:FuncId->List AV->Tr Blk->Nat->Nat->bN} {ro:Nat}
section
variable {t:Fr} {O:List Ent} {K:Fr->List Ent->Prop} {r:List COp} {d:Nat} {q:Bool} {ex:List Opd} {x y:Opd}
section ints
variable {k:IntKind} {a b:Int}
end ints
inductive At:List Ent->Nat->HB->(HB->List Ent)->Prop where
 | here {b c O}:At (⟨b,true,c⟩::O) b c (λc'=>⟨b,true,c'⟩::O)
 | there {e b c O f}:At O b c f->At (e::O) b c (λc'=>e::f c')
end
section
variable {O O':List Ent} {v x y z:AV} {t:Fr} {a b c d e f o o' n m:Nat} {g g':Bool} {l l':List AV}
end
section
variable {t:Fr} {O:List Ent} {Q:Ex->Fr->List Ent->Prop} {a b c r:CC}
end
end W
end Go.Vm
namespace Go.Vm
namespace W
variable {B:Base} {call:FuncId->List AV->Tr Blk->Nat->Nat->bN} {ro:Nat} {t:Fr} {O:List Ent} {K:Fr->List Ent->Prop} {r:List COp} {d:Nat} {dd:Option Nat} {q:Bool} {ex:List Opd} {x y:Opd} {i:I} {j:J} {tg:Nat} {w:Bool} {op:BinOp} {Q:Ex->Fr->List Ent->Prop} {a b:CC}
end W
end Go.Vm
