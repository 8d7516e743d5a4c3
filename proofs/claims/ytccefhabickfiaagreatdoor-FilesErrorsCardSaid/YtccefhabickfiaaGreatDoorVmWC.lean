/-
  The rules for operations on memory, and for calls.
  The rules in the form in which a proof goes through a function's text.
  Which rule is next: the form of what stands there.
-/
import Derived.Test.YtccefhabickfiaaGreatDoorVmWB
set_option linter.unusedSimpArgs false
set_option linter.unusedVariables false
set_option linter.unusedSectionVars false
set_option linter.unnecessarySimpa false
namespace Go.Vm
namespace W
variable {B:Base} {call:FuncId->List AV->Tr Blk->Nat->Nat->eQ} {ro:Nat}
def jV (l:List AV) (o:Nat) (new:List AV):List AV:=l.take o++(new++l.drop (o+new.length))
theorem jhi {l:List AV} {o:Nat} {new:List AV} (h:o+new.length<=l.length):(jV l o new).length=l.length:=by
 simp only[jV,cZ,nM,mA];omega
theorem jd7 {l:List AV} {o:Nat} {new:List AV} (h:o+new.length<=l.length) (i:Nat):(jV l o new)[i]?=if o<=i/\i<o+new.length then new[i-o]? else l[i]?:=by
 unfold jV;have ht:(l.take o).length=o:=by rw[nM];omega
 by_cases h1:i<o
 ·rw[qd9 (by omega),aF (by omega),F9,aK h1]
 ·rw[E9 (by omega),ht];by_cases h2:i<o+new.length
  ·rw[qd9 (by omega),aK ⟨by omega,h2⟩]
  ·rw[E9 (by omega),aF (by omega),O5]
   congr 1;omega
theorem jnh {H:Tr Blk} {b:Nat} {c:Tr AV} {l new:List AV} {o:Nat} (h2:∀i,i<l.length->c.get i=l[i]?) (h:o+new.length<=l.length):
  HB.At (H.set b (.cells (put new o c) l.length)) b (.cells (jV l o new)):=by
 refine⟨put new o c,by rw[Tr.get_set,aK rfl,jhi h],λi hi=>?_⟩;rw[jhi h] at hi;rw[xD,jd7 h];split
 ·rfl
 ·exact h2 i hi
section
variable {t:Fr} {O:List Ent} {K:Fr->List Ent->Prop} {r:List COp} {d:Option Nat} {q:Bool} {ex:List Opd}
theorem j1y {l:List AV} {agg:Bool} {n o:Nat} {v:AV} (h:ldv agg n o l=some v):o+n<=l.length/\yM agg ((l.drop o).take n)=some v:=by
 unfold ldv at h;obtain⟨h1,h2⟩:=cF h;rw[bE,aQ] at h1;exact⟨h1,h2⟩
theorem hop_load {tm:Tr AV} {H:Tr Blk} {nx rr:Nat} {agg:Bool} {n:Nat} {x:Opd} {b o:Nat} {l:List AV} {v:AV} (hx:cP tm x=.ptr b o) (hb:HB.At H b (.cells l)) (hl:ldv agg n o l=some v):
  hop call rr (cP tm) H nx (.load agg n x)=some (v,H,nx):=by
 obtain⟨c,h1,h2⟩:=hb;obtain⟨h3,h4⟩:=j1y hl;simp only[hop,hx,h1,bE,h3,aU,aH,take_at (H:=H) (b:=b) h2 n o h3,h4]
def j9a (B:Base) (b:Nat) (l:List AV):Prop:=b<B.nx0/\HB.At B.H0 b (.cells l)
theorem hop_store {tm:Tr AV} {H:Tr Blk} {nx rr:Nat} {n:Nat} {x y:Opd} {b o:Nat} {l:List AV} {u:AV} (hx:cP tm x=.ptr b o) (hy:cP tm y=u) (hb:HB.At H b (.cells l)) (hr:rx rr<=b) (h1:(nA u).length=n) (h2:(nA u).all oR=true)
  (h3:o+n<=l.length):∃H',hop call rr (cP tm) H nx (.store n x y)=some (.tup [],H',nx)/\∃c,H'=H.set b (.cells (put (nA u) o c) l.length)/\∀i,i<l.length->c.get i=l[i]?:=by
 obtain⟨c,k1,k2⟩:=hb;refine⟨_,?_,c,rfl,k2⟩;simp only[hop,hx,hy,k1,bE,hr,h3,bQ,h1,h2,aU,rN,aH,rY,sR]
theorem kn3 {l:List AV} {o:Nat} {u:AV} (h:o<l.length):jV l o [u]=l.set o u:=by
 apply qf1;intro i;rw[jd7 (by simp;omega),O6];simp only[cL,iD,mV];by_cases hi:o=i
 ·subst hi;simp[h]
 ·rw[aF (by omega),aF hi]
theorem HK.ne {H:Tr Blk} {nx b b':Nat} {c c':HB} {l:List Ent} (hk:HK B ro (⟨b,true,c⟩::l) H nx) (h:Has l b' c'):b'≠b:=by
 obtain⟨w,hm⟩:=h.mem;have:=hk.nd;simp only[dA,qg9] at this;intro e;exact this.1 (bC.2 ⟨_,hm,e⟩)
inductive Src (O:List Ent) (z:Nat):AV->Nat->List AV->Prop where
 | nils:Src O z .nils 0 []
 | str {s}:z=1->Src O z (.str s) s.length (s.map λc=>.int .u8 (.ofNat c))
 | sl {b o len cap l}:Has O b (.cells l)->o+len*z<=l.length->Src O z (.sl b o len cap z) len ((l.drop o).take (len*z))
 | none {b o cap}:Src O z (.sl b o 0 cap z) 0 []
theorem kn4 {H:Tr Blk} {nx:Nat} (hk:HK B ro O H nx) {z:Nat} {y:AV} {k:Nat} {new:List AV} (h:Src O z y k new) (hn:∀b o cap,y=.sl b o 0 cap z->∃l,Has O b (.cells l)/\o<=l.length):pH y=some k/\oB z H k y=some new:=by
 cases h with
 | nils=>exact⟨rfl,rfl⟩
 | str hz=>subst hz;simp[pH,oB,bE]
 | sl hb hle=>
   obtain⟨c,k1,k2⟩:=(hk.at hb).2;refine⟨rfl,?_⟩;simp only[oB,iW,bE,bV,aU,rN,aH,k1,hle,take_at (H:=H) (b:=0) k2 _ _ hle]
 | none=>
   rename_i b o cap;obtain⟨l,hb,hle⟩:=hn b o cap rfl;obtain⟨c,k1,k2⟩:=(hk.at hb).2;refine⟨rfl,?_⟩;simp[oB,bE,k1,hle,take]
theorem Src.get {H:Tr Blk} {nx:Nat} (hk:HK B ro O H nx) {z:Nat} {y:AV} {k:Nat} {new:List AV} (h:Src O z y k new) (h0:k≠0):pH y=some k/\oB z H k y=some new:=by
 refine kn4 hk h ?_;rintro b o cap rfl;cases h with
 | sl _ _=>exact absurd rfl h0
 | none=>exact absurd rfl h0
theorem SpecQ.use {f:FuncId} {as:List AV} {I:List (Nat×HB)} {R:AV->List Ent->Prop} (hs:SpecQ B call f as I R) (hI:Sub I O) {H:Tr Blk} {nx:Nat} (hk:HK B ro O H nx):
  ∃v N H' nx',call f as H nx (bif q then nx else ro)=some (v,H',nx')/\HK B ro (N++O) H' nx'/\R v N:=by
 cases q with
 | true=>exact hs.quiet hk hI
 | false=>exact hs ro O H nx hk hI
theorem HK.perm {O O':List Ent} {H:Tr Blk} {nx:Nat} (hk:HK B ro O H nx) (h:O'.Perm O):HK B ro O' H nx:=
 ⟨hk.r0,hk.r1,hk.base,λe he=>hk.ent e (h.mem_iff.1 he),(h.map Ent.b).nodup_iff.2 hk.nd⟩
end
end W
end Go.Vm
namespace Go.Vm
namespace W
variable {B:Base} {call:FuncId->List AV->Tr Blk->Nat->Nat->eQ} {ro:Nat}
section
variable {t:Fr} {O:List Ent} {K:Fr->List Ent->Prop} {r:List COp} {d:Nat} {q:Bool} {ex:List Opd} {x y:Opd}
section ints
variable {k:IntKind} {a b:Int}
end ints
inductive At:List Ent->Nat->HB->(HB->List Ent)->Prop where
 | here {b c O}:At (⟨b,true,c⟩::O) b c (λc'=>⟨b,true,c'⟩::O)
 | there {e b c O f}:At O b c f->At (e::O) b c (λc'=>e::f c')
theorem At.upd {O:List Ent} {b:Nat} {c:HB} {f:HB->List Ent} (h:At O b c f) (c':HB):Upd O b c c' (f c'):=by
 induction h with
 | here=>exact .here
 | there _ ih=>exact .there ih
end
section
variable {O O':List Ent} {v x y z:AV} {t:Fr} {a b c d e f o o' n m:Nat} {g g':Bool} {l l':List AV}
end
section
variable {t:Fr} {O:List Ent} {Q:Ex->Fr->List Ent->Prop} {a b c r:CC}
end
end W
end Go.Vm
namespace Go.Vm
namespace W
variable {B:Base} {call:FuncId->List AV->Tr Blk->Nat->Nat->eQ} {ro:Nat} {t:Fr} {O:List Ent} {K:Fr->List Ent->Prop} {r:List COp} {d:Nat} {dd:Option Nat} {q:Bool} {ex:List Opd} {x y:Opd} {i:I} {j:J} {tg:Nat} {w:Bool} {op:BinOp} {Q:Ex->Fr->List Ent->Prop} {a b:CC}
end W
end Go.Vm
