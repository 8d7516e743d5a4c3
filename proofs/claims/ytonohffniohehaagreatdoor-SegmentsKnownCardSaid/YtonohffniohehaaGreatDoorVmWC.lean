/-
  The rules for operations on memory, and for calls.
-/
import Derived.Test.YtonohffniohehaaGreatDoorVmWB
set_option linter.unusedSimpArgs false
set_option linter.unusedVariables false
set_option linter.unusedSectionVars false
set_option linter.unnecessarySimpa false
namespace Go.Vm
namespace W
variable {B:Base} {call:FuncId→List AV→Tr Blk→Nat→Nat→Out} {ro:Nat}
def jbi (l:List AV) (o:Nat) (new:List AV):List AV:=l.take o++(new++l.drop (o+new.length))
theorem jeu {l:List AV} {o:Nat} {new:List AV} (h:o+new.length≤l.length):(jbi l o new).length=l.length:=by
 simp only[jbi,List.length_append,List.length_take,List.length_drop];omega
theorem jg2 {l:List AV} {o:Nat} {new:List AV} (h:o+new.length≤l.length) (i:Nat):(jbi l o new)[i]?=if o≤i∧i<o+new.length then new[i-o]? else l[i]?:=by
 unfold jbi
 have ht:(l.take o).length=o:=by rw[List.length_take];omega
 by_cases h1:i<o
 ·rw[List.getElem?_append_left (by omega),if_neg (by omega),List.getElem?_take,if_pos h1]
 ·rw[List.getElem?_append_right (by omega),ht]
  by_cases h2:i<o+new.length
  ·rw[List.getElem?_append_left (by omega),if_pos ⟨by omega,h2⟩]
  ·rw[List.getElem?_append_right (by omega),if_neg (by omega),List.getElem?_drop]
   congr 1;omega
theorem j7t {H:Tr Blk} {b:Nat} {c:Tr AV} {l new:List AV} {o:Nat} (h2:∀i,i<l.length→c.get i=l[i]?) (h:o+new.length≤l.length):
  HB.At (H.set b (.cells (put new o c) l.length)) b (.cells (jbi l o new)):=by
 refine⟨put new o c,by rw[Tr.get_set,if_pos rfl,jeu h],fun i hi=>?_⟩
 rw[jeu h] at hi
 rw[jgk,jg2 h]
 split
 ·rfl
 ·exact h2 i hi
section
variable {t:Fr} {O:List Ent} {K:Fr→List Ent→Prop} {r:List COp} {d:Option Nat} {q:Bool} {ex:List Opd}
theorem j6r {l:List AV} {agg:Bool} {n o:Nat} {v:AV} (h:ldv agg n o l=some v):o+n≤l.length∧mkv agg ((l.drop o).take n)=some v:=by
 unfold ldv at h
 obtain⟨h1,h2⟩:=jah h
 rw[jae,decide_eq_true_eq] at h1
 exact⟨h1,h2⟩
theorem hop_load {tm:Tr AV} {H:Tr Blk} {nx rr:Nat} {agg:Bool} {n:Nat} {x:Opd} {b o:Nat} {l:List AV} {v:AV} (hx:jbd tm x=.ptr b o) (hb:HB.At H b (.cells l)) (hl:ldv agg n o l=some v):
  hop call rr (jbd tm) H nx (.load agg n x)=some (v,H,nx):=by
 obtain⟨c,h1,h2⟩:=hb
 obtain⟨h3,h4⟩:=j6r hl
 simp only[hop,hx,h1,jae,h3,decide_true,cond_true,jgz (H:=H) (b:=b) h2 n o h3,h4]
def kst (B:Base) (b:Nat) (l:List AV):Prop:=b<B.nx0∧HB.At B.H0 b (.cells l)
theorem hop_store {tm:Tr AV} {H:Tr Blk} {nx rr:Nat} {n:Nat} {x y:Opd} {b o:Nat} {l:List AV} {u:AV} (hx:jbd tm x=.ptr b o) (hy:jbd tm y=u) (hb:HB.At H b (.cells l)) (hr:rx rr≤b) (h1:(jcq u).length=n) (h2:(jcq u).all js3=true)
  (h3:o+n≤l.length):∃H',hop call rr (jbd tm) H nx (.store n x y)=some (.tup [],H',nx)∧∃c,H'=H.set b (.cells (put (jcq u) o c) l.length)∧∀i,i<l.length→c.get i=l[i]?:=by
 obtain⟨c,k1,k2⟩:=hb
 refine⟨_,?_,c,rfl,k2⟩
 simp only[hop,hx,hy,k1,jae,hr,h3,jaa,h1,h2,decide_true,Bool.and_true,cond_true,jc4,jdd]
theorem j70 {l:List AV} {o:Nat} {u:AV} (h:o<l.length):jbi l o [u]=l.set o u:=by
 apply List.ext_getElem?
 intro i
 rw[jg2 (by simp;omega),List.getElem?_set]
 simp only[List.length_cons,List.length_nil,Nat.zero_add]
 by_cases hi:o=i
 ·subst hi;simp[h]
 ·rw[if_neg (by omega),if_neg hi]
inductive Src (O:List Ent) (z:Nat):AV→Nat→List AV→Prop where
 | nils:Src O z .nils 0 []
 | str {s}:z=1→Src O z (.str s) s.length (s.map fun c=>.int .u8 (.ofNat c))
 | sl {b o len cap l}:Has O b (.cells l)→o+len*z≤l.length→Src O z (.sl b o len cap z) len ((l.drop o).take (len*z))
 | none {b o cap}:Src O z (.sl b o 0 cap z) 0 []
theorem HK.perm {O O':List Ent} {H:Tr Blk} {nx:Nat} (hk:HK B ro O H nx) (h:O'.Perm O):HK B ro O' H nx:=
 ⟨hk.r0,hk.r1,hk.base,fun e he=>hk.ent e (h.mem_iff.1 he),(h.map Ent.b).nodup_iff.2 hk.nd⟩
end
end W
end Go.Vm
