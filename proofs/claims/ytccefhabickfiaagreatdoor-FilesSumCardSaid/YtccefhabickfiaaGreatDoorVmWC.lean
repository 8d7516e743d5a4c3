/-
  The rules for operations on memory, and for calls.
-/
import Derived.Test.YtccefhabickfiaaGreatDoorVmWB
set_option linter.unusedSimpArgs false
set_option linter.unusedVariables false
set_option linter.unusedSectionVars false
set_option linter.unnecessarySimpa false
namespace Go.Vm
namespace W
variable {B:Base} {call:FuncId→List AV→Tr Blk→Nat→Nat→Out} {ro:Nat}
def splice (l:List AV) (o:Nat) (new:List AV):List AV:=l.take o++(new++l.drop (o+new.length))
theorem splice_length {l:List AV} {o:Nat} {new:List AV} (h:o+new.length≤l.length):(splice l o new).length=l.length:=by
 simp only[splice,List.length_append,List.length_take,List.length_drop];omega
theorem splice_get {l:List AV} {o:Nat} {new:List AV} (h:o+new.length≤l.length) (i:Nat):(splice l o new)[i]?=if o≤i∧i<o+new.length then new[i-o]? else l[i]?:=by
 unfold splice
 have ht:(l.take o).length=o:=by rw[List.length_take];omega
 by_cases h1:i<o
 ·rw[List.getElem?_append_left (by omega),if_neg (by omega),List.getElem?_take,if_pos h1]
 ·rw[List.getElem?_append_right (by omega),ht]
  by_cases h2:i<o+new.length
  ·rw[List.getElem?_append_left (by omega),if_pos ⟨by omega,h2⟩]
  ·rw[List.getElem?_append_right (by omega),if_neg (by omega),List.getElem?_drop]
   congr 1;omega
theorem At_put {H:Tr Blk} {b:Nat} {c:Tr AV} {l new:List AV} {o:Nat} (h2:∀i,i<l.length→c.get i=l[i]?) (h:o+new.length≤l.length):
  HB.At (H.set b (.cells (put new o c) l.length)) b (.cells (splice l o new)):=by
 refine⟨put new o c,by rw[Tr.get_set,if_pos rfl,splice_length h],fun i hi=>?_⟩
 rw[splice_length h] at hi
 rw[get_put,splice_get h]
 split
 ·rfl
 ·exact h2 i hi
section
variable {t:Fr} {O:List Ent} {K:Fr→List Ent→Prop} {r:List COp} {d:Option Nat} {q:Bool} {ex:List Opd}
theorem ldv_take {l:List AV} {agg:Bool} {n o:Nat} {v:AV} (h:ldv agg n o l=some v):o+n≤l.length∧mkv agg ((l.drop o).take n)=some v:=by
 unfold ldv at h
 obtain⟨h1,h2⟩:=of_bif h
 rw[ble_dec,decide_eq_true_eq] at h1
 exact⟨h1,h2⟩
theorem hop_load {tm:Tr AV} {H:Tr Blk} {nx rr:Nat} {agg:Bool} {n:Nat} {x:Opd} {b o:Nat} {l:List AV} {v:AV} (hx:getv tm x=.ptr b o) (hb:HB.At H b (.cells l)) (hl:ldv agg n o l=some v):
  hop call rr (getv tm) H nx (.load agg n x)=some (v,H,nx):=by
 obtain⟨c,h1,h2⟩:=hb
 obtain⟨h3,h4⟩:=ldv_take hl
 simp only[hop,hx,h1,ble_dec,h3,decide_true,cond_true,take_at (H:=H) (b:=b) h2 n o h3,h4]
def Glob (B:Base) (b:Nat) (l:List AV):Prop:=b<B.nx0∧HB.At B.H0 b (.cells l)
theorem hop_store {tm:Tr AV} {H:Tr Blk} {nx rr:Nat} {n:Nat} {x y:Opd} {b o:Nat} {l:List AV} {u:AV} (hx:getv tm x=.ptr b o) (hy:getv tm y=u) (hb:HB.At H b (.cells l)) (hr:rx rr≤b) (h1:(acells u).length=n) (h2:(acells u).all aone=true)
  (h3:o+n≤l.length):∃H',hop call rr (getv tm) H nx (.store n x y)=some (.tup [],H',nx)∧∃c,H'=H.set b (.cells (put (acells u) o c) l.length)∧∀i,i<l.length→c.get i=l[i]?:=by
 obtain⟨c,k1,k2⟩:=hb
 refine⟨_,?_,c,rfl,k2⟩
 simp only[hop,hx,hy,k1,ble_dec,hr,h3,beq_dec,h1,h2,decide_true,Bool.and_true,cond_true,putK_eq,setB_eq]
theorem splice_one {l:List AV} {o:Nat} {u:AV} (h:o<l.length):splice l o [u]=l.set o u:=by
 apply List.ext_getElem?
 intro i
 rw[splice_get (by simp;omega),List.getElem?_set]
 simp only[List.length_cons,List.length_nil,Nat.zero_add]
 by_cases hi:o=i
 ·subst hi;simp[h]
 ·rw[if_neg (by omega),if_neg hi]
inductive Src (O:List Ent) (z:Nat):AV→Nat→List AV→Prop where
 | nils:Src O z .nils 0 []
 | str {s}:z=1→Src O z (.str s) s.length (s.map fun c=>.int .u8 (.ofNat c))
 | sl {b o len cap l}:Has O b (.cells l)→o+len*z≤l.length→Src O z (.sl b o len cap z) len ((l.drop o).take (len*z))
 | none {b o cap}:Src O z (.sl b o 0 cap z) 0 []
theorem SpecQ.use {f:FuncId} {as:List AV} {I:List (Nat×HB)} {R:AV→List Ent→Prop} (hs:SpecQ B call f as I R) (hI:Sub I O) {H:Tr Blk} {nx:Nat} (hk:HK B ro O H nx):
  ∃v N H' nx',call f as H nx (bif q then nx else ro)=some (v,H',nx')∧HK B ro (N++O) H' nx'∧R v N:=by
 cases q with
 | true=>exact hs.quiet hk hI
 | false=>exact hs ro O H nx hk hI
theorem HK.perm {O O':List Ent} {H:Tr Blk} {nx:Nat} (hk:HK B ro O H nx) (h:O'.Perm O):HK B ro O' H nx:=
 ⟨hk.r0,hk.r1,hk.base,fun e he=>hk.ent e (h.mem_iff.1 he),(h.map Ent.b).nodup_iff.2 hk.nd⟩
end
end W
end Go.Vm
