/-
  The operations that only compute: one theorem over all.
  The operations that only compute: one theorem over all.
-/
import Derived.Test.YtonohffniohehaaGreatDoorVmA3
set_option linter.unusedSimpArgs false
set_option linter.unusedVariables false
set_option linter.unusedSectionVars false
set_option linter.unnecessarySimpa false
namespace Go.Vm
section
variable {P:Program} {gl:List Nat} {ρ:RM} {g:Opd→AV} {e:Operand→Value}
theorem j4a {t et:TypeId} {i:TypeInfo} {x:Value} {lo hi mx:Option AV} {lo' hi' mx':Option Value} {a v:AV} (w:World)
  (hu:P.underlying t=some (.slice et)) (hi0:P.info? et=some i) (ha:VR ρ a x) (hx:VRo ρ lo lo') (hy:VRo ρ hi hi') (hz:VRo ρ mx mx')
  (h:jef i.size a lo hi mx=some v):∃v',(Instr.sliceAt t x lo' hi' mx').run P w=.ok v' w∧VR ρ v v':=by
 simp only[Instr.sliceAt,Sem.run_bind,run_underlying hu,Result.andThen_ok]
 unfold jef at h
 cases a
 case sl b o len cap z'=>
  simp only[VR] at ha
  obtain⟨l,c,off,h1,rfl,h3,h4,h5,h6⟩:=ha
  simp only at h
  cases hzq:z'.beq i.size<;>simp only[hzq,cond_true,cond_false] at h
  ·cases h
  have hz':z'=i.size:=Nat.eq_of_beq_eq_true hzq
  subst hz'
  have key:∀(l0 h0:Nat) (mc:Nat),l0≤h0→h0≤mc→mc≤c→∀cap',(cap'=some (mc-l0)∨cap'=none∧mc=c∧cap=none)→
    VR ρ (.sl b (o+l0*i.size) (h0-l0) cap' i.size) (.slice (if mc=l0 then some ⟨l.blk,off,none⟩ else Option.map (fun x:Addr=>x.add (l0*i.size)) (some ⟨l.blk,off,none⟩)) (h0-l0) (mc-l0)):=by
   intro l0 h0 mc k1 k2 k3 cap' k4
   simp only[VR,Option.map_some,jhc]
   have hmul:l0*i.size+ (mc-l0)*i.size=mc*i.size:=by rw[←Nat.add_mul];congr 1;omega
   have hle:mc*i.size≤c*i.size:=Nat.mul_le_mul_right _ k3
   refine⟨l,mc-l0,if mc=l0 then off else off+l0*i.size,h1,?_,by omega,h4,?_,?_⟩
   ·split<;>rfl
   ·by_cases e:mc=l0
    ·right;omega
    ·rw[if_neg e]
     left
     rcases h5 with h5 | h5
     ·rw[h5];omega
     ·omega
   ·rcases k4 with k4 | ⟨k4,k5,k6⟩
    ·left
     refine⟨k4,?_⟩
     rcases h6 with⟨_,h6⟩ | ⟨_,h6⟩<;>omega
    ·right
     refine⟨k4,?_⟩
     rcases h6 with⟨h7,h6⟩ | ⟨_,h6⟩
     ·rw[k6] at h7;cases h7
     ·subst k5;omega
  cases cap with
  | some c'=>
    have hc:c'=c:=by
     rcases h6 with⟨h7,_⟩ | ⟨h7,_⟩
     ·exact Option.some.inj h7
     ·cases h7
    subst hc
    simp only at h
    split at h
    ·rename_i l0 h0 m0 hb
     cases h
     obtain⟨k1,k2,k3,k5,k4⟩:=jhy (P:=P) (ρ:=ρ) (cap':=c') true w hb hx hy hz (Nat.le_refl _) h3
     simp only[Instr.slice,Sem.run_bind,run_underlying hu,Result.andThen_ok,k4,jbj hi0,Sem.run_pure]
     refine⟨_,rfl,?_⟩
     cases mx with
     | none=>
       have hm:m0=c':=k5 rfl
       subst hm
       exact key l0 h0 m0 k1 k2 k3 _ (.inl rfl)
     | some mx0=>exact key l0 h0 m0 k1 k2 k3 _ (.inl rfl)
    ·cases h
  | none=>
    simp only at h
    split at h
    ·rename_i l0 h0 m0 hb
     obtain⟨k1,k2,k3,k5,k4⟩:=jhy (P:=P) (ρ:=ρ) (cap':=c) true w hb hx hy hz h3 (Nat.le_refl _)
     simp only[Instr.slice,Sem.run_bind,run_underlying hu,Result.andThen_ok,k4,jbj hi0,Sem.run_pure]
     refine⟨_,rfl,?_⟩
     cases mx with
     | none=>
       cases h
       exact key l0 h0 c k1 (by omega) (Nat.le_refl _) _ (.inr ⟨rfl,rfl,rfl⟩)
     | some mx0=>
       cases h
       exact key l0 h0 m0 k1 k2 (by omega) _ (.inl rfl)
    ·cases h
 case nils=>
  simp only[VR] at ha
  subst ha
  simp only at h
  split at h
  ·rename_i r hb
   obtain⟨l0,h0,m0⟩:=r
   cases h
   obtain⟨k1,k2,k3,k5,k4⟩:=jhy (P:=P) (ρ:=ρ) (cap':=0) true w hb hx hy hz (Nat.le_refl _) (Nat.le_refl _)
   simp only[Instr.slice,Sem.run_bind,run_underlying hu,Result.andThen_ok,k4,jbj hi0,Sem.run_pure]
   refine⟨_,rfl,?_⟩
   have e1:h0=0:=by omega
   have e2:l0=0:=by omega
   have e3:m0=0:=by omega
   subst e1;subst e2;subst e3
   simp[VR]
  ·cases h
 all_goals (cases h)
theorem j1a {s:ByteArray} {i:Nat} {c:Nat} (h:(s.data.toList.map UInt8.toNat)[i]?=some c):∃b:UInt8,s[i]?=some b∧b.toNat=c:=by
 rw[List.getElem?_map,Option.map_eq_some_iff] at h
 obtain⟨b,h1,h2⟩:=h
 refine⟨b,?_,h2⟩
 have hi:i<s.size:=by
  have:=(List.getElem?_eq_some_iff.1 h1).1
  simpa using this
 have h3:s.data[i]?=some b:=by simpa using h1
 rw[getElem?_pos s i hi]
 have h4:=Array.getElem?_eq_some_iff.1 h3
 obtain⟨_,h5⟩:=h4
 rw[←h5]
 rfl
end
end Go.Vm
namespace Go.Vm
section
variable {P:Program} {gl:List Nat} {ρ:RM} {g:Opd→AV} {e:Operand→Value}
theorem js0 {n:Nat} (h:n≤127):(Utf8.encode (n:Int)).data.toList.map UInt8.toNat=[n]:=by
 have hv:Utf8.valid (n:Int)=true:=by simp[Utf8.valid];omega
 have hn:((n:Int)).toNat<128:=by omega
 unfold Utf8.encode
 simp only[hv,if_true,hn]
 simp
 omega
theorem jg3 {s:Sem Value} {v:AV} {w:World} (h:∃v',s.run P w=.ok v' w∧VR ρ v v'):
  ∃v',(do pure (.value (←s)):Sem Next).run P w=.ok (.value v') w∧VR ρ v v':=by
 obtain⟨v',h1,h2⟩:=h
 exact⟨v',jcn h1,h2⟩
theorem kcc {op:BinOp} {t yt:TypeId} {x y:Operand} {c:I} {v:AV} (w:World) (hg:∀x y,opd gl x=some y→VR ρ (g y) (e x))
  (hc:jti P gl (.binOp op t x y yt)=some c) (h:pop g c=some v):
  ∃v',(do eqGuard op t x y (e x) (e y);binOp op t (e x) (e y):Sem Value).run P w=.ok v' w∧VR ρ v v':=by
 simp only[jti,Option.bind_eq_bind,Option.bind_eq_some_iff] at hc
 obtain⟨x',hx,y',hy,hc⟩:=hc
 have gx:=hg x x' hx
 have gy:=hg y y' hy
 have nog:∀r,j3g op (g x') (g y')=some r→(eqGuard op t x y (e x) (e y)).run P w=.ok () w:=by
  intro r hr
  unfold j3g at hr
  split at hr
  ·rename_i h1 h2
   rw[h1] at gx;rw[h2] at gy
   simp only[VR] at gx gy
   rw[gx,gy]
   cases op<;>simp[eqGuard]
  ·rename_i h1 h2
   rw[h1] at gx;rw[h2] at gy
   simp only[VR] at gx gy
   obtain⟨_,e1,_⟩:=gx
   obtain⟨_,e2,_⟩:=gy
   rw[e1,e2]
   cases op<;>simp[eqGuard]
  ·cases hr
 have plain:c=.bin op x' y'→∃v',(do eqGuard op t x y (e x) (e y);binOp op t (e x) (e y):Sem Value).run P w=.ok v' w∧VR ρ v v':=by
  intro hce
  subst hce
  simp only[pop] at h
  obtain⟨v',h1,h2⟩:=j82 (P:=P) w t h gx gy
  exact⟨v',by simp only[Sem.run_bind,nog _ h,Result.andThen_ok,h1],h2⟩
 have flatK:∀agg ks,c=.eqf (jqz op) agg ks x' y'→flat P 20 t=some ks→(op=.eql∨op=.neq)→(P.eqGuardType P.depth t=false∧agg=true∧(∃d,P.underlying t=some d∧jgy d=true)∨P.underlying t=some .bool∧agg=false)→
   ∃v',(do eqGuard op t x y (e x) (e y);binOp op t (e x) (e y):Sem Value).run P w=.ok v' w∧VR ρ v v':=by
  intro agg ks hce hf hop hgt
  subst hce
  simp only[pop] at h
  split at h
  ·rename_i b hb
   cases h
   obtain⟨i,dd,k1,k2,k3⟩:=jnz hf
   have hlen:=j6z 20 t ks i hf k1
   rcases hgt with⟨hgt,rfl,d,hd,hda⟩ | ⟨hub,rfl⟩
   ·rw[k2] at hd
    cases hd
    simp only[jyc,cond_true] at hb
    split at hb
    ·rename_i l m h1 h2
     rw[h1] at gx;rw[h2] at gy
     simp only[VR] at gx gy
     obtain⟨cs,e1,va⟩:=gx
     obtain⟨ds,e2,vb⟩:=gy
     rw[e1,e2] at *
     cases hll:(l.length.beq ks.length&&m.length.beq ks.length)
     ·simp[hll] at hb
     ·simp only[hll,cond_true] at hb
      simp only[Bool.and_eq_true,jaa,decide_eq_true_eq] at hll
      have h3:=jxv 20 t 10000 i dd ks l m cs.toList ds.toList b w hf (by omega) k1 k2 va vb (by omega) (by omega) hb
      simp only[jn8,hda,if_true] at h3
      refine⟨.bool (jqz op ^^ b),?_,by simp[VR]⟩
      simp only[Sem.run_bind,run_eqGuard_agg w op t x y cs ds hgt,Result.andThen_ok]
      exact j4c w hop h3 (by simp) (by simp) (by simp) (by simp)
    ·cases hb
   ·rw[k2] at hub
    cases hub
    simp only[jyc,cond_false] at hb
    have h1:=k3 rfl
    have hks:∃k,ks=[k]:=List.length_eq_one_iff.1 (by omega)
    obtain⟨k,rfl⟩:=hks
    have hk:k=0:=by
     unfold flat at hf
     simp only[k1,k2,h1] at hf
     simpa using hf.symm
    subst hk
    have h4:∃p q,g x'=.bool p∧g y'=.bool q∧b=(p==q):=by
     cases hx1:g x'<;>cases hy1:g y'<;>simp[jog,ceq,hx1,hy1] at hb
     rename_i p q
     refine⟨p,q,rfl,rfl,?_⟩
     cases p<;>cases q<;>simp at hb ⊢<;>exact hb
    obtain⟨p,q,e1,e2,rfl⟩:=h4
    rw[e1] at gx;rw[e2] at gy
    simp only[VR] at gx gy
    rw[gx,gy]
    refine⟨.bool (jqz op ^^ (p==q)),?_,by simp[VR]⟩
    have:(eqGuard op t x y (.bool p) (.bool q)).run P w=.ok () w:=by cases op<;>simp[eqGuard]
    simp only[Sem.run_bind,this,Result.andThen_ok]
    exact j4c w hop (run_equalIn_bool w 9999 t p q k2) (by simp) (by simp) (by simp) (by simp)
  ·cases h
 have eqn:∀kd,c=.eqn (jqz op) kd x' y'→j17 P t x y kd→(op=.eql∨op=.neq)→
   ∃v',(do eqGuard op t x y (e x) (e y);binOp op t (e x) (e y):Sem Value).run P w=.ok v' w∧VR ρ v v':=by
  intro kd hce hk hop
  subst hce
  simp only[pop] at h
  split at h
  ·rename_i b hb
   cases h
   exact⟨_,j8x w hb gx gy hk hop,by simp[VR]⟩
  ·cases h
 have eqs:(op=.eql∨op=.neq)→eqI P op t x y x' y'=some c→∃v',(do eqGuard op t x y (e x) (e y);binOp op t (e x) (e y):Sem Value).run P w=.ok v' w∧VR ρ v v':=by
  intro hop hc
  unfold eqI at hc
  split at hc
  ·cases hc;exact plain rfl
  ·cases hc;exact plain rfl
  ·rename_i hu
   split at hc
   ·rename_i ks hf;cases hc;exact flatK false ks rfl hf hop (.inr ⟨hu,rfl⟩)
   ·cases hc
  ·rename_i hu
   split at hc
   ·cases hc
   ·rename_i hgt
    split at hc
    ·rename_i ks hf;cases hc;exact flatK true ks rfl hf hop (.inl ⟨by simpa using hgt,rfl,_,hu,rfl⟩)
    ·cases hc
  ·rename_i hu
   split at hc
   ·cases hc
   ·rename_i hgt
    split at hc
    ·rename_i ks hf;cases hc;exact flatK true ks rfl hf hop (.inl ⟨by simpa using hgt,rfl,_,hu,rfl⟩)
    ·cases hc
  ·rename_i ms hu
   split at hc
   ·rename_i hm;cases hc;exact eqn 0 rfl ⟨⟨ms,hu⟩,hm⟩ hop
   ·cases hc
  ·rename_i n hu;cases hc;exact eqn 1 rfl ⟨n,hu⟩ hop
  ·rename_i n hu;cases hc;exact eqn 2 rfl ⟨n,hu⟩ hop
  ·rename_i p q n hu;cases hc;exact eqn 3 rfl ⟨p,q,n,hu⟩ hop
  ·cases hc
 have ari:arI P op t x' y'=some c→∃v',(do eqGuard op t x y (e x) (e y);binOp op t (e x) (e y):Sem Value).run P w=.ok v' w∧VR ρ v v':=by
  intro hc
  unfold arI at hc
  split at hc
  ·cases hc;exact plain rfl
  ·cases hc;exact plain rfl
  ·cases hc
 cases op
 case eql=>exact eqs (.inl rfl) hc
 case neq=>exact eqs (.inr rfl) hc
 all_goals exact ari hc
theorem kak {o:Oper} {c:I} {v:AV} (w:World) (hg:∀x y,opd gl x=some y→VR ρ (g y) (e x)) (hc:jti P gl o.op=some c) (h:pop g c=some v):
  ∃v',(execOp e o).run P w=.ok (.value v') w∧VR ρ v v':=by
 obtain⟨dst,op,ty,pos,after,guard⟩:=o
 simp only at hc
 cases op
 case move x=>
  simp only[jti,Option.map_eq_some_iff] at hc
  obtain⟨x',hx,rfl⟩:=hc
  simp only[pop,Option.some.injEq] at h
  subst h
  exact⟨e x,rfl,hg _ _ hx⟩
 case assign x=>
  simp only[jti,Option.map_eq_some_iff] at hc
  obtain⟨x',hx,rfl⟩:=hc
  simp only[pop,Option.some.injEq] at h
  subst h
  exact⟨e x,rfl,hg _ _ hx⟩
 case pick c a b=>
  simp only[jti,Option.bind_eq_bind,Option.bind_eq_some_iff,Option.some.injEq] at hc
  obtain⟨c',h1,a',h2,b',h3,rfl⟩:=hc
  have k1:=hg _ _ h1
  simp only[pop] at h
  split at h
  ·rename_i hq
   rw[hq] at k1
   simp only[VR] at k1
   cases h
   exact⟨e a,by simp[execOp,k1,asBool],hg _ _ h2⟩
  ·rename_i hq
   rw[hq] at k1
   simp only[VR] at k1
   cases h
   exact⟨e b,by simp[execOp,k1,asBool],hg _ _ h3⟩
  ·cases h
 case build t ps=>
  obtain⟨l,rfl⟩:∃l,ps=l.toArray:=⟨ps.toList,by simp⟩
  exact jg3 (j5m w hg hc h)
 case nilCheck x=>
  simp only[jti,Option.map_eq_some_iff] at hc
  obtain⟨x',hx,rfl⟩:=hc
  have k:=hg _ _ hx
  simp only[pop] at h
  refine⟨e x,?_,?_⟩
  ·simp only[execOp]
   cases hq:g x'<;>rw[hq] at k h<;>simp only[VR] at k<;>first
    | (cases h;done)
    | (rw[k];rfl)
    | (obtain⟨_,k,_⟩:=k;rw[k];rfl)
    | (obtain⟨_,_,k⟩:=k;rw[k];rfl)
    | (obtain⟨_,_,_,_,k,_⟩:=k;rw[k];rfl)
    | skip
   case fn f a b=>
    obtain⟨xs,ys,k,_⟩:=k
    rw[k]
    cases f<;>first | (cases h;done) | rfl
  ·cases hq:g x'<;>rw[hq] at h k<;>first
    | (cases h;done)
    | (simp only[Option.some.injEq] at h;subst h;exact k)
    | skip
   case fn f a b=>cases f<;>first | (cases h;done) | (simp only[Option.some.injEq] at h;subst h;exact k)
 case binOp op t x y yt=>exact jg3 (kcc w hg hc h)
 case unOp op t x=>
  cases op
  case neg=>
   simp only[jti,Option.map_eq_some_iff] at hc
   obtain⟨x',hx,rfl⟩:=hc
   have k:=hg _ _ hx
   simp only[pop] at h
   split at h
   ·rename_i kd n hq
    rw[hq] at k
    simp only[VR] at k
    cases h
    refine⟨_,by simp[execOp,k,Op.unary,Op.intArith];rfl,by simp[VR,jes]⟩
   ·cases h
  case xor=>
   simp only[jti,Option.map_eq_some_iff] at hc
   obtain⟨x',hx,rfl⟩:=hc
   have k:=hg _ _ hx
   simp only[pop] at h
   split at h
   ·rename_i kd n hq
    rw[hq] at k
    simp only[VR] at k
    cases h
    refine⟨_,by simp only[execOp,k,Op.unary,Op.intBits,Sem.run_bind,Sem.run_pure,Result.andThen_ok];rfl,by simp[VR]⟩
   ·cases h
  case not=>
   simp only[jti,Option.map_eq_some_iff] at hc
   obtain⟨x',hx,rfl⟩:=hc
   have k:=hg _ _ hx
   simp only[pop] at h
   split at h
   ·rename_i b hq
    rw[hq] at k
    simp only[VR] at k
    cases h
    refine⟨_,by simp[execOp,k,Op.unary];rfl,by simp[VR]⟩
   ·cases h
  case plus=>simp[jti] at hc
 case convert s t x=>
  simp only[jti] at hc
  split at hc
  ·rename_i k1 k2 hs ht
   simp only[Option.map_eq_some_iff] at hc
   obtain⟨x',hx,rfl⟩:=hc
   have k:=hg _ _ hx
   simp only[pop] at h
   split at h
   ·rename_i kd n hq
    rw[hq] at k
    simp only[VR] at k
    cases h
    refine⟨_,by simp[execOp,k,convert,run_underlying hs,run_underlying ht,Conv.intToInt];rfl,by simp[VR,jes]⟩
   ·cases h
  ·rename_i hs ht
   simp only[Option.map_eq_some_iff] at hc
   obtain⟨x',hx,rfl⟩:=hc
   have k:=hg _ _ hx
   simp only[pop] at h
   split at h
   ·rename_i s' hq
    rw[hq] at k
    simp only[VR] at k
    obtain⟨bs,k,rfl⟩:=k
    cases h
    refine⟨_,by simp[execOp,k,convert,run_underlying hs,run_underlying ht];rfl,by simp[VR]⟩
   ·rename_i k0 n hq
    rw[hq] at k
    simp only[VR] at k
    cases hn:n.ble 127 with
    | false=>rw[hn] at h;cases h
    | true=>
      rw[hn] at h
      cases h
      exact⟨.string (Utf8.encode (n:Int)),by simp[execOp,k,convert,run_underlying hs,run_underlying ht,Conv.intToString],by simp only[VR];exact⟨_,rfl,js0 (Nat.le_of_ble_eq_true hn)⟩⟩
   ·cases h
  ·rename_i k1 hs ht
   simp only[Option.map_eq_some_iff] at hc
   obtain⟨x',hx,rfl⟩:=hc
   have k:=hg _ _ hx
   simp only[pop] at h
   split at h
   ·rename_i s' hq
    rw[hq] at k
    simp only[VR] at k
    obtain⟨bs,k,rfl⟩:=k
    cases h
    exact⟨_,by simp[execOp,k,convert,run_underlying hs,run_underlying ht];rfl,by simp[VR]⟩
   ·rename_i k0 n hq
    rw[hq] at k
    simp only[VR] at k
    cases hn:n.ble 127 with
    | false=>rw[hn] at h;cases h
    | true=>
      rw[hn] at h
      cases h
      exact⟨.string (Utf8.encode (n:Int)),by simp[execOp,k,convert,run_underlying hs,run_underlying ht,Conv.intToString],by simp only[VR];exact⟨_,rfl,js0 (Nat.le_of_ble_eq_true hn)⟩⟩
   ·cases h
  ·cases hc
 case makeInterface t x=>
  simp only[jti] at hc
  split at hc
  ·cases hc
  ·rename_i d hni hu
   simp only[Option.map_eq_some_iff] at hc
   obtain⟨x',hx,rfl⟩:=hc
   have k:=hg _ _ hx
   simp only[pop,Option.some.injEq] at h
   subst h
   refine jg3 ⟨.iface t (e x),?_,by simp only[VR];exact⟨_,rfl,k⟩⟩
   simp only[Instr.makeInterface,Sem.run_bind,run_underlying hu,Result.andThen_ok]
   cases d<;>first | rfl | (exact absurd rfl (hni _))
  ·cases hc
 case makeFunc f a b=>
  simp only[jti,Option.bind_eq_bind,Option.bind_eq_some_iff,Option.some.injEq] at hc
  obtain⟨a',h1,b',h2,rfl⟩:=hc
  simp only[pop,Option.some.injEq] at h
  subst h
  have k1:=jfu hg _ _ h1
  have k2:=jfu hg _ _ h2
  refine jg3 ⟨.func f (a.map e) (b.map e),rfl,?_⟩
  simp only[VR]
  exact⟨_,_,rfl,by simpa using k1,by simpa using k2⟩
 case fieldAddr t x i=>
  simp only[jti] at hc
  split at hc
  ·rename_i fs hu
   split at hc
   ·rename_i off s hs
    simp only[Option.map_eq_some_iff] at hc
    obtain⟨x',hx,rfl⟩:=hc
    have k:=hg _ _ hx
    simp only[pop] at h
    split at h
    ·rename_i b o hq
     rw[hq] at k
     simp only[VR] at k
     obtain⟨l,k1,k2⟩:=k
     cases h
     unfold jmi at hs
     split at hs
     ·rename_i f hf
      split at hs
      ·rename_i j hj
       simp only[Option.some.injEq,Prod.mk.injEq] at hs
       obtain⟨rfl,hs⟩:=hs
       refine jg3 ⟨.pointer (some ⟨l.blk,l.base+ (o+f.offset),none⟩),?_,by simp only[VR];exact⟨l,k1,rfl⟩⟩
       have hne:¬j.size=0:=by omega
       simp only[Instr.fieldAt,Sem.run_bind,run_underlying hu,Result.andThen_ok,hf,k2,Instr.sureAddr,Sem.run_pure,fieldPlace,jbj hj,hne,if_false,jhc,Nat.add_assoc]
      ·cases hs
     ·cases hs
    ·cases h
   ·cases hc
  ·cases hc
 case field t x i=>
  simp only[jti] at hc
  split at hc
  ·rename_i fs hu
   split at hc
   ·rename_i f hf
    simp only[Option.bind_eq_bind,Option.bind_eq_some_iff,Option.map_eq_some_iff] at hc
    obtain⟨s,hs,x',hx,rfl⟩:=hc
    have k:=hg _ _ hx
    simp only[pop] at h
    split at h
    ·rename_i l hq
     rw[hq] at k
     simp only[VR] at k
     obtain⟨cs,k1,k2⟩:=k
     rw[jae] at h
     by_cases hb:f.offset+s.1≤l.length
     ·simp only[hb,decide_true,cond_true] at h
      obtain⟨v',h1,h2⟩:=jxn w hs k2 hb h
      refine jg3 ⟨v',?_,h2⟩
      simp only[Instr.field,Sem.run_bind,run_underlying hu,Result.andThen_ok,hf,k1,asAgg,Sem.run_pure,h1]
     ·simp only[hb,decide_false,cond_false,reduceCtorEq] at h
    ·cases h
   ·cases hc
  ·cases hc
 case indexAddr t x i=>
  simp only[jti] at hc
  split at hc
  ·rename_i n el hu
   simp only[Option.bind_eq_bind,Option.bind_eq_some_iff,Option.some.injEq] at hc
   obtain⟨s,hs,x',hx,i',hi,rfl⟩:=hc
   obtain⟨j,d,k1,k2,rfl⟩:=jfg hs
   have kx:=hg _ _ hx
   have ki:=hg _ _ hi
   simp only[pop] at h
   split at h
   ·rename_i b o kd i0 hq hqi
    rw[hq] at kx
    rw[hqi] at ki
    have ki:=jxs ki
    simp only[VR] at kx
    obtain⟨l,k3,k4⟩:=kx
    rw[jae] at h
    by_cases hn:n≤i0
    ·simp[hn] at h
    ·simp only[hn,decide_false,cond_false,Option.some.injEq] at h
     subst h
     refine jg3 ⟨.pointer (some ⟨l.blk,l.base+ (o+i0*j.size),none⟩),?_,by simp only[VR];exact⟨l,k3,rfl⟩⟩
     have hc0:(0:Int)≤(i0:Int)∧(i0:Int)< (n:Int):=by omega
     simp only[Instr.indexAt,Sem.run_bind,ki,asIntOf,Sem.run_pure,Result.andThen_ok,run_underlying hu,k4,Instr.sureAddr,hc0,and_self,if_true,jbj k1,jhc,Int.toNat_natCast,Nat.add_assoc]
   ·cases h
  ·rename_i el hu
   simp only[Option.bind_eq_bind,Option.bind_eq_some_iff,Option.some.injEq] at hc
   obtain⟨s,hs,x',hx,i',hi,rfl⟩:=hc
   obtain⟨j,d,k1,k2,rfl⟩:=jfg hs
   have kx:=hg _ _ hx
   have ki:=hg _ _ hi
   simp only[pop] at h
   split at h
   ·rename_i b o len cap z' kd i0 hq hqi
    rw[hq] at kx
    rw[hqi] at ki
    have ki:=jxs ki
    simp only[VR] at kx
    obtain⟨l,c,off,k3,k4,k5,k6,k7,k8⟩:=kx
    rw[jaa,jae] at h
    by_cases hn:z'=j.size∧¬len≤i0
    ·simp only[hn.1,hn.2,decide_true,decide_false,Bool.not_true,Bool.or_self,cond_false,Option.some.injEq] at h
     subst h
     have hoff:off=l.base+o:=by omega
     subst hoff
     refine jg3 ⟨.pointer (some ⟨l.blk,l.base+ (o+i0*j.size),none⟩),?_,by simp only[VR];exact⟨l,k3,rfl⟩⟩
     have hc0:(0:Int)≤(i0:Int)∧(i0:Int)< (len:Int):=by omega
     simp only[Instr.indexAt,Sem.run_bind,ki,asIntOf,Sem.run_pure,Result.andThen_ok,run_underlying hu,k4,hc0,and_self,if_true,jbj k1,jhc,Int.toNat_natCast,Nat.add_assoc]
    ·have:(!decide (z'=j.size)||decide (len≤i0))=true:=by
      simp only[Bool.or_eq_true,Bool.not_eq_true',decide_eq_false_iff_not,decide_eq_true_eq];omega
     simp[this] at h
   ·cases h
  ·cases hc
 case index t x i=>
  simp only[jti] at hc
  split at hc
  ·rename_i n el hu
   simp only[Option.bind_eq_bind,Option.bind_eq_some_iff,Option.some.injEq] at hc
   obtain⟨s,hs,x',hx,i',hi,rfl⟩:=hc
   have kx:=hg _ _ hx
   have ki:=hg _ _ hi
   simp only[pop] at h
   split at h
   ·rename_i l kd i0 hq hqi
    rw[hq] at kx
    rw[hqi] at ki
    have ki:=jxs ki
    simp only[VR] at kx
    obtain⟨cs,k3,k4⟩:=kx
    rw[jae,jae] at h
    by_cases hn:¬n≤i0∧i0*s.1+s.1≤l.length
    ·simp only[hn.1,hn.2,decide_true,decide_false,Bool.not_true,Bool.or_self,cond_false] at h
     obtain⟨v',h1,h2⟩:=jxn w hs k4 hn.2 h
     obtain⟨j,d,k1,k2,rfl⟩:=jfg hs
     refine jg3 ⟨v',?_,h2⟩
     have hc0:(0:Int)≤(i0:Int)∧(i0:Int)< (n:Int):=by omega
     simp only[Instr.index,Sem.run_bind,ki,asIntOf,Sem.run_pure,Result.andThen_ok,run_underlying hu,k3,hc0,and_self,if_true,jbj k1,Int.toNat_natCast,h1]
    ·have:(decide (n≤i0)|| !decide (i0*s.1+s.1≤l.length))=true:=by
      simp only[Bool.or_eq_true,Bool.not_eq_true',decide_eq_false_iff_not,decide_eq_true_eq];omega
     simp[this] at h
   ·cases h
  ·rename_i hu
   simp only[Option.bind_eq_bind,Option.bind_eq_some_iff,Option.some.injEq] at hc
   obtain⟨x',hx,i',hi,rfl⟩:=hc
   have kx:=hg _ _ hx
   have ki:=hg _ _ hi
   simp only[pop] at h
   split at h
   ·rename_i s kd i0 hq hqi
    rw[hq] at kx
    rw[hqi] at ki
    have ki:=jxs ki
    simp only[VR] at kx
    obtain⟨bs,k3,k4⟩:=kx
    split at h
    ·rename_i c0 hc0
     cases h
     subst k4
     obtain⟨b,h1,h2⟩:=j1a hc0
     refine jg3 ⟨.int .u8 (b.toNat:Int),?_,by simp[VR,h2]⟩
     simp[Instr.index,ki,asIntOf,run_underlying hu,k3,h1]
    ·cases h
   ·cases h
  ·cases hc
 case slice t x lo hi mx=>
  simp only[jti] at hc
  split at hc
  ·rename_i el hu
   simp only[Option.bind_eq_bind,Option.bind_eq_some_iff,Option.some.injEq] at hc
   obtain⟨s,hs,x',hx,lo',h1,hi',h2,mx',h3,rfl⟩:=hc
   obtain⟨j,d,k1,k2,rfl⟩:=jfg hs
   simp only[pop] at h
   exact jg3 (j4a w hu k1 (hg _ _ hx) (jfv hg h1) (jfv hg h2) (jfv hg h3) h)
  ·rename_i hu
   split at hc
   ·rename_i hmx
    simp only[Option.bind_eq_bind,Option.bind_eq_some_iff,Option.some.injEq] at hc
    obtain⟨x',hx,lo',h1,hi',h2,rfl⟩:=hc
    have kx:=hg _ _ hx
    simp only[pop] at h
    split at h
    ·rename_i s hq
     rw[hq] at kx
     simp only[VR] at kx
     obtain⟨bs,k3,rfl⟩:=kx
     split at h
     ·rename_i l0 h0 m0 hb
      cases h
      have hlen:(bs.data.toList.map UInt8.toNat).length=bs.size:=by simp
      rw[hlen] at hb
      obtain⟨k1,k2,k4,k6,k5⟩:=jhy (P:=P) (ρ:=ρ) (cap':=bs.size) (mx':=none) false w hb (jfv hg h1) (jfv hg h2) True.intro (Nat.le_refl _) (Nat.le_refl _)
      refine jg3 ⟨.string (bs.extract l0 h0),?_,?_⟩
      ·simp only[Option.isSome_none,Bool.false_eq_true,if_false] at k5
       simp only[Instr.sliceAt,Sem.run_bind,run_underlying hu,Result.andThen_ok,Instr.slice,k3,Option.map_none,Option.isSome_none,Bool.false_eq_true,if_false,Sem.run_ite,Sem.run_pure,k5]
      ·simp only[VR]
       refine⟨_,rfl,?_⟩
       rw[Lib.extract_data,List.map_take,List.map_drop]
     ·cases h
    ·cases h
   ·cases hc
  ·cases hc
 case extract x n=>
  simp only[jti,Option.map_eq_some_iff] at hc
  obtain⟨x',hx,rfl⟩:=hc
  have k:=hg _ _ hx
  simp only[pop] at h
  split at h
  ·rename_i l hq
   rw[hq] at k
   simp only[VR] at k
   obtain⟨cs,k1,k2⟩:=k
   obtain⟨v',h1,h2⟩:=k2.get h
   refine jg3 ⟨v',?_,h2⟩
   have h3:cs[n]?=some v':=by simpa using h1
   simp[Instr.extract,k1,h3]
  ·cases h
 case call cl=>
  obtain⟨callee,args,argTypes⟩:=cl
  have go:∀(b:Builtin) (F:Array TypeId→TypeId→Array Value→Sem Value),(∀T cs a,builtin b argTypes T cs a=(do pure (.value (←F argTypes T a)):Sem Next))→callee=.builtin b→
    (∃v',(F argTypes ty (args.map e)).run P w=.ok v' w∧VR ρ v v')→∃v',(execOp e ⟨dst,.call ⟨callee,args,argTypes⟩,ty,pos,after,guard⟩).run P w=.ok (.value v') w∧VR ρ v v':=by
   rintro b F hF rfl ⟨v',h1,h2⟩
   refine⟨v',?_,h2⟩
   simp only[execOp,resolve,Sem.run_bind,Sem.run_pure,Result.andThen_ok,invoke,hF,h1]
  unfold jti at hc
  split at hc<;>try (rename_i heq;cases heq;done)
  all_goals try (cases hc;done)
  ·rename_i a0 t0 heq
   cases heq
   split at hc
   ·rename_i x t ts ha ht
    refine go .len Builtin.len_ (fun _ _ _=>rfl) rfl ?_
    have e1:(args.map e)[0]?=some (e x):=by
     rw[Array.getElem?_map,←Array.getElem?_toList,ha];rfl
    have e2:argTypes[0]?=some t:=by
     rw[←Array.getElem?_toList,ht];rfl
    split at hc
    ·rename_i hu
     simp only[Option.map_eq_some_iff] at hc
     obtain⟨x',hx,rfl⟩:=hc
     have k:=hg _ _ hx
     simp only[pop] at h
     split at h
     ·rename_i s hq
      rw[hq] at k
      simp only[VR] at k
      obtain⟨bs,k1,rfl⟩:=k
      cases h
      exact⟨goInt bs.size,by simp[Builtin.len_,e1,e2,run_underlying hu,k1],by simp[VR,goInt]⟩
     ·cases h
    ·rename_i el hu
     simp only[Option.map_eq_some_iff] at hc
     obtain⟨x',hx,rfl⟩:=hc
     have k:=hg _ _ hx
     simp only[pop] at h
     split at h
     ·rename_i b o len cap z hq
      rw[hq] at k
      simp only[VR] at k
      obtain⟨l,c,off,k1,k2,_⟩:=k
      cases h
      exact⟨goInt len,by simp[Builtin.len_,e1,e2,run_underlying hu,k2],by simp[VR,goInt]⟩
     ·rename_i hq
      rw[hq] at k
      simp only[VR] at k
      cases h
      exact⟨goInt (0:Nat),by simp[Builtin.len_,e1,e2,run_underlying hu,k],by simp[VR,goInt]⟩
     ·cases h
    ·rename_i n el hu
     cases hc
     simp only[pop,Option.some.injEq] at h
     subst h
     exact⟨goInt n,by simp[Builtin.len_,e1,e2,run_underlying hu],by simp[VR,goInt]⟩
    ·rename_i el hu
     split at hc
     ·rename_i n el2 hu2
      cases hc
      simp only[pop,Option.some.injEq] at h
      subst h
      exact⟨goInt n,by simp[Builtin.len_,e1,e2,run_underlying hu,run_underlying hu2],by simp[VR,goInt]⟩
     ·cases hc
    ·cases hc
   ·cases hc
  ·rename_i a0 t0 heq
   cases heq
   split at hc
   ·rename_i x t ts ha ht
    refine go .cap Builtin.cap_ (fun _ _ _=>rfl) rfl ?_
    have e1:(args.map e)[0]?=some (e x):=by
     rw[Array.getElem?_map,←Array.getElem?_toList,ha];rfl
    have e2:argTypes[0]?=some t:=by
     rw[←Array.getElem?_toList,ht];rfl
    split at hc
    ·rename_i el hu
     simp only[Option.map_eq_some_iff] at hc
     obtain⟨x',hx,rfl⟩:=hc
     have k:=hg _ _ hx
     simp only[pop] at h
     split at h
     ·rename_i b o len c z hq
      rw[hq] at k
      simp only[VR] at k
      obtain⟨l,c',off,k1,k2,_,_,_,k3⟩:=k
      have hcc:c=c':=by
       rcases k3 with⟨k3,_⟩ | ⟨k3,_⟩
       ·exact Option.some.inj k3
       ·cases k3
      subst hcc
      cases h
      exact⟨goInt c,by simp[Builtin.cap_,e1,e2,run_underlying hu,k2],by simp[VR,goInt]⟩
     ·rename_i hq
      rw[hq] at k
      simp only[VR] at k
      cases h
      exact⟨goInt (0:Nat),by simp[Builtin.cap_,e1,e2,run_underlying hu,k],by simp[VR,goInt]⟩
     ·cases h
    ·cases hc
   ·cases hc
  ·rename_i a0 t0 heq
   cases heq
   split at hc
   ·rename_i x xs ha
    simp only[Option.bind_eq_bind,Option.bind_eq_some_iff,Option.some.injEq] at hc
    obtain⟨x',hx,xs',hxs,rfl⟩:=hc
    refine go .min Builtin.min_ (fun _ _ _=>rfl) rfl ?_
    simp only[pop] at h
    obtain⟨u,h1,h2⟩:=jya (P:=P) (ρ:=ρ) _ _ _ _ (e x) w h (hg _ _ hx) (jfu hg xs xs' hxs)
    refine⟨u,?_,h2⟩
    simp only[Builtin.min_,Array.toList_map,ha,List.map_cons,h1]
   ·cases hc
  ·rename_i a0 t0 heq
   cases heq
   split at hc
   ·rename_i x xs ha
    simp only[Option.bind_eq_bind,Option.bind_eq_some_iff,Option.some.injEq] at hc
    obtain⟨x',hx,xs',hxs,rfl⟩:=hc
    refine go .max Builtin.max_ (fun _ _ _=>rfl) rfl ?_
    simp only[pop] at h
    obtain⟨u,h1,h2⟩:=jyb (P:=P) (ρ:=ρ) _ _ _ _ (e x) w h (hg _ _ hx) (jfu hg xs xs' hxs)
    refine⟨u,?_,h2⟩
    simp only[Builtin.max_,Array.toList_map,ha,List.map_cons,h1]
   ·cases hc
 all_goals (simp[jti] at hc)
end
end Go.Vm
