/- A part of AM, a framework of the prover own: functions of any program as maps of data. -/
import Derived.Test.YtckchgoblpgpbaaGreatJ8ai
set_option linter.unusedVariables false
set_option linter.unusedSimpArgs false
namespace Go.Proofs.YtckchgoblpgpbaaGreat.Am
open Go.RowKit
theorem DJ{es:LLA}{i:Nat}{x:List AC}(hx:es[i]? =some x){b:Nat}(hb:b∈fpL x):b∈fpE es:=List.mem_flatMap.2 ⟨x,zqd hx,hb⟩
theorem Bl:∀{es:LLA},(fpE es).Nodup->∀{i j:Nat}{x y:List AC},i≠j->es[i]? =some x->es[j]? =some y->∀b∈fpL x,b∉fpL y
 | [],_,i,j,x,y,_,hx,_,b,_,_=>by simp at hx
 |e::es,hn,i,j,x,y,hij,hx,hy,b,hb,hb'=>by
  have ha:(fpL e++fpE es).Nodup:=hn
  obtain⟨h1,h2,h3⟩:=List.nodup_append.1 ha
  cases i with
  |zero=>
   cases j with
   |zero=>exact hij rfl
   |succ j=>
    simp at hx hy
    subst hx
    exact h3 b hb b (DJ hy hb') rfl
  |succ i=>
   cases j with
   |zero=>
    simp at hx hy
    subst hy
    exact h3 b hb' b (DJ hx hb) rfl
   |succ j=>exact Bl h2 (fun h=>hij (congrArg (·+1) h)) (by simpa using hx) (by simpa using hy) b hb hb'
theorem vd:∀{es:LLA},(fpE es).Nodup->∀{i:Nat}{x:List AC},es[i]? =some x->(fpL x).Nodup
 | [],_,i,x,hx=>by simp at hx
 |e::es,hn,i,x,hx=>by
  have ha:(fpL e++fpE es).Nodup:=hn
  obtain⟨h1,h2,h3⟩:=List.nodup_append.1 ha
  cases i with
  |zero=>simp at hx;subst hx;exact h1
  |succ i=>exact vd h2 (by simpa using hx)
theorem rf:∀{es:LLA}{j:Nat}{e e':List AC},es[j]? =some e->fpL e'=fpL e->fpE (es.set j e')=fpE es
 | [],j,e,e',h,_=>by simp at h
 |x::es,0,e,e',h,hf=>by
  simp at h
  subst h
  show fpL e'++fpE es=fpL x++fpE es
  rw [hf]
 |x::es,j+1,e,e',h,hf=>by
  show fpL x++fpE (es.set j e')=fpL x++fpE es
  rw [rf (by simpa using h) hf]
structure Ed(k:Nat)(V R es:LLA)(z:Int)(bs:List Nat):Prop where
 z0:0<=z
 z1:z<=aN V
 len:es.length=V.length
 rl:(R.length:Int)=z
 eq:es.map (·.map vwC)=R++V.drop z.toNat
 fp:fpE es=bs
 bare:∀e∈es,e.all ip=true
 kk:∀e∈es,e.length=k
variable {bs:List Nat}{k:Nat}
theorem Ed.start{V es:LLA}(h1:es.map (·.map vwC)=V)(h2:fpE es=bs)(h3:∀e∈es,e.all ip=true)(h4:∀e∈es,e.length=k):Ed k V [] es 0 bs:=
 ⟨zpc 0,by rw [ao];omega,by rw [<-h1];simp,rfl,by rw [h1];rfl,h2,h3,h4⟩
variable {V R es:LLA}{z:Int}{j:Nat}
theorem Ed.at_(hs:Ed k V R es z bs)(hj:j=z.toNat)(hc:z<aN V):∃e v,es[j]? =some e/\V[j]? =some v/\e.map vwC=v/\e.all ip=true/\e.length=k:=by
 subst hj
 have h0:=hs.z0
 have hl:=hs.len
 rw [ao]at hc
 have hV:z.toNat<V.length:=by omega
 have he:=zqc (l:=es) (i:=z.toNat) (by omega)
 refine⟨_,_,he,zqc hV,?_,hs.bare _ (zqd he),hs.kk _ (zqd he)⟩
 have h1:=congrArg (·[z.toNat]?) hs.eq
 have hr:R.length=z.toNat:=by have:=hs.rl;omega
 simp only [zqi,he,Option.map_some]at h1
 rw [zqg (by omega),hr,Nat.sub_self,List.getElem?_drop,Nat.add_zero,zqc hV]at h1
 exact Option.some.inj h1
theorem Ed.step(hs:Ed k V R es z bs)(hj:j=z.toNat)(hc:z<aN V){e e' r:List AC}(he:es[j]? =some e)(hr:e'.map vwC=r)(hf:fpL e'=fpL e)(hb:e'.all ip=true)(hk:e'.length=k):Ed k V (R++[r]) (es.set j e') (z+1) bs:=by
 subst hj
 have h0:=hs.z0
 have hl:=hs.len
 have ha:R.length=z.toNat:=by have:=hs.rl;omega
 rw [ao]at hc
 refine⟨by omega,by rw [ao];omega,by simp [hl],by simp;omega,?_,(by rw [rf he hf];exact hs.fp),fun x hx=> ?_,fun x hx=> ?_⟩
 ·rw [List.map_set,hs.eq,hr,show(z+1).toNat=z.toNat+1 by omega,List.set_append_right _ _ (by omega),ha,Nat.sub_self,List.drop_eq_getElem_cons (show z.toNat<V.length by omega),List.set_cons_zero,zqC];rfl
 ·rcases List.mem_or_eq_of_mem_set hx with h|h
  ·exact hs.bare x h
  ·rw [h];exact hb
 ·rcases List.mem_or_eq_of_mem_set hx with h|h
  ·exact hs.kk x h
  ·rw [h];exact hk
theorem Ed.all(hs:Ed k V R es z bs)(hz:¬z<aN V):es.map (·.map vwC)=R:=by
 rw [ao]at hz
 rw [hs.eq,List.drop_eq_nil_of_le (by omega),zpr]
theorem FU{c:AC}{u:Value}(hb:ip c=true)(h:vwC c= .imm u):c= .imm u:=by cases c<;>first|exact h|(simp [vwC]at h;done)|cases hb
theorem Ii{c:AC}{F:LLA}(hb:ip c=true)(h:vwC c= .view F):∃b,c= .fv b F:=by
 cases c<;>first|cases hb|skip
 ·simp [vwC]at h
 ·simp only [vwC,AC.view.injEq]at h;exact⟨_,by rw [h]⟩
theorem Gg{U:MU}{t k:Nat}{es:LLA}{e e':List AC}(hj:es[j]? =some e)(hb:∀x∈es,x.all ip=true)(hn:(fpE es).Nodup)(hU:∀u∈U,∀b∈u.1,b∈fpL e)(he:sfL U e' e):sfE U (.rw ⟨t,k,es.set j e'⟩) (.rw ⟨t,k,es⟩):=by
 have same:∀(x:List AC),x.all ip=true->(∀b∈fpL x,∀u∈U,b∉u.1)->sfL U x x:=fun x=>by
  induction x with
  |nil=>intro _ _;trivial
  |cons c x ih=>
   intro h1 h2
   simp only [zqD,zqs]at h1
   refine⟨.inr (.inl ⟨rfl,?_⟩),ih h1.2 (fun b hb=>h2 b (by simp only [fpL,List.flatMap_cons];exact zpo _ hb))⟩
   cases c<;>first|trivial|cases h1.1|skip
   intro b hb
   exact h2 b (by simp only [fpL,List.flatMap_cons];exact zpx _ hb)
 refine .inr ⟨rfl,rfl,by simp,fun i x' x ha hx=> ?_⟩
 by_cases hij:i=j
 ·subst hij
  have hl:=(zqb.1 hj).1
  simp only at ha
  rw [zpm hl]at ha
  cases ha
  rw [hj]at hx
  cases hx
  exact he
 ·simp only at ha
  rw [List.getElem?_set_ne (fun h=>hij h.symm)]at ha
  have hc:es[i]? =some x:=hx
  rw [hc]at ha
  have hg:x=x':=Option.some.inj ha
  rw [<-hg]
  exact same x (hb x (zqd hc)) (fun b hd u hu hf=>Bl hn hij hc hj b hd (hU u hu b hf))
theorem gU{P:Program}{tab:List (TypeId×TI)}{n0 N:Nat}{β:BP}{g:Gd}{eff:EF}{hd:HF}(ets:ET)(lts:LT)(he:eff=Ci P)(hhd:hd=hd0 P n0 N)(hg:g=G0 P n0 N)(hfit:fL P tab){c:Code}{Q:Exit->List (Nat×AV)->EH->Prop}{l:List (Nat×AV)}{h:EH}
  (l2:List (Nat×AV)) (h2:EH) (hok:dh ets lts N c=true) (hp:∀B:List (Nat×AV)->EH->Prop,(∀l' h',qN n0 N (lkT l') (toH h') l2 (toH h2)->B l' h')->jM ets lts eff hd g tab c (fun e l' h'=>match e with| .normal=>B l' h'|_=>False) l h) (hq:Q .normal l2 h2):hd c Q l h:=by
 subst he hhd hg
 have hv:=dd hfit c _ _ _ hok (hp _ fun l' h' hw=>hw)
 intro F w0 m0 h0 a w m hn r
 refine Code.wp_mono (fun e a' w'⟨T',h',m',F1,⟨l',eh,e1,e2,hw⟩,hG,r'⟩=> ?_) (hv F w0 m0 h0 a w m hn r)
 subst e1 e2
 cases e<;>first|exact hw.elim|skip
 obtain⟨F2,m2,ha,r2⟩:=hw F1 w0 m0 h0 a' w' m' hn r'
 exact⟨_,_,m2,F2,⟨l2,h2,rfl,rfl,hq⟩,hG.comp ha,r2⟩
end Go.Proofs.YtckchgoblpgpbaaGreat.Am
