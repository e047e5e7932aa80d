/- Engines in which a child is put in. -/
import Derived.Test.YtckchgoblpgpbaaGreatJ6aw
set_option linter.unusedVariables false
set_option linter.unusedSimpArgs false
set_option maxHeartbeats 16000000
namespace Go.Proofs.YtckchgoblpgpbaaGreat
open Go.ChangeShapes Go.WideShapes Go.ChangeAt Go.RowKit Am Go.Proofs.Tryz
set_option maxRecDepth 100000
inductive Ch(ns:List af):Int->List Int->Prop
 |root:Ch ns 0 []
 |up {v:Int} {l:List Int} (h0:v≠0) (hi:isN ns v=true) (h:Ch ns (upN ns v) l):Ch ns v (v::l)
theorem Ch.dep{ns:List af}:∀{v:Int}{l:List Int},Ch ns v l->∀(f:Nat)(k:Int),l.length<=f->mi ns f k v=k+(l.length:Int)
 |_,_,.root,f,k,_=>by rw [gO];simp
 |_,_,.up h0 hi h,f,k,hf=>by
  cases f with
  |zero=>simp at hf
  |succ f=>
   simp only [zqx]at hf
   rw [fg ns h0 hi,h.dep f (k+1) (by omega),zqx]
   omega
theorem Ch.of_dep{ns:List af}:∀(f:Nat)(k v:Int),0<=k->(v≠0\/1<=k)->1<=mi ns f k v->∃l,Ch ns v l/\l.length<=f
 |0,k,v,h0,h1,h=>by
  by_cases hv:v=0
  ·subst hv;exact⟨[],.root,Nat.le_refl _⟩
  ·simp [mi,hv]at h
 |f+1,k,v,h0,h1,h=>by
  by_cases hv:v=0
  ·subst hv;exact⟨[],.root,Nat.zero_le _⟩
  ·cases hi:isN ns v with
   |false=>rw [nz ns _ _ _ hv hi]at h;omega
   |true=>
    rw [fg ns hv hi]at h
    obtain⟨l,hl,hf⟩:=Ch.of_dep f (k+1) (upN ns v) (by omega) (.inr (by omega)) h
    exact⟨v::l,.up hv hi hl,by simp;omega⟩
theorem Ch.det{ns:List af}:∀{v:Int}{l l':List Int},Ch ns v l->Ch ns v l'->l=l'
 |_,_,_,.root,.root=>rfl
 |_,_,_,.root,.up h0 _ _=>absurd rfl h0
 |_,_,_,.up h0 _ _,.root=>absurd rfl h0
 |_,_,_,.up _ _ h,.up _ _ h'=>by rw [h.det h']
theorem Ch.suffix{ns:List af}:∀{v:Int}{l:List Int},Ch ns v l->∀u∈l,∃l2,Ch ns u l2/\l2.length<=l.length/\∃l1,l=l1++l2
 |_,_,.root,u,hu=>by simp at hu
 |_,_,.up (v:=v) (l:=l) h0 hi h,u,hu=>by
  rcases List.mem_cons.1 hu with rfl|hu
  ·exact⟨_,.up h0 hi h,Nat.le_refl _,[],rfl⟩
  ·obtain⟨l2,h1,h2,l1,h3⟩:=h.suffix u hu
   exact⟨l2,h1,by simp;omega,v::l1,by rw [h3];rfl⟩
theorem Ch.nodup{ns:List af}:∀{v:Int}{l:List Int},Ch ns v l->l.Nodup
 |_,_,.root=>List.nodup_nil
 |_,_,.up (v:=v) (l:=l) h0 hi h=>by
  refine List.nodup_cons.2 ⟨fun hm=> ?_,h.nodup⟩
  obtain⟨l2,h1,h2,_⟩:=h.suffix v hm
  have:=(Ch.up h0 hi h).det h1
  rw [<-this]at h2
  simp only [zqx]at h2
  omega
theorem Ch.nodes{ns:List af}:∀{v:Int}{l:List Int},Ch ns v l->∀u∈l,isN ns u=true
 |_,_,.root,u,hu=>by simp at hu
 |_,_,.up h0 hi h,u,hu=>by
  rcases List.mem_cons.1 hu with rfl|hu
  ·exact hi
  ·exact h.nodes u hu
theorem pU:∀(N:Nat)(l:List Int),l.Nodup->(∀u∈l,1<=u/\u<=(N:Int))->l.length<=N
 |0,l,hn,h=>by
  cases l with
  |nil=>exact Nat.le_refl _
  |cons u l=>have:=h u (List.mem_cons_self ..);omega
 |N+1,l,hn,h=>by
  by_cases hm:((N+1:Nat):Int)∈l
  ·have h1:=pU N (l.erase ((N+1:Nat):Int)) (hn.erase _) (fun u hu=>by
    have h2:=h u (List.mem_of_mem_erase hu)
    have h3:u≠((N+1:Nat):Int):=fun e=>by rw [e]at hu;exact(hn.mem_erase_iff.1 hu).1 rfl
    omega)
   rw [List.length_erase_of_mem hm]at h1
   omega
  ·have:=pU N l hn (fun u hu=>by
    have h2:=h u hu
    have h3:u≠((N+1:Nat):Int):=fun e=>hm (e▸hu)
    omega)
   omega
theorem Ch.len{ns:List af}{v:Int}{l:List Int}(h:Ch ns v l):l.length<=ns.length:=
 pU _ l h.nodup fun u hu=>by
  obtain⟨h1,h2,_⟩:=aI (h.nodes u hu)
  exact⟨h1,h2⟩
theorem rU{ns:List af}(h:aV ns=true){v:Int}(hi:isN ns v=true):∃l,Ch ns v l:=by
 obtain⟨h1,h2,x,hx⟩:=aI hi
 have:=mq h h1 hx
 simp only [bP,zqs]at this
 have h3:1<=jn ns v:=by
  have h4:=this.2.1
  simp only [rng,zqs,zqp]at h4
  exact h4.1
 obtain⟨l,hl,_⟩:=Ch.of_dep ns.length 0 v (Int.le_refl 0) (.inl (by omega)) h3
 exact⟨l,hl⟩
theorem yY{ns:List af}{a:Int}(ha:isN ns a=true):∀{v:Int}{l:List Int},Ch ns v l->∀(k:Nat),l.length<=k->ik ns a k v=false->a∉l.tail
 |_,_,.root,k,_,_=>by simp
 |_,_,.up (v:=v) (l:=l) h0 hi h,k,hk,hu=>by
  cases k with
  |zero=>simp at hk
  |succ k=>
   simp only [zqx]at hk
   by_cases hup:upN ns v=a
   ·rw [sQ hi rfl hup,ha]at hu;cases hu
   ·rw [vy hi rfl hup]at hu
    have h1:=yY ha h k (by omega) hu
    simp only [List.tail_cons]
    obtain⟨u,hb⟩:=nmE (upN ns v)
    rw [<-hb]at h hup
    cases h with
    |root=>simp
    |up h0' hi' h'=>
     intro hm
     rcases List.mem_cons.1 hm with e|hm
     ·exact hup e.symm
     ·exact h1 (by simpa using hm)
def inO(ns:List af)(n kid:Int):Bool:=aV ns&&(isN ns n&&isN ns kid)
def inK(ks:List Int)(kid:Int)(p:Int):List Int:=ks.take p.toNat++(kid::ks.drop p.toNat)
def inT(ns:List af)(n kid p:Int):List af:=match ns[(n-1).toNat]?,ns[(kid-1).toNat]? with
 |some x,some y=>(ns.set (n-1).toNat {x with kids:=inK x.kids kid p}).set (kid-1).toNat {y with up:=n}
 |_,_=>ns
structure InF(ns:List af)(n kid p:Int)(x y:af):Prop where
 tr:aV ns=true
 hn:isN ns n=true
 hk:isN ns kid=true
 hx:ns[(n-1).toNat]? =some x
 hy:ns[(kid-1).toNat]? =some y
 ne:kid≠n
 und:ik ns kid ns.length n=false
 up0:y.up=0
 mea:x.measured=false
variable {ns:List af}{n kid p:Int}{x y:af}
theorem InF.n1(h:InF ns n kid p x y):1<=n/\n<=(ns.length:Int)/\1<=kid/\kid<=(ns.length:Int):=by
 obtain⟨a,b,_⟩:=aI h.hn
 obtain⟨c,d,_⟩:=aI h.hk
 exact⟨a,b,c,d⟩
theorem InF.eq(h:InF ns n kid p x y):inT ns n kid p=(ns.set (n-1).toNat {x with kids:=inK x.kids kid p}).set (kid-1).toNat {y with up:=n}:=by
 unfold inT;rw [h.hx,h.hy]
theorem InF.len(h:InF ns n kid p x y):(inT ns n kid p).length=ns.length:=by rw [h.eq];simp
theorem InF.isN(h:InF ns n kid p x y)(v:Int):Go.Proofs.YtckchgoblpgpbaaGreat.isN (inT ns n kid p) v=Go.Proofs.YtckchgoblpgpbaaGreat.isN ns v:=by unfold Go.Proofs.YtckchgoblpgpbaaGreat.isN;rw [h.len]
theorem InF.at_(h:InF ns n kid p x y){v:Int}(hv:1<=v):(inT ns n kid p)[(v-1).toNat]? =if v=kid then some {y with up:=n}else if v=n then some {x with kids:=inK x.kids kid p}else ns[(v-1).toNat]? :=by
 obtain⟨n1,n2,k1,k2⟩:=h.n1
 have ha:=h.ne
 rw [h.eq]
 by_cases h1:v=kid
 ·subst h1
  rw [if_pos rfl,List.getElem?_set_self (by simp;omega)]
 ·rw [if_neg h1,List.getElem?_set_ne (by omega)]
  by_cases h2:v=n
  ·subst h2
   rw [if_pos rfl,List.getElem?_set_self (by omega)]
  ·rw [if_neg h2,List.getElem?_set_ne (by omega)]
theorem InF.upN(h:InF ns n kid p x y){v:Int}(hv:1<=v):Go.Proofs.YtckchgoblpgpbaaGreat.upN (inT ns n kid p) v=if v=kid then n else Go.Proofs.YtckchgoblpgpbaaGreat.upN ns v:=by
 unfold Go.Proofs.YtckchgoblpgpbaaGreat.upN
 rw [h.at_ hv]
 by_cases h1:v=kid
 ·rw [if_pos h1,if_pos h1]
 ·rw [if_neg h1,if_neg h1]
  by_cases h2:v=n
  ·subst h2;rw [if_pos rfl,h.hx]
  ·rw [if_neg h2]
theorem InF.ch_same(h:InF ns n kid p x y):∀{v:Int}{l:List Int},Ch ns v l->kid∉l->Ch (inT ns n kid p) v l
 |_,_,.root,_=> .root
 |_,_,.up h0 hi hc,hk=>by
  obtain⟨v1,_⟩:=aI hi
  refine .up h0 (by rw [h.isN];exact hi) ?_
  rw [h.upN v1,if_neg (fun e=>hk (by rw [e];exact List.mem_cons_self ..))]
  exact h.ch_same hc fun hm=>hk (List.mem_cons_of_mem _ hm)
theorem InF.ch_n(h:InF ns n kid p x y):∃l,Ch (inT ns n kid p) n l:=by
 obtain⟨l,hl⟩:=rU h.tr h.hn
 refine⟨l,h.ch_same hl fun hm=> ?_⟩
 have h1:=yY h.hk hl ns.length hl.len h.und
 obtain⟨n1,_⟩:=h.n1
 cases hl with
 |root=>simp at hm
 |up h0 hi hc=>
  rcases List.mem_cons.1 hm with e|hm
  ·exact h.ne e
  ·exact h1 (by simpa using hm)
theorem InF.ch(h:InF ns n kid p x y):∀{v:Int}{l:List Int},Ch ns v l->∃l',Ch (inT ns n kid p) v l'
 |_,_,.root=>⟨[],.root⟩
 |_,_,.up (v:=v) (l:=l) h0 hi hc=>by
  obtain⟨v1,_⟩:=aI hi
  have ha:Go.Proofs.YtckchgoblpgpbaaGreat.isN (inT ns n kid p) v=true:=by rw [h.isN];exact hi
  by_cases hv:v=kid
  ·obtain⟨l',hl⟩:=h.ch_n
   exact⟨v::l',.up h0 ha (by rw [h.upN v1,if_pos hv];exact hl)⟩
  ·obtain⟨l',hl⟩:=h.ch hc
   exact⟨v::l',.up h0 ha (by rw [h.upN v1,if_neg hv];exact hl)⟩
theorem InF.dep(h:InF ns n kid p x y){v:Int}(hi:Go.Proofs.YtckchgoblpgpbaaGreat.isN ns v=true):1<=jn (inT ns n kid p) v:=by
 obtain⟨l,hl⟩:=rU h.tr hi
 obtain⟨l',ha⟩:=h.ch hl
 obtain⟨v1,_⟩:=aI hi
 have h1:=ha.dep (inT ns n kid p).length 0 ha.len
 unfold jn
 rw [h1]
 cases ha with
 |root=>omega
 |up h0 hi hc=>simp only [zqx];omega
theorem w9(a b:List Int)(v:Int):cnt (a++b) v=cnt a v+cnt b v:=by simp [cnt]
theorem zE(ks:List Int)(kid p v:Int):cnt (inK ks kid p) v=cnt ks v+if kid=v then 1 else 0:=by
 unfold inK
 have h1:=w9 (ks.take p.toNat) (ks.drop p.toNat) v
 rw [List.take_append_drop]at h1
 rw [w9,h1]
 have h2:cnt (kid::ks.drop p.toNat) v=(if kid=v then 1 else 0)+cnt (ks.drop p.toNat) v:=by simp [cnt]
 rw [h2]
 omega
theorem yF(xs:List Int)(v:Int)(h:v∉xs):cnt xs v=0:=by
 induction xs with
 |nil=>rfl
 |cons x xs ih=>
  simp only [List.mem_cons,not_or]at h
  have:=ih h.2
  have h1:¬x=v:=fun e=>h.1 e.symm
  simp only [cnt,zqA,List.sum_cons,if_neg h1]at this⊢
  omega
theorem Ct{ks:List Int}{kid p k:Int}:k∈inK ks kid p↔k=kid\/k∈ks:=by
 unfold inK
 constructor
 ·intro h
  rcases List.mem_append.1 h with h|h
  ·exact .inr (List.mem_of_mem_take h)
  ·rcases List.mem_cons.1 h with h|h
   ·exact .inl h
   ·exact .inr (List.mem_of_mem_drop h)
 ·intro h
  rcases h with h|h
  ·rw [h];exact List.mem_append_right _ (List.mem_cons_self ..)
  ·rw [<-List.take_append_drop p.toNat ks]at h
   rcases List.mem_append.1 h with h|h
   ·exact List.mem_append_left _ h
   ·exact List.mem_append_right _ (List.mem_cons_of_mem _ h)
theorem xx{ns:List af}(h:aV ns=true){v:Int}(hi:isN ns v=true):upN ns v=0\/isN ns (upN ns v)=true:=by
 obtain⟨l,hl⟩:=rU h hi
 obtain⟨v1,_⟩:=aI hi
 obtain⟨u,hu⟩:=nmE (upN ns v)
 cases hl with
 |root=>omega
 |up h0 hi hc=>
  rw [<-hu]at hc⊢
  cases hc with
  |root=>exact .inl rfl
  |up h0' hi' _=>exact .inr hi'
theorem InF.kid_no(h:InF ns n kid p x y){v:Int}(v1:1<=v){z:af}(hz:ns[(v-1).toNat]? =some z):kid∉z.kids:=fun hm=>by
 obtain⟨n1,n2,k1,k2⟩:=h.n1
 have:=(B6 h.tr v1 hz k1 h.hy).2 ((qk _ _).2 hm)
 rw [h.up0]at this
 omega
theorem InF.kidsN(h:InF ns n kid p x y){v:Int}(hv:1<=v):Go.Proofs.YtckchgoblpgpbaaGreat.fD (inT ns n kid p) v=if v=n then inK x.kids kid p else Go.Proofs.YtckchgoblpgpbaaGreat.fD ns v:=by
 unfold Go.Proofs.YtckchgoblpgpbaaGreat.fD
 rw [h.at_ hv]
 by_cases h1:v=kid
 ·subst h1
  rw [if_pos rfl,if_neg h.ne,h.hy]
 ·rw [if_neg h1]
  by_cases h2:v=n
  ·rw [if_pos h2,if_pos h2]
  ·rw [if_neg h2,if_neg h2]
theorem InF.tree(h:InF ns n kid p x y):aV (inT ns n kid p)=true↔∀v,Go.Proofs.YtckchgoblpgpbaaGreat.isN ns v=true->jn (inT ns n kid p) v<=4:=by
 obtain⟨n1,n2,k1,k2⟩:=h.n1
 constructor
 ·intro ht v hi
  rw [<-h.isN]at hi
  obtain⟨v1,v2,z,hz⟩:=aI hi
  have:=mq ht v1 hz
  simp only [bP,zqs]at this
  have h4:=this.2.1
  simp only [rng,zqs,zqp]at h4
  exact h4.2
 ·intro hd
  have hf:=h.tr
  simp only [aV,zqs,zqp]at hf⊢
  refine⟨by rw [h.len];exact hf.1,(eJ _ _ 0).2 fun i z hz=> ?_⟩
  have ho:i<ns.length:=by rw [<-h.len];exact(List.getElem?_eq_some_iff.1 hz).1
  obtain⟨v,hv⟩:∃v:Int,v=0+(i:Int)+1:=⟨_,rfl⟩
  rw [<-hv]
  have v1:1<=v:=by omega
  have hm:(v-1).toNat=i:=by omega
  have hi:Go.Proofs.YtckchgoblpgpbaaGreat.isN ns v=true:=by
   unfold Go.Proofs.YtckchgoblpgpbaaGreat.isN rng
   simp only [zqs,zqp]
   omega
  rw [<-hm,h.at_ v1]at hz
  have he:rng (jn (inT ns n kid p) v) 1 4=true:=by
   unfold rng
   simp only [zqs,zqp]
   exact⟨h.dep hi,hd v hi⟩
  obtain⟨z0,ha⟩:∃z0,ns[(v-1).toNat]? =some z0:=⟨_,zqc (by omega)⟩
  have hc:=mq h.tr v1 ha
  simp only [bP,zqs,zqf,dY,zqp]at hc
  obtain⟨o1,_,o3,o4,o5⟩:=hc
  have hj:=h.kid_no v1 ha
  have hb:∀k∈z0.kids,(Go.Proofs.YtckchgoblpgpbaaGreat.isN (inT ns n kid p) k&&decide (Go.Proofs.YtckchgoblpgpbaaGreat.upN (inT ns n kid p) k=v))=true:=fun k hk=>by
   obtain⟨q1,q2⟩:=o4 k hk
   obtain⟨hn,_⟩:=aI q1
   have hh:¬k=kid:=fun e=>hj (by rw [<-e];exact hk)
   rw [h.isN,q1,h.upN hn,if_neg hh,q2]
   simp
  have hg:v≠kid->uk (inT ns n kid p) v z0.up=true:=fun hl=>by
   unfold uk at o3⊢
   simp only [Bool.or_eq_true,zqp]at o3⊢
   have hu:Go.Proofs.YtckchgoblpgpbaaGreat.upN ns v=z0.up:=by unfold Go.Proofs.YtckchgoblpgpbaaGreat.upN;rw [ha]
   rcases xx h.tr hi with h0|h0
   ·rw [hu]at h0;exact .inl h0
   ·rw [hu]at h0
    obtain⟨u1,_⟩:=aI h0
    rcases o3 with h2|h2
    ·exact .inl h2
    ·right
     rw [h.kidsN u1]
     by_cases hun:z0.up=n
     ·rw [if_pos hun,zE,if_neg (fun e=>hl e.symm)]
      rw [hun]at h2
      have:Go.Proofs.YtckchgoblpgpbaaGreat.fD ns n=x.kids:=by unfold Go.Proofs.YtckchgoblpgpbaaGreat.fD;rw [h.hx]
      rw [this]at h2
      omega
     ·rw [if_neg hun];exact h2
  by_cases e1:v=kid
  ·subst e1
   rw [if_pos rfl]at hz
   cases hz
   rw [h.hy]at ha
   cases ha
   simp only [bP,zqs,zqf,dY]
   refine⟨o1,he,?_,fun k hk=>by simpa using hb k hk,o5⟩
   unfold uk
   simp only [Bool.or_eq_true,zqp]
   right
   rw [h.kidsN n1,if_pos rfl,zE,if_pos rfl,yF _ _ (h.kid_no n1 h.hx)]
   rfl
  ·rw [if_neg e1]at hz
   by_cases e2:v=n
   ·subst e2
    rw [if_pos rfl]at hz
    cases hz
    rw [h.hx]at ha
    cases ha
    simp only [bP,zqs,zqf,dY]
    refine⟨o1,he,hg e1,fun k hk=> ?_,?_⟩
    ·rcases Ct.1 hk with hk|hk
     ·subst hk
      rw [h.isN,h.hk,h.upN k1,if_pos rfl]
      simp
     ·simpa using hb k hk
    ·unfold Dd at o5⊢
     simp only [h.mea]at o5⊢
     simpa using o5
   ·rw [if_neg e2,ha]at hz
    cases hz
    simp only [bP,zqs,zqf,dY]
    exact⟨o1,he,hg e1,fun k hk=>by simpa using hb k hk,o5⟩
end Go.Proofs.YtckchgoblpgpbaaGreat
namespace Go.Proofs.YtckchgoblpgpbaaGreat
open Go.ChangeShapes Go.WideShapes Go.ChangeAt Go.RowKit Am Go.Proofs.Tryz
set_option maxRecDepth 100000
theorem Bh(xs:List Int)(n:Int):0<=cnt xs n/\(n∈xs->1<=cnt xs n):=by
 induction xs with
 |nil=>simp [cnt]
 |cons x xs ih=>
  have e:cnt (x::xs) n=(if x=n then 1 else 0)+cnt xs n:=by simp [cnt]
  rw [e]
  obtain⟨i1,i2⟩:=ih
  by_cases hx:x=n
  ·rw [if_pos hx];exact⟨by omega,fun _=>by omega⟩
  ·rw [if_neg hx]
   refine⟨by omega,fun h=> ?_⟩
   rcases List.mem_cons.1 h with h|h
   ·exact absurd h.symm hx
   ·have:=i2 h;omega
theorem oM:∀(xs:List Int),(∀k∈xs,cnt xs k=1)->xs.Nodup
 | [],_=>List.nodup_nil
 |x::xs,h=>by
  have e:∀n,cnt (x::xs) n=(if x=n then 1 else 0)+cnt xs n:=fun n=>by simp [cnt]
  have hx:x∉xs:=fun hm=>by
   have h1:=h x (List.mem_cons_self ..)
   rw [e,if_pos rfl]at h1
   have:=(Bh xs x).2 hm
   omega
  refine List.nodup_cons.2 ⟨hx,oM xs fun k hk=> ?_⟩
  have h1:=h k (List.mem_cons_of_mem _ hk)
  rw [e,if_neg (fun hxk:x=k=>hx (by rw [hxk];exact hk))]at h1
  omega
theorem wA:∀(M:Nat)(xs:List Int),xs.Nodup->(∀k∈xs,1<=k/\k<=(M:Int))->xs.length<=M
 |0,xs,_,h=>by
  cases xs with
  |nil=>simp
  |cons x xs=>have:=h x (List.mem_cons_self ..);omega
 |M+1,xs,hn,h=>by
  have h1:=wA M (xs.erase ((M:Int)+1)) (hn.erase _) (fun k hk=>by
   have ha:=(hn.mem_erase_iff).1 hk
   have:=h k ha.2
   have hb:=ha.1
   omega)
  by_cases hm:(M:Int)+1∈xs
  ·have h2:=List.length_erase_of_mem hm
   have:=List.length_pos_of_mem hm
   omega
  ·rw [List.erase_of_not_mem hm]at h1;omega
variable {ns:List af}
theorem vA(h:aV ns=true):ns.length<=12:=by
 simp only [aV,zqs,zqp]at h
 omega
theorem xz(h:aV ns=true){n:Int}{x:af}(h1:1<=n)(hx:ns[(n-1).toNat]? =some x):x.kids.length<=12:=by
 have hk:=fM h h1 hx
 have hl:=vA h
 have h2:∀k∈x.kids,upN ns k=n:=fun k ha=>by
  have h3:=h
  simp only [aV,zqs]at h3
  have:=(eJ ns ns 0).1 h3.2 _ x hx
  simp only [bP,zqs,zqf,dY,zqp]at this
  have:=(this.2.2.2.1 k ha).2
  omega
 have hb:x.kids.Nodup:=oM _ fun k ha=>by
  obtain⟨k1,k2,y,hy⟩:=aI (hk k ha)
  have h3:=h
  simp only [aV,zqs]at h3
  have h4:=(eJ ns ns 0).1 h3.2 _ y hy
  simp only [bP,zqs,uk,Bool.or_eq_true,zqp]at h4
  have hu:y.up=n:=by have:=h2 k ha;unfold upN at this;rw [hy]at this;exact this
  have h5:=h4.2.2.1
  rw [hu]at h5
  have h6:fD ns n=x.kids:=by simp only [fD,hx]
  rw [h6,show(0:Int)+(((k-1).toNat:Nat):Int)+1=k by omega]at h5
  rcases h5 with h5|h5
  ·omega
  ·exact h5
 have:=wA 12 x.kids hb fun k ha=>by
  obtain⟨k1,k2,y,hy⟩:=aI (hk k ha)
  omega
 exact this
theorem zl(ks:List Int)(kid p:Int):vw ak (inK ks kid p)=vw ak (ks.take p.toNat)++[[.J kid]]++vw ak (ks.drop p.toNat):=by
 unfold inK
 rw [sO,zqC];rfl
variable {P:Program}{K:LLA->Prop}{g:Gd}
theorem CL{n0 N:Nat}{β:BP}(hg:g=G0 P n0 N){xs A:LLA}{k:Nat}{a:Int}(hk:∀y∈xs,y.length=k)(h0:0<=a)(h1:a<=aC xs)(hA:A=xs.take a.toNat)(hK:K A):g .S xs k none (some a) K:=by
 subst hg hA
 have:=ar xs
 exact⟨hk,0,a.toNat,rfl,⟨h0,rfl⟩,Nat.zero_le _,by omega,by simpa using hK⟩
theorem CK{n0 N:Nat}{β:BP}(hg:g=G0 P n0 N){xs A:LLA}{k:Nat}{a:Int}(hk:∀y∈xs,y.length=k)(h0:0<=a)(h1:a<=aC xs)(hA:A=xs.drop a.toNat)(hK:K A):g .S xs k (some a) none K:=by
 subst hg hA
 have:=ar xs
 exact⟨hk,a.toNat,xs.length,⟨h0,rfl⟩,rfl,by omega,Nat.le_refl _,by simpa using hK⟩
theorem Er{n0 N:Nat}{β:BP}(hg:g=G0 P n0 N){V es:LLA}{t k k' by_:Nat}{q:Prop}(hk:∀y∈V,y.length=k)(hb:by_<=65536)(hl:V.length<=1048576)(hl2:es.length<=1048577)(hq:q):
  g .N ((∀x,x∈V->x.length=k)/\((AB.mk t k' es).es.length+V.length)*by_<=140737488355328/\(AB.mk t k' es).es.length+V.length<=4611686018427387904) q:=
 goN hg ⟨hk,Nat.le_trans (Nat.mul_le_mul (show es.length+V.length<=2097153 by omega) hb) (by decide),by show es.length+V.length<=_;omega⟩ hq
theorem qV{h:AH}{r t k lo:Nat}{E V:LLA}(hr:h[r]? =some (.live ⟨t,k,E⟩))(hc:fo k E V lo):lv h (.own r) (.view V):=by
 have hE:∀(i:Nat)(x y:List AC),E[i]? =some x->V[i]? =some y->y=x.map vwC:=fun i x y hx hy=>by
  rw [<-hc.eq,zqi,hx]at hy
  exact(Option.some.inj hy).symm
 refine .row (.own r) E V k (.inl ⟨r,_,rfl,hr,rfl,rfl⟩) hc.len (fun i x hx=>hc.kk x (zqd hx)) (fun i y hy=> ?_) (fun i x y hx hy j c d ha hd=> ?_)
 ·have hl:i<E.length:=by rw [hc.len];exact(List.getElem?_eq_some_iff.1 hy).1
  rw [hE i _ y (zqc hl) hy,zql]
  exact hc.kk _ (List.getElem_mem hl)
 ·rw [hE i x y hx hy,zqi,ha]at hd
  cases hd
  have hb:=List.all_eq_true.1 (hc.bare x (zqd hx)) c (zqd ha)
  cases c<;>first|exact .imm _|exact .fv _ _|cases hb
def msN(ns:List af)(n:Int):Bool:=match ns[(n-1).toNat]? with|some x=>x.measured|none=>false
def inI(ns:List af)(n kid p:Int):Int:=
 if inO ns n kid=true then(if kid=n\/ik ns kid ns.length n=true then 2 else if upN ns kid≠0\/rng p 0 ((fD ns n).length:Int)=false then 3 else if msN ns n=true then 6 else if aV (inT ns n kid p)=true then 0 else 7)else 1
def inN(ns:List af)(n kid p:Int):List af:=if inI ns n kid p=0 then inT ns n kid p else ns
def Cd(ns:List af)(n kid p c:Int):Prop:=inI ns n kid p=c/\inN ns n kid p=ns
theorem Cd.of{n kid p c:Int}(h:inI ns n kid p=c)(hc:c≠0):Cd ns n kid p c:=⟨h,by unfold inN;rw [if_neg (by rw [h];exact hc)]⟩
theorem xW{x:af}{u:Int}(h:x.small):af.small {x with up:=u}:=by
 obtain⟨a0,a1,⟨a2,a3,a4,a5,a6,a7,a8,a9,ha,hb,hc,⟨hd,he⟩,⟨hf,hg⟩,⟨hh,hi⟩,⟨hj,hk⟩,⟨hl,hm⟩,⟨hn,ho⟩,⟨hp,hq⟩,hr,⟨⟨hs,ht⟩,⟨hu,hv⟩,⟨hw,hx⟩,⟨hy,hz⟩,⟨hA,hB⟩,⟨hC,hD⟩⟩,⟨⟨hE,hF⟩,⟨hG,hH⟩,⟨hI,hJ⟩,⟨hK,hL⟩,⟨hM,hN⟩,⟨hO,hP⟩⟩,⟨hQ,hR,hS,hT⟩,⟨hU,hV,hW,hX⟩,hY,hZ⟩,h0,⟨h1⟩⟩:=x
 exact h
structure InQ(ns:List af)(n kid p:Int)(ks:List Int)(x y:af):Prop where
 hx:ns[(n-1).toNat]? =some x
 hy:ns[(kid-1).toNat]? =some y
 hks:x.kids=ks
 lks:ks.length<=1048576
 n1:1<=n
 n2:n<=1048576
 k1:1<=kid
 k2:kid<=1048576
 c2:kid=n->Cd ns n kid p 2
 c2':kid≠n->ik ns kid ns.length n=true->Cd ns n kid p 2
 c3:kid≠n->ik ns kid ns.length n=false->y.up≠0->Cd ns n kid p 3
 c3':kid≠n->ik ns kid ns.length n=false->rng p 0 (ks.length:Int)=false->Cd ns n kid p 3
 c6:kid≠n->ik ns kid ns.length n=false->y.up=0->rng p 0 (ks.length:Int)=true->x.measured=true->Cd ns n kid p 6
 cf:kid≠n->ik ns kid ns.length n=false->y.up=0->rng p 0 (ks.length:Int)=true->x.measured=false->InF ns n kid p x y
 c7:kid≠n->ik ns kid ns.length n=false->y.up=0->rng p 0 (ks.length:Int)=true->x.measured=false->aV (inT ns n kid p)=false->Cd ns n kid p 7
 c0:kid≠n->ik ns kid ns.length n=false->y.up=0->rng p 0 (ks.length:Int)=true->x.measured=false->aV (inT ns n kid p)=true->inI ns n kid p=0/\inN ns n kid p=inT ns n kid p
theorem zk(ns:List af)(hl:ns.length<=1048576)(hs:∀y∈ns,af.small y)(n kid p:Int)(h:inO ns n kid=true):∃ks x y,InQ ns n kid p ks x y:=by
 have h':=h
 unfold inO at h'
 simp only [zqs]at h'
 obtain⟨ht,hi,ha⟩:=h'
 obtain⟨i1,i2,x,hx⟩:=aI hi
 obtain⟨k1,k2,y,hy⟩:=aI ha
 have hk:fD ns n=x.kids:=by unfold fD;rw [hx]
 have hu:upN ns kid=y.up:=by unfold upN;rw [hy]
 have hm:msN ns n=x.measured:=by unfold msN;rw [hx]
 have hb:x.kids.length<=1048576:=by
  have:=hs x (zqd hx)
  obtain⟨a0,a1,⟨a2,a3,a4,a5,a6,a7,a8,a9,hc,hd,he,⟨hf,hg⟩,⟨hh,hj⟩,⟨hn,ho⟩,⟨hp,hq⟩,⟨hr,hv⟩,⟨hw,hz⟩,⟨hA,hB⟩,hC,⟨⟨hD,hE⟩,⟨hF,hG⟩,⟨hH,hI⟩,⟨hJ,hK⟩,⟨hL,hM⟩,⟨hN,hO⟩⟩,⟨⟨hP,hQ⟩,⟨hR,hS⟩,⟨hT,hU⟩,⟨hV,hW⟩,⟨hX,hY⟩,⟨hZ,h0⟩⟩,⟨h1,h2,h3,h4⟩,⟨h5,h6,h7,h8⟩,h9,xa⟩,xb,⟨xc⟩⟩:=x
  exact this.1
 have e0:inI ns n kid p=if kid=n\/ik ns kid ns.length n=true then 2 else if y.up≠0\/rng p 0 (x.kids.length:Int)=false then 3 else if x.measured=true then 6 else if aV (inT ns n kid p)=true then 0 else 7:=by
  unfold inI
  rw [if_pos h,hk,hu,hm]
 refine⟨x.kids,x,y,hx,hy,rfl,hb,i1,by omega,k1,by omega,fun g1=> .of (by rw [e0,if_pos (.inl g1)]) (by decide),fun g1 g2=> .of (by rw [e0,if_pos (.inr g2)]) (by decide),fun g1 g2 g3=> .of (by rw [e0,if_neg (by simp [g1,g2]),if_pos (.inl g3)]) (by decide),
  fun g1 g2 g3=> .of (by rw [e0,if_neg (by simp [g1,g2]),if_pos (.inr g3)]) (by decide),fun g1 g2 g3 g4 g5=> .of (by rw [e0,if_neg (by simp [g1,g2]),if_neg (by simp [g3,g4]),if_pos g5]) (by decide),fun g1 g2 g3 g4 g5=>⟨ht,hi,ha,hx,hy,g1,g2,g3,g5⟩,
  fun g1 g2 g3 g4 g5 g6=> .of (by rw [e0,if_neg (by simp [g1,g2]),if_neg (by simp [g3,g4]),if_neg (by simp [g5]),if_neg (by simp [g6])]) (by decide),fun g1 g2 g3 g4 g5 g6=> ?_⟩
 have:inI ns n kid p=0:=by rw [e0,if_neg (by simp [g1,g2]),if_neg (by simp [g3,g4]),if_neg (by simp [g5]),if_pos g6]
 exact⟨this,by unfold inN;rw [if_pos this]⟩
structure InT(ns:List af)(n kid p:Int)(ks:List Int)(x y:af)(M T:LLA):Prop where
 jj:(n-1).toNat≠(kid-1).toNat
 hT:T=(M.set (n-1).toNat (kf x.up (vw ak (ks.take p.toNat)++[[.J kid]]++vw ak (ks.drop p.toNat)) (vw aK.c x.table.rules) x.style x.measured)).set (kid-1).toNat (kf n (vw ak y.kids) (vw aK.c y.table.rules) y.style y.measured)
 len:(inT ns n kid p).length<=1048576
 small:∀z∈inT ns n kid p,af.small z
 tl:aC T=aC M
 deep:∀i:Int,0<=i->i<aC T->4<jn (inT ns n kid p) (i+1)->aV (inT ns n kid p)=false
 flat:(∀i:Int,0<=i->i<aC T->jn (inT ns n kid p) (i+1)<=4)->aV (inT ns n kid p)=true
theorem InF.t{n kid p:Int}{x y:af}(h:InF ns n kid p x y)(hl:ns.length<=1048576)(hs:∀y∈ns,af.small y)(hr:rng p 0 (x.kids.length:Int)=true):InT ns n kid p x.kids x y (vwA af.ac ns) (vwA af.ac (inT ns n kid p)):=by
 obtain⟨n1,n2,k1,k2⟩:=h.n1
 have hT:vwA af.ac (inT ns n kid p)=((vwA af.ac ns).set (n-1).toNat (kf x.up (vw ak (x.kids.take p.toNat)++[[.J kid]]++vw ak (x.kids.drop p.toNat)) (vw aK.c x.table.rules) x.style x.measured)).set (kid-1).toNat (kf n (vw ak y.kids) (vw aK.c y.table.rules) y.style y.measured):=by
  rw [h.eq,vq,vq,<-zl];rfl
 have he:aC (vwA af.ac (inT ns n kid p))=(ns.length:Int):=by rw [ar,bi,h.len]
 have hi:∀v,Go.Proofs.YtckchgoblpgpbaaGreat.isN ns v=true↔1<=v/\v<=(ns.length:Int):=fun v=>by unfold Go.Proofs.YtckchgoblpgpbaaGreat.isN rng;simp
 have xh:(ns.length:Int)<=12:=by
  have:=h.tr
  simp only [aV,zqs,zqp]at this
  exact this.1
 have hb:=hs x (zqd h.hx)
 refine⟨fun e=>h.ne (by omega),hT,by rw [h.len];exact hl,fun z hz=> ?_,by rw [he,ar,bi],fun i i0 i1 i4=> ?_,fun hd=>h.tree.2 fun v hv=> ?_⟩
 ·have xi:=xz h.tr n1 h.hx
  have hc:=hs y (zqd h.hy)
  rw [h.eq]at hz
  rcases List.mem_or_eq_of_mem_set hz with hz|hz
  ·rcases List.mem_or_eq_of_mem_set hz with hz|hz
   ·exact hs z hz
   ·have ha:(inK x.kids kid p).length<=1048576:=by
     have:=congrArg List.length (List.take_append_drop p.toNat x.kids)
     simp only [zqe]at this
     unfold inK
     simp only [zqe,zqx]
     omega
    rw [hz]
    obtain⟨a0,a1,⟨a2,a3,a4,a5,a6,a7,a8,a9,hf,hg,hh,⟨hj,hk⟩,⟨hm,hn⟩,⟨ho,hp⟩,⟨hq,hu⟩,⟨hw,hA⟩,⟨hB,hC⟩,⟨hD,hE⟩,hF,⟨⟨hG,hH⟩,⟨hI,hJ⟩,⟨hK,hL⟩,⟨hM,hN⟩,⟨hO,hP⟩,⟨hQ,hR⟩⟩,⟨⟨hS,hU⟩,⟨hV,hW⟩,⟨hX,hY⟩,⟨hZ,h0⟩,⟨h1,h2⟩,⟨h3,h4⟩⟩,⟨h5,h6,h7,h8⟩,⟨h9,xa,xb,xc⟩,xd,xe⟩,xf,⟨xg⟩⟩:=x
    exact⟨ha,hb.2.1,trivial⟩
  ·rw [hz];exact xW hc
 ·cases ht:aV (inT ns n kid p)with
  |false=>rfl
  |true=>
   have:=h.tree.1 ht (i+1) ((hi _).2 (by omega))
   omega
 ·obtain⟨v1,v2⟩:=(hi v).1 hv
  have:=hd (v-1) (by omega) (by omega)
  rwa [show v-1+1=v by omega]at this
structure InZ(ns:List af)(n kid p:Int)(x y:af)(A B M T W:LLA)(AI:Int):Prop where
 jj:(n-1).toNat≠(kid-1).toNat
 hT:T=(M.set (n-1).toNat (kf x.up (A++[[.J kid]]++B) (vw aK.c x.table.rules) x.style x.measured)).set (kid-1).toNat (kf n (vw ak y.kids) (vw aK.c y.table.rules) y.style y.measured)
 hTT:T=vwA af.ac (inT ns n kid p)
 len:(inT ns n kid p).length<=1048576
 small:∀z∈inT ns n kid p,af.small z
 tl:aC T<=1048576
 deep:∀i:Int,0<=i->i<aC T->4<jn (inT ns n kid p) (i+1)->aV (inT ns n kid p)=false
 flat:(∀i:Int,0<=i->i<aC T->jn (inT ns n kid p) (i+1)<=4)->aV (inT ns n kid p)=true
 e7:aV (inT ns n kid p)=false->W=M/\AI=7
 e0:aV (inT ns n kid p)=true->W=T/\AI=0
structure InW(ns:List af)(n kid p:Int)(x y:af)(K A B M W:LLA)(AI:Int):Prop where
 n1:1<=n
 n2:n<=1048576
 k1:1<=kid
 k2:kid<=1048576
 z0:0<=n-1
 z1:(n-1).toNat<M.length
 y0:0<=kid-1
 y1:(kid-1).toNat<M.length
 hMj:M[(n-1).toNat]? =some (kf x.up K (vw aK.c x.table.rules) x.style x.measured)
 hMk:M[(kid-1).toNat]? =some (kf y.up (vw ak y.kids) (vw aK.c y.table.rules) y.style y.measured)
 kK:∀y∈K,y.length=1
 hA:A=K.take p.toNat
 hB:B=K.drop p.toNat
 cA:A=vw ak (x.kids.take p.toNat)/\(x.kids.take p.toNat).length<=1048576
 kA:∀y∈A,y.length=1
 kB:∀y∈B,y.length=1
 iA:so A=true
 iN:so (A++[[AC.imm (.int .i64 kid)]]++B)=true
 lA:A.length<=1048576
 lB:B.length<=1048576
 lA2:(A++[[AC.imm (.int .i64 kid)]]).length<=1048577
 r1:rng p 0 (aC K)=true->0<=p/\p<=aC K
 d2:kid=n->W=M/\AI=2
 d2':kid≠n->ik ns kid ns.length n=true->W=M/\AI=2
 d3:kid≠n->ik ns kid ns.length n=false->y.up≠0->W=M/\AI=3
 d3':kid≠n->ik ns kid ns.length n=false->rng p 0 (aC K)=false->W=M/\AI=3
 d6:kid≠n->ik ns kid ns.length n=false->y.up=0->rng p 0 (aC K)=true->x.measured=true->W=M/\AI=6
 dT:kid≠n->ik ns kid ns.length n=false->y.up=0->rng p 0 (aC K)=true->x.measured=false->∃T,InZ ns n kid p x y A B M T W AI
theorem CA(ns:List af)(hl:ns.length<=1048576)(hs:∀y∈ns,af.small y)(n kid p:Int)(h:inO ns n kid=true)(M W:LLA)(AI:Int)(hM:M=vwA af.ac ns)(hW:W=vwA af.ac (inN ns n kid p))(hAI:AI=inI ns n kid p):∃x y K A B,InW ns n kid p x y K A B M W AI:=by
 obtain⟨ks,x,y,Q⟩:=zk ns hl hs n kid p h
 obtain⟨hx,hy,hks,lks,n1,n2,k1,k2,c2,c2',c3,c3',c6,cf,c7,c0⟩:=Q
 subst hks
 have cv:∀c,Cd ns n kid p c->W=M/\AI=c:=fun c hc=>⟨by rw [hW,hM,hc.2],by rw [hAI,hc.1]⟩
 have hK:aC (vw ak x.kids)=(x.kids.length:Int):=by rw [ar,ao]
 have l1:(x.kids.take p.toNat).length<=x.kids.length:=List.length_take_le' _ _
 have l2:(x.kids.drop p.toNat).length<=x.kids.length:=by rw [List.length_drop];omega
 have l3:(vw ak (x.kids.take p.toNat)).length=(x.kids.take p.toNat).length:=ao _ _
 have l4:(vw ak (x.kids.drop p.toNat)).length=(x.kids.drop p.toNat).length:=ao _ _
 refine⟨x,y,vw ak x.kids,vw ak (x.kids.take p.toNat),vw ak (x.kids.drop p.toNat),n1,n2,k1,k2,by omega,by rw [hM,bi];exact(List.getElem?_eq_some_iff.1 hx).1,by omega,by rw [hM,bi];exact(List.getElem?_eq_some_iff.1 hy).1,by rw [hM];exact fy hx,by rw [hM];exact fy hy,sN (c:=ak) (k:=1) fun _=>rfl,by simp [vw,List.map_take],by simp [vw,List.map_drop],⟨rfl,by omega⟩,
  sN (c:=ak) (k:=1) fun _=>rfl,sN (c:=ak) (k:=1) fun _=>rfl,vp _ _,by rw [<-zl];exact vp _ _,by omega,by omega,by rw [zqe,zqm];omega,fun hr=> ?_,fun g1=>cv 2 (c2 g1),fun g1 g2=>cv 2 (c2' g1 g2),fun g1 g2 g3=>cv 3 (c3 g1 g2 g3),fun g1 g2 g3=>cv 3 (c3' g1 g2 (by rw [<-hK];exact g3)),fun g1 g2 g3 g4 g5=>cv 6 (c6 g1 g2 g3 (by rw [<-hK];exact g4) g5),fun g1 g2 g3 g4 g5=> ?_⟩
 ·simp only [rng,zqs,zqp]at hr
  exact hr
 ·rw [hK]at g4
  obtain⟨t1,t2,t3,t4,t5,t6,t7⟩:=(cf g1 g2 g3 g4 g5).t hl hs g4
  refine⟨_,t1,by rw [hM];exact t2,rfl,t3,t4,?_,t6,t7,fun g6=>cv 7 (c7 g1 g2 g3 g4 g5 g6),fun g6=>⟨by rw [hW,(c0 g1 g2 g3 g4 g5 g6).2],by rw [hAI,(c0 g1 g2 g3 g4 g5 g6).1]⟩⟩
  have:(inT ns n kid p).length<=1048576:=t3
  rw [ar,bi]
  omega
theorem lJ(ns:List af)(hl:ns.length<=1048576)(hs:∀y∈ns,af.small y)(n kid p:Int):Bs prog 12 [.agg [.view (vwA af.ac ns)],ai n,ai kid,ai p] fun lo res hQ=>(∃b0,res= .tup [.agg [.fv b0 (vwA af.ac (inN ns n kid p))],ai (inI ns n kid p)]/\jT lo b0)/\fz res=true/\hQ=[]:=by
 have ck:=jq ns hl hs
 have cT:=gB ns hl hs
 have cU:=fun hx:upD ns ns.length n=>nT ns hl n kid hx
 have xb:=fun(ns':List af) h1 h2=>gB ns' h1 h2
 obtain⟨M,hM⟩:=nmE (vwA af.ac ns)
 have hD:aC M=(ns.length:Int):=by rw [ar,hM,bi]
 have cn:=dz M n
 have hn:=dz M kid
 have h7:isN ns n=rng n 1 (aC M):=by rw [hD];rfl
 have ho:isN ns kid=rng kid 1 (aC M):=by rw [hD];rfl
 rw [<-h7]at cn
 rw [<-ho]at hn
 obtain⟨W,hW⟩:=nmE (vwA af.ac (inN ns n kid p))
 obtain⟨AI,hu⟩:=nmE (inI ns n kid p)
 have hw:inO ns n kid=false->W=M/\AI=1:=fun h=>by
  have h0:inI ns n kid p=1:=by unfold inI;rw [if_neg (by rw [h];decide)]
  exact⟨by rw [hW,hM];unfold inN;rw [if_neg (by rw [h0];decide)],by rw [hu,h0]⟩
 have hq:=fun h=>CA ns hl hs n kid p h M W AI hM hW hu
 rw [<-hM]at ck cT cU
 rw [<-hM,<-hW,<-hu]
 clear h7 ho hD hW hu
 refine pm ([(11,.hand)]) ([]) (c:=aM f12) aB func12 (by kernel_rfl) (by kernel_rfl) (by rfl) (by kernel_rfl) fun β g xl hd F xi xj hg hF=> ?_
 cbv
 refine sB hg ck (gN rfl) (fun lo E h=>d7 h.bare) (fun lo E q1 q2 q3 hE=> ?_)
 clear q2 q3
 replace hE:fo 64 E M β.lo:=⟨hE.kk,hE.bare,hE.eq,hE.new.mono q1⟩
 clear q1
 cbv
 cases hTB:aV ns
 case false=>
  rw [hTB]at cT
  refine ad hg cT ?_
  cbv
  obtain⟨h1,h2⟩:=hw (by unfold inO;rw [hTB];rfl)
  rw [h1,h2]at hF
  refine kC hF fun bl ha=>⟨[.agg [.fv (hd1 (bl 2) E++fpE E) M],ai 1],.agg (.cons (bU rfl hE) .nil) (.c (.imm _) .nil),⟨_,rfl,en ha (r:=2) (ab:=⟨_,_,E⟩) rfl hE.new⟩,rfl,rfl⟩
 have hx:=vx hTB n
 rw [hTB]at cT
 refine ad hg cT ?_
 cbv
 cases hN:isN ns n
 case false=>
  rw [hN]at cn
  refine ad hg cn ?_
  cbv
  obtain⟨h1,h2⟩:=hw (by unfold inO;rw [hTB,hN];rfl)
  rw [h1,h2]at hF
  refine kC hF fun bl ha=>⟨[.agg [.fv (hd1 (bl 2) E++fpE E) M],ai 1],.agg (.cons (bU rfl hE) .nil) (.c (.imm _) .nil),⟨_,rfl,en ha (r:=2) (ab:=⟨_,_,E⟩) rfl hE.new⟩,rfl,rfl⟩
 rw [hN]at cn
 refine ad hg cn ?_
 cbv
 cases hN2:isN ns kid
 case false=>
  rw [hN2]at hn
  refine ad hg hn ?_
  cbv
  obtain⟨h1,h2⟩:=hw (by unfold inO;rw [hTB,hN,hN2];rfl)
  rw [h1,h2]at hF
  refine kC hF fun bl ha=>⟨[.agg [.fv (hd1 (bl 2) E++fpE E) M],ai 1],.agg (.cons (bU rfl hE) .nil) (.c (.imm _) .nil),⟨_,rfl,en ha (r:=2) (ab:=⟨_,_,E⟩) rfl hE.new⟩,rfl,rfl⟩
 rw [hN2]at hn
 refine ad hg hn ?_
 cbv
 obtain⟨x,y,K,A,B,q⟩:=hq (by unfold inO;rw [hTB,hN,hN2];rfl)
 obtain⟨n1,n2,k1,k2,z0,z1,y0,y1,hMj,hMk,kK,hA,xd,cA,kA,kB,iA,iN,lA,lB,lA2,r1,d2,d2',d3,d3',d6,dT⟩:=q
 clear hw hq
 obtain⟨xu,xp,xs,xm,⟨xr⟩⟩:=x
 obtain⟨yu,xk,ys,ym,⟨yr⟩⟩:=y
 simp only at hMj hMk d3 d6 dT cA
 cases hE0:g .q .eql kid n
 case true=>
  rw [bA hg,beq_iff_eq]at hE0
  cbv
  obtain⟨h1,h2⟩:=d2 hE0
  rw [h1,h2]at hF
  refine kC hF fun bl ha=>⟨[.agg [.fv (hd1 (bl 2) E++fpE E) M],ai 2],.agg (.cons (bU rfl hE) .nil) (.c (.imm _) .nil),⟨_,rfl,en ha (r:=2) (ab:=⟨_,_,E⟩) rfl hE.new⟩,rfl,rfl⟩
 rw [bA hg,zqr]at hE0
 cbv
 cases hU:ik ns kid ns.length n
 case true=>
  have cu:=cU hx
  rw [hU]at cu
  refine ad hg cu ?_
  cbv
  obtain⟨h1,h2⟩:=d2' hE0 hU
  rw [h1,h2]at hF
  refine kC hF fun bl ha=>⟨[.agg [.fv (hd1 (bl 2) E++fpE E) M],ai 2],.agg (.cons (bU rfl hE) .nil) (.c (.imm _) .nil),⟨_,rfl,en ha (r:=2) (ab:=⟨_,_,E⟩) rfl hE.new⟩,rfl,rfl⟩
 have cu:=cU hx
 rw [hU]at cu
 refine ad hg cu ?_
 cbv
 obtain⟨Rx,hZ⟩:=nmE (vw aK.c xr)
 obtain⟨Ry,h4⟩:=nmE (vw aK.c yr)
 obtain⟨Ky,hY⟩:=nmE (vw ak xk)
 rw [<-hZ]at hMj
 rw [<-h4,<-hY]at hMk
 have c5:=bz M n n1 n2 hMj
 have c6:=bz M kid k1 k2 hMk
 have ci:=bm p 0 (aC K)
 have hK:g .ln K=aC K:=bO hg K
 rw [<-hK]at ci
 refine ad hg c6 ?_
 cbv
 cases hu0:g .q .neq yu 0
 case true=>
  rw [d5 hg,bne_iff_ne,ne_eq]at hu0
  cbv
  obtain⟨h1,h2⟩:=d3 hE0 hU hu0
  rw [h1,h2]at hF
  refine kC hF fun bl ha=>⟨[.agg [.fv (hd1 (bl 2) E++fpE E) M],ai 3],.agg (.cons (bU rfl hE) .nil) (.c (.imm _) .nil),⟨_,rfl,en ha (r:=2) (ab:=⟨_,_,E⟩) rfl hE.new⟩,rfl,rfl⟩
 rw [d5 hg,zqq]at hu0
 cbv
 refine ad hg c5 ?_
 cbv
 cases hr:rng p 0 (aC K)
 case false=>
  rw [show rng p 0 (g .ln K)=rng p 0 (aC K) by rw [hK],hr]at ci
  refine ad hg ci ?_
  cbv
  obtain⟨h1,h2⟩:=d3' hE0 hU hr
  rw [h1,h2]at hF
  refine kC hF fun bl ha=>⟨[.agg [.fv (hd1 (bl 2) E++fpE E) M],ai 3],.agg (.cons (bU rfl hE) .nil) (.c (.imm _) .nil),⟨_,rfl,en ha (r:=2) (ab:=⟨_,_,E⟩) rfl hE.new⟩,rfl,rfl⟩
 rw [show rng p 0 (g .ln K)=rng p 0 (aC K) by rw [hK],hr]at ci
 refine ad hg ci ?_
 cbv
 refine ad hg c5 ?_
 cbv
 cases xm
 case true=>
  cbv
  obtain⟨h1,h2⟩:=d6 hE0 hU hu0 hr rfl
  rw [h1,h2]at hF
  refine kC hF fun bl ha=>⟨[.agg [.fv (hd1 (bl 2) E++fpE E) M],ai 6],.agg (.cons (bU rfl hE) .nil) (.c (.imm _) .nil),⟨_,rfl,en ha (r:=2) (ab:=⟨_,_,E⟩) rfl hE.new⟩,rfl,rfl⟩
 cbv
 refine ad hg c5 ?_
 cbv
 obtain⟨T,jj,hT,hTT,xf,xg,tl,deep,flat,e7,e0⟩:=dT hE0 hU hu0 hr rfl
 simp only at hT
 rw [<-hZ,<-h4,<-hY]at hT
 clear d2 d2' d3 d3' d6 dT
 obtain⟨r0,r1⟩:=r1 hr
 obtain⟨b1,b2,he⟩:=hE.node hMj
 obtain⟨c1,c2,hH⟩:=hE.node hMk
 have hm:=xb _ xf xg
 rw [<-hTT]at hm
 have hS:g .w .sub .i64 kid 1=kid-1:=by rw [dP hg,az _ (by omega)]
 have hR:g .w .sub .i64 n 1=n-1:=by rw [dP hg,az _ (by omega)]
 obtain⟨z,hz⟩:=nmE (n-1)
 rw [<-hz]at hR z0 z1 he jj hT
 obtain⟨j,hj⟩:=nmE z.toNat
 rw [<-hj]at z1 he jj hT
 obtain⟨y,hy⟩:=nmE (kid-1)
 rw [<-hy]at hS y0 y1 hH jj hT
 obtain⟨j2,h8⟩:=nmE y.toNat
 rw [<-h8]at y1 hH jj hT
 obtain⟨NN,hG⟩:∃NN,NN=A++[[AC.imm (.int .i64 kid)]]++B:=⟨_,rfl⟩
 rw [<-hG]at hT iN
 have hh:j<E.length:=by rw [hE.len];exact z1
 obtain⟨F2,hC⟩:∃F2:List Nat->LLA,∀b,F2 b=E.set j (pW xu NN Rx xs false b b2):=⟨_,fun _=>rfl⟩
 obtain⟨F3,hv⟩:=nmE (E.set j (Ao xu 8 Rx xs false b2))
 have h9:∀b,F2 b=F3.set j (pW xu NN Rx xs false b b2):=fun b=>by rw [hC,hv,List.set_set]
 have xa:F3[j]? =some (Ao xu 8 Rx xs false b2):=by rw [hv];exact List.getElem?_set_self hh
 have hX:∀(l1:Nat)(bn:List Nat),jT l1 bn->β.lo<=l1->(∀b∈fpE E,b<l1)->fo 64 (F2 bn) (M.set j (kf xu NN Rx xs false)) β.lo:=fun l1 bn h1 h2 h3=>by
  rw [hC]
  exact hE.put (y:=pW xu NN Rx xs false bn b2) (v:=kf xu NN Rx xs false) he rfl rfl rfl (b1:=b2) (bn:=bn) (by rw [tL];exact List.perm_append_comm) (by rw [tL];exact List.sublist_append_right _ _) h1 h2 h3
 refine sr xj aB [(11,.hand)] [] 8 NN (nq iN) rfl (by kernel_rfl) (fun g2 xc xn B2 xh h6 hc hV=> ?_)
 have hf:g2 .w .sub .i64 n 1=z:=by rw [<-hR,hc,hg];rfl
 have hL:∀y,y=Ao xu 8 Rx xs false b2->g2 .st E j y=F3:=fun y h=>by rw [h,qI hc,hv]
 have hP:A++[[AC.imm (.int .i64 kid)]]++B=NN:=hG.symm
 clear hv hG
 cbv
 refine wN hc h6 aB [0,1,2,3,5,6,7,9,12,13,14] (.op 4 [] (.op 8 [] (.op 10 [] (.op 11 [] (.op 15 [] (.op 16 [17] (.op 18 [] .done .none) .none) .none) .none) .none) (.op 10 [] (.op 8 [] (.op 11 [] (.op 15 [] (.op 16 [17] (.op 18 [] .done .none) .none) .none) .none) .none) .none)) (.op 10 [] (.op 4 [] (.op 8 [] (.op 11 [] (.op 15 [] (.op 16 [17] (.op 18 [] .done .none) .none) .none) .none) .none) .none) .none)) (by kernel_rfl) (by kernel_rfl) (S:=Unit) (fun _=>True) (fun _=>[(1,.i (n)),(2,.i (kid)),(4,.p 0),(8,.p 1),(10,.p 3)]) (fun _=>[.bx 28 1 [.view M],.bx 28 1 [.N],.rw ⟨69,64,F3⟩,.bx 28 1 [.own 2],.gn,.gn,.gn,.gn,.rw ⟨3,1,NN⟩]) (fun B' hB=> ?_) (fun _ _=> ?_)
 ·cbv
  try rw [hf]
  repeat'(first|exact trivial|exact rfl|exact congrArg (fun x=>AV.t (AT.c (AC.imm (Value.int .i64 x)))) hf|refine And.intro ?_ ?_|(refine CL hc kK r0 r1 hA ?_;cbv;try rw [hf])|(refine CK hc kK r0 r1 xd ?_;cbv;try rw [hf])|(refine AP hc kA (by decide) lA ?_;cbv;rw [ig hc,List.nil_append];try rw [hf])|(refine AQ hc rfl (by decide) lA ?_;cbv;rw [ig hc];try rw [hf])|(refine Er hc kB (by decide) lB lA2 ?_;cbv;rw [ig hc,hP];try rw [hf])|(refine D8 hc z0 hj hh ?_;cbv;try rw [hf])|(refine⟨_,he,?_⟩;cbv;rw [hL];rotate_left;rfl)|exact hB () trivial _ _ (vo zr5 (by repeat'(first|exact trivial|exact Or.inl rfl|exact Or.inr rfl|apply And.intro))))
 refine hV _ _ _ _ rfl rfl (fun l1 b p1 ht=> ?_)
 rw [wP iN]
 obtain⟨bn,h5⟩:=nmE (hd1 b NN)
 rw [<-h5]at ht⊢
 clear h5
 refine⟨[(1,.i (n)),(2,.i (kid)),(4,.p 0),(8,.p 1),(10,.p 3)],[.bx 28 1 [.view M],.bx 28 1 [.N],.rw ⟨69,64,F2 bn⟩,.bx 28 1 [.own 2],.gn,.gn,.gn,.gn,.gn],⟨.inl rfl,.inl rfl,.inl rfl,.inl rfl,.inl rfl,trivial⟩,⟨⟨rfl,rfl,.inl rfl,trivial⟩,⟨rfl,rfl,.inl rfl,trivial⟩,.inr ⟨_,_,_,rfl,rfl,h9 bn,xa,⟨.inl rfl,.inr (.inl ⟨rfl,rfl⟩),.inl rfl,.inl rfl,.inl rfl,.inl rfl,.inl rfl,.inl rfl,.inl rfl,.inl rfl,.inl rfl,.inl rfl,.inl rfl,.inl rfl,.inl rfl,.inl rfl,.inl rfl,.inl rfl,.inl rfl,.inl rfl,.inl rfl,.inl rfl,.inl rfl,.inl rfl,.inl rfl,.inl rfl,.inl rfl,.inl rfl,.inl rfl,.inl rfl,.inl rfl,.inl rfl,.inl rfl,.inl rfl,.inl rfl,.inl rfl,.inl rfl,.inl rfl,.inl rfl,.inl rfl,.inl rfl,.inl rfl,.inl rfl,.inl rfl,.inl rfl,.inl rfl,.inl rfl,.inl rfl,.inl rfl,.inl rfl,.inl rfl,.inl rfl,.inl rfl,.inl rfl,.inl rfl,.inl rfl,.inl rfl,.inl rfl,.inl rfl,.inl rfl,.inl rfl,.inl rfl,.inl rfl,.inl rfl,trivial⟩⟩,⟨rfl,rfl,.inl rfl,trivial⟩,trivial,trivial,trivial,trivial,rfl,trivial⟩,?_⟩
 have xe:=hX l1 bn ⟨ht.nd,ht.ge⟩ p1 (fun b hb=>ht.old b (qn _ 2 rfl b hb))
 clear hX hV hc h6 xh h9 xa ht
 have hJ:(F2 bn)[j2]? =some (pW yu Ky Ry ys ym c1 c2):=by rw [hC,List.getElem?_set_ne jj];exact hH
 have hp:j2<(F2 bn).length:=(List.getElem?_eq_some_iff.1 hJ).1
 have hk:=xe.set (y:=pW n Ky Ry ys ym c1 c2) (v:=kf n Ky Ry ys ym) hJ rfl rfl rfl rfl
 rw [<-hT]at hk
 obtain⟨E4,hI⟩:=nmE ((F2 bn).set j2 (pW n Ky Ry ys ym c1 c2))
 rw [<-hI]at hk
 have hO:∀y,y=pW n Ky Ry ys ym c1 c2->g .st (F2 bn) j2 y=E4:=fun y h=>by rw [h,qI hg,hI]
 clear hI
 cbv
 rw [hS]
 refine D8 hg y0 h8 hp ?_
 cbv
 refine⟨_,hJ,?_⟩
 cbv
 rw [hO]
 rotate_left
 ·rfl
 have xo:aC E4=aC T:=by rw [ar,ar,hk.len]
 cases hTN:aV (inT ns n kid p)
 case false=>
  rw [hTN]at hm
  refine zG hg hm (.agg (.cons (qV (t:=69) (k:=64) (r:=2) rfl hk) .nil) .nil) rfl ?_
  cbv
  obtain⟨h1,h2⟩:=e7 hTN
  refine sB hg ck (gN rfl) (fun lo E h=>d7 h.bare) (fun lo E' q1 q2 q3 hi=> ?_)
  clear q2 q3
  replace hi:fo 64 E' M β.lo:=⟨hi.kk,hi.bare,hi.eq,hi.new.mono q1⟩
  cbv
  rw [h1,h2]at hF
  refine kC hF fun bl ha=>⟨[.agg [.fv (hd1 (bl 9) E'++fpE E') M],ai 7],.agg (.cons (bU (t:=69) (k:=64) rfl hi) .nil) (.c (.imm _) .nil),⟨_,rfl,en ha (r:=9) (ab:=⟨69,64,E'⟩) rfl hi.new⟩,rfl,rfl⟩
 rw [hTN]at hm
 refine zG hg hm (.agg (.cons (qV (t:=69) (k:=64) (r:=2) rfl hk) .nil) .nil) rfl ?_
 cbv
 obtain⟨h1,h2⟩:=e0 hTN
 rw [h1,h2]at hF
 refine kC hF fun bl ha=>⟨[.agg [.fv (hd1 (bl 2) E4++fpE E4) T],ai 0],.agg (.cons (bU (t:=69) (k:=64) rfl hk) .nil) (.c (.imm _) .nil),⟨_,rfl,en ha (r:=2) (ab:=⟨69,64,E4⟩) rfl hk.new⟩,rfl,rfl⟩
theorem CE(ns:List af)(hl:ns.length<=1048576)(hs:∀y∈ns,af.small y)(n kid p:Int):(inN ns n kid p).length<=1048576/\(∀y∈inN ns n kid p,af.small y)/\(inI ns n kid p≠0->inN ns n kid p=ns):=by
 by_cases h0:inI ns n kid p=0
 ·have hO:inO ns n kid=true:=by
   cases ho:inO ns n kid with
   |true=>rfl
   |false=>
    unfold inI at h0
    rw [if_neg (by rw [ho];decide)]at h0
    cases h0
  obtain⟨ks,x,y,Q⟩:=zk ns hl hs n kid p hO
  have no:∀c,Cd ns n kid p c->c≠0->False:=fun c hc ha=>ha (hc.1.symm.trans h0)
  have g1:kid≠n:=fun e=>no 2 (Q.c2 e) (by decide)
  have g2:ik ns kid ns.length n=false:=by
   cases hu:ik ns kid ns.length n with
   |false=>rfl
   |true=>exact(no 2 (Q.c2' g1 hu) (by decide)).elim
  have g3:y.up=0:=Classical.byContradiction fun e=>no 3 (Q.c3 g1 g2 e) (by decide)
  have g4:rng p 0 (ks.length:Int)=true:=by
   cases hr:rng p 0 (ks.length:Int)with
   |true=>rfl
   |false=>exact(no 3 (Q.c3' g1 g2 hr) (by decide)).elim
  have g5:x.measured=false:=by
   cases hm:x.measured with
   |false=>rfl
   |true=>exact(no 6 (Q.c6 g1 g2 g3 g4 hm) (by decide)).elim
  have t:=(Q.cf g1 g2 g3 g4 g5).t hl hs (by rw [Q.hks];exact g4)
  have e:inN ns n kid p=inT ns n kid p:=by unfold inN;rw [if_pos h0]
  rw [e]
  exact⟨t.len,t.small,fun h=>absurd h0 h⟩
 ·have e:inN ns n kid p=ns:=by unfold inN;rw [if_neg h0]
  rw [e]
  exact⟨hl,hs,fun _=>rfl⟩
end Go.Proofs.YtckchgoblpgpbaaGreat
