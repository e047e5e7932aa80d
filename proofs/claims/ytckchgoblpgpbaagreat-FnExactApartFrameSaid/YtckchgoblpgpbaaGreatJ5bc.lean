/- Lines of items that flex: what each pass sets, in the program and in the reference; both end and agree. -/
import Derived.Test.YtckchgoblpgpbaaGreatJ5bb
set_option linter.unusedVariables false
set_option linter.unusedSimpArgs false
namespace Go.Proofs.YtckchgoblpgpbaaGreat
open Go.ChangeShapes Go.WideShapes Go.ChangeAt Go.RowKit Am Go.Proofs.Tryz
set_option maxRecDepth 100000
def flK(ns:List af)(n:Int):List Int:=gY (ix ns) ((oh ns n).filter (lY ns))
theorem DA(xs:List Int)(n:Int):0<=cnt xs n/\(n∈xs->1<=cnt xs n):=by
 induction xs with
 |nil=>simp [cnt]
 |cons x xs ih=>
  have e:cnt (x::xs) n=(if x=n then 1 else 0)+cnt xs n:=by simp [cnt]
  rw [e]
  obtain⟨i1,i2⟩:=ih
  by_cases hx:x=n
  ·rw [if_pos hx];exact⟨by omega,fun _=>by omega⟩
  ·rw [if_neg hx]
   refine⟨by omega,fun h=> ?_⟩
   rcases List.mem_cons.1 h with h|h
   ·exact absurd h.symm hx
   ·have:=i2 h;omega
theorem vO:∀(xs:List Int),(∀k∈xs,cnt xs k=1)->xs.Nodup
 | [],_=>List.nodup_nil
 |x::xs,h=>by
  have e:∀n,cnt (x::xs) n=(if x=n then 1 else 0)+cnt xs n:=fun n=>by simp [cnt]
  have hx:x∉xs:=fun hm=>by
   have h1:=h x (List.mem_cons_self ..)
   rw [e,if_pos rfl]at h1
   have:=(DA xs x).2 hm
   omega
  refine List.nodup_cons.2 ⟨hx,vO xs fun k hk=> ?_⟩
  have h1:=h k (List.mem_cons_of_mem _ hk)
  rw [e,if_neg (fun hxk:x=k=>hx (by rw [hxk];exact hk))]at h1
  omega
theorem Dd:∀(M:Nat)(xs:List Int),xs.Nodup->(∀k∈xs,1<=k/\k<=(M:Int))->xs.length<=M
 |0,xs,_,h=>by
  cases xs with
  |nil=>simp
  |cons x xs=>have:=h x (List.mem_cons_self ..);omega
 |M+1,xs,hn,h=>by
  have h1:=Dd M (xs.erase ((M:Int)+1)) (hn.erase _) (fun k hk=>by
   have ha:=(hn.mem_erase_iff).1 hk
   have:=h k ha.2
   have hb:=ha.1
   omega)
  by_cases hm:(M:Int)+1∈xs
  ·have h2:=List.length_erase_of_mem hm
   have:=List.length_pos_of_mem hm
   omega
  ·rw [List.erase_of_not_mem hm]at h1;omega
variable {ns:List af}
theorem BJ(h:eo ns=true):ns.length<=12:=by
 simp only [eo,zqs,zqp]at h
 omega
theorem wI(h:eo ns=true){n:Int}{x:af}(h1:1<=n)(hx:ns[(n-1).toNat]? =some x):x.kids.length<=12:=by
 have hk:=io h h1 hx
 have hl:=BJ h
 have h2:∀k∈x.kids,upN ns k=n:=fun k ha=>by
  have h3:=h
  simp only [eo,zqs]at h3
  have:=(jP ns ns 0).1 h3.2 _ x hx
  simp only [fG,zqs,zqf,gM,zqp]at this
  have:=(this.2.2.2.1 k ha).2
  omega
 have hb:x.kids.Nodup:=vO _ fun k ha=>by
  obtain⟨k1,k2,y,hy⟩:=bq (hk k ha)
  have h3:=h
  simp only [eo,zqs]at h3
  have h4:=(jP ns ns 0).1 h3.2 _ y hy
  simp only [fG,zqs,C4,Bool.or_eq_true,zqp]at h4
  have hu:y.up=n:=by have:=h2 k ha;unfold upN at this;rw [hy]at this;exact this
  have h5:=h4.2.2.1
  rw [hu]at h5
  have h6:oh ns n=x.kids:=by simp only [oh,hx]
  rw [h6,show(0:Int)+(((k-1).toNat:Nat):Int)+1=k by omega]at h5
  rcases h5 with h5|h5
  ·omega
  ·exact h5
 have:=Dd 12 x.kids hb fun k ha=>by
  obtain⟨k1,k2,y,hy⟩:=bq (hk k ha)
  omega
 exact this
def vd(x:ag):Int:=if 0<=x.most/\x.most<x.least then x.least else x.most
def pU(x:ag):Int:=if x.most<x.least then x.least else x.most
def r8(x:ag):Bool:=rng x.base 0 1048576&&(rng x.least 0 1048576&&(rng x.most (-1) 1048576&&(rng x.grow 0 1000&&(rng x.shrink 0 1000&&(rng x.before (-1048576) 1048576&&rng x.behind (-1048576) 1048576)))))
def ep(xs:List ag):Bool:=xs.all r8&&decide ((xs.length:Int)<=12)
def wgt(gr:Bool)(x:ag):Int:=if gr then x.grow else wrap64 (x.shrink*x.base)
def AQ(xs:List ag)(gap inner:Int):Bool:=decide (wrap64 (hP xs (xs.map hyp) gap)<inner)
def zF(ws:List Int):Bool:=ws.all (fun w=>rng w 0 1073741824)&&decide ((ws.length:Int)<=64)
def oA:Int->List Int->Int
 |a,[]=>a
 |a,w::ws=>oA (wrap64 (a+w)) ws
def shG(n all:Int):Int->List Int->List Int
 |_,[]=>[]
 |s,w::ws=>wrap64 (fdv (wrap64 (n*wrap64 (s+w))) all-fdv (wrap64 (n*s)) all)::shG n all (wrap64 (s+w)) ws
def shr(n:Int)(ws:List Int):List Int:=if zF ws then shG (sg n) (oA 0 ws) 0 ws else []
theorem wL(n all:Int):∀(s:Int)(ws:List Int),(shG n all s ws).length=ws.length
 |_,[]=>rfl
 |s,w::ws=>by simp [shG,wL n all]
def itA(xs:List ag)(i:Int):ag:=xs[i.toNat]?.getD ⟨0,0,0,0,0,0,0,false,false⟩
def fre:Int->List Bool->List Int
 |_,[]=>[]
 |i,f::fs=>if f then fre (i+1) fs else i::fre (i+1) fs
def mix:List ag->List Bool->List Int->List Int
 |x::xs,f::fs,s::ss=>(if f then s else x.base)::mix xs fs ss
 |_,_,_=>[]
def uZ(xs:List ag)(ss:List Int)(gap inner:Int)(gr:Bool):Int:=
 let n:=wrap64 (inner-wrap64 (hP xs ss gap))
 if(gr=true/\n<0)\/(gr=false/\0<n)then 0 else sg n
def tgt(gr:Bool)(all rest:Int)(x:ag):Int:=wrap64 (wrap64 (x.base*all)+wrap64 (rest*wgt gr x))
def pr(gr:Bool)(all rest:Int)(x:ag):Bool:=decide (tgt gr all rest x<wrap64 (x.least*all))
def uE(gr:Bool)(all rest:Int)(x:ag):Bool:=decide (0<=x.most)&&decide (wrap64 (pU x*all)<tgt gr all rest x)
def uY(gr:Bool)(all rest:Int)(v:Int)(x:ag):Int:=
 if pr gr all rest x then wrap64 (v+wrap64 (wrap64 (x.least*all)-tgt gr all rest x))else if uE gr all rest x then wrap64 (v-wrap64 (tgt gr all rest x-wrap64 (pU x*all)))else v
def ovr(gr:Bool)(all rest:Int)(x:ag):Int:=
 if pr gr all rest x then wrap64 (wrap64 (x.least*all)-tgt gr all rest x)else if 0<=x.most/\wrap64 (vd x*all)<tgt gr all rest x then wrap64 (wrap64 (vd x*all)-tgt gr all rest x)else 0
def o3(ps:List (Int×Int))(l:List Int):List Int:=ps.foldl (fun l p=>l.set p.1.toNat p.2) l
def oE(is:List Int)(l:List Bool):List Bool:=is.foldl (fun l i=>l.set i.toNat true) l
structure Fx where
 xs:List ag
 gap:Int
 inner:Int
 gr:Bool
def Fx.ws(X:Fx)(fr:List Bool):List Int:=(fre 0 fr).map fun i=>wgt X.gr (itA X.xs i)
def Fx.all(X:Fx)(fr:List Bool):Int:=oA 0 (X.ws fr)
def Fx.low(X:Fx)(fr:List Bool)(rest:Int):List Int:=(fre 0 fr).filter fun i=>pr X.gr (X.all fr) rest (itA X.xs i)
def Fx.hig(X:Fx)(fr:List Bool)(rest:Int):List Int:=(fre 0 fr).filter fun i=> !pr X.gr (X.all fr) rest (itA X.xs i)&&uE X.gr (X.all fr) rest (itA X.xs i)
def Fx.vio(X:Fx)(fr:List Bool)(rest:Int):Int:=(fre 0 fr).foldl (fun v i=>uY X.gr (X.all fr) rest v (itA X.xs i)) 0
def Fx.shs(X:Fx)(fr:List Bool)(rest:Int):List (Int×Int):=((fre 0 fr).zip (shr rest (X.ws fr))).map fun p=>(p.1,cl (wrap64 ((itA X.xs p.1).base+p.2)))
def Fx.setI(X:Fx)(fr:List Bool)(rest:Int):List (Int×Int):=
 if X.low fr rest=[]/\X.hig fr rest=[]then X.shs fr rest
 else(if 0<=X.vio fr rest then(X.low fr rest).map fun i=>(i,(itA X.xs i).least)else [])++(if X.vio fr rest<=0 then(X.hig fr rest).map fun i=>(i,pU (itA X.xs i))else [])
def Fx.rI(X:Fx)(fr:List Bool)(sz:List Int):Int:=uZ X.xs (mix X.xs fr sz) X.gap X.inner X.gr
def Fx.runI(X:Fx):Nat->List Int->List Bool->Option (List Int)
 |0,_,_=>none
 |k+1,sz,fr=>if fre 0 fr=[]then some sz else X.runI k (o3 (X.setI fr (X.rI fr sz)) sz) (oE ((X.setI fr (X.rI fr sz)).map (·.1)) fr)
def Fx.ovs(X:Fx)(fr:List Bool)(rest:Int):List Int:=(fre 0 fr).map fun i=>ovr X.gr (X.all fr) rest (itA X.xs i)
def Fx.setS(X:Fx)(fr:List Bool)(rest:Int):List (Int×Int):=
 let some_:=(X.ovs fr rest).any fun o=>o !=0
 let sum:=oA 0 (X.ovs fr rest)
 ((fre 0 fr).zip ((X.ovs fr rest).zip (shr rest (X.ws fr)))).filterMap fun p=>
  if some_=false then some (p.1,cl (wrap64 ((itA X.xs p.1).base+p.2.2)))
  else if 0<p.2.1/\0<=sum then some (p.1,(itA X.xs p.1).least)
  else if p.2.1<0/\sum<=0 then some (p.1,vd (itA X.xs p.1))else none
def Fx.runS(X:Fx):Nat->List Int->List Bool->Option (List Int)
 |0,_,_=>none
 |k+1,sz,fr=>if fre 0 fr=[]then some sz else X.runS k (o3 (X.setS fr (uZ X.xs sz X.gap X.inner X.gr)) sz) (oE ((X.setS fr (uZ X.xs sz X.gap X.inner X.gr)).map (·.1)) fr)
theorem Ap:∀(xs:List ag)(fr:List Bool)(sz:List Int),fr.length=xs.length->sz.length=xs.length->(mix xs fr sz).length=xs.length
 | [],_,_,_,_=>rfl
 |x::xs,f::fs,s::ss,h1,h2=>by simp only [mix,zqx];rw [Ap xs fs ss (by simpa using h1) (by simpa using h2)]
 |_::_,[],_,h,_=>by simp at h
 |_::_,_::_,[],_,h=>by simp at h
theorem Ao:∀(xs:List ag)(fr:List Bool)(sz:List Int)(j:Nat)(v:Int),fr.length=xs.length->sz.length=xs.length->mix xs (fr.set j true) (sz.set j v)=(mix xs fr sz).set j v
 | [],_,_,_,_,_,_=>by simp [mix]
 |x::xs,f::fs,s::ss,0,v,h1,h2=>by simp [mix]
 |x::xs,f::fs,s::ss,j+1,v,h1,h2=>by simp only [List.set_cons_succ,mix];rw [Ao xs fs ss j v (by simpa using h1) (by simpa using h2)]
 |_::_,[],_,_,_,h,_=>by simp at h
 |_::_,_::_,[],_,_,_,h=>by simp at h
theorem ni:∀(ps:List (Int×Int))(l:List Int),(o3 ps l).length=l.length
 | [],_=>rfl
 |p::ps,l=>by show(o3 ps _).length=_;rw [ni ps];simp
theorem nj:∀(ps:List Int)(l:List Bool),(oE ps l).length=l.length
 | [],_=>rfl
 |p::ps,l=>by show(oE ps _).length=_;rw [nj ps];simp
theorem yf(xs:List ag):∀(ps:List (Int×Int))(fr:List Bool)(sz:List Int),fr.length=xs.length->sz.length=xs.length->mix xs (oE (ps.map (·.1)) fr) (o3 ps sz)=o3 ps (mix xs fr sz)
 | [],_,_,_,_=>rfl
 |p::ps,fr,sz,h1,h2=>by
  show mix xs (oE (ps.map (·.1)) (fr.set p.1.toNat true)) (o3 ps (sz.set p.1.toNat p.2))=o3 ps ((mix xs fr sz).set p.1.toNat p.2)
  rw [yf xs ps _ _ (by simpa using h1) (by simpa using h2),Ao xs fr sz _ _ h1 h2]
theorem yg:∀(xs:List ag)(fr:List Bool)(sz:List Int)(i:Int),fr.length=xs.length->sz.length=xs.length->fre i fr=[]->mix xs fr sz=sz
 | [],_,[],_,_,_,_=>rfl
 | [],_,_::_,_,_,h,_=>by simp at h
 |x::xs,f::fs,s::ss,i,h1,h2,h3=>by
  simp only [fre]at h3
  cases f with
  |false=>simp at h3
  |true=>
   simp only [if_true]at h3
   simp only [mix,if_true]
   rw [yg xs fs ss (i+1) (by simpa using h1) (by simpa using h2) h3]
 |_::_,[],_,_,h,_,_=>by simp at h
 |_::_,_::_,[],_,_,h,_=>by simp at h
theorem gO:∀(fr:List Bool)(i:Int),0<=i->∀j∈fre i fr,i<=j/\j<i+fr.length/\fr[(j-i).toNat]? =some false
 | [],_,_,j,h=>by simp [fre]at h
 |f::fs,i,h0,j,h=>by
  have ha:j∈fre (i+1) fs->i<=j/\j<i+(f::fs).length/\(f::fs)[(j-i).toNat]? =some false:=fun h=>by
   have:=gO fs (i+1) (by omega) j h
   simp only [zqx]
   refine⟨by omega,by omega,?_⟩
   rw [show(j-i).toNat=(j-(i+1)).toNat+1 by omega]
   exact this.2.2
  simp only [fre]at h
  cases f with
  |true=>exact ha (by simpa using h)
  |false=>
   simp only [Bool.false_eq_true,if_false,List.mem_cons]at h
   rcases h with rfl|h
   ·exact⟨Int.le_refl _,by simp;omega,by simp⟩
   ·exact ha h
theorem uI:∀(fr:List Bool)(i:Int),0<=i->(fre i fr).Pairwise (·< ·)
 | [],_,_=> .nil
 |f::fs,i,h0=>by
  simp only [fre]
  cases f with
  |true=>simpa using uI fs (i+1) (by omega)
  |false=>
   simp only [Bool.false_eq_true,if_false]
   exact .cons (fun j hj=>by have:=gO fs (i+1) (by omega) j hj;omega) (uI fs (i+1) (by omega))
theorem zU{ps qs:List (Int×Int)}(hp:ps.Perm qs):(ps.Pairwise fun a b=>a.1.toNat≠b.1.toNat)->∀l,o3 ps l=o3 qs l:=by
 induction hp with
 |nil=>intro _ _;rfl
 |cons x _ ih=>intro h l;cases h with|cons h1 h2=>exact ih h2 _
 |swap x y l0=>
  intro h l
  cases h with
  |cons h1 h2=>
   have hb:y.1.toNat≠x.1.toNat:=h1 x (by simp)
   show o3 l0 ((l.set _ _).set _ _)=o3 l0 ((l.set _ _).set _ _)
   rw [List.set_comm _ _ hb]
 |trans h1 _ ih1 ih2=>intro h l;rw [ih1 h l,ih2 (h1.pairwise h fun ha=>Ne.symm ha) l]
theorem zW{ps qs:List Int}(hp:ps.Perm qs):∀l,oE ps l=oE qs l:=by
 induction hp with
 |nil=>intro _;rfl
 |cons x _ ih=>intro l;exact ih _
 |swap x y l0=>
  intro l
  show oE l0 ((l.set _ _).set _ _)=oE l0 ((l.set _ _).set _ _)
  by_cases h:x.toNat=y.toNat
  ·rw [h]
  ·rw [List.set_comm _ _ (Ne.symm h)]
 |trans h1 _ ih1 ih2=>intro l;rw [ih1,ih2]
theorem xA{α β:Type}(p q:α->Bool)(f g:α->β):∀(l:List α),((l.filter p).map f++(l.filter fun a=> !p a&&q a).map g).Perm (l.filterMap fun a=>if p a then some (f a)else if q a then some (g a)else none)
 | []=> .nil
 |a::l=>by
  have ih:=xA p q f g l
  simp only [List.filter_cons,List.filterMap_cons]
  cases p a with
  |true=>simpa using ih
  |false=>
   cases q a with
   |true=>simp only [Bool.false_eq_true,if_false,Bool.not_false,Bool.and_self,if_true,zqA];exact(List.perm_middle).trans (.cons _ ih)
   |false=>simpa using ih
structure ItB(x:ag):Prop where
 b0:0<=x.base
 b1:x.base<=1048576
 l0:0<=x.least
 l1:x.least<=1048576
 m0: -1<=x.most
 m1:x.most<=1048576
 g0:0<=x.grow
 g1:x.grow<=1000
 s0:0<=x.shrink
 s1:x.shrink<=1000
 f0: -1048576<=x.before
 f1:x.before<=1048576
 h0: -1048576<=x.behind
 h1:x.behind<=1048576
theorem ItB.of{x:ag}(h:r8 x=true):ItB x:=by
 simp only [r8,rng,zqs,zqp]at h
 constructor<;>omega
variable {xs:List ag}
theorem fd(h:ep xs=true):(∀x∈xs,ItB x)/\xs.length<=12:=by
 simp only [ep,zqs,zqp,zqf]at h
 exact⟨fun x hx=> .of (h.1 x hx),by omega⟩
theorem AK(h:∀x∈xs,ItB x)(i:Int):ItB (itA xs i):=by
 unfold itA
 cases hx:xs[i.toNat]? with
 |none=>constructor<;>decide
 |some x=>exact h x (zqd hx)
theorem sP{a b A B:Int}(h0:0<=a)(h1:a<=A)(h2:0<=b)(h3:b<=B):0<=a*b/\a*b<=A*B:=⟨Int.mul_nonneg h0 h2,Int.mul_le_mul h1 h3 h2 (by omega)⟩
theorem Fw{a b A B:Int}(h0: -A<=a)(h1:a<=A)(h2:0<=b)(h3:b<=B): -(A*B)<=a*b/\a*b<=A*B:=by
 have hA:0<=A:=by omega
 rcases Int.le_total 0 a with h|h
 ·have:=sP h h1 h2 h3
  have:=Int.mul_nonneg hA (show 0<=B by omega)
  omega
 ·have:=sP (show 0<= -a by omega) (show-a<=A by omega) h2 h3
  rw [Int.neg_mul]at this
  have:=Int.mul_nonneg hA (show 0<=B by omega)
  omega
theorem C1{x:ag}(h:ItB x)(gr:Bool):0<=wgt gr x/\wgt gr x<=1048576000/\(gr=false->wgt gr x=x.shrink*x.base):=by
 obtain⟨h1,h2⟩:=sP h.s0 h.s1 h.b0 h.b1
 have:=h.g0
 have:=h.g1
 cases gr with
 |true=>exact⟨by simp only [wgt,if_true];omega,by simp only [wgt,if_true];omega,fun h=>by cases h⟩
 |false=>
  simp only [wgt,Bool.false_eq_true,if_false]
  have:wrap64 (x.shrink*x.base)=x.shrink*x.base:=by unfold wrap64;omega
  rw [this];omega
theorem wC:∀(ws:List Int)(a:Int)(k:Nat),(∀w∈ws,-144115188075855872<=w/\w<=144115188075855872)-> -(144115188075855872*(k:Int))<=a->a<=144115188075855872*(k:Int)->k+ws.length<=24->oA a ws=a+ws.sum
 | [],a,k,_,_,_,_=>by simp [oA]
 |w::ws,a,k,h,h0,h1,h2=>by
  have hw:=h w (by simp)
  simp only [zqx]at h2
  have hk:(k:Int)<=23:=by omega
  have e:wrap64 (a+w)=a+w:=by unfold wrap64;omega
  rw [oA,e,wC ws (a+w) (k+1) (fun x hx=>h x (by simp [hx])) (by omega) (by omega) (by omega),List.sum_cons]
  omega
theorem C5:∀(ws:List Int),(∀w∈ws,0<=w/\w<=1048576000)->0<=ws.sum/\ws.sum<=1048576000*(ws.length:Int)
 | [],_=>by simp
 |w::ws,h=>by
  have:=C5 ws (fun x hx=>h x (by simp [hx]))
  have:=h w (by simp)
  simp only [List.sum_cons,zqx]
  omega
theorem jQ:∀(fr:List Bool)(i:Int),(fre i fr).length<=fr.length
 | [],_=>by simp [fre]
 |f::fs,i=>by
  have:=jQ fs (i+1)
  cases f<;>simp [fre]<;>omega
section
variable {X:Fx}(hX:ep X.xs = true)
include hX
theorem Fx.ws_bd(fr:List Bool):∀w∈X.ws fr,0<=w/\w<=1048576000:=by
 intro w hw
 simp only [Fx.ws,List.mem_map]at hw
 obtain⟨i,_,rfl⟩:=hw
 have:=C1 (AK (fd hX).1 i) X.gr
 omega
variable {fr:List Bool}
theorem Fx.all_eq(hf:fr.length=X.xs.length):X.all fr=(X.ws fr).sum/\0<=X.all fr/\X.all fr<=12582912000:=by
 have h1:=X.ws_bd hX fr
 have h2:=C5 _ h1
 have h3:=(fd hX).2
 have h4:(X.ws fr).length<=12:=by have:=jQ fr 0;simp only [Fx.ws,zql];omega
 have e:X.all fr=(X.ws fr).sum:=by
  rw [Fx.all,wC _ 0 0 (fun w hw=>by have:=h1 w hw;omega) (by omega) (by omega) (by omega)];omega
 rw [e];omega
theorem Fx.shr_len(hf:fr.length=X.xs.length)(rest:Int):(shr rest (X.ws fr)).length=(fre 0 fr).length:=by
 have h1:=X.ws_bd hX fr
 have h3:=(fd hX).2
 have h4:(X.ws fr).length<=12:=by have:=jQ fr 0;simp only [Fx.ws,zql];omega
 have:zF (X.ws fr)=true:=by
  simp only [zF,rng,zqs,zqp,zqf]
  exact⟨fun w hw=>by have:=h1 w hw;omega,by omega⟩
 rw [shr,if_pos this,wL]
 simp [Fx.ws]
end
theorem vM{x:ag}(h:ItB x)(gr:Bool){A rest:Int}(h0:0<=A)(h1:A<=12582912000)(h2: -1048576<=rest)(h3:rest<=1048576):
  (pr gr A rest x=true↔0<ovr gr A rest x)/\((!pr gr A rest x&&uE gr A rest x)=true↔ovr gr A rest x<0)/\(-144115188075855872<=ovr gr A rest x/\ovr gr A rest x<=144115188075855872)/\
  (uE gr A rest x=true->vd x=pU x)/\∀v:Int,-9223372036854775808<=v->v<=9223372036854775807->uY gr A rest v x=wrap64 (v+ovr gr A rest x):=by
 have hw:=C1 h gr
 obtain⟨b1,b2⟩:=sP h.b0 h.b1 h0 h1
 obtain⟨c1,c2⟩:=sP h.l0 h.l1 h0 h1
 obtain⟨d1,d2⟩:=Fw h2 h3 hw.1 hw.2.1
 have hg:0<=pU x:=by have:=h.l0;unfold pU;split<;>omega
 have hh:pU x<=1048576:=by have:=h.l1;have:=h.m1;unfold pU;split<;>omega
 obtain⟨e1,e2⟩:=sP hg hh h0 h1
 have et:tgt gr A rest x=x.base*A+rest*wgt gr x:=by
  unfold tgt
  rw [show wrap64 (x.base*A)=x.base*A by unfold wrap64;omega,show wrap64 (rest*wgt gr x)=rest*wgt gr x by unfold wrap64;omega]
  unfold wrap64;omega
 have el:wrap64 (x.least*A)=x.least*A:=by unfold wrap64;omega
 have eu:wrap64 (pU x*A)=pU x*A:=by unfold wrap64;omega
 have hf:0<=x.most->vd x=pU x:=fun hm=>by unfold vd pU;split<;>split<;>omega
 obtain⟨t,ht⟩:=nmE (tgt gr A rest x)
 have hj: -14000000000000000<=t:=by rw [ht,et];omega
 have hk:t<=16000000000000000:=by rw [ht,et];omega
 obtain⟨lo,he⟩:=nmE (x.least*A)
 obtain⟨hi,hd⟩:=nmE (pU x*A)
 have ha:pr gr A rest x=decide (t<lo):=by unfold pr;rw [el,<-ht,<-he]
 have hc:uE gr A rest x=(decide (0<=x.most)&&decide (hi<t)):=by unfold uE;rw [eu,<-ht,<-hd]
 have hb:ovr gr A rest x=if t<lo then lo-t else if 0<=x.most/\hi<t then hi-t else 0:=by
  unfold ovr
  rw [ha,el,<-ht,<-he]
  simp only [zqp]
  by_cases h1:t<lo
  ·rw [if_pos h1,if_pos h1];unfold wrap64;omega
  ·rw [if_neg h1,if_neg h1]
   by_cases hm:0<=x.most
   ·rw [hf hm,eu,<-hd]
    by_cases h2:hi<t
    ·rw [if_pos ⟨hm,h2⟩,if_pos ⟨hm,h2⟩];unfold wrap64;omega
    ·rw [if_neg (by omega),if_neg (by omega)]
   ·rw [if_neg (by omega),if_neg (by omega)]
 refine⟨?_,?_,?_,?_,?_⟩
 ·rw [ha,hb,zqp];split<;>(try split)<;>omega
 ·rw [ha,hc,hb]
  simp only [zqs,Bool.not_eq_true',zqp,zqo]
  split<;>(try split)<;>omega
 ·rw [hb];split<;>(try split)<;>omega
 ·rw [hc];simp only [zqs,zqp];exact fun h=>hf h.1
 ·intro v v0 v1
  unfold uY
  rw [ha,hc,hb,el,eu,<-ht,<-he,<-hd]
  simp only [zqs,zqp]
  split
  ·unfold wrap64;omega
  ·split
   ·unfold wrap64;omega
   ·unfold wrap64;omega
theorem C3{gr:Bool}{A rest:Int}(h0:0<=A)(h1:A<=12582912000)(h2: -1048576<=rest)(h3:rest<=1048576){xs:List ag}(hx:∀x∈xs,ItB x):∀(is:List Int)(v:Int)(k:Nat),-(144115188075855872*(k:Int))<=v->v<=144115188075855872*(k:Int)->k+is.length<=24->
  is.foldl (fun v i=>uY gr A rest v (itA xs i)) v=v+(is.map fun i=>ovr gr A rest (itA xs i)).sum
 | [],v,k,_,_,_=>by simp
 |i::is,v,k,g0,g1,g2=>by
  obtain⟨_,_,hb,_,hv⟩:=vM (AK hx i) gr h0 h1 h2 h3
  simp only [zqx]at g2
  have hk:(k:Int)<=23:=by omega
  rw [List.foldl_cons,hv v (by omega) (by omega)]
  have e:wrap64 (v+ovr gr A rest (itA xs i))=v+ovr gr A rest (itA xs i):=by unfold wrap64;omega
  rw [e,C3 h0 h1 h2 h3 hx is _ (k+1) (by omega) (by omega) (by omega),zqA,List.sum_cons]
  omega
theorem Fj(n:Int): -1048576<=sg n/\sg n<=1048576:=by unfold sg bro;split<;>(try split)<;>omega
theorem Da(xs:List ag)(ss:List Int)(gap inner:Int)(gr:Bool): -1048576<=uZ xs ss gap inner gr/\uZ xs ss gap inner gr<=1048576:=by
 simp only [uZ]
 split
 ·omega
 ·exact Fj _
theorem zM:∀(l:List Int),(∀x∈l,x<=0)->l.sum<=0/\((∃x∈l,x<0)->l.sum<0)
 | [],_=>by simp
 |x::l,h=>by
  obtain⟨h1,h2⟩:=zM l (fun y hy=>h y (by simp [hy]))
  have:=h x (by simp)
  simp only [List.sum_cons]
  refine⟨by omega,fun⟨y,hy,hn⟩=> ?_⟩
  rcases List.mem_cons.1 hy with rfl|hy
  ·omega
  ·have:=h2 ⟨y,hy,hn⟩;omega
theorem zL:∀(l:List Int),(∀x∈l,0<=x)->0<=l.sum/\((∃x∈l,0<x)->0<l.sum)
 | [],_=>by simp
 |x::l,h=>by
  obtain⟨h1,h2⟩:=zL l (fun y hy=>h y (by simp [hy]))
  have:=h x (by simp)
  simp only [List.sum_cons]
  refine⟨by omega,fun⟨y,hy,hn⟩=> ?_⟩
  rcases List.mem_cons.1 hy with rfl|hy
  ·omega
  ·have:=h2 ⟨y,hy,hn⟩;omega
theorem px{α β:Type}{f g:α->Option β}:∀{l:List α},(∀a∈l,f a=g a)->l.filterMap f=l.filterMap g
 | [],_=>rfl
 |a::l,h=>by simp only [List.filterMap_cons];rw [h a (by simp),px fun b hb=>h b (by simp [hb])]
theorem Fx.keys_sub(X:Fx)(fr:List Bool)(rest:Int):((X.setS fr rest).map (·.1)).Sublist (fre 0 fr):=by
 have ha:∀(l:List Int)(q:List (Int×Int))(F:Int×Int×Int->Option (Int×Int)),(∀p r,F p=some r->r.1=p.1)->(((l.zip q).filterMap F).map (·.1)).Sublist l:=by
  intro l
  induction l with
  |nil=>intro q F _;simp
  |cons a l ih=>
   intro q F hF
   cases q with
   |nil=>simp
   |cons b q=>
    simp only [List.zip_cons_cons,List.filterMap_cons]
    cases hb:F (a,b)with
    |none=>exact(ih q F hF).cons _
    |some r=>
     simp only [zqA]
     rw [hF _ _ hb]
     exact(ih q F hF).cons_cons _
 refine ha _ _ _ fun p r hp=> ?_
 split at hp
 ·cases hp;rfl
 ·split at hp
  ·cases hp;rfl
  ·split at hp
   ·cases hp;rfl
   ·cases hp
section
variable {X:Fx}(hX:ep X.xs = true){fr:List Bool}(hf:fr.length = X.xs.length){rest:Int}(hr0:-1048576 <= rest)(hr1:rest <= 1048576)
include hX hf hr0 hr1
theorem Fx.facts(i:Int):(pr X.gr (X.all fr) rest (itA X.xs i)=true↔0<ovr X.gr (X.all fr) rest (itA X.xs i))/\((!pr X.gr (X.all fr) rest (itA X.xs i)&&uE X.gr (X.all fr) rest (itA X.xs i))=true↔ovr X.gr (X.all fr) rest (itA X.xs i)<0)/\
  (-144115188075855872<=ovr X.gr (X.all fr) rest (itA X.xs i)/\ovr X.gr (X.all fr) rest (itA X.xs i)<=144115188075855872)/\(uE X.gr (X.all fr) rest (itA X.xs i)=true->vd (itA X.xs i)=pU (itA X.xs i))/\
  ∀v:Int,-9223372036854775808<=v->v<=9223372036854775807->uY X.gr (X.all fr) rest v (itA X.xs i)=wrap64 (v+ovr X.gr (X.all fr) rest (itA X.xs i)):=vM (AK (fd hX).1 i) X.gr (X.all_eq hX hf).2.1 (X.all_eq hX hf).2.2 hr0 hr1
theorem Fx.ovs_eq:oA 0 (X.ovs fr rest)=(X.ovs fr rest).sum/\X.vio fr rest=(X.ovs fr rest).sum:=by
 have h3:=(fd hX).2
 have h4:=jQ fr 0
 constructor
 ·rw [wC _ 0 0 (fun w hw=> ?_) (by omega) (by omega) (by simp only [Fx.ovs,zql];omega)]
  ·omega
  ·simp only [Fx.ovs,List.mem_map]at hw
   obtain⟨i,_,rfl⟩:=hw
   exact(X.facts hX hf hr0 hr1 i).2.2.1
 ·rw [Fx.vio,C3 (X.all_eq hX hf).2.1 (X.all_eq hX hf).2.2 hr0 hr1 (fd hX).1 _ 0 0 (by omega) (by omega) (by omega),Fx.ovs]
  omega
theorem Fx.some_iff:((X.ovs fr rest).any fun o=>o !=0)=false↔(X.low fr rest=[]/\X.hig fr rest=[]):=by
 rw [List.any_eq_false]
 simp only [Fx.ovs,Fx.low,Fx.hig,List.mem_map,bne_iff_ne,ne_eq,Decidable.not_not,List.filter_eq_nil_iff]
 constructor
 ·intro h
  refine⟨fun i hi hl=> ?_,fun i hi hl=> ?_⟩
  ·have:=(X.facts hX hf hr0 hr1 i).1.1 hl
   have:=h _ ⟨i,hi,rfl⟩
   omega
  ·have:=(X.facts hX hf hr0 hr1 i).2.1.1 hl
   have:=h _ ⟨i,hi,rfl⟩
   omega
 ·rintro⟨h1,h2⟩ o ⟨i,hi,rfl⟩
  have f:=X.facts hX hf hr0 hr1 i
  rcases Int.lt_trichotomy (ovr X.gr (X.all fr) rest (itA X.xs i)) 0 with h|h|h
  ·exact absurd (f.2.1.2 h) (h2 i hi)
  ·exact h
  ·exact absurd (f.1.2 h) (h1 i hi)
theorem Fx.set_perm:(X.setI fr rest).Perm (X.setS fr rest):=by
 obtain⟨hg,hh⟩:=X.ovs_eq hX hf hr0 hr1
 have ha:=X.shr_len hX hf rest
 obtain⟨sh,hb⟩:=nmE (shr rest (X.ws fr))
 rw [<-hb]at ha
 unfold Fx.setI
 split
 ·rename_i h
  have hd:=(X.some_iff hX hf hr0 hr1).2 h
  simp only [Fx.setS,Fx.shs,hd,if_true,<-hb]
  have he:∀(l:List Int)(o s:List Int),o.length=l.length->s.length=l.length->(l.zip s).map (fun p=>(p.1,cl (wrap64 ((itA X.xs p.1).base+p.2))))=(l.zip (o.zip s)).filterMap fun p=>some (p.1,cl (wrap64 ((itA X.xs p.1).base+p.2.2))):=by
   intro l
   induction l with
   |nil=>intro o s _ _;simp
   |cons a l ih=>
    intro o s h1 h2
    match o,s,h1,h2 with
    |o0::o,s0::s,h1,h2=>simp only [List.zip_cons_cons,zqA,List.filterMap_cons];rw [ih o s (by simpa using h1) (by simpa using h2)]
    | [],_,h1,_=>simp at h1
    |_::_,[],_,h2=>simp at h2
  rw [he (fre 0 fr) (X.ovs fr rest) sh (by simp [Fx.ovs]) ha]
 ·rename_i h
  have hd:((X.ovs fr rest).any fun o=>o !=0)=true:=by
   cases hc:(X.ovs fr rest).any fun o=>o !=0
   ·exact absurd ((X.some_iff hX hf hr0 hr1).1 hc) h
   ·rfl
  simp only [Fx.setS,hd,<-hb]
  rw [hg,<-hh]
  have he:∀(l:List Int)(s:List Int)(F:Int->Int->Option (Int×Int))(G:Int->Int),s.length=l.length->(l.zip ((l.map G).zip s)).filterMap (fun p=>F p.1 p.2.1)=l.filterMap fun i=>F i (G i):=by
   intro l
   induction l with
   |nil=>intro s F G _;simp
   |cons a l ih=>
    intro s F G h1
    match s,h1 with
    |s0::s,h1=>simp only [zqA,List.zip_cons_cons,List.filterMap_cons];rw [ih s F G (by simpa using h1)]
    | [],h1=>simp at h1
  have k2:=he (fre 0 fr) sh (fun i o=>if 0<o/\0<=X.vio fr rest then some (i,(itA X.xs i).least)else if o<0/\X.vio fr rest<=0 then some (i,vd (itA X.xs i))else none) (fun i=>ovr X.gr (X.all fr) rest (itA X.xs i)) ha
  simp only [Bool.true_eq_false,if_false]
  rw [show X.ovs fr rest=(fre 0 fr).map fun i=>ovr X.gr (X.all fr) rest (itA X.xs i)from rfl,k2]
  have tp:=xA (fun i=>pr X.gr (X.all fr) rest (itA X.xs i)) (fun i=>uE X.gr (X.all fr) rest (itA X.xs i)) (fun i=>(i,(itA X.xs i).least)) (fun i=>(i,pU (itA X.xs i))) (fre 0 fr)
  rcases Int.lt_trichotomy (X.vio fr rest) 0 with hv|hv|hv
  ·rw [if_neg (by omega),if_pos (by omega),List.nil_append,Fx.hig]
   refine .of_eq ?_
   rw [<-List.filterMap_eq_map,List.filterMap_filter]
   refine px fun i hi=> ?_
   obtain⟨f1,f2,_,f4,_⟩:=X.facts hX hf hr0 hr1 i
   clear k2 tp he hb hd h ha hg hh
   grind
  ·rw [if_pos (by omega),if_pos (by omega)]
   refine tp.trans (.of_eq (px fun i hi=> ?_))
   obtain⟨f1,f2,_,f4,_⟩:=X.facts hX hf hr0 hr1 i
   clear k2 tp he hb hd h ha hg hh
   grind
  ·rw [if_pos (by omega),if_neg (by omega),List.append_nil,Fx.low]
   refine .of_eq ?_
   rw [<-List.filterMap_eq_map,List.filterMap_filter]
   refine px fun i hi=> ?_
   obtain⟨f1,f2,_,f4,_⟩:=X.facts hX hf hr0 hr1 i
   clear k2 tp he hb hd h ha hg hh
   grind
theorem Fx.keys_ne(hne:fre 0 fr≠[]):X.setI fr rest≠[]:=by
 obtain⟨hh,hj⟩:=X.ovs_eq hX hf hr0 hr1
 have hd:=X.shr_len hX hf rest
 unfold Fx.setI
 split
 ·rename_i h
  intro hc
  rw [Fx.shs,List.map_eq_nil_iff]at hc
  have:(List.zip (fre 0 fr) (shr rest (X.ws fr))).length=0:=by rw [hc];rfl
  rw [zqB,hd,Nat.min_self]at this
  exact hne (zqv this)
 ·rename_i h
  intro hc
  rw [List.append_eq_nil_iff]at hc
  obtain⟨he,hg⟩:=hc
  have hb:0<=X.vio fr rest->X.low fr rest=[]:=fun hv=>by rw [if_pos hv]at he;simpa using he
  have ha:X.vio fr rest<=0->X.hig fr rest=[]:=fun hv=>by rw [if_pos hv]at hg;simpa using hg
  rcases Int.lt_trichotomy (X.vio fr rest) 0 with hv|hv|hv
  ·have h1:=ha (by omega)
   have:0<=(X.ovs fr rest).sum:=(zL _ fun o ho=>by
    simp only [Fx.ovs,List.mem_map]at ho
    obtain⟨i,hi,rfl⟩:=ho
    have f:=X.facts hX hf hr0 hr1 i
    have hn:¬ovr X.gr (X.all fr) rest (itA X.xs i)<0:=fun hc=>by
     have:=f.2.1.2 hc
     have hm:i∈X.hig fr rest:=by rw [Fx.hig,List.mem_filter];exact⟨hi,this⟩
     rw [h1]at hm;cases hm
    omega).1
   omega
  ·exact h ⟨hb (by omega),ha (by omega)⟩
  ·have h1:=hb (by omega)
   have:(X.ovs fr rest).sum<=0:=(zM _ fun o ho=>by
    simp only [Fx.ovs,List.mem_map]at ho
    obtain⟨i,hi,rfl⟩:=ho
    have f:=X.facts hX hf hr0 hr1 i
    have hn:¬0<ovr X.gr (X.all fr) rest (itA X.xs i):=fun hc=>by
     have:=f.1.2 hc
     have hm:i∈X.low fr rest:=by rw [Fx.low,List.mem_filter];exact⟨hi,this⟩
     rw [h1]at hm;cases hm
    omega).1
   omega
end
theorem xe:∀(fr:List Bool)(i j:Int),0<=i->(fre i (fr.set (j-i).toNat true)).length<=(fre i fr).length/\(j∈fre i fr->(fre i (fr.set (j-i).toNat true)).length<(fre i fr).length)
 | [],_,_,_=>by simp [fre]
 |f::fs,i,j,h0=>by
  by_cases hj:j<=i
  ·rw [show(j-i).toNat=0 by omega,List.set_cons_zero]
   have hb:∀k∈fre (i+1) fs,i<k:=fun k hk=>by have:=gO fs (i+1) (by omega) k hk;omega
   cases f with
   |true=>
    simp only [fre,if_true]
    exact⟨Nat.le_refl _,fun hm=>by have:=hb j hm;omega⟩
   |false=>simp only [fre,if_true,Bool.false_eq_true,if_false,zqx];exact⟨by omega,fun _=>by omega⟩
  ·obtain⟨hc,ha⟩:=xe fs (i+1) j (by omega)
   rw [show(j-i).toNat=(j-(i+1)).toNat+1 by omega,List.set_cons_succ]
   cases f with
   |true=>simp only [fre,if_true];exact⟨hc,ha⟩
   |false=>
    simp only [fre,Bool.false_eq_true,if_false,zqx,List.mem_cons]
    refine⟨by omega,fun hm=> ?_⟩
    rcases hm with hm|hm
    ·omega
    ·have:=ha hm;omega
theorem yo:∀(is:List Int)(fr:List Bool),(fre 0 (oE is fr)).length<=(fre 0 fr).length
 | [],_=>Nat.le_refl _
 |i::is,fr=>by
  have h1:=yo is (fr.set i.toNat true)
  have h2:=(xe fr 0 i (by omega)).1
  rw [Int.sub_zero]at h2
  exact Nat.le_trans h1 h2
section
variable {X:Fx}(hX:ep X.xs = true)
include hX
theorem Fx.run_eq:∀(k:Nat)(sz:List Int)(fr:List Bool),fr.length=X.xs.length->sz.length=X.xs.length->X.runS k (mix X.xs fr sz) fr=X.runI k sz fr
 |0,_,_,_,_=>rfl
 |k+1,sz,fr,h1,h2=>by
  unfold Fx.runS Fx.runI
  by_cases hn:fre 0 fr=[]
  ·rw [if_pos hn,if_pos hn,yg _ _ _ 0 h1 h2 hn]
  ·rw [if_neg hn,if_neg hn]
   have hr:X.rI fr sz=uZ X.xs (mix X.xs fr sz) X.gap X.inner X.gr:=rfl
   obtain⟨r,hc⟩:=nmE (uZ X.xs (mix X.xs fr sz) X.gap X.inner X.gr)
   rw [hr,<-hc]
   have hb:=Da X.xs (mix X.xs fr sz) X.gap X.inner X.gr
   rw [<-hc]at hb
   have hp:=X.set_perm hX h1 hb.1 hb.2
   have hk:=X.keys_sub fr r
   have hd:(X.setS fr r).Pairwise fun a b=>a.1.toNat≠b.1.toNat:=by
    have:=((uI fr 0 (by omega)).sublist hk)
    rw [List.pairwise_map]at this
    have hm:∀a∈X.setS fr r,0<=a.1:=fun a ha=>(gO fr 0 (by omega) a.1 (hk.mem (List.mem_map.2 ⟨a,ha,rfl⟩))).1
    refine this.imp_of_mem fun{a b} ha hb hab=> ?_
    have:=hm a ha
    have:=hm b hb
    omega
   have e1:∀l,o3 (X.setS fr r) l=o3 (X.setI fr r) l:=fun l=>zU hp.symm hd l
   have e2:oE ((X.setS fr r).map (·.1)) fr=oE ((X.setI fr r).map (·.1)) fr:=zW (hp.symm.map _) fr
   rw [e1,e2,<-yf X.xs (X.setI fr r) fr sz h1 h2]
   exact Fx.run_eq k _ _ (by rw [nj];exact h1) (by rw [ni];exact h2)
theorem Fx.run_some:∀(k:Nat)(sz:List Int)(fr:List Bool),fr.length=X.xs.length->(fre 0 fr).length<k->∃r,X.runI k sz fr=some r/\r.length=sz.length
 |0,_,_,_,h=>absurd h (Nat.not_lt_zero _)
 |k+1,sz,fr,h1,h2=>by
  unfold Fx.runI
  by_cases hn:fre 0 fr=[]
  ·rw [if_pos hn];exact⟨sz,rfl,rfl⟩
  ·rw [if_neg hn]
   have hb:=Da X.xs (mix X.xs fr sz) X.gap X.inner X.gr
   have ha:=X.keys_ne hX h1 hb.1 hb.2 hn
   have hp:=X.set_perm hX h1 hb.1 hb.2
   have hk:=X.keys_sub fr (uZ X.xs (mix X.xs fr sz) X.gap X.inner X.gr)
   obtain⟨r,hr⟩:=nmE (X.rI fr sz)
   have he:uZ X.xs (mix X.xs fr sz) X.gap X.inner X.gr=r:=hr.symm
   rw [he]at ha hp hk
   rw [<-hr]
   have hf:(fre 0 (oE ((X.setI fr r).map (·.1)) fr)).length<(fre 0 fr).length:=by
    match hs:X.setI fr r,ha with
    |p::ps,_=>
     rw [hs]at hp
     have hm:p.1∈fre 0 fr:=hk.mem (List.mem_map.2 ⟨p,hp.mem_iff.1 (by simp),rfl⟩)
     have h3:=(xe fr 0 p.1 (by omega)).2 hm
     rw [Int.sub_zero]at h3
     exact Nat.lt_of_le_of_lt (yo (ps.map (·.1)) (fr.set p.1.toNat true)) h3
   obtain⟨q,hc,hd⟩:=Fx.run_some k (o3 (X.setI fr r) sz) (oE ((X.setI fr r).map (·.1)) fr) (by rw [nj];exact h1) (by omega)
   exact⟨q,hc,by rw [hd,ni]⟩
end
variable {α:Type}
theorem bv(c:α->Array Value)(xs:List α)(x:α):vw c (xs++[x])=vw c xs++[lc (c x)]:=by simp [vw]
theorem jf(c:α->Array Value)(xs:List α){y:List AC}(h:y.all dP=true):aC (vw c xs++[y])=true:=by
 have:=aF c xs
 simp only [aC,List.all_append,zqD,List.all_nil,h,Bool.and_true]at this⊢
 exact this
theorem aQ(c:α->Array Value)(xs:List α):aX (vw c xs)=(xs.length:Int):=by rw [az,aq]
end Go.Proofs.YtckchgoblpgpbaaGreat
