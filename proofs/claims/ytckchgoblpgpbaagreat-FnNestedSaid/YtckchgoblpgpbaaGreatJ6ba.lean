/- Weights, shares, items: contracts. -/
import Derived.Test.YtckchgoblpgpbaaGreatJ6az
set_option linter.unusedVariables false
set_option linter.unusedSimpArgs false
set_option maxHeartbeats 1600000
namespace Go.Proofs.YtckchgoblpgpbaaGreat
open Go.ChangeShapes Go.WideShapes Go.ChangeAt Go.RowKit Am Go.Proofs.Tryz
set_option maxRecDepth 100000
def yX(x:aj):Int:=if 0<=x.most/\x.most<x.least then x.least else x.most
def nQ(x:aj):Int:=if x.most<x.least then x.least else x.most
def BH(x:aj):Bool:=rng x.base 0 1048576&&(rng x.least 0 1048576&&(rng x.most (-1) 1048576&&(rng x.grow 0 1000&&(rng x.shrink 0 1000&&(rng x.before (-1048576) 1048576&&rng x.behind (-1048576) 1048576)))))
def gl(xs:List aj):Bool:=xs.all BH&&decide ((xs.length:Int)<=12)
def wgt(gr:Bool)(x:aj):Int:=if gr then x.grow else wrap64 (x.shrink*x.base)
def AN(xs:List aj)(gap inner:Int):Bool:=decide (wrap64 (ji xs (xs.map hyp) gap)<inner)
def yR(ws:List Int):Bool:=ws.all (fun w=>rng w 0 1073741824)&&decide ((ws.length:Int)<=64)
def uj:Int->List Int->Int
 |a,[]=>a
 |a,w::ws=>uj (wrap64 (a+w)) ws
def shG(n all:Int):Int->List Int->List Int
 |_,[]=>[]
 |s,w::ws=>wrap64 (fdv (wrap64 (n*wrap64 (s+w))) all-fdv (wrap64 (n*s)) all)::shG n all (wrap64 (s+w)) ws
def shr(n:Int)(ws:List Int):List Int:=if yR ws then shG (sg n) (uj 0 ws) 0 ws else []
theorem rY(n all:Int):∀(s:Int)(ws:List Int),(shG n all s ws).length=ws.length
 |_,[]=>rfl
 |s,w::ws=>by simp [shG,rY n all]
def itA(xs:List aj)(i:Int):aj:=xs[i.toNat]?.getD ⟨0,0,0,0,0,0,0,false,false⟩
def fre:Int->List Bool->List Int
 |_,[]=>[]
 |i,f::fs=>if f then fre (i+1) fs else i::fre (i+1) fs
def mix:List aj->List Bool->List Int->List Int
 |x::xs,f::fs,s::ss=>(if f then s else x.base)::mix xs fs ss
 |_,_,_=>[]
def Ae(xs:List aj)(ss:List Int)(gap inner:Int)(gr:Bool):Int:=
 let n:=wrap64 (inner-wrap64 (ji xs ss gap))
 if(gr=true/\n<0)\/(gr=false/\0<n)then 0 else sg n
def tgt(gr:Bool)(all rest:Int)(x:aj):Int:=wrap64 (wrap64 (x.base*all)+wrap64 (rest*wgt gr x))
def n4(gr:Bool)(all rest:Int)(x:aj):Bool:=decide (tgt gr all rest x<wrap64 (x.least*all))
def qH(gr:Bool)(all rest:Int)(x:aj):Bool:=decide (0<=x.most)&&decide (wrap64 (nQ x*all)<tgt gr all rest x)
def qG(gr:Bool)(all rest:Int)(v:Int)(x:aj):Int:=
 if n4 gr all rest x then wrap64 (v+wrap64 (wrap64 (x.least*all)-tgt gr all rest x))else if qH gr all rest x then wrap64 (v-wrap64 (tgt gr all rest x-wrap64 (nQ x*all)))else v
def ovr(gr:Bool)(all rest:Int)(x:aj):Int:=
 if n4 gr all rest x then wrap64 (wrap64 (x.least*all)-tgt gr all rest x)else if 0<=x.most/\wrap64 (yX x*all)<tgt gr all rest x then wrap64 (wrap64 (yX x*all)-tgt gr all rest x)else 0
def vO(ps:List (Int×Int))(l:List Int):List Int:=ps.foldl (fun l p=>l.set p.1.toNat p.2) l
def ul(is:List Int)(l:List Bool):List Bool:=is.foldl (fun l i=>l.set i.toNat true) l
structure Fx where
 xs:List aj
 gap:Int
 inner:Int
 gr:Bool
def Fx.ws(X:Fx)(fr:List Bool):List Int:=(fre 0 fr).map fun i=>wgt X.gr (itA X.xs i)
def Fx.all(X:Fx)(fr:List Bool):Int:=uj 0 (X.ws fr)
def Fx.low(X:Fx)(fr:List Bool)(rest:Int):List Int:=(fre 0 fr).filter fun i=>n4 X.gr (X.all fr) rest (itA X.xs i)
def Fx.hig(X:Fx)(fr:List Bool)(rest:Int):List Int:=(fre 0 fr).filter fun i=> !n4 X.gr (X.all fr) rest (itA X.xs i)&&qH X.gr (X.all fr) rest (itA X.xs i)
def Fx.vio(X:Fx)(fr:List Bool)(rest:Int):Int:=(fre 0 fr).foldl (fun v i=>qG X.gr (X.all fr) rest v (itA X.xs i)) 0
def Fx.shs(X:Fx)(fr:List Bool)(rest:Int):List (Int×Int):=((fre 0 fr).zip (shr rest (X.ws fr))).map fun p=>(p.1,cl (wrap64 ((itA X.xs p.1).base+p.2)))
def Fx.setI(X:Fx)(fr:List Bool)(rest:Int):List (Int×Int):=
 if X.low fr rest=[]/\X.hig fr rest=[]then X.shs fr rest
 else(if 0<=X.vio fr rest then(X.low fr rest).map fun i=>(i,(itA X.xs i).least)else [])++(if X.vio fr rest<=0 then(X.hig fr rest).map fun i=>(i,nQ (itA X.xs i))else [])
def Fx.rI(X:Fx)(fr:List Bool)(sz:List Int):Int:=Ae X.xs (mix X.xs fr sz) X.gap X.inner X.gr
def Fx.runI(X:Fx):Nat->List Int->List Bool->Option (List Int)
 |0,_,_=>none
 |k+1,sz,fr=>if fre 0 fr=[]then some sz else X.runI k (vO (X.setI fr (X.rI fr sz)) sz) (ul ((X.setI fr (X.rI fr sz)).map (·.1)) fr)
def Fx.ovs(X:Fx)(fr:List Bool)(rest:Int):List Int:=(fre 0 fr).map fun i=>ovr X.gr (X.all fr) rest (itA X.xs i)
def Fx.setS(X:Fx)(fr:List Bool)(rest:Int):List (Int×Int):=
 let some_:=(X.ovs fr rest).any fun o=>o !=0
 let sum:=uj 0 (X.ovs fr rest)
 ((fre 0 fr).zip ((X.ovs fr rest).zip (shr rest (X.ws fr)))).filterMap fun p=>
  if some_=false then some (p.1,cl (wrap64 ((itA X.xs p.1).base+p.2.2)))
  else if 0<p.2.1/\0<=sum then some (p.1,(itA X.xs p.1).least)
  else if p.2.1<0/\sum<=0 then some (p.1,yX (itA X.xs p.1))else none
theorem wC:∀(xs:List aj)(fr:List Bool)(sz:List Int),fr.length=xs.length->sz.length=xs.length->(mix xs fr sz).length=xs.length
 | [],_,_,_,_=>rfl
 |x::xs,f::fs,s::ss,h1,h2=>by simp only [mix,zqx];rw [wC xs fs ss (by simpa using h1) (by simpa using h2)]
 |_::_,[],_,h,_=>by simp at h
 |_::_,_::_,[],_,h=>by simp at h
theorem pu:∀(ps:List (Int×Int))(l:List Int),(vO ps l).length=l.length
 | [],_=>rfl
 |p::ps,l=>by show(vO ps _).length=_;rw [pu ps];simp
theorem pv:∀(ps:List Int)(l:List Bool),(ul ps l).length=l.length
 | [],_=>rfl
 |p::ps,l=>by show(ul ps _).length=_;rw [pv ps];simp
theorem jL:∀(fr:List Bool)(i:Int),0<=i->∀j∈fre i fr,i<=j/\j<i+fr.length/\fr[(j-i).toNat]? =some false
 | [],_,_,j,h=>by simp [fre]at h
 |f::fs,i,h0,j,h=>by
  have ha:j∈fre (i+1) fs->i<=j/\j<i+(f::fs).length/\(f::fs)[(j-i).toNat]? =some false:=fun h=>by
   have:=jL fs (i+1) (by omega) j h
   simp only [zqx]
   refine⟨by omega,by omega,?_⟩
   rw [show(j-i).toNat=(j-(i+1)).toNat+1 by omega]
   exact this.2.2
  simp only [fre]at h
  cases f with
  |true=>exact ha (by simpa using h)
  |false=>
   simp only [Bool.false_eq_true,if_false,List.mem_cons]at h
   rcases h with rfl|h
   ·exact⟨Int.le_refl _,by simp;omega,by simp⟩
   ·exact ha h
theorem sT{α β:Type}(p q:α->Bool)(f g:α->β):∀(l:List α),((l.filter p).map f++(l.filter fun a=> !p a&&q a).map g).Perm (l.filterMap fun a=>if p a then some (f a)else if q a then some (g a)else none)
 | []=> .nil
 |a::l=>by
  have ih:=sT p q f g l
  simp only [List.filter_cons,List.filterMap_cons]
  cases p a with
  |true=>simpa using ih
  |false=>
   cases q a with
   |true=>simp only [Bool.false_eq_true,if_false,Bool.not_false,Bool.and_self,if_true,zqA];exact(List.perm_middle).trans (.cons _ ih)
   |false=>simpa using ih
structure ItB(x:aj):Prop where
 b0:0<=x.base
 b1:x.base<=1048576
 l0:0<=x.least
 l1:x.least<=1048576
 m0: -1<=x.most
 m1:x.most<=1048576
 g0:0<=x.grow
 g1:x.grow<=1000
 s0:0<=x.shrink
 s1:x.shrink<=1000
 f0: -1048576<=x.before
 f1:x.before<=1048576
 h0: -1048576<=x.behind
 h1:x.behind<=1048576
theorem ItB.of{x:aj}(h:BH x=true):ItB x:=by
 simp only [BH,rng,zqs,zqp]at h
 constructor<;>omega
variable {xs:List aj}
theorem ei(h:gl xs=true):(∀x∈xs,ItB x)/\xs.length<=12:=by
 simp only [gl,zqs,zqp,zqf]at h
 exact⟨fun x hx=> .of (h.1 x hx),by omega⟩
theorem wL(h:∀x∈xs,ItB x)(i:Int):ItB (itA xs i):=by
 unfold itA
 cases hx:xs[i.toNat]? with
 |none=>constructor<;>decide
 |some x=>exact h x (zqd hx)
theorem oO{a b A B:Int}(h0:0<=a)(h1:a<=A)(h2:0<=b)(h3:b<=B):0<=a*b/\a*b<=A*B:=⟨Int.mul_nonneg h0 h2,Int.mul_le_mul h1 h3 h2 (by omega)⟩
theorem Cq{a b A B:Int}(h0: -A<=a)(h1:a<=A)(h2:0<=b)(h3:b<=B): -(A*B)<=a*b/\a*b<=A*B:=by
 have hA:0<=A:=by omega
 rcases Int.le_total 0 a with h|h
 ·have:=oO h h1 h2 h3
  have:=Int.mul_nonneg hA (show 0<=B by omega)
  omega
 ·have:=oO (show 0<= -a by omega) (show-a<=A by omega) h2 h3
  rw [Int.neg_mul]at this
  have:=Int.mul_nonneg hA (show 0<=B by omega)
  omega
theorem yT{x:aj}(h:ItB x)(gr:Bool):0<=wgt gr x/\wgt gr x<=1048576000/\(gr=false->wgt gr x=x.shrink*x.base):=by
 obtain⟨h1,h2⟩:=oO h.s0 h.s1 h.b0 h.b1
 have:=h.g0
 have:=h.g1
 cases gr with
 |true=>exact⟨by simp only [wgt,if_true];omega,by simp only [wgt,if_true];omega,fun h=>by cases h⟩
 |false=>
  simp only [wgt,Bool.false_eq_true,if_false]
  have:wrap64 (x.shrink*x.base)=x.shrink*x.base:=by unfold wrap64;omega
  rw [this];omega
theorem rN:∀(ws:List Int)(a:Int)(k:Nat),(∀w∈ws,-144115188075855872<=w/\w<=144115188075855872)-> -(144115188075855872*(k:Int))<=a->a<=144115188075855872*(k:Int)->k+ws.length<=24->uj a ws=a+ws.sum
 | [],a,k,_,_,_,_=>by simp [uj]
 |w::ws,a,k,h,h0,h1,h2=>by
  have hw:=h w (by simp)
  simp only [zqx]at h2
  have hk:(k:Int)<=23:=by omega
  have e:wrap64 (a+w)=a+w:=by unfold wrap64;omega
  rw [uj,e,rN ws (a+w) (k+1) (fun x hx=>h x (by simp [hx])) (by omega) (by omega) (by omega),List.sum_cons]
  omega
theorem yZ:∀(ws:List Int),(∀w∈ws,0<=w/\w<=1048576000)->0<=ws.sum/\ws.sum<=1048576000*(ws.length:Int)
 | [],_=>by simp
 |w::ws,h=>by
  have:=yZ ws (fun x hx=>h x (by simp [hx]))
  have:=h w (by simp)
  simp only [List.sum_cons,zqx]
  omega
theorem jM:∀(fr:List Bool)(i:Int),(fre i fr).length<=fr.length
 | [],_=>by simp [fre]
 |f::fs,i=>by
  have:=jM fs (i+1)
  cases f<;>simp [fre]<;>omega
section
variable {X:Fx}(hX:gl X.xs = true)
include hX
theorem Fx.ws_bd(fr:List Bool):∀w∈X.ws fr,0<=w/\w<=1048576000:=by
 intro w hw
 simp only [Fx.ws,List.mem_map]at hw
 obtain⟨i,_,rfl⟩:=hw
 have:=yT (wL (ei hX).1 i) X.gr
 omega
variable {fr:List Bool}
theorem Fx.all_eq(hf:fr.length=X.xs.length):X.all fr=(X.ws fr).sum/\0<=X.all fr/\X.all fr<=12582912000:=by
 have h1:=X.ws_bd hX fr
 have h2:=yZ _ h1
 have h3:=(ei hX).2
 have h4:(X.ws fr).length<=12:=by have:=jM fr 0;simp only [Fx.ws,zql];omega
 have e:X.all fr=(X.ws fr).sum:=by
  rw [Fx.all,rN _ 0 0 (fun w hw=>by have:=h1 w hw;omega) (by omega) (by omega) (by omega)];omega
 rw [e];omega
theorem Fx.shr_len(hf:fr.length=X.xs.length)(rest:Int):(shr rest (X.ws fr)).length=(fre 0 fr).length:=by
 have h1:=X.ws_bd hX fr
 have h3:=(ei hX).2
 have h4:(X.ws fr).length<=12:=by have:=jM fr 0;simp only [Fx.ws,zql];omega
 have:yR (X.ws fr)=true:=by
  simp only [yR,rng,zqs,zqp,zqf]
  exact⟨fun w hw=>by have:=h1 w hw;omega,by omega⟩
 rw [shr,if_pos this,rY]
 simp [Fx.ws]
end
theorem ra{x:aj}(h:ItB x)(gr:Bool){A rest:Int}(h0:0<=A)(h1:A<=12582912000)(h2: -1048576<=rest)(h3:rest<=1048576):
  (n4 gr A rest x=true↔0<ovr gr A rest x)/\((!n4 gr A rest x&&qH gr A rest x)=true↔ovr gr A rest x<0)/\(-144115188075855872<=ovr gr A rest x/\ovr gr A rest x<=144115188075855872)/\
  (qH gr A rest x=true->yX x=nQ x)/\∀v:Int,-9223372036854775808<=v->v<=9223372036854775807->qG gr A rest v x=wrap64 (v+ovr gr A rest x):=by
 have hw:=yT h gr
 obtain⟨b1,b2⟩:=oO h.b0 h.b1 h0 h1
 obtain⟨c1,c2⟩:=oO h.l0 h.l1 h0 h1
 obtain⟨d1,d2⟩:=Cq h2 h3 hw.1 hw.2.1
 have hg:0<=nQ x:=by have:=h.l0;unfold nQ;split<;>omega
 have hh:nQ x<=1048576:=by have:=h.l1;have:=h.m1;unfold nQ;split<;>omega
 obtain⟨e1,e2⟩:=oO hg hh h0 h1
 have et:tgt gr A rest x=x.base*A+rest*wgt gr x:=by
  unfold tgt
  rw [show wrap64 (x.base*A)=x.base*A by unfold wrap64;omega,show wrap64 (rest*wgt gr x)=rest*wgt gr x by unfold wrap64;omega]
  unfold wrap64;omega
 have el:wrap64 (x.least*A)=x.least*A:=by unfold wrap64;omega
 have eu:wrap64 (nQ x*A)=nQ x*A:=by unfold wrap64;omega
 have hf:0<=x.most->yX x=nQ x:=fun hm=>by unfold yX nQ;split<;>split<;>omega
 obtain⟨t,ht⟩:=nmE (tgt gr A rest x)
 have hj: -14000000000000000<=t:=by rw [ht,et];omega
 have hk:t<=16000000000000000:=by rw [ht,et];omega
 obtain⟨lo,he⟩:=nmE (x.least*A)
 obtain⟨hi,hd⟩:=nmE (nQ x*A)
 have ha:n4 gr A rest x=decide (t<lo):=by unfold n4;rw [el,<-ht,<-he]
 have hc:qH gr A rest x=(decide (0<=x.most)&&decide (hi<t)):=by unfold qH;rw [eu,<-ht,<-hd]
 have hb:ovr gr A rest x=if t<lo then lo-t else if 0<=x.most/\hi<t then hi-t else 0:=by
  unfold ovr
  rw [ha,el,<-ht,<-he]
  simp only [zqp]
  by_cases h1:t<lo
  ·rw [if_pos h1,if_pos h1];unfold wrap64;omega
  ·rw [if_neg h1,if_neg h1]
   by_cases hm:0<=x.most
   ·rw [hf hm,eu,<-hd]
    by_cases h2:hi<t
    ·rw [if_pos ⟨hm,h2⟩,if_pos ⟨hm,h2⟩];unfold wrap64;omega
    ·rw [if_neg (by omega),if_neg (by omega)]
   ·rw [if_neg (by omega),if_neg (by omega)]
 refine⟨?_,?_,?_,?_,?_⟩
 ·rw [ha,hb,zqp];split<;>(try split)<;>omega
 ·rw [ha,hc,hb]
  simp only [zqs,Bool.not_eq_true',zqp,zqo]
  split<;>(try split)<;>omega
 ·rw [hb];split<;>(try split)<;>omega
 ·rw [hc];simp only [zqs,zqp];exact fun h=>hf h.1
 ·intro v v0 v1
  unfold qG
  rw [ha,hc,hb,el,eu,<-ht,<-he,<-hd]
  simp only [zqs,zqp]
  split
  ·unfold wrap64;omega
  ·split
   ·unfold wrap64;omega
   ·unfold wrap64;omega
theorem yV{gr:Bool}{A rest:Int}(h0:0<=A)(h1:A<=12582912000)(h2: -1048576<=rest)(h3:rest<=1048576){xs:List aj}(hx:∀x∈xs,ItB x):∀(is:List Int)(v:Int)(k:Nat),-(144115188075855872*(k:Int))<=v->v<=144115188075855872*(k:Int)->k+is.length<=24->
  is.foldl (fun v i=>qG gr A rest v (itA xs i)) v=v+(is.map fun i=>ovr gr A rest (itA xs i)).sum
 | [],v,k,_,_,_=>by simp
 |i::is,v,k,g0,g1,g2=>by
  obtain⟨_,_,hb,_,hv⟩:=ra (wL hx i) gr h0 h1 h2 h3
  simp only [zqx]at g2
  have hk:(k:Int)<=23:=by omega
  rw [List.foldl_cons,hv v (by omega) (by omega)]
  have e:wrap64 (v+ovr gr A rest (itA xs i))=v+ovr gr A rest (itA xs i):=by unfold wrap64;omega
  rw [e,yV h0 h1 h2 h3 hx is _ (k+1) (by omega) (by omega) (by omega),zqA,List.sum_cons]
  omega
theorem Dy(n:Int): -1048576<=sg n/\sg n<=1048576:=by unfold sg bro;split<;>(try split)<;>omega
theorem Cf(xs:List aj)(ss:List Int)(gap inner:Int)(gr:Bool): -1048576<=Ae xs ss gap inner gr/\Ae xs ss gap inner gr<=1048576:=by
 simp only [Ae]
 split
 ·omega
 ·exact Dy _
theorem vD:∀(l:List Int),(∀x∈l,x<=0)->l.sum<=0/\((∃x∈l,x<0)->l.sum<0)
 | [],_=>by simp
 |x::l,h=>by
  obtain⟨h1,h2⟩:=vD l (fun y hy=>h y (by simp [hy]))
  have:=h x (by simp)
  simp only [List.sum_cons]
  refine⟨by omega,fun⟨y,hy,hn⟩=> ?_⟩
  rcases List.mem_cons.1 hy with rfl|hy
  ·omega
  ·have:=h2 ⟨y,hy,hn⟩;omega
theorem vB:∀(l:List Int),(∀x∈l,0<=x)->0<=l.sum/\((∃x∈l,0<x)->0<l.sum)
 | [],_=>by simp
 |x::l,h=>by
  obtain⟨h1,h2⟩:=vB l (fun y hy=>h y (by simp [hy]))
  have:=h x (by simp)
  simp only [List.sum_cons]
  refine⟨by omega,fun⟨y,hy,hn⟩=> ?_⟩
  rcases List.mem_cons.1 hy with rfl|hy
  ·omega
  ·have:=h2 ⟨y,hy,hn⟩;omega
theorem mg{α β:Type}{f g:α->Option β}:∀{l:List α},(∀a∈l,f a=g a)->l.filterMap f=l.filterMap g
 | [],_=>rfl
 |a::l,h=>by simp only [List.filterMap_cons];rw [h a (by simp),mg fun b hb=>h b (by simp [hb])]
theorem Fx.keys_sub(X:Fx)(fr:List Bool)(rest:Int):((X.setS fr rest).map (·.1)).Sublist (fre 0 fr):=by
 have ha:∀(l:List Int)(q:List (Int×Int))(F:Int×Int×Int->Option (Int×Int)),(∀p r,F p=some r->r.1=p.1)->(((l.zip q).filterMap F).map (·.1)).Sublist l:=by
  intro l
  induction l with
  |nil=>intro q F _;simp
  |cons a l ih=>
   intro q F hF
   cases q with
   |nil=>simp
   |cons b q=>
    simp only [List.zip_cons_cons,List.filterMap_cons]
    cases hb:F (a,b)with
    |none=>exact(ih q F hF).cons _
    |some r=>
     simp only [zqA]
     rw [hF _ _ hb]
     exact(ih q F hF).cons_cons _
 refine ha _ _ _ fun p r hp=> ?_
 split at hp
 ·cases hp;rfl
 ·split at hp
  ·cases hp;rfl
  ·split at hp
   ·cases hp;rfl
   ·cases hp
section
variable {X:Fx}(hX:gl X.xs = true){fr:List Bool}(hf:fr.length = X.xs.length){rest:Int}(hr0:-1048576 <= rest)(hr1:rest <= 1048576)
include hX hf hr0 hr1
theorem Fx.facts(i:Int):(n4 X.gr (X.all fr) rest (itA X.xs i)=true↔0<ovr X.gr (X.all fr) rest (itA X.xs i))/\((!n4 X.gr (X.all fr) rest (itA X.xs i)&&qH X.gr (X.all fr) rest (itA X.xs i))=true↔ovr X.gr (X.all fr) rest (itA X.xs i)<0)/\
  (-144115188075855872<=ovr X.gr (X.all fr) rest (itA X.xs i)/\ovr X.gr (X.all fr) rest (itA X.xs i)<=144115188075855872)/\(qH X.gr (X.all fr) rest (itA X.xs i)=true->yX (itA X.xs i)=nQ (itA X.xs i))/\
  ∀v:Int,-9223372036854775808<=v->v<=9223372036854775807->qG X.gr (X.all fr) rest v (itA X.xs i)=wrap64 (v+ovr X.gr (X.all fr) rest (itA X.xs i)):=ra (wL (ei hX).1 i) X.gr (X.all_eq hX hf).2.1 (X.all_eq hX hf).2.2 hr0 hr1
theorem Fx.ovs_eq:uj 0 (X.ovs fr rest)=(X.ovs fr rest).sum/\X.vio fr rest=(X.ovs fr rest).sum:=by
 have h3:=(ei hX).2
 have h4:=jM fr 0
 constructor
 ·rw [rN _ 0 0 (fun w hw=> ?_) (by omega) (by omega) (by simp only [Fx.ovs,zql];omega)]
  ·omega
  ·simp only [Fx.ovs,List.mem_map]at hw
   obtain⟨i,_,rfl⟩:=hw
   exact(X.facts hX hf hr0 hr1 i).2.2.1
 ·rw [Fx.vio,yV (X.all_eq hX hf).2.1 (X.all_eq hX hf).2.2 hr0 hr1 (ei hX).1 _ 0 0 (by omega) (by omega) (by omega),Fx.ovs]
  omega
theorem Fx.some_iff:((X.ovs fr rest).any fun o=>o !=0)=false↔(X.low fr rest=[]/\X.hig fr rest=[]):=by
 rw [List.any_eq_false]
 simp only [Fx.ovs,Fx.low,Fx.hig,List.mem_map,bne_iff_ne,ne_eq,Decidable.not_not,List.filter_eq_nil_iff]
 constructor
 ·intro h
  refine⟨fun i hi hl=> ?_,fun i hi hl=> ?_⟩
  ·have:=(X.facts hX hf hr0 hr1 i).1.1 hl
   have:=h _ ⟨i,hi,rfl⟩
   omega
  ·have:=(X.facts hX hf hr0 hr1 i).2.1.1 hl
   have:=h _ ⟨i,hi,rfl⟩
   omega
 ·rintro⟨h1,h2⟩ o ⟨i,hi,rfl⟩
  have f:=X.facts hX hf hr0 hr1 i
  rcases Int.lt_trichotomy (ovr X.gr (X.all fr) rest (itA X.xs i)) 0 with h|h|h
  ·exact absurd (f.2.1.2 h) (h2 i hi)
  ·exact h
  ·exact absurd (f.1.2 h) (h1 i hi)
theorem Fx.set_perm:(X.setI fr rest).Perm (X.setS fr rest):=by
 obtain⟨hg,hh⟩:=X.ovs_eq hX hf hr0 hr1
 have ha:=X.shr_len hX hf rest
 obtain⟨sh,hb⟩:=nmE (shr rest (X.ws fr))
 rw [<-hb]at ha
 unfold Fx.setI
 split
 ·rename_i h
  have hd:=(X.some_iff hX hf hr0 hr1).2 h
  simp only [Fx.setS,Fx.shs,hd,if_true,<-hb]
  have he:∀(l:List Int)(o s:List Int),o.length=l.length->s.length=l.length->(l.zip s).map (fun p=>(p.1,cl (wrap64 ((itA X.xs p.1).base+p.2))))=(l.zip (o.zip s)).filterMap fun p=>some (p.1,cl (wrap64 ((itA X.xs p.1).base+p.2.2))):=by
   intro l
   induction l with
   |nil=>intro o s _ _;simp
   |cons a l ih=>
    intro o s h1 h2
    match o,s,h1,h2 with
    |o0::o,s0::s,h1,h2=>simp only [List.zip_cons_cons,zqA,List.filterMap_cons];rw [ih o s (by simpa using h1) (by simpa using h2)]
    | [],_,h1,_=>simp at h1
    |_::_,[],_,h2=>simp at h2
  rw [he (fre 0 fr) (X.ovs fr rest) sh (by simp [Fx.ovs]) ha]
 ·rename_i h
  have hd:((X.ovs fr rest).any fun o=>o !=0)=true:=by
   cases hc:(X.ovs fr rest).any fun o=>o !=0
   ·exact absurd ((X.some_iff hX hf hr0 hr1).1 hc) h
   ·rfl
  simp only [Fx.setS,hd,<-hb]
  rw [hg,<-hh]
  have he:∀(l:List Int)(s:List Int)(F:Int->Int->Option (Int×Int))(G:Int->Int),s.length=l.length->(l.zip ((l.map G).zip s)).filterMap (fun p=>F p.1 p.2.1)=l.filterMap fun i=>F i (G i):=by
   intro l
   induction l with
   |nil=>intro s F G _;simp
   |cons a l ih=>
    intro s F G h1
    match s,h1 with
    |s0::s,h1=>simp only [zqA,List.zip_cons_cons,List.filterMap_cons];rw [ih s F G (by simpa using h1)]
    | [],h1=>simp at h1
  have k2:=he (fre 0 fr) sh (fun i o=>if 0<o/\0<=X.vio fr rest then some (i,(itA X.xs i).least)else if o<0/\X.vio fr rest<=0 then some (i,yX (itA X.xs i))else none) (fun i=>ovr X.gr (X.all fr) rest (itA X.xs i)) ha
  simp only [Bool.true_eq_false,if_false]
  rw [show X.ovs fr rest=(fre 0 fr).map fun i=>ovr X.gr (X.all fr) rest (itA X.xs i)from rfl,k2]
  have tp:=sT (fun i=>n4 X.gr (X.all fr) rest (itA X.xs i)) (fun i=>qH X.gr (X.all fr) rest (itA X.xs i)) (fun i=>(i,(itA X.xs i).least)) (fun i=>(i,nQ (itA X.xs i))) (fre 0 fr)
  rcases Int.lt_trichotomy (X.vio fr rest) 0 with hv|hv|hv
  ·rw [if_neg (by omega),if_pos (by omega),List.nil_append,Fx.hig]
   refine .of_eq ?_
   rw [<-List.filterMap_eq_map,List.filterMap_filter]
   refine mg fun i hi=> ?_
   obtain⟨f1,f2,_,f4,_⟩:=X.facts hX hf hr0 hr1 i
   clear k2 tp he hb hd h ha hg hh
   grind
  ·rw [if_pos (by omega),if_pos (by omega)]
   refine tp.trans (.of_eq (mg fun i hi=> ?_))
   obtain⟨f1,f2,_,f4,_⟩:=X.facts hX hf hr0 hr1 i
   clear k2 tp he hb hd h ha hg hh
   grind
  ·rw [if_pos (by omega),if_neg (by omega),List.append_nil,Fx.low]
   refine .of_eq ?_
   rw [<-List.filterMap_eq_map,List.filterMap_filter]
   refine mg fun i hi=> ?_
   obtain⟨f1,f2,_,f4,_⟩:=X.facts hX hf hr0 hr1 i
   clear k2 tp he hb hd h ha hg hh
   grind
theorem Fx.keys_ne(hne:fre 0 fr≠[]):X.setI fr rest≠[]:=by
 obtain⟨hh,hj⟩:=X.ovs_eq hX hf hr0 hr1
 have hd:=X.shr_len hX hf rest
 unfold Fx.setI
 split
 ·rename_i h
  intro hc
  rw [Fx.shs,List.map_eq_nil_iff]at hc
  have:(List.zip (fre 0 fr) (shr rest (X.ws fr))).length=0:=by rw [hc];rfl
  rw [zqB,hd,Nat.min_self]at this
  exact hne (zqv this)
 ·rename_i h
  intro hc
  rw [List.append_eq_nil_iff]at hc
  obtain⟨he,hg⟩:=hc
  have hb:0<=X.vio fr rest->X.low fr rest=[]:=fun hv=>by rw [if_pos hv]at he;simpa using he
  have ha:X.vio fr rest<=0->X.hig fr rest=[]:=fun hv=>by rw [if_pos hv]at hg;simpa using hg
  rcases Int.lt_trichotomy (X.vio fr rest) 0 with hv|hv|hv
  ·have h1:=ha (by omega)
   have:0<=(X.ovs fr rest).sum:=(vB _ fun o ho=>by
    simp only [Fx.ovs,List.mem_map]at ho
    obtain⟨i,hi,rfl⟩:=ho
    have f:=X.facts hX hf hr0 hr1 i
    have hn:¬ovr X.gr (X.all fr) rest (itA X.xs i)<0:=fun hc=>by
     have:=f.2.1.2 hc
     have hm:i∈X.hig fr rest:=by rw [Fx.hig,List.mem_filter];exact⟨hi,this⟩
     rw [h1]at hm;cases hm
    omega).1
   omega
  ·exact h ⟨hb (by omega),ha (by omega)⟩
  ·have h1:=hb (by omega)
   have:(X.ovs fr rest).sum<=0:=(vD _ fun o ho=>by
    simp only [Fx.ovs,List.mem_map]at ho
    obtain⟨i,hi,rfl⟩:=ho
    have f:=X.facts hX hf hr0 hr1 i
    have hn:¬0<ovr X.gr (X.all fr) rest (itA X.xs i):=fun hc=>by
     have:=f.1.2 hc
     have hm:i∈X.low fr rest:=by rw [Fx.low,List.mem_filter];exact⟨hi,this⟩
     rw [h1]at hm;cases hm
    omega).1
   omega
end
theorem su:∀(fr:List Bool)(i j:Int),0<=i->(fre i (fr.set (j-i).toNat true)).length<=(fre i fr).length/\(j∈fre i fr->(fre i (fr.set (j-i).toNat true)).length<(fre i fr).length)
 | [],_,_,_=>by simp [fre]
 |f::fs,i,j,h0=>by
  by_cases hj:j<=i
  ·rw [show(j-i).toNat=0 by omega,List.set_cons_zero]
   have hb:∀k∈fre (i+1) fs,i<k:=fun k hk=>by have:=jL fs (i+1) (by omega) k hk;omega
   cases f with
   |true=>
    simp only [fre,if_true]
    exact⟨Nat.le_refl _,fun hm=>by have:=hb j hm;omega⟩
   |false=>simp only [fre,if_true,Bool.false_eq_true,if_false,zqx];exact⟨by omega,fun _=>by omega⟩
  ·obtain⟨hc,ha⟩:=su fs (i+1) j (by omega)
   rw [show(j-i).toNat=(j-(i+1)).toNat+1 by omega,List.set_cons_succ]
   cases f with
   |true=>simp only [fre,if_true];exact⟨hc,ha⟩
   |false=>
    simp only [fre,Bool.false_eq_true,if_false,zqx,List.mem_cons]
    refine⟨by omega,fun hm=> ?_⟩
    rcases hm with hm|hm
    ·omega
    ·have:=ha hm;omega
theorem tJ:∀(is:List Int)(fr:List Bool),(fre 0 (ul is fr)).length<=(fre 0 fr).length
 | [],_=>Nat.le_refl _
 |i::is,fr=>by
  have h1:=tJ is (fr.set i.toNat true)
  have h2:=(su fr 0 i (by omega)).1
  rw [Int.sub_zero]at h2
  exact Nat.le_trans h1 h2
section
variable {X:Fx}(hX:gl X.xs = true)
include hX
theorem Fx.run_some:∀(k:Nat)(sz:List Int)(fr:List Bool),fr.length=X.xs.length->(fre 0 fr).length<k->∃r,X.runI k sz fr=some r/\r.length=sz.length
 |0,_,_,_,h=>absurd h (Nat.not_lt_zero _)
 |k+1,sz,fr,h1,h2=>by
  unfold Fx.runI
  by_cases hn:fre 0 fr=[]
  ·rw [if_pos hn];exact⟨sz,rfl,rfl⟩
  ·rw [if_neg hn]
   have hb:=Cf X.xs (mix X.xs fr sz) X.gap X.inner X.gr
   have ha:=X.keys_ne hX h1 hb.1 hb.2 hn
   have hp:=X.set_perm hX h1 hb.1 hb.2
   have hk:=X.keys_sub fr (Ae X.xs (mix X.xs fr sz) X.gap X.inner X.gr)
   obtain⟨r,hr⟩:=nmE (X.rI fr sz)
   have he:Ae X.xs (mix X.xs fr sz) X.gap X.inner X.gr=r:=hr.symm
   rw [he]at ha hp hk
   rw [<-hr]
   have hf:(fre 0 (ul ((X.setI fr r).map (·.1)) fr)).length<(fre 0 fr).length:=by
    match hs:X.setI fr r,ha with
    |p::ps,_=>
     rw [hs]at hp
     have hm:p.1∈fre 0 fr:=hk.mem (List.mem_map.2 ⟨p,hp.mem_iff.1 (by simp),rfl⟩)
     have h3:=(su fr 0 p.1 (by omega)).2 hm
     rw [Int.sub_zero]at h3
     exact Nat.lt_of_le_of_lt (tJ (ps.map (·.1)) (fr.set p.1.toNat true)) h3
   obtain⟨q,hc,hd⟩:=Fx.run_some k (vO (X.setI fr r) sz) (ul ((X.setI fr r).map (·.1)) fr) (by rw [pv];exact h1) (by omega)
   exact⟨q,hc,by rw [hd,pu]⟩
end
variable {α:Type}
theorem dy(c:α->Array Value)(xs:List α)(x:α):vw c (xs++[x])=vw c xs++[lc (c x)]:=by simp [vw]
theorem oB(c:α->Array Value)(xs:List α){y:List AC}(h:y.all dX=true):aO (vw c xs++[y])=true:=by
 have:=aF c xs
 simp only [aO,List.all_append,zqD,List.all_nil,h,Bool.and_true]at this⊢
 exact this
theorem bg(c:α->Array Value)(xs:List α):aC (vw c xs)=(xs.length:Int):=by rw [ar,ao]
theorem lR(ws:List Int)(hl:ws.length<=1048576):PC0 331 [.c (.view (vw ak ws))] (.t (abl (yR ws))):=by
 obtain⟨V,hV⟩:=nmE (vw ak ws)
 have hd:=lmV hV
 have iV:=imV hV
 have kV:=kmV (k:=1) hV fun _=>rfl
 have dV:=dmV hV
 have hb:aC V=(ws.length:Int):=by rw [hV,bg]
 rw [<-hV]
 refine ae (aM f331) aB func331 fun g F hg hF=> ?_
 cbv
 refine aU hg aB (by kernel_rfl) V (fun x=>lc (ak x)) ws hV hl (fun z(s:Unit)=>[(0,.v V),(5,.v V),(6,.i (g .ln V)),(7,.i (z))]) (fun z(s:Unit)=>[]) (fun z(s:Unit)=>True) (fun(s:Unit) rest=>rest.all (fun w=>rng w 0 1073741824)&&decide ((ws.length:Int)<=64)) (yR ws) () rfl trivial (Wk.weak (wkG [] zr4 trivial (by decide) aw)) (fun z s B hz h0 hi he=> ?_) (fun z s x rest B z0 z1 z2 hx hy h0 hi hc e1 hB=> ?_)
 ·cbv;rw [he];cbv
  exact aY hF (by rw [iO hg,bO hg,hb,<-h0];rfl)
 ·cbv;rw [hc];cbv;refine goX hg _ z0 hy rfl ?_;cbv
  repeat'(first|(refine bN hg (bD _ _ _) rfl (fun R0 ha=> ?_);cases R0<;>cbv))
  ·exact aY hF (by rw [<-h0,zqD,<-ha];rfl)
  ·rw [e1]
   exact hB (()) _ _ ⟨by rw [<-h0,zqD,<-ha];rfl,trivial⟩ (Wk.weak (wkG [] zr4 trivial (by decide) aw))
theorem ko(n:Int)(ws:List Int)(hl:ws.length<=1048576):cj prog 312 [ai n,.c (.view (vw ak ws))] fun res hd=>res= .o 0/\hd=[⟨3,1,vw ak (shr n ws)⟩]:=by
 have cw:=lR ws hl
 obtain⟨V,hV⟩:=nmE (vw ak ws)
 have hn:=lmV hV
 have iV:=imV hV
 have kV:=kmV (k:=1) hV fun _=>rfl
 have dV:=dmV hV
 obtain⟨GV,ha⟩:=nmE (vw ak (shr n ws))
 obtain⟨A,hA⟩:=nmE (uj 0 ws)
 obtain⟨w,hw⟩:=nmE (yR ws)
 rw [<-hV,<-hw]at cw
 rw [<-hV,<-ha]
 refine ae (aM f312) aB func312 fun g F hg hF=> ?_
 cbv
 repeat'(first|(refine bN hg cw rfl (fun R0 hb=> ?_);cases R0<;>cbv))
 ·have e:GV=[]:=by rw [ha,shr,if_neg (by rw [<-hw,<-hb];simp)];rfl
  subst e
  exact rA _ _ hF ⟨rfl,rfl⟩
 repeat'(refine bk hg (bu _) rfl (fun R0 hb=> ?_);cbv)
 have hG:shr n ws=shG R0 A 0 ws:=by rw [shr,if_pos (by rw [<-hw];simp_all),hA];simp_all
 refine aU hg aB (by kernel_rfl) V (fun x=>lc (ak x)) ws hV hl (fun z(s:Int)=>[(0,.i (R0)),(1,.v V),(5,.i (s)),(17,.v V),(18,.i (g .ln V)),(19,.i (z))]) (fun z(s:Int)=>[]) (fun z(s:Int)=>True) (fun(s:Int) rest=>uj s rest) (A) 0 hA.symm trivial (Wk.weak (wkG [] zr6 trivial (by decide) aw)) (fun z s B hz h0 hi he=> ?_) (fun z s x rest B z0 z1 z2 hx hy h0 hi hc e1 hB=> ?_)
 rotate_left
 ·cbv;rw [hc];cbv;refine goX hg _ z0 hy rfl ?_;cbv
  rw [e1,aJ hg]
  exact hB (_) _ _ ⟨h0,trivial⟩ (Wk.weak (wkG [] zr6 trivial (by decide) aw))
 cbv;rw [he];cbv
 obtain rfl:A=s:=h0.symm
 refine aU hg aB (by kernel_rfl) V (fun x=>lc (ak x)) ws hV hl (fun z(s:Int×List Int×LLA)=>[(0,.i (R0)),(5,.i (A)),(8,.o 0),(9,.i (s.1)),(27,.v V),(28,.i (g .ln V)),(29,.i (z))]) (fun z(s:Int×List Int×LLA)=>[.rw ⟨3,1,s.2.2⟩]) (fun z(s:Int×List Int×LLA)=>s.2.2=vw ak s.2.1/\(s.2.1.length:Int)=z) (fun(s:Int×List Int×LLA) rest=>s.2.1++shG R0 A s.1 rest) (shr n ws) (0,[],[]) (by simpa using hG.symm) ⟨rfl,rfl⟩ (Wk.weak (wkG [none] zr7 ⟨⟨_,rfl,rfl⟩,trivial⟩ (by decide) aw)) (fun z s B hz h0 hi he=> ?_) (fun z s x rest B z0 z1 z2 hx hy h0 hi hc e1 hB=> ?_)
 ·obtain⟨q,hj,es⟩:=s
  obtain⟨i1,i2⟩:=hi
  dsimp only at i1 i2 h0
  cbv;rw [he];cbv
  obtain rfl:es=GV:=by simp only [shG,List.append_nil]at h0;rw [i1,ha,<-h0]
  exact db hF rfl (by rw [ha];exact aF _ _)
 ·obtain⟨q,hj,es⟩:=s
  obtain⟨i1,i2⟩:=hi
  dsimp only at i1 i2 h0
  have hk:es.length<=1048576:=by rw [i1,ao];omega
  have pe:=pmV i1
  cbv;rw [hc];cbv;refine goX hg _ z0 hy rfl ?_;cbv
  (first|refine bk hg (ba _ _) rfl (fun Q0 hf=> ?_)|refine aD hg (ba _ _) rfl (fun Q0 hf=> ?_));cbv
  (first|refine bk hg (ba _ _) rfl (fun Q1 hh=> ?_)|refine aD hg (ba _ _) rfl (fun Q1 hh=> ?_));cbv
  refine fR hg rfl (by decide) hk ?_
  cbv
  rw [e1,ig hg]
  have hm:g .w .sub .i64 Q0 Q1=wrap64 (fdv (wrap64 (R0*wrap64 (q+x))) A-fdv (wrap64 (R0*q)) A):=by rw [hf,hh];simp only [aJ hg,ic hg,dP hg]
  rw [hm,aJ hg]
  exact hB ((_,hj++[_],_)) _ _ ⟨(by simpa [shG]using h0),⟨by rw [i1,dy];rfl,by simp;omega⟩⟩ (Wk.weak (wkG [some _] zr7 ⟨⟨_,_,rfl,rfl,rfl,rfl,.inl ⟨rfl,by rw [i1];exact oB _ _ rfl⟩⟩,trivial⟩ (by decide) aw))
theorem kx(x:aj):PC0 310 [.agg (lc (aj.c x))] (.t (abl (BH x))):=by
 obtain⟨a0,a1,a2,a3,a4,a5,a6,a7,a8⟩:=x
 refine ae (aM f310) aB func310 fun g F hg hF=> ?_
 cbv
 repeat'(first|(refine bN hg (bD _ _ _) rfl (fun R0 ha=> ?_);cases R0<;>cbv))
 all_goals exact aY hF (by simp only [BH];clear hF hg;simp_all)
theorem gg(xs:List aj)(hl:xs.length<=1048576):PC0 286 [.c (.view (vw aj.c xs))] (.t (abl (gl xs))):=by
 obtain⟨V,hV⟩:=nmE (vw aj.c xs)
 have hd:=lmV hV
 have iV:=imV hV
 have kV:=kmV (k:=9) hV fun _=>rfl
 have dV:=dmV hV
 have hb:aC V=(xs.length:Int):=by rw [hV,bg]
 rw [<-hV]
 refine ae (aM f286) aB func286 fun g F hg hF=> ?_
 cbv
 refine aU hg aB (by kernel_rfl) V (fun x=>lc (aj.c x)) xs hV hl (fun z(s:Unit)=>[(0,.v V),(5,.v V),(6,.i (g .ln V)),(7,.i (z))]) (fun z(s:Unit)=>[]) (fun z(s:Unit)=>True) (fun(s:Unit) rest=>rest.all BH&&decide ((xs.length:Int)<=12)) (gl xs) () rfl trivial (Wk.weak (wkG [] zr4 trivial (by decide) aw)) (fun z s B hz h0 hi he=> ?_) (fun z s x rest B z0 z1 z2 hx hy h0 hi hc e1 hB=> ?_)
 ·cbv;rw [he];cbv
  exact aY hF (by rw [iO hg,bO hg,hb,<-h0];rfl)
 ·cbv;rw [hc];cbv;refine goX hg _ z0 hy rfl ?_;cbv
  (first|refine bN hg (kx x) rfl (fun R0 ha=> ?_)|refine bf hg (kx x) rfl (fun R0 ha=> ?_));cbv
  cases R0<;>cbv
  ·exact aY hF (by rw [<-h0,zqD,<-ha];rfl)
  ·rw [e1]
   exact hB (()) _ _ ⟨by rw [<-h0,zqD,<-ha];rfl,trivial⟩ (Wk.weak (wkG [] zr4 trivial (by decide) aw))
theorem fF(xs:List aj)(hl:xs.length<=1048576):cj prog 285 [.c (.view (vw aj.c xs))] fun res hd=>res= .o 0/\hd=[⟨3,1,vw ak (xs.map hyp)⟩]:=by
 obtain⟨V,hV⟩:=nmE (vw aj.c xs)
 have hj:=lmV hV
 have iV:=imV hV
 have kV:=kmV (k:=9) hV fun _=>rfl
 have dV:=dmV hV
 obtain⟨GV,ha⟩:=nmE (vw ak (xs.map hyp))
 rw [<-hV,<-ha]
 refine ae (aM f285) aB func285 fun g F hg hF=> ?_
 cbv
 refine aU hg aB (by kernel_rfl) V (fun x=>lc (aj.c x)) xs hV hl (fun z(s:List Int×LLA)=>[(3,.o 0),(6,.v V),(7,.i (g .ln V)),(8,.i (z))]) (fun z(s:List Int×LLA)=>[.rw ⟨3,1,s.2⟩]) (fun z(s:List Int×LLA)=>s.2=vw ak s.1/\(s.1.length:Int)=z) (fun(s:List Int×LLA) rest=>s.1++rest.map hyp) (xs.map hyp) ([],[]) rfl ⟨rfl,rfl⟩ (Wk.weak (wkG [none] zr4 ⟨⟨_,rfl,rfl⟩,trivial⟩ (by decide) aw)) (fun z s B hz h0 hi he=> ?_) (fun z s x rest B z0 z1 z2 hx hy h0 hi hc e1 hB=> ?_)
 ·obtain⟨hf,es⟩:=s
  obtain⟨i1,i2⟩:=hi
  dsimp only at i1 i2 h0
  cbv;rw [he];cbv
  obtain rfl:es=GV:=by simp only [List.map_nil,List.append_nil]at h0;rw [i1,ha,<-h0]
  exact db hF rfl (by rw [ha];exact aF _ _)
 ·obtain⟨hf,es⟩:=s
  obtain⟨i1,i2⟩:=hi
  dsimp only at i1 i2 h0
  have hh:es.length<=1048576:=by rw [i1,ao];omega
  cbv;rw [hc];cbv;refine goX hg _ z0 hy rfl ?_;cbv
  (first|refine bk hg (fW x) rfl (fun Q0 hb=> ?_)|refine aD hg (fW x) rfl (fun Q0 hb=> ?_));cbv
  refine fR hg rfl (by decide) hh ?_
  cbv
  rw [e1,ig hg]
  exact hB ((hf++[_],_)) _ _ ⟨(by simpa [hb]using h0),⟨by rw [i1,dy,<-hb];rfl,by simp;omega⟩⟩ (Wk.weak (wkG [some _] zr4 ⟨⟨_,_,rfl,rfl,rfl,rfl,.inl ⟨rfl,by rw [i1];exact oB _ _ rfl⟩⟩,trivial⟩ (by decide) aw))
theorem cz(x:aj)(gr:Bool):PC0 329 [.agg (lc (aj.c x)),abl gr] (.i (wgt gr x)):=by
 obtain⟨a0,a1,a2,a3,a4,a5,a6,a7,a8⟩:=x
 cases gr<;>(refine ae (aM f329) aB func329 fun g F hg hF=> ?_;cbv;exact bj hF (by(try rw [ic hg]);rfl))
theorem dc(x:aj):PC0 337 [.agg (lc (aj.c x))] (.i (nQ x)):=by
 obtain⟨a0,a1,a2,a3,a4,a5,a6,a7,a8⟩:=x
 refine ae (aM f337) aB func337 fun g F hg hF=> ?_
 cbv
 exact bj hF (by rw [zq hg];rfl)
end Go.Proofs.YtckchgoblpgpbaaGreat
