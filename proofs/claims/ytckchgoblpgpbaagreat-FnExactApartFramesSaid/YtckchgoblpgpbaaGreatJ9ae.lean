/- A part of AM, a framework of the prover own: functions of any program as maps of data. -/
import Derived.Test.YtckchgoblpgpbaaGreatJ9ad
set_option linter.unusedVariables false
set_option linter.unusedSimpArgs false
namespace Go.Proofs.YtckchgoblpgpbaaGreat.Am
open Go.RowKit
instance:BP:=bp0
def GO(tab:List (TypeId×TI))(T:Nat->AV)(h:EH):List ResultVar->(List AT->Prop)->Prop
 | [],K=>K []
 | .tmp t::rs,K=>match T t with| .t x=>GO tab T h rs (fun xs=>K (x::xs))|_=>False
 | .cell a t::rs,K=>match ti tab t with
  |some i=>match T a with
   | .t (.c (.ptr r e off))=>match nth h r with
    |some (.bx _ _ x)=>(match e with|0=>ldG i.agg x off (fun v=>match v with| .t y=>GO tab T h rs (fun xs=>K (y::xs))|_=>False)|_=>False)
    |_=>False
   |_=>False
  |none=>False
def yU(tab:List (TypeId×TI))(rs:List ResultVar)(F:List AT->EH->Prop):Exit->List (Nat×AV)->EH->Prop
 | .normal,l,h=>GO tab (lkT l) h rs (fun xs=>F xs h)
 | .ret,l,h=>GO tab (lkT l) h rs (fun xs=>F xs h)
 |_,_,_=>False
def li(n0:Nat)(Post:AV->AH->Prop)(xs:List AT)(eh:EH):Prop:=(∃res' h' ρ,Wk n0 (fun _=>mkV xs) (toH eh) [(0,res')] h' ρ/\Post res' h')\/(n0=0/\∃ys,qD (toH eh) xs ys/\Post (mkV ys) [])
def sG:List AT->Nat->List (Nat×AV)
 | [],_=>[]
 |x::xs,i=>(i,.t x)::sG xs i.succ
def jx(f:Func):Code:=f.body.getD .skip
def pB:AT->Bool
 | .c c=>du c
 | .agg xs=>xs.all du
def dt:AV->Bool
 | .t x=>pB x
 | .tup xs=>xs.all pB
def dat:AC->Bool
 | .imm _=>true
 | .view _=>true
 |_=>false
def JI:List AT->Bool
 | []=>true
 |x::xs=>x.cells.all dat&&JI xs
def Ku:AC->Bool
 | .imm _=>true
 | .view _=>true
 | .eptr _ _=>true
 |_=>false
def iQ:List AT->Bool
 | []=>true
 |x::xs=>x.cells.all Ku&&iQ xs
section
variable {P:Program}{tab:List (TypeId × TI)}{n0 N:Nat}{T:Nat->AV}{h:EH}{n:Nat}
theorem fL(hf:fI P tab):∀(rs:List ResultVar)(K:List AT->Prop),GO tab T h rs K->rsL P T (toH h) rs K
 | [],K,hp=>hp
 | .tmp t::rs,K,hp=>by
  simp only [GO]at hp
  simp only [rsL,rsA]
  split at hp
  ·rename_i x hx;rw [hx];exact fL hf rs _ hp
  ·exact hp.elim
 | .cell a t::rs,K,hp=>by
  simp only [GO]at hp
  simp only [rsL,rsA]
  split at hp
  ·rename_i i hi
   rw [(dm (hf.info hi)).1]
   split at hp
   ·rename_i r e off hx
    rw [hx]
    simp only
    split at hp
    ·rename_i t' k x hr
     rw [uy hr]
     split at hp
     ·exact⟨x,rfl,lQ hp fun v hv=>by
       split at hv
       ·exact fL hf rs _ hv
       ·exact hv.elim⟩
     ·exact hp.elim
    ·exact hp.elim
   ·exact hp.elim
  ·exact hp.elim
theorem nt:∀(args:List AT)(i d:Nat),lkT (sG args i) d= .t (.c .dead)\/∃x,args[d-i]? =some x/\i<=d/\lkT (sG args i) d= .t x
 | [],i,d=> .inl rfl
 |x::xs,i,d=>by
  simp only [sG,lkT]
  by_cases hd:d=i
  ·subst hd;rw [if_pos rfl];exact .inr ⟨x,by simp,zpk _,rfl⟩
  ·rw [if_neg hd]
   rcases nt xs i.succ d with h1|⟨y,h1,h2,h3⟩
   ·exact .inl h1
   ·refine .inr ⟨y,?_,by omega,h3⟩
    rw [show d-i=(d-i.succ)+1 by omega]
    simpa using h1
theorem jB{β:BP}{c:Code}{Q:Exit->(Nat->AV)->AH->Prop}{T T':Nat->AV}{h:AH}(hT:∀d,T' d= .t (.c .dead)\/T' d=T d)(hv:VC P n0 N c Q T' h):VC P n0 N c Q T h:=fun F w0 m0 h0 a w m hn r=>
 hv F w0 m0 h0 a w m hn ⟨fun d=>by
  rcases hT d with h1|h1
  ·rw [h1];trivial
  ·rw [h1];exact r.tm d,r.st,r.df,r.sz⟩
variable {args:List AT}{f:FuncId}{fn:Func}
theorem pe{β:BP}{c:Code}{Post:AV->AH->Prop}(hfit:fI P tab)(hf:P.funcs[f]? =some fn)(hb:fn.body=some c)(hnm:(fn.name== "runtime.NumGoroutine")=false)(hn:args.length<=fn.ntmps)
  (hok:fQ fn.ntmps c=true) (hv:∀(g:Gd)(F:List AT->EH->Prop),g=G0 P (toH h).length fn.ntmps->F=li (toH h).length Post->vl g tab c (yU tab fn.results.toList F) (sG args 0) h) (hex:∀b,¬BP.ex b:=by exact fun _ h=>h):Con P f (toH h) args Post:=by
 refine sD hex hf hb hnm hn (jB (T':=lkT (sG args 0)) (fun d=> ?_) (fy (fun e T h hq=> ?_) (fK hfit c _ _ h hok (hv _ _ rfl rfl))))
 ·rcases nt args 0 d with h1|⟨x,h1,h2,h3⟩
  ·exact .inl h1
  ·refine .inr ?_
   rw [h3]
   simp only [Nat.sub_zero]at h1
   simp only [T0,h1]
 ·obtain⟨l,eh,rfl,rfl,hq⟩:=hq
  cases e<;>first
   |exact hq.elim
   |exact fL hfit _ _ hq
variable {Post:AV->List AB->Prop}
theorem z7{c:Code}(hfit:fI P tab)(hf:P.funcs[f]? =some fn)(hb:fn.body=some c)(hnm:(fn.name== "runtime.NumGoroutine")=false)(hn:Nat.ble args.length fn.ntmps=true)
  (hok:fQ fn.ntmps c=true) (hv:∀(g:Gd)(F:List AT->EH->Prop),g=G0 P 0 fn.ntmps->F=li 0 (fun res h'=>∃rows,h'=rows.map .live/\Post res rows)->vl g tab c (yU tab fn.results.toList F) (sG args 0) []):bX P f args Post:=
 pe (h:=[]) hfit hf hb hnm (bl hn) hok hv
theorem Ir(c:Code)(hfit:fI P tab)(hf:P.funcs[f]? =some fn)
  (hv:∀(g:Gd)(F:List AT->EH->Prop),g=G0 P 0 fn.ntmps->F=li 0 (fun res h'=>∃rows,h'=rows.map .live/\Post res rows)->vl g tab c (yU tab fn.results.toList F) (sG args 0) []) (hb:fn.body=some c:=by kernel_rfl) (hnm:(fn.name== "runtime.NumGoroutine")=false:=by kernel_rfl) (hn:Nat.ble args.length fn.ntmps=true:=by rfl) (hok:fQ fn.ntmps c=true:=by kernel_rfl):bX P f args Post:=z7 hfit hf hb hnm hn hok hv
variable {ρ:List (Option Nat)}{h':AH}
theorem xm{c:AC}(hp:du c=true):rnC ρ h' c c:=by
 cases c<;>first|rfl|trivial|cases hp
theorem ry{x:AT}(hp:pB x=true):rnT ρ h' x x:=by
 cases x with
 |c c=>unfold rnT;exact xm hp
 |agg xs=>exact .inl ⟨rfl,hp⟩
theorem uq{ρ:List (Option Nat)}{h':AH}:∀{xs:List AT},xs.all pB=true->zV ρ h' xs xs
 | [],_=>trivial
 |x::xs,hp=>by
  simp only [zqD,zqs]at hp
  exact⟨ry hp.1,uq hp.2⟩
theorem iJ{x:AV}(hp:dt x=true):rnV ρ h' x x:=by
 cases x with
 |t x=>
  cases x with
  |c c=>cases c<;>first|trivial|exact ry hp
  |agg xs=>exact ry (x:= .agg xs) hp
 |tup xs=>exact uq hp
variable {F:List AT->EH->Prop}{eh:EH}{xs:List AT}
theorem gj(hF:F=li 0 (fun res h'=>∃rows,h'=rows.map .live/\Post res rows))(hp:dt (mkV xs)=true)(hpost:Post (mkV xs) []):F xs eh:=by
 subst hF
 exact .inl ⟨mkV xs,[],[],⟨zpk _,fun i hi=>absurd hi (zpq _),List.nodup_nil,trivial,iJ hp,zpt⟩,[],rfl,hpost⟩
theorem uJ(ys:List AT)(hF:F=li 0 (fun res h'=>∃rows,h'=rows.map .live/\Post res rows))(hr:qD (toH eh) xs ys)(hpost:Post (mkV ys) []):F xs eh:=by
 subst hF
 exact .inr ⟨rfl,ys,hr,[],rfl,hpost⟩
theorem J1{r:Nat}(ab:AB)(hF:F=li 0 (fun res h'=>∃rows,h'=rows.map .live/\Post res rows))(hr:nth eh r=some (.rw ab))(hp:(ab.es.all fun x=>x.all du)=true)
  (hpost:Post (.o 0) [ab]):F [.c (.own r)] eh:=by
 subst hF
 refine .inl ⟨.o 0,[.live ab],[some r],⟨zpn _,fun i hi=>absurd hi (zpq _),by simp,?_,?_⟩,[ab],rfl,hpost⟩
 ·simp only [rnH,zqw,fY hr]
  exact⟨fun h=>absurd h (zpq _),⟨by first|trivial|rfl,by first|trivial|rfl,.inl ⟨by first|trivial|rfl,hp⟩⟩,zpt⟩
 ·refine⟨?_,zpt⟩
  show rnC [some r] [.live ab] (.own 0) (.own r)
  rfl
theorem rM{c:AC}(hp:du c=true)(n:Nat):c.shift n=c:=by cases c<;>first|rfl|cases hp
theorem lI{n:Nat}:∀{xs:List AC},xs.all du=true->xs.map (AC.shift n)=xs
 | [],_=>rfl
 |x::xs,hp=>by
  simp only [zqD,zqs]at hp
  simp [rM hp.1,lI hp.2]
theorem i6{n:Nat}:∀{es:LLA},(es.all fun x=>x.all du)=true->es.map (fun x=>x.map (AC.shift n))=es
 | [],_=>rfl
 |x::xs,hp=>by
  simp only [zqD,zqs]at hp
  simp only [zqA,lI hp.1,i6 hp.2]
theorem pz{x:AT}(hp:pB x=true)(n:Nat):x.shift n=x:=by
 cases x with
 |c c=>exact congrArg AT.c (rM hp n)
 |agg xs=>exact congrArg AT.agg (lI hp)
theorem dT{x:AV}(hp:dt x=true)(n:Nat):x.shift n=x:=by
 cases x with
 |t x=>exact congrArg AV.t (pz hp n)
 |tup xs=>
  refine congrArg AV.tup ?_
  have:∀(xs:List AT),xs.all pB=true->xs.map (AT.shift n)=xs:=fun xs=>by
   induction xs with
   |nil=>intro _;rfl
   |cons x xs ih=>
    intro hp
    simp only [zqD,zqs]at hp
    simp only [zqA,pz hp.1,ih hp.2]
  exact this xs hp
theorem wy:∀{args:List AT},iQ args=true->dwA args args
 | [],_=>trivial
 | .c c::xs,hp=>by
  simp only [iQ,AT.cells,zqD,List.all_nil,Bool.and_true,zqs]at hp
  exact⟨yW (by cases c<;>first|rfl|cases hp.1),wy hp.2⟩
 | .agg a::xs,hp=>by
  simp only [iQ,zqs]at hp
  exact⟨wx (zqf.2 fun c hc=>by have:=zqf.1 hp.1 c hc;cases c<;>first|rfl|cases this),wy hp.2⟩
theorem xO{β:BP}{h:AH}{K:AV->AH->Prop}(hp:yA P f h h.length args (fun res ha=>K res (h++ha.map .live))):Con P f h args K:=by
 obtain⟨hg,Post,hc,hp⟩:=hp
 refine⟨hc.1,fun F w m vs hH hl hx=> ?_⟩
 rcases hp with⟨hdw,hK⟩|⟨hlen,hres,hK⟩
 ·obtain⟨d1,d2⟩:=hdw.at_
  have:=hc.2 F w [] vs (RH.empty hH.old (zpn _)) (by rw [hl,d1]) (fun j y hj=>by
   have hd:j<args.length:=by rw [d1];exact(zqb.1 hj).1
   obtain⟨v,hv,hr⟩:=hx j _ (zqc hd)
   exact⟨v,hv,(d2 j _ y (zqc hd) hj).rt hr⟩)
  refine this.mono fun e w''⟨v,res,h',m',F1,he,⟨ha,hh,hpost⟩,hG,hs,hv⟩=> ?_
  subst hh
  obtain⟨m'',F2,hf,h1,h2⟩:=dD.of_outG hH (i8 (n:=h.length) hG hs hv)
  exact⟨v,_,_,m'',F2,he,hK res ha hpost,hf,h1,h2⟩
 ·have hF:∀b,sN F m h b->b<w.heap.size:=fun b hb=>by
   rcases hb with hb|⟨r,ab,c,h1,h2⟩
   ·exact hH.old b hb
   ·exact(hH.lt h1 h2).2
  have:=hc.2 (sN F m h) w [] vs (RH.empty hF (zpn _)) (by rw [hl,hlen]) (fun j y hj=>by
   have hd:j<args.length:=by rw [<-hlen];exact(zqb.1 hj).1
   have hm:=zqc hd
   obtain⟨v,hv,hr⟩:=hx j _ hm
   refine⟨v,hv,?_⟩
   rcases hres j _ y hm hj with⟨c0,d0,h1,rfl,h2⟩|⟨xs,ys,h1,rfl,h2,h3⟩
   ·rw [h1]at hr;exact h2.rc (Cp.refl h) hH hr
   ·rw [h1]at hr
    obtain⟨vs,g1,g2,g3⟩:=hr
    refine⟨vs,g1,by rw [g2,h2],fun i d hi=> ?_⟩
    have hq:i<xs.length:=by rw [h2];exact(zqb.1 hi).1
    have hk:=zqc hq
    obtain⟨u,hu,ht,hw⟩:=g3 i _ hk
    exact⟨u,hu,ht,(h3 i _ d hk hi).rc (Cp.refl h) hH hw⟩)
  refine this.mono fun e w''⟨v,res,h',m',F1,he,⟨ha,hh,hpost⟩,hG,hs,hv⟩=> ?_
  subst hh
  obtain⟨hn,ho,hK⟩:=hK res ha hpost
  obtain⟨m'',F2,hf,h1,h2⟩:=dD.of_outG hH (vy (rQ (n:=h.length) hs hv (.inr ⟨hn,ho⟩)) hH)
  exact⟨v,_,_,m'',F2,he,hK,hf,h1,h2⟩
theorem fM{h:AH}{K:AV->List AB->Prop}(hc:bX P f args Post)(hp:iQ args=true)(hK:∀res rows,Post res rows->K (res.shift n) (rows.map (AB.shift n))):yA P f h n args K:=
 ⟨args,Post,hc,.inl ⟨wy hp,hK⟩⟩
variable {K:AV->EH->Prop}{g:Gd}
theorem sE{β:BP}(hg:g=G0 P n0 N)(hp:yA P f (toH h) (toH h).length args (fun res ha=>∃es:EH,toH es=ha.map .live/\K res (h++es))):g .C f h args K:=by
 subst hg
 refine xO ?_
 obtain⟨hb,Post,hc,hp⟩:=hp
 refine⟨hb,Post,hc,?_⟩
 have hd:∀(res:AV)(ha:List AB),(∃es:EH,toH es=ha.map .live/\K res (h++es))->∃eh,toH eh=toH h++ha.map .live/\K res eh:=fun res ha⟨es,h1,h2⟩=>⟨h++es,by rw [oM,h1],h2⟩
 rcases hp with⟨h1,h3⟩|⟨h1,h2,h3⟩
 ·exact .inl ⟨h1,fun res ha hp=>hd _ _ (h3 res ha hp)⟩
 ·exact .inr ⟨h1,h2,fun res ha hp=>let⟨a,b,c⟩:=h3 res ha hp;⟨a,b,hd _ _ c⟩⟩
variable {r:AV}
theorem fU{β:BP}(hg:g=G0 P n0 N)(hc:bX P f args fun res hb=>res=r/\hb=[])(hp:iQ args=true)(hr:dt r=true)(hK:K r (h++[])):g .C f h args K:=
 sE hg (fM hc hp fun res hb ha=>by
  obtain⟨rfl,rfl⟩:=ha
  exact⟨[],rfl,by rw [dT hr];exact hK⟩)
theorem ma{β:BP}(hg:g=G0 P n0 N)(hc:bX P f args fun res hb=>res=r/\hb=[])(hp:iQ args=true)(hr:dt r=true)(hK:K r []):g .PC f h n args K:=by
 subst hg
 refine⟨r,[],fM hc hp fun res hb ha=> ?_,[],rfl,hK⟩
 obtain⟨rfl,rfl⟩:=ha
 exact⟨dT hr _,rfl⟩
theorem ad{β:BP}(hg:g=G0 P n0 N)(hc:bX P f args fun res ha=>res=r/\ha=[])(hK:K r (h++[]))(hp:iQ args=true:=by exact rfl)(hr:dt r=true:=by exact rfl):g .C f h args K:=fU hg hc hp hr hK
theorem aa{β:BP}(hg:g=G0 P n0 N)(hc:bX P f args fun res ha=>res=r/\ha=[])(hK:K r [])(hp:iQ args=true:=by exact rfl)(hr:dt r=true:=by exact rfl):g .PC f h n args K:=ma hg hc hp hr hK
theorem Gi{β:BP}(hg:g=G0 P n0 N){args args':List AT}(hc:bX P f args' Post)(ha:dwA args args')
  (hK:∀res rows,Post res rows->∃es:EH,toH es=(rows.map (AB.shift (toH h).length)).map .live/\K (res.shift (toH h).length) (h++es)):g .C f h args K:=
 sE hg ⟨args',Post,hc,.inl ⟨ha,hK⟩⟩
theorem za{β:BP}(hg:g=G0 P n0 N){args args':List AT}(hc:bX P f args' fun res hd=>res=r/\hd=[])(ha:dwA args args')(hr:dt r=true)(hK:K r (h++[])):g .C f h args K:=
 Gi hg hc ha fun res hd hb=>by
  obtain⟨rfl,rfl⟩:=hb
  exact⟨[],rfl,by rw [dT hr];exact hK⟩
theorem oH{β:BP}(hg:g=G0 P n0 N){args args':List AT}(hc:bX P f args' fun res hd=>res=r/\hd=[])(ha:dwA args args')(hr:dt r=true)(hK:K r []):g .PC f h n args K:=by
 subst hg
 refine⟨r,[],⟨args',_,hc,.inl ⟨ha,fun res hd hb=> ?_⟩⟩,[],rfl,hK⟩
 obtain⟨rfl,rfl⟩:=hb
 exact⟨dT hr _,rfl⟩
theorem bK{β:BP}(hg:g=G0 P n0 N)(hfit:fI P tab){S:Type}{c:Code}{Q:Exit->List (Nat×AV)->EH->Prop}{l:List (Nat×AV)}(hok:fQ N c=true)(Tf:S->List (Nat×AV))(hf:S->EH)(ok:S->Prop)(μ:S->Nat)(s0:S)(ρ0:List (Option Nat))(h0:ok s0)
  (hw:Wk n0 (lkT l) (toH h) (Tf s0) (toH (hf s0)) ρ0)
  (hb:∀(s:S)(B:List (Nat×AV)->EH->Prop),ok s->B=(fun l' h'=>∃s' ρ,ok s'/\μ s'<μ s/\Wk n0 (lkT l') (toH h') (Tf s') (toH (hf s')) ρ)->vl g tab c (fun e l h=>match e with| .normal=>B l h|e=>Q e l h) (Tf s) (hf s)):g .L c Q l h:=by
 subst hg
 refine Gv Tf (fun s=>toH (hf s)) ok μ s0 ρ0 h0 hw (fun s hs=>fy (fun e T h hq=> ?_) (fK hfit c _ _ _ hok (hb s _ hs rfl)))
 obtain⟨l',eh,rfl,rfl,hq⟩:=hq
 cases e<;>first
  |exact⟨l',eh,rfl,rfl,hq⟩
  |exact hq
end
def aJ(xs:LLA):Int:=(xs.length:Int)
theorem ak(xs:LLA):aJ xs=(xs.length:Int):=rfl
section
variable {P:Program}{n0 N:Nat}{g:Gd}
theorem goN{β:BP}(hg:g=G0 P n0 N){p q:Prop}(hp:p)(hq:q):g .N p q:=by subst hg;exact⟨hp,hq⟩
variable {xs:LLA}
theorem goX{β:BP}(hg:g=G0 P n0 N){z:Int}{k:Nat}{K:List AC->Prop}(y:List AC)(hz:0<=z)(hy:xs[z.toNat]? =some y)(hk:y.length=k)(hK:K y):g .X xs z k K:=by subst hg;exact⟨hz,y,hy,hk,hK⟩
theorem goY{β:BP}(hg:g=G0 P n0 N){z:Int}{k:Nat}{K:Nat->Prop}(hz:0<=z)(hy:z<aJ xs)(hK:∀j:Nat,j=z.toNat->j<xs.length->K j):g .Y k xs z K:=by subst hg;have:=ak xs;exact⟨hz,by omega,hK _ rfl (by omega)⟩
theorem jv{β:BP}(hg:g=G0 P n0 N)(xs:LLA)(i:Nat)(x:List AC):g .st xs i x=xs.set i x:=by subst hg;rfl
theorem gd{β:BP}(hg:g=G0 P n0 N)(xs ys:LLA):g .ap xs ys=xs++ys:=by subst hg;rfl
theorem yP{β:BP}(hg:g=G0 P n0 N)(n:Int)(x:List AC):g .rp n x=List.replicate n.toNat x:=by subst hg;rfl
theorem bu{β:BP}(hg:g=G0 P n0 N)(xs:LLA):g .ln xs=aJ xs:=by subst hg;rfl
theorem F6{β:BP}(hg:g=G0 P n0 N){by_:Nat}{q:Prop}(hb:by_<=65536)(hl:xs.length<=1048576)(hq:q):g .N (g .ln xs=g .ln xs/\0<=g .ln xs/\(by_:Int)*g .ln xs<=140737488355328/\g .ln xs<=4611686018427387904) q:=by
 subst hg
 have h1:by_*xs.length<=68719476736:=zpb (Nat.mul_le_mul hb hl) (by decide)
 have h2:((by_*xs.length:Nat):Int)<=68719476736:=by omega
 rw [Int.natCast_mul]at h2
 refine⟨⟨rfl,?_,?_,?_⟩,hq⟩
 ·exact Int.natCast_nonneg _
 ·show(by_:Int)*(xs.length:Int)<=140737488355328;omega
 ·show(xs.length:Int)<=4611686018427387904;omega
theorem aG{β:BP}(hg:g=G0 P n0 N)(a b:Int):g .w .add .i64 a b=wrap64 (a+b):=by subst hg;exact IntWalk.i64_left _
theorem bZ{β:BP}(hg:g=G0 P n0 N)(a b:Int):g .w .sub .i64 a b=wrap64 (a-b):=by subst hg;exact IntWalk.i64_left _
theorem gx{β:BP}(hg:g=G0 P n0 N)(a b:Int):g .w .mul .i64 a b=wrap64 (a*b):=by subst hg;exact IntWalk.i64_left _
theorem ba{β:BP}(hg:g=G0 P n0 N)(a b:Int):g .q .lss a b=decide (a<b):=by subst hg;rfl
theorem iU{β:BP}(hg:g=G0 P n0 N)(a b:Int):g .q .leq a b=decide (a<=b):=by subst hg;rfl
theorem di{β:BP}(hg:g=G0 P n0 N)(a b:Int):g .q .gtr a b=decide (a>b):=by subst hg;rfl
theorem iP{β:BP}(hg:g=G0 P n0 N)(a b:Int):g .q .geq a b=decide (a≥b):=by subst hg;rfl
theorem bg{β:BP}(hg:g=G0 P n0 N)(a b:Int):g .q .eql a b=(a==b):=by subst hg;rfl
theorem bB{β:BP}(hg:g=G0 P n0 N)(a b:Int):g .q .neq a b=(a !=b):=by subst hg;rfl
variable {l':List (Nat×AV)}{T:Nat->AV}
theorem wk0(hk:rnK [] [] T l'):Wk 0 T [] l' [] []:=⟨zpk _,fun i hi=>absurd hi (zpq _),List.nodup_nil,trivial,hk⟩
theorem gg{β:BP}(hg:g=G0 P n0 N)(a b:Bool):g .qb .neq a b=(a !=b):=by subst hg;rfl
theorem IV{β:BP}(hg:g=G0 P n0 N)(a b:Bool):g .qb .eql a b=(a==b):=by subst hg;rfl
def az(es:LLA):Bool:=es.all fun x=>x.all du
def D4(h:AH):List Nat->AH->Prop
 | [],[]=>True
 |j::ρ,e::es=>(∃ab,h[j]? =some (.live ab)/\e= .live ab/\az ab.es=true)/\D4 h ρ es
 |_,_=>False
theorem rk{h h':AH}:∀(ρ:List Nat)(es:AH)(pre:List Nat),D4 h ρ es->rnH 0 ((pre++ρ).map some) h' h pre.length es
 | [],[],pre,_=>trivial
 | [],_::_,_,h=>h.elim
 |_::_,[],_,h=>h.elim
 |j::ρ,e::es,pre,hs=>by
  obtain⟨⟨ab,h1,rfl,h3⟩,h4⟩:=hs
  have:=rk (h':=h') ρ es (pre++[j]) h4
  rw [zqC,List.singleton_append,zqe,zqm]at this
  unfold rnH
  refine⟨fun hi=>absurd hi (zpq _),?_,this⟩
  have e1:(List.map some (pre++j::ρ))[pre.length]? =some (some j):=by simp
  simp only [e1,h1]
  exact⟨by first|trivial|rfl,by first|trivial|rfl,.inl ⟨by first|trivial|rfl,h3⟩⟩
theorem rR:∀(ρ:List Nat),(ρ.map some).filterMap id=ρ
 | []=>rfl
 |j::ρ=>by simp
theorem wkS{h h':AH}(ρ:List Nat)(hn:ρ.Nodup)(hs:D4 h ρ h')(hk:rnK (ρ.map some) h' T l'):Wk 0 T h l' h' (ρ.map some):=
 ⟨zpn _,fun i hi=>absurd hi (zpq _),by rw [rR];exact hn,rk ρ h' [] hs,hk⟩
variable {h:EH}
theorem gY{S:Type}{ok:S->Prop}{μ:S->Nat}{s:S}{Tf:S->List (Nat×AV)}{hf:S->EH}{B:List (Nat×AV)->EH->Prop}{l:List (Nat×AV)}
  (hB:B=fun l' h'=>∃s' ρ,ok s'/\μ s'<μ s/\Wk n0 (lkT l') (toH h') (Tf s') (toH (hf s')) ρ) (s':S) (ρ:List (Option Nat)) (hw:Wk n0 (lkT l) (toH h) (Tf s') (toH (hf s')) ρ) (h1:ok s') (h2:μ s'<μ s):B l h:=by
 subst hB;exact⟨s',ρ,h1,h2,hw⟩
theorem JD{β:BP}(hg:g=G0 P n0 N)(a b:Int):g .mn a b=if b<a then b else a:=by subst hg;rfl
theorem F5{β:BP}(hg:g=G0 P n0 N)(a b:Int):g .mx a b=if a<b then b else a:=by subst hg;rfl
variable {F:List AT->EH->Prop}
theorem aO{eh:EH}{m z:Int}(hF:F=li 0 (fun res h'=>∃rows,h'=rows.map .live/\(res= .t (.c (.J m))/\rows=[])))(h:z=m):F [.c (.J z)] eh:=by
 subst h;exact gj hF rfl ⟨rfl,rfl⟩
theorem bk{eh:EH}{m z:Bool}(hF:F=li 0 (fun res h'=>∃rows,h'=rows.map .live/\(res= .t (.c (.B m))/\rows=[])))(h:z=m):F [.c (.B z)] eh:=by
 subst h;exact gj hF rfl ⟨rfl,rfl⟩
def wQ(h:AH):List AT->List AT->Prop
 | [],[]=>True
 | .c c::xs,.c d::ys=>DE h c d/\wQ h xs ys
 | .agg a::xs,.agg b::ys=>(a=b/\a.all dat=true)/\wQ h xs ys
 |_,_=>False
theorem aq{h:AH}{c:AC}(hc:dat c=true):p7 h c c:=by
 cases c<;>first|exact .imm _|exact .view _|cases hc
theorem aX{h:AH}{r:Nat}{ab:AB}(hn:h[r]? =some (.live ab))(hk:∀x∈ab.es,x.length=ab.k)(hd:∀x∈ab.es,x.all dat=true):p7 h (.own r) (.view ab.es):=
 .row (.own r) ab.es ab.es ab.k (.inl ⟨r,ab,rfl,hn,rfl,rfl⟩) rfl (fun i x hx=>hk x (zqd hx)) (fun i x hx=>hk x (zqd hx)) fun i x y hx hy j c d hc ha=>by
  rw [hx]at hy
  cases hy
  rw [hc]at ha
  cases ha
  exact aq (zqf.1 (hd x (zqd hx)) c (zqd hc))
theorem nX{h:AH}:∀(xs ys:List AT),wQ h xs ys->ys.length=xs.length
 | [],[],_=>rfl
 | [],_::_,h=>by simp [wQ]at h
 | .c _::_,[],h=>h.elim
 | .agg _::_,[],h=>h.elim
 | .c _::xs,.c _::ys,h=>by simp [nX xs ys h.2]
 | .agg _::xs,.agg _::ys,h=>by simp [nX xs ys h.2]
 | .c _::_,.agg _::_,h=>h.elim
 | .agg _::_,.c _::_,h=>h.elim
theorem rB{h:AH}:∀(xs ys:List AT),wQ h xs ys->∀(j:Nat)(x y:AT),xs[j]? =some x->ys[j]? =some y->(∃c d,x= .c c/\y= .c d/\DE h c d)\/∃xs ys,x= .agg xs/\y= .agg ys/\xs.length=ys.length/\∀(i:Nat)(c d:AC),xs[i]? =some c->ys[i]? =some d->p7 h c d
 | [],_,_,j,x,y,hx,_=>by simp at hx
 | .c c::xs,.c d::ys,h,j,x,y,hx,hy=>by
  cases j with
  |zero=>simp at hx hy;subst hx hy;exact .inl ⟨c,d,rfl,rfl,h.1⟩
  |succ j=>exact rB xs ys h.2 j x y (by simpa using hx) (by simpa using hy)
 | .agg a::xs,.agg b::ys,h,j,x,y,hx,hy=>by
  cases j with
  |zero=>
   simp at hx hy
   subst hx hy
   obtain⟨⟨rfl,hd⟩,_⟩:=h
   refine .inr ⟨a,a,rfl,rfl,rfl,fun i c d hc ha=> ?_⟩
   rw [hc]at ha
   cases ha
   exact aq (zqf.1 hd c (zqd hc))
  |succ j=>exact rB xs ys h.2 j x y (by simpa using hx) (by simpa using hy)
 | .c _::_,[],h,_,_,_,_,_=>h.elim
 | .agg _::_,[],h,_,_,_,_,_=>h.elim
 | .c _::_,.agg _::_,h,_,_,_,_,_=>h.elim
 | .agg _::_,.c _::_,h,_,_,_,_,_=>h.elim
def xU:AV->Bool
 | .t (.c (.imm _))=>true
 | .t (.agg xs)=>xs.all fun c=>match c with| .imm _=>true|_=>false
 |_=>false
variable {r:AV}
theorem uO(hr:xU r=true):dt r=true:=by
 match r,hr with
 | .t (.c (.imm _)),_=>rfl
 | .t (.agg xs),h=>
  simp only [xU,zqf]at h
  show xs.all du=true
  rw [zqf]
  intro c hc
  have:=h c hc
  cases c<;>first|rfl|cases this
theorem uP(hr:xU r=true):r.fresh=true:=by
 match r,hr with
 | .t (.c (.imm _)),_=>rfl
 | .t (.agg xs),h=>
  simp only [xU,zqf]at h
  show xs.all AC.fresh=true
  rw [zqf]
  intro c hc
  have:=h c hc
  cases c<;>first|rfl|cases this
variable {args args':List AT}{f:FuncId}
theorem xp{h:AH}{n:Nat}{K:AV->List AB->Prop}(hc:bX P f args' fun res hb=>res=r/\hb=[])(ha:wQ h args args')(hr:xU r=true)(hK:K r []):yA P f h n args K:=
 ⟨args',_,hc,.inr ⟨nX _ _ ha,rB _ _ ha,fun res hb hp=>by
  obtain⟨rfl,rfl⟩:=hp
  exact⟨uP hr,fun ab hd=>by simp at hd,by rw [dT (uO hr)];exact hK⟩⟩⟩
variable {K:AV->EH->Prop}
theorem gz{β:BP}(hg:g=G0 P n0 N)(hc:bX P f args' fun res hb=>res=r/\hb=[])(ha:wQ (toH h) args args')(hr:xU r=true)(hK:K r (h++[])):g .C f h args K:=
 sE hg (xp hc ha hr ⟨[],rfl,hK⟩)
theorem fj{β:BP}(hg:g=G0 P n0 N){n:Nat}(hc:bX P f args' fun res hb=>res=r/\hb=[])(ha:wQ (toH h) args args')(hr:xU r=true)(hK:K r []):g .PC f h n args K:=by
 subst hg
 exact⟨r,[],xp hc ha hr ⟨rfl,rfl⟩,[],rfl,hK⟩
end
section
variable {P:Program}{n0 N n:Nat}{g:Gd}
variable {F:List AT->EH->Prop}{eh:EH}
theorem uI{Post:AV->List AB->Prop}(t k:Nat)(hF:F=li 0 (fun res h'=>∃rows,h'=rows.map .live/\Post res rows))
  (hpost:Post (.o 0) [⟨t,k,[]⟩]):F [.c (.N)] eh:=by
 subst hF
 refine .inl ⟨.o 0,[.live ⟨t,k,[]⟩],[none],⟨zpn _,fun i hi=>absurd hi (zpq _),by simp,?_,?_⟩,[⟨t,k,[]⟩],rfl,hpost⟩
 ·simp only [rnH,zqw]
  exact⟨fun h=>absurd h (zpq _),rfl,zpt⟩
 ·refine⟨?_,zpt⟩
  show rnC [none] [.live ⟨t,k,[]⟩] (.own 0) (.N)
  rfl
variable {ab:AB}
theorem bH{r:Nat}(hF:F=li 0 (fun res h'=>∃rows,h'=rows.map .live/\(res= .o 0/\rows=[ab])))(hr:nth eh r=some (.rw ab))(hp:az ab.es=true):F [.c (.own r)] eh:=
 J1 ab hF hr hp ⟨rfl,rfl⟩
theorem ay{h:AH}:wQ h [] []:=trivial
variable {xs ys:List AT}
theorem ah{h:AH}{c d:AC}(h1:p7 h c d)(h2:wQ h xs ys):wQ h (.c c::xs) (.c d::ys):=⟨.c h1,h2⟩
theorem dx{h:AH}{c d:AC}(h1:DE h c d)(h2:wQ h xs ys):wQ h (.c c::xs) (.c d::ys):=⟨h1,h2⟩
theorem bq{h:AH}{a:List AC}(hd:a.all dat=true)(h2:wQ h xs ys):wQ h (.agg a::xs) (.agg a::ys):=⟨⟨rfl,hd⟩,h2⟩
theorem bv:∀{args:List AT},JI args=true->∀{h:AH},wQ h args args
 | [],_,_=>trivial
 | .c c::xs,hp,h=>by
  simp only [JI,zqs]at hp
  exact⟨.c (aq (by simpa [AT.cells]using hp.1)),bv hp.2⟩
 | .agg a::xs,hp,h=>by
  simp only [JI,zqs]at hp
  exact⟨⟨rfl,by simpa [AT.cells]using hp.1⟩,bv hp.2⟩
theorem j7{es:LLA}(h:es.all (fun x=>x.all fun c=>match c with| .imm _=>true|_=>false)=true)(t k:Nat):AB.fresh ⟨t,k,es⟩=true:=by
 simp only [AB.fresh,zqf]at h⊢
 intro x hx c hc
 have:=h x hx c hc
 cases c<;>first|rfl|cases this
def pQ(es:LLA):Bool:=es.all fun x=>x.all fun c=>match c with| .imm _=>true|_=>false
theorem fu{es:LLA}(h:pQ es=true):az es=true:=by
 simp only [pQ,az,zqf]at h⊢
 intro x hx c hc
 have:=h x hx c hc
 cases c<;>first|rfl|cases this
theorem fX(h:az ab.es=true)(n:Nat):AB.shift n ab=ab:=by
 obtain⟨t,k,es⟩:=ab
 exact congrArg (AB.mk t k) (i6 h)
variable {K:AV->EH->Prop}{f:FuncId}{h:EH}
theorem bI{β:BP}(hg:g=G0 P n0 N){args args':List AT}(hc:bX P f args' fun res hd=>res= .o 0/\hd=[ab])(ha:wQ (toH h) args args')(hp:pQ ab.es=true)
  (hK:K (.t (.c (.own (mz h)))) (h++[.rw ab])):g .C f h args K:=by
 refine sE hg ⟨args',_,hc,.inr ⟨nX _ _ ha,rB _ _ ha,fun res hd hb=> ?_⟩⟩
 obtain⟨rfl,rfl⟩:=hb
 refine⟨rfl,fun hf he=> ?_,[.rw ab],?_,?_⟩
 ·obtain rfl:=zpa.1 he
  exact j7 hp _ _
 ·simp only [zqA,List.map_nil,fX (fu hp)];rfl
 ·rw [dv]at hK;rw [bP];exact hK
theorem bS{β:BP}(hg:g=G0 P n0 N){n:Nat}{args args':List AT}(hc:bX P f args' fun res hd=>res= .o 0/\hd=[ab])(ha:wQ (toH h) args args')(hp:pQ ab.es=true)
  (hK:K (.o n) [.rw ab]):g .PC f h n args K:=by
 subst hg
 refine⟨.o n,[ab],⟨args',_,hc,.inr ⟨nX _ _ ha,rB _ _ ha,fun res hd hb=> ?_⟩⟩,[.rw ab],rfl,hK⟩
 obtain⟨rfl,rfl⟩:=hb
 refine⟨rfl,fun hf he=> ?_,rfl,?_⟩
 ·obtain rfl:=zpa.1 he
  exact j7 hp _ _
 ·simp only [zqA,List.map_nil,fX (fu hp)]
variable {args:List AT}
theorem aZ{β:BP}(hg:g=G0 P n0 N){r:Int}(hc:bX P f args fun res ha=>res= .t (.c (.J r))/\ha=[])(hp:iQ args=true)
  (hK:∀R,R=r->K (.t (.c (.J R))) (h++[])):g .C f h args K:=fU hg hc hp rfl (hK r rfl)
theorem aK{β:BP}(hg:g=G0 P n0 N){n:Nat}{r:Int}(hc:bX P f args fun res ha=>res= .t (.c (.J r))/\ha=[])(hp:iQ args=true)
  (hK:∀R,R=r->K (.t (.c (.J R))) []):g .PC f h n args K:=ma hg hc hp rfl (hK r rfl)
theorem bz{β:BP}(hg:g=G0 P n0 N){r:Bool}(hc:bX P f args fun res ha=>res= .t (.c (.B r))/\ha=[])(hp:iQ args=true)
  (hK:∀R,R=r->K (.t (.c (.B R))) (h++[])):g .C f h args K:=fU hg hc hp rfl (hK r rfl)
theorem bd{β:BP}(hg:g=G0 P n0 N){n:Nat}{r:Bool}(hc:bX P f args fun res ha=>res= .t (.c (.B r))/\ha=[])(hp:iQ args=true)
  (hK:∀R,R=r->K (.t (.c (.B R))) []):g .PC f h n args K:=ma hg hc hp rfl (hK r rfl)
theorem mM{β:BP}(hg:g=G0 P n0 N){r s:Int}(hc:bX P f args fun res ha=>res= .t (.agg [.J r,.J s])/\ha=[])(hp:iQ args=true)
  (hK:∀R S,R=r->S=s->K (.t (.agg [.J R,.J S])) (h++[])):g .C f h args K:=fU hg hc hp rfl (hK r s rfl rfl)
theorem jd{β:BP}(hg:g=G0 P n0 N){n:Nat}{r s:Int}(hc:bX P f args fun res ha=>res= .t (.agg [.J r,.J s])/\ha=[])(hp:iQ args=true)
  (hK:∀R S,R=r->S=s->K (.t (.agg [.J R,.J S])) []):g .PC f h n args K:=ma hg hc hp rfl (hK r s rfl rfl)
theorem l8{a b r s:Int}(hF:F=li 0 (fun res h'=>∃rows,h'=rows.map .live/\(res= .t (.agg [.J r,.J s])/\rows=[])))(h:a=r/\b=s):F [.agg [.J a,.J b]] eh:=by
 obtain⟨rfl,rfl⟩:=h;exact gj hF rfl ⟨rfl,rfl⟩
theorem Hd{β:BP}(hg:g=G0 P n0 N)(a b:Int):g .w .quo .i64 a b=wrap64 (a.tdiv b):=by subst hg;exact IntWalk.i64_left _
theorem Ez{β:BP}(hg:g=G0 P n0 N)(a b:Int):g .w .rem .i64 a b=a.tmod b:=by subst hg;rfl
theorem Ks{β:BP}(hg:g=G0 P n0 N)(a:Int):g .ng .i64 a=wrap64 (0-a):=by subst hg;exact IntWalk.i64_left _
theorem dg{β:BP}(hg:g=G0 P n0 N):(∀a b,g .q .lss a b=decide (a<b))/\(∀a b,g .q .leq a b=decide (a<=b))/\(∀a b,g .q .gtr a b=decide (a>b))/\(∀a b,g .q .geq a b=decide (a≥b))/\(∀a b,g .q .eql a b=(a==b))/\(∀a b,g .q .neq a b=(a !=b))/\(∀a b,g .qb .eql a b=(a==b))/\(∀a b,g .qb .neq a b=(a !=b))/\(∀a b:Int,((a==b)=true)=(a=b))/\(∀a b:Bool,((a==b)=true)=(a=b))/\(∀a b:Int,((a !=b)=true)=¬a=b)/\(∀a b:Bool,((a !=b)=true)=¬a=b)/\(∀a b:Int,((a==b)=false)=¬a=b)/\(∀a b:Bool,((a==b)=false)=¬a=b)/\(∀a b:Int,((a !=b)=false)=(a=b))/\(∀a b:Bool,((a !=b)=false)=(a=b))/\(∀(p:Prop) [Decidable p],(decide p=true)=p)/\(∀(p:Prop) [Decidable p],(decide p=false)=¬p)/\(∀p:Prop,(¬¬p)=p)/\(∀a b,g .w .add .i64 a b=wrap64 (a+b))/\(∀a b,g .w .sub .i64 a b=wrap64 (a-b))/\(∀a b,g .w .mul .i64 a b=wrap64 (a*b))/\(∀a b,g .w .quo .i64 a b=wrap64 (a.tdiv b))/\(∀a b,g .w .rem .i64 a b=a.tmod b)/\(∀a,g .ng .i64 a=wrap64 (0-a))/\(∀a b,g .mn a b=if b<a then b else a)/\(∀a b,g .mx a b=if a<b then b else a)/\(∀a b:Int,(a≠b)=¬a=b)/\(∀a b:Bool,(a≠b)=¬a=b):=
 ⟨ba hg,iU hg,di hg,iP hg,bg hg,bB hg,IV hg,gg hg,by simp,by simp,by simp,by simp,by simp,by simp,by simp,by simp,by simp,by simp,fun p=>propext Classical.not_not,aG hg,bZ hg,gx hg,Hd hg,Ez hg,Ks hg,JD hg,F5 hg,fun _ _=>rfl,fun _ _=>rfl⟩
theorem HN{β:BP}(hg:g=G0 P n0 N){b:Int}{q:Prop}(hb:b≠0)(hq:q):g .N (b≠0) q:=by subst hg;exact⟨hb,hq⟩
variable {r0:Int}{r1:Int}{r2:Int}{r3:Int}
theorem Fb{β:BP}(hg:g=G0 P n0 N)(hc:bX P f args fun res ha=>res= .t (.agg [.J r0,.J r1,.J r2,.J r3])/\ha=[])(hp:iQ args=true)
  (hK:∀R0 R1 R2 R3,R0=r0->R1=r1->R2=r2->R3=r3->K (.t (.agg [.J R0,.J R1,.J R2,.J R3])) (h++[])):g .C f h args K:=fU hg hc hp rfl (hK _ _ _ _ rfl rfl rfl rfl)
theorem Gh{β:BP}(hg:g=G0 P n0 N){n:Nat}(hc:bX P f args fun res ha=>res= .t (.agg [.J r0,.J r1,.J r2,.J r3])/\ha=[])(hp:iQ args=true)
  (hK:∀R0 R1 R2 R3,R0=r0->R1=r1->R2=r2->R3=r3->K (.t (.agg [.J R0,.J R1,.J R2,.J R3])) []):g .PC f h n args K:=ma hg hc hp rfl (hK _ _ _ _ rfl rfl rfl rfl)
variable {R0:Int}{R1:Int}
theorem ER{R2:Int}{R3:Int}(hF:F=li 0 (fun res h'=>∃rows,h'=rows.map .live/\(res= .t (.agg [.J r0,.J r1,.J r2,.J r3])/\rows=[])))(h:R0=r0/\R1=r1/\R2=r2/\R3=r3):F [.agg [.J R0,.J R1,.J R2,.J R3]] eh:=by
 obtain⟨rfl,rfl,rfl,rfl⟩:=h;exact gj hF rfl ⟨rfl,rfl⟩
theorem Ds{β:BP}(hg:g=G0 P n0 N)(hc:bX P f args fun res ha=>res= .tup [.c (.J r0),.c (.J r1)]/\ha=[])(hp:iQ args=true)
  (hK:∀R0 R1,R0=r0->R1=r1->K (.tup [.c (.J R0),.c (.J R1)]) (h++[])):g .C f h args K:=fU hg hc hp rfl (hK _ _ rfl rfl)
theorem AK{β:BP}(hg:g=G0 P n0 N){n:Nat}(hc:bX P f args fun res ha=>res= .tup [.c (.J r0),.c (.J r1)]/\ha=[])(hp:iQ args=true)
  (hK:∀R0 R1,R0=r0->R1=r1->K (.tup [.c (.J R0),.c (.J R1)]) []):g .PC f h n args K:=ma hg hc hp rfl (hK _ _ rfl rfl)
theorem sv(hF:F=li 0 (fun res h'=>∃rows,h'=rows.map .live/\(res= .tup [.c (.J r0),.c (.J r1)]/\rows=[])))(h:R0=r0/\R1=r1):F [.c (.J R0),.c (.J R1)] eh:=by
 obtain⟨rfl,rfl⟩:=h;exact gj hF rfl ⟨rfl,rfl⟩
theorem y9{β:BP}(hg:g=G0 P n0 N){r1:Bool}(hc:bX P f args fun res ha=>res= .tup [.c (.J r0),.c (.B r1)]/\ha=[])(hp:iQ args=true)
  (hK:∀R0 R1,R0=r0->R1=r1->K (.tup [.c (.J R0),.c (.B R1)]) (h++[])):g .C f h args K:=fU hg hc hp rfl (hK _ _ rfl rfl)
theorem xR{β:BP}(hg:g=G0 P n0 N){n:Nat}{r1:Bool}(hc:bX P f args fun res ha=>res= .tup [.c (.J r0),.c (.B r1)]/\ha=[])(hp:iQ args=true)
  (hK:∀R0 R1,R0=r0->R1=r1->K (.tup [.c (.J R0),.c (.B R1)]) []):g .PC f h n args K:=ma hg hc hp rfl (hK _ _ rfl rfl)
theorem EP{r1:Bool}{R1:Bool}(hF:F=li 0 (fun res h'=>∃rows,h'=rows.map .live/\(res= .tup [.c (.J r0),.c (.B r1)]/\rows=[])))(h:R0=r0/\R1=r1):F [.c (.J R0),.c (.B R1)] eh:=by
 obtain⟨rfl,rfl⟩:=h;exact gj hF rfl ⟨rfl,rfl⟩
theorem IZ{R2:Int}{R3:Int}(hF:F=li 0 (fun res h'=>∃rows,h'=rows.map .live/\(res= .tup [.agg [.J r0,.J r1],.agg [.J r2,.J r3]]/\rows=[])))(h:R0=r0/\R1=r1/\R2=r2/\R3=r3):F [.agg [.J R0,.J R1],.agg [.J R2,.J R3]] eh:=by
 obtain⟨rfl,rfl,rfl,rfl⟩:=h;exact gj hF rfl ⟨rfl,rfl⟩
end
def AC.mv(s:Nat->Nat):AC->AC
 | .own r=> .own (s r)
 | .sub r lo k=> .sub (s r) lo k
 | .ptr r i o=> .ptr (s r) i o
 | .clo g rs=> .clo g (rs.map s)
 |c=>c
def AT.mv(s:Nat->Nat):AT->AT
 | .c x=> .c (x.mv s)
 | .agg xs=> .agg (xs.map (AC.mv s))
def AV.mv(s:Nat->Nat):AV->AV
 | .t x=> .t (x.mv s)
 | .tup xs=> .tup (xs.map (AT.mv s))
def AB.mv(s:Nat->Nat)(ab:AB):AB:=⟨ab.ty,ab.k,ab.es.map (·.map (AC.mv s))⟩
def AE.mv(s:Nat->Nat):AE->AE
 | .live ab=> .live (ab.mv s)
 | .gone=> .gone
 | .hole=> .gone
def plc(σ:List Nat)(n:Nat)(i:Nat):Nat:=match nth σ i with|some r=>r|none=>n+(i-mz σ)
section
variable {F:Nat->Prop}{w:World}{m m':AM}{h h':AH}{s:Nat->Nat}
theorem RC.mv(hp:∀(j:Nat),(h[j]? =some .gone->h'[s j]? =some .gone)/\∀(ab:AB),h[j]? =some (.live ab)->∃ha,h'[s j]? =some (.live ha)/\ha.k=ab.k/\ha.es.length=ab.es.length/\m'[s j]? =m[j]?){c:AC}{v:Value}
  (hc:RC F w m h c v):RC F w m' h' (c.mv s) v:=by
 cases c with
 |imm u=>exact hc
 |view xs=>exact hc
 |own r=>
  rcases hc with hg|⟨ab,h1,h2⟩
  ·exact .inl ((hp r).1 hg)
  ·obtain⟨ha,h3,h4,h5,h6⟩:=(hp r).2 ab h1
   exact .inr ⟨ha,h3,by rw [h6,h5];exact h2⟩
 |sub r lo k=>
  rcases hc with hg|⟨ab,c,p,h1,h2,h7,h8,h9,h10⟩
  ·exact .inl ((hp r).1 hg)
  ·obtain⟨ha,h3,h4,h5,h6⟩:=(hp r).2 ab h1
   exact .inr ⟨ha,c,p,h3,by rw [h5];exact h2,h7,h8,h9,by rw [h6,h4];exact h10⟩
 |ptr r i o=>
  rcases hc with hg|⟨ab,b,cap,h1,h2,h7⟩
  ·exact .inl ((hp r).1 hg)
  ·obtain⟨ha,h3,h4,h5,h6⟩:=(hp r).2 ab h1
   exact .inr ⟨ha,b,cap,h3,by rw [h6];exact h2,by rw [h4];exact h7⟩
 |eptr cs o=>exact hc
 |fv bs xs=>exact hc
 |old p xs=>exact hc
 |clo g rs=>
  exact RCl.map (fun r u hr=>by
   rcases hr with hg|⟨ab,b,cap,h1,h2,h7⟩
   ·exact .inl ((hp r).1 hg)
   ·obtain⟨ha,h3,h4,h5,h6⟩:=(hp r).2 ab h1
    exact .inr ⟨ha,b,cap,h3,by rw [h6];exact h2,h7⟩) hc
 |dead=>trivial
theorem RT.mv(hp:∀(j:Nat),(h[j]? =some .gone->h'[s j]? =some .gone)/\∀(ab:AB),h[j]? =some (.live ab)->∃ab',h'[s j]? =some (.live ab')/\ab'.k=ab.k/\ab'.es.length=ab.es.length/\m'[s j]? =m[j]?){c:AT}{v:Value}
  (hc:RT F w m h c v):RT F w m' h' (c.mv s) v:=by
 cases c with
 |c x=>exact RC.mv hp hc
 |agg xs=>
  obtain⟨vs,h1,h2,h3⟩:=hc
  refine⟨vs,h1,by simpa using h2,fun j x hj=> ?_⟩
  simp only [zqi,zqj]at hj
  obtain⟨y,hy,rfl⟩:=hj
  obtain⟨u,hu,ho,hr⟩:=h3 j y hy
  exact⟨u,hu,ho,RC.mv hp hr⟩
theorem RV.mv(hp:∀(j:Nat),(h[j]? =some .gone->h'[s j]? =some .gone)/\∀(ab:AB),h[j]? =some (.live ab)->∃ab',h'[s j]? =some (.live ab')/\ab'.k=ab.k/\ab'.es.length=ab.es.length/\m'[s j]? =m[j]?){c:AV}{v:Value}
  (hc:RV F w m h c v):RV F w m' h' (c.mv s) v:=by
 cases c with
 |t x=>exact RT.mv hp hc
 |tup xs=>
  obtain⟨vs,h1,h2,h3⟩:=hc
  refine⟨vs,h1,by simpa using h2,fun j x hj=> ?_⟩
  simp only [zqi,zqj]at hj
  obtain⟨y,hy,rfl⟩:=hj
  obtain⟨u,hu,hr⟩:=h3 j y hy
  exact⟨u,hu,RT.mv hp hr⟩
end
section
variable {F:Nat->Prop}{w w':World}{M:AM}{H:AH}
theorem IX{β:BP}{F1:Nat->Prop}{m:AM}{h:AH}{m':AM}{h' H':AH}{M':AM}{s:Nat->Nat}(hH:RH F w M H)(hG:fF F F1 w m h)(hst:dD F1 w m h w' m' h')
  (hsm:∀i e,h[i]? =some e->∃ab AB,e= .live ab/\H[s i]? =some (.live AB)/\AB.k=ab.k/\AB.es.length=ab.es.length/\m[i]? =M[s i]?)
  (hinj:∀i j,s i=s j->i=j)
  (hin:∀i,i<h.length->s i<H.length) (hnew:∀i,h.length<=i->s i=H.length+(i-h.length))
  (hl:H'.length=H.length+(h'.length-h.length)) (hlM:M'.length=H'.length) (hle:h.length<=h'.length)
  (hat:∀i,i<h'.length->H'[s i]? =(h'[i]?).map (AE.mv s)) (hatM:∀i,i<h'.length->h'[i]? ≠some .gone->M'[s i]? =m'[i]?)
  (hout:∀r,r<H.length->(∀i,i<h.length->s i≠r)->H'[r]? =H[r]? /\M'[r]? =M[r]?)
  (hnh:∀i:Nat,h'[i]? ≠some AE.hole):fF F F1 w M H/\dD F1 w M H w' M' H'/\(∀res v,RV F1 w' m' h' res v->RV F1 w' M' H' (res.mv s) v):=by
 have ht:∀(j:Nat),(h'[j]? =some .gone->H'[s j]? =some .gone)/\∀(ab:AB),h'[j]? =some (.live ab)->∃hh,H'[s j]? =some (.live hh)/\hh.k=ab.k/\hh.es.length=ab.es.length/\M'[s j]? =m'[j]? :=fun j=>by
  refine⟨fun hg=> ?_,fun ab hs=> ?_⟩
  ·have hj:=(zqb.1 hg).1
   rw [hat j hj,hg];rfl
  ·have hj:=(zqb.1 hs).1
   exact⟨ab.mv s,by rw [hat j hj,hs];rfl,rfl,by simp [AB.mv],hatM j hj (by rw [hs];simp)⟩
 have hk:∀r ab,H'[r]? =some (.live ab)->(∃i ha,r=s i/\i<h'.length/\h'[i]? =some (.live ha)/\ab=ha.mv s/\M'[r]? =m'[i]?)\/(r<H.length/\(∀i,i<h.length->s i≠r)/\H[r]? =some (.live ab)/\M'[r]? =M[r]?):=fun r ab hr=>by
  have hw:=(zqb.1 hr).1
  have hn:∀i,i<h'.length->r=s i->∃i ha,r=s i/\i<h'.length/\h'[i]? =some (.live ha)/\ab=ha.mv s/\M'[r]? =m'[i]? :=fun i hi hm=>by
   have h1:=hat i hi
   rw [<-hm,hr,zqc hi]at h1
   simp only [Option.map_some,zqy]at h1
   have h2:=zqc hi
   cases he:h'[i]with
   |live ha=>
    rw [he]at h1 h2
    simp only [AE.mv,AE.live.injEq]at h1
    exact⟨i,ha,hm,hi,h2,h1,by rw [hm];exact hatM i hi (by rw [h2];simp)⟩
   |gone=>rw [he]at h1;cases h1
   |hole=>rw [he]at h2;exact absurd h2 (hnh i)
  by_cases hlt:r<H.length
  ·by_cases hex:∃i,i<h.length/\s i=r
   ·obtain⟨i,hi,hm⟩:=hex
    exact .inl (hn i (by omega) hm.symm)
   ·right
    have hc:∀i,i<h.length->s i≠r:=fun i hi he=>hex ⟨i,hi,he⟩
    obtain⟨h1,h2⟩:=hout r hlt hc
    exact⟨hlt,hc,by rw [<-h1];exact hr,h2⟩
  ·left
   have:s (h.length+(r-H.length))=r:=by rw [hnew _ (by omega)];omega
   exact hn _ (by omega) this.symm
 have hD:∀b,F b->w'.heap[b]? =w.heap[b]? :=fun b hb=>hst.blk b (hH.old b hb) fun r ab c h1 h2=>by
  obtain⟨ha,AB,h3,h4,_,_,h5⟩:=hsm r _ h1
  rw [h5]at h2
  exact(hH.lt h4 h2).1 hb
 have hE:∀r ab b c,r<H.length->(∀i,i<h.length->s i≠r)->H[r]? =some (.live ab)->M[r]? =some (some (b,c))->w'.heap[b]? =w.heap[b]? :=fun r ab b c _ hc h1 h2=>hst.blk b (hH.lt h1 h2).2 fun i hA c1 h3 h4=>by
  obtain⟨ha,AB,h5,h6,_,_,h7⟩:=hsm i _ h3
  rw [h7]at h4
  exact hc i (zqb.1 h3).1 (hH.inj _ _ _ _ _ _ _ h6 h1 h4 h2)
 have hq:fV M H M' H':=fun r=>by
  refine⟨fun hg=> ?_,fun ab hs=> ?_⟩
  ·have hw:=(zqb.1 hg).1
   have hc:∀i,i<h.length->s i≠r:=fun i hi he=>by
    obtain⟨ha,AB,_,h4,_⟩:=hsm i _ (zqc hi)
    rw [he,hg]at h4;cases h4
   rw [(hout r hw hc).1];exact hg
  ·have hw:=(zqb.1 hs).1
   by_cases hex:∃i,i<h.length/\s i=r
   ·obtain⟨i,hi,hm⟩:=hex
    obtain⟨ha,AB,h3,h4,h5,h6,h7⟩:=hsm i _ (zqc hi)
    rw [hm,hs]at h4
    cases h4
    have h8:h[i]? =some (.live ha):=by rw [zqc hi,h3]
    rcases(hst.keeps i).2 ha h8 with hg|⟨hh,g1,g2,g3,g4⟩
    ·left;have:=(ht i).1 hg;rwa [hm]at this
    ·obtain⟨hz,k1,k2,k3,k4⟩:=(ht i).2 hh g1
     right
     rw [hm]at k1 k4 h7
     exact⟨hz,k1,by rw [k2,g2,h5],by rw [k3,g3,h6],by rw [k4,g4,h7]⟩
   ·have hc:∀i,i<h.length->s i≠r:=fun i hi he=>hex ⟨i,hi,he⟩
    obtain⟨h1,h2⟩:=hout r hw hc
    exact .inr ⟨ab,by rw [h1];exact hs,rfl,rfl,h2⟩
 have hC:fF F F1 w M H:=⟨hG.1,fun b hb=>by
  rcases hG.2 b hb with h1|h1|⟨r,ab,c,h1,h2⟩
  ·exact .inl h1
  ·exact .inr (.inl h1)
  ·obtain⟨ha,AB,_,k4,_,_,k7⟩:=hsm r _ h1
   rw [k7]at h2
   exact .inr (.inr ⟨_,_,_,k4,h2⟩)⟩
 refine⟨hC,⟨⟨fun r ab hr=> ?_,fun r r' ab hh b c c' h1 h2 h3 h4=> ?_,hlM,hst.hp.old,hst.hp.lo⟩,hq,hst.os,hst.tape,hst.output,hst.size,fun b hb hc=>hst.blk b hb fun i ab c h1 h2=> ?_,fun r ab b c h1 h2=> ?_⟩,fun res v hv=>RV.mv ht hv⟩
 ·rcases hk r ab hr with⟨i,ha,rfl,hi,h1,rfl,h2⟩|⟨hlt,hc,h1,h2⟩
  ·rw [h2]
   rcases hst.hp.at_ i ha h1 with⟨h3,h4⟩|⟨b,c,h3,h4,cur,g1,g2,g3,g4,g5⟩
   ·exact .inl ⟨h3,by simpa [AB.mv]using h4⟩
   ·refine .inr ⟨b,c,h3,h4,cur,g1,g2,by simpa [AB.mv]using g3,g4,fun p x hx=> ?_⟩
    simp only [AB.mv,zqi,zqj]at hx
    obtain⟨y,hy,rfl⟩:=hx
    refine⟨by simpa [AB.mv]using(g5 p y hy).1,fun q d hd=> ?_⟩
    simp only [zqi,zqj]at hd
    obtain⟨d0,hd0,rfl⟩:=hd
    obtain⟨u,hu,ho,hr⟩:=(g5 p y hy).2 q d0 hd0
    exact⟨u,hu,ho,RC.mv ht hr⟩
  ·rw [h2]
   rcases hH.at_ r ab h1 with h3|⟨b,c,h3,h4,h5⟩
   ·exact .inl h3
   ·refine .inr ⟨b,c,h3,fun hf=> ?_,RB.ext hG.1 hD hq (hE r ab b c hlt hc h1 h3) h5⟩
    rcases hG.2 b hf with g1|g1|⟨r0,ha,c0,g1,g2⟩
    ·exact h4 g1
    ·have:=(hH.lt h1 h3).2;omega
    ·obtain⟨hA,AB,_,k4,_,_,k7⟩:=hsm r0 _ g1
     rw [k7]at g2
     exact hc r0 (zqb.1 g1).1 (hH.inj _ _ _ _ _ _ _ k4 h1 g2 h3)
 ·have hx:∀r ab b c,H'[r]? =some (.live ab)->M'[r]? =some (some (b,c))->(∃i ha,r=s i/\h'[i]? =some (.live ha)/\m'[i]? =some (some (b,c)))\/(r<H.length/\(∀i,i<h.length->s i≠r)/\H[r]? =some (.live ab)/\M[r]? =some (some (b,c))):=fun r ab b c h1 h2=>by
   rcases hk r ab h1 with⟨i,ha,h3,hi,h4,_,h5⟩|⟨h3,h4,h5,h6⟩
   ·exact .inl ⟨i,ha,h3,h4,by rw [<-h5];exact h2⟩
   ·exact .inr ⟨h3,h4,h5,by rw [<-h6];exact h2⟩
  have mix:∀(i:Nat)(ha:AB)(r':Nat)(hh:AB)(b c c':Nat),h'[i]? =some (AE.live ha)->m'[i]? =some (some (b,c))->r'<H.length->(∀i,i<h.length->s i≠r')->H[r']? =some (.live hh)->M[r']? =some (some (b,c'))->False:=fun i ha r' hh b c c' g1 g2 g3 g4 g5 g6=>by
   rcases hst.own i ha b c g1 g2 with⟨r0,hA,c0,k1,k2⟩|k1
   ·obtain⟨hB,AB,_,k4,_,_,k7⟩:=hsm r0 _ k1
    rw [k7]at k2
    exact g4 r0 (zqb.1 k1).1 (hH.inj _ _ _ _ _ _ _ k4 g5 k2 g6)
   ·have:=(hH.lt g5 g6).2;omega
  rcases hx r ab b c h1 h3 with⟨i,a0,rfl,g1,g2⟩|⟨g1,g2,g3,g4⟩<;>rcases hx r' hh b c' h2 h4 with⟨i',a0',rfl,g1',g2'⟩|⟨g1',g2',g3',g4'⟩
  ·rw [hst.hp.inj i i' a0 a0' b c c' g1 g1' g2 g2']
  ·exact(mix i a0 r' hh b c c' g1 g2 g1' g2' g3' g4').elim
  ·exact(mix i' a0' r ab b c' c g1' g2' g1 g2 g3 g4).elim
  ·exact hH.inj r r' ab hh b c c' g3 g3' g4 g4'
 ·obtain⟨ha,AB,_,k4,_,_,k7⟩:=hsm i _ h1
  rw [k7]at h2
  exact hc _ _ _ k4 h2
 ·rcases hk r ab h1 with⟨i,ha,rfl,hi,h3,_,h4⟩|⟨h3,h4,h5,h6⟩
  ·rw [h4]at h2
   rcases hst.own i ha b c h3 h2 with⟨r0,hA,c0,k1,k2⟩|k1
   ·obtain⟨hB,AB,_,k4,_,_,k7⟩:=hsm r0 _ k1
    rw [k7]at k2
    exact .inl ⟨_,_,_,k4,k2⟩
   ·exact .inr k1
  ·rw [h6]at h2;exact .inl ⟨r,ab,c,h5,h2⟩
end
def EE.mv(s:Nat->Nat):EE->EE
 | .bx t k x=> .bx t k (x.map (AC.mv s))
 | .rw ab=> .rw (ab.mv s)
 | .gn=> .gn
theorem EE.mv_e(s:Nat->Nat)(e:EE):(e.mv s).e=e.e.mv s:=by cases e<;>rfl
def dl(s:Nat->Nat):List Nat->EH->EH->EH
 | [],H,h'=>H++h'.map (EE.mv s)
 |_::_,H,[]=>H
 |r::σ,H,e::h'=>dl s σ (H.set r (e.mv s)) h'
theorem rL(σ:List Nat)(n i:Nat):plc σ n i=match σ[i]? with|some r=>r|none=>n+(i-σ.length):=by
 unfold plc;rw [fB,dv]
theorem no(s:Nat->Nat):∀(σ:List Nat)(H h':EH),σ.length<=h'.length->(dl s σ H h').length=H.length+(h'.length-σ.length)
 | [],H,h',_=>by simp [dl]
 |r::σ,H,[],hl=>by simp at hl
 |r::σ,H,e::h',hl=>by
  unfold dl
  rw [no s σ _ _ (by simpa using hl)]
  simp
theorem rF(s:Nat->Nat):∀(σ:List Nat)(H h':EH)(i:Nat),σ.length<=h'.length->σ.length<=i->(dl s σ H h')[H.length+(i-σ.length)]? =(h'[i]?).map (EE.mv s)
 | [],H,h',i,_,_=>by
  unfold dl
  rw [show H.length+(i-([]:List Nat).length)=H.length+i by simp,zqg (by omega),Nat.add_sub_cancel_left,zqi]
 |r::σ,H,[],i,hl,_=>by simp at hl
 |r::σ,H,e::h',0,_,hi=>by simp at hi
 |r::σ,H,e::h',i+1,hl,hi=>by
  unfold dl
  have:=rF s σ (H.set r (e.mv s)) h' i (by simpa using hl) (by simpa using hi)
  simpa using this
theorem nm(s:Nat->Nat):∀(σ:List Nat)(H h':EH)(r:Nat),r<H.length->r∉σ->(dl s σ H h')[r]? =H[r]?
 | [],H,h',r,hr,_=>by unfold dl;rw [zqh hr]
 |q::σ,H,[],r,_,_=>rfl
 |q::σ,H,e::h',r,hr,hn=>by
  unfold dl
  simp only [zph,not_or]at hn
  rw [nm s σ _ h' r (by simpa using hr) hn.2,List.getElem?_set_ne (fun h=>hn.1 h.symm)]
theorem uu(s:Nat->Nat):∀(σ:List Nat)(H h':EH)(i r:Nat),σ.Nodup->(∀q∈σ,q<H.length)->i<h'.length->σ[i]? =some r->(dl s σ H h')[r]? =(h'[i]?).map (EE.mv s)
 | [],H,h',i,r,_,_,_,hr=>by simp at hr
 |q::σ,H,[],i,r,_,_,hi,_=>by simp at hi
 |q::σ,H,e::h',i,r,hn,hq,hi,hr=>by
  unfold dl
  rw [List.nodup_cons]at hn
  cases i with
  |zero=>
   simp only [zqw,zqy]at hr
   subst hr
   have ha:q<H.length:=hq q (by simp)
   rw [nm s σ _ h' q (by simpa using ha) hn.1]
   simp [zpm ha]
  |succ i=>
   have:=uu s σ (H.set q (e.mv s)) h' i r hn.2 (fun x hx=>by simpa using hq x (by simp [hx])) (by simpa using hi) (by simpa using hr)
   simpa using this
def HS(ρ:List (Option Nat))(h:EH)(H:EH):List Nat->EH->Prop
 | [],[]=>True
 |r::σ,e::es=>(∃ab AB,e.e= .live ab/\(nth H r).map EE.e=some (.live AB)/\ab.ty=AB.ty/\ab.k=AB.k/\((ab.es=AB.es/\(AB.es.all fun x=>x.all du)=true)\/rnE ρ (toH h) ab.es AB.es))/\HS ρ h H σ es
 |_,_=>False
theorem zC{ρ:List (Option Nat)}{h H:EH}:∀(σ:List Nat)(es:EH),HS ρ h H σ es->σ.length=es.length
 | [],[],_=>rfl
 | [],_::_,h=>h.elim
 |_::_,[],h=>h.elim
 |_::σ,_::es,h=>by simp [zC σ es h.2]
theorem B9{ρ:List (Option Nat)}{h H:EH}:∀(σ:List Nat)(es:EH),HS ρ h H σ es->∀(i:Nat)(e:EE),es[i]? =some e->∃(r:Nat)(ab AB:AB),σ[i]? =some r/\e.e= .live ab/\(toH H)[r]? =some (.live AB)/\ab.ty=AB.ty/\ab.k=AB.k/\((ab.es=AB.es/\(AB.es.all fun x=>x.all du)=true)\/rnE ρ (toH h) ab.es AB.es)
 | [],[],_,i,e,he=>by simp at he
 | [],_::_,h,_,_,_=>h.elim
 |_::_,[],h,_,_,_=>h.elim
 |r::σ,e0::es,hs,i,e,he=>by
  cases i with
  |zero=>
   simp only [zqw,zqy]at he
   subst he
   obtain⟨⟨ab,AB,h1,h2,h3⟩,_⟩:=hs
   refine⟨r,ab,AB,rfl,h1,?_,h3⟩
   rw [fB]at h2
   simpa [toH]using h2
  |succ i=>exact B9 σ es hs.2 i e (by simpa using he)
theorem zA{ρ:List Nat}{h h0 H:EH}:∀(σ pre:List Nat)(es:EH),ρ=pre++σ->HS (ρ.map some) h H σ es->rnH 0 (ρ.map some) (toH h) (toH H) pre.length (toH es)
 | [],pre,[],_,_=>trivial
 | [],_,_::_,_,h=>h.elim
 |_::_,_,[],_,h=>h.elim
 |r::σ,pre,e::es,hρ,hs=>by
  have ih:=zA (h0:=h0) σ (pre++[r]) es (by simp [hρ]) hs.2
  rw [zqe,zqm]at ih
  obtain⟨⟨ab,AB,h1,h2,h3,h4,h5⟩,_⟩:=hs
  have h6:(toH H)[r]? =some (.live AB):=by rw [fB]at h2;simpa [toH]using h2
  have h7:(List.map some ρ)[pre.length]? =some (some r):=by simp [hρ]
  show rnH 0 (ρ.map some) (toH h) (toH H) pre.length (e.e::toH es)
  unfold rnH
  refine⟨fun hi=>absurd hi (zpq _),?_,ih⟩
  rw [h1]
  simp only [h7,h6]
  exact⟨h3,h4,h5⟩
section
variable {P:Program}{n0 N:Nat}{g:Gd}
theorem RH.rn0{β:BP}{F:Nat->Prop}{w:World}{M:AM}{H h:AH}{ρ:List (Option Nat)}(hH:RH F w M H)(hnd:(ρ.filterMap id).Nodup)(hr:rnH 0 ρ h H 0 h):RH F w (rnM M ρ h.length) h:=
 (gA.rn (n0:=0) (h0:=[]) (w0:={w with heap:= #[]}) (m0:=[]) (h:=H) (m:=M) (h':=h) (ρ:=ρ) (F:=F) (w:=w) ⟨hH,fun r=>⟨fun h=>by simp at h,fun ab h=>by simp at h⟩,rfl,rfl,rfl,zpn _,fun b hb=>absurd hb (zpq _),fun r ab b c h1 h2=> .inr (zpn _),fun b cur ty _ hc=>by simp at hc⟩ rfl (zpn _) (fun i hi=>absurd hi (zpq _)) hnd hr).hp
theorem Cx{σ:List Nat}{n:Nat}(hnd:σ.Nodup)(hlt:∀r∈σ,r<n):∀i j,plc σ n i=plc σ n j->i=j:=fun i j h=>by
 rw [rL,rL]at h
 cases hi:σ[i]? with
 |some r=>
  cases hj:σ[j]? with
  |some q=>
   rw [hi,hj]at h
   simp only at h
   subst h
   have h1:=(zqb.1 hi)
   have h2:=(zqb.1 hj)
   obtain⟨a1,a2⟩:=h1
   obtain⟨b1,b2⟩:=h2
   exact(List.getElem_inj hnd).1 (a2.trans b2.symm)
  |none=>
   rw [hi,hj]at h
   have:=hlt r (zqd hi)
   simp only at h
   omega
 |none=>
  cases hj:σ[j]? with
  |some q=>
   rw [hi,hj]at h
   have:=hlt q (zqd hj)
   simp only at h
   omega
  |none=>
   rw [hi,hj]at h
   have h1:=List.getElem?_eq_none_iff.1 hi
   have h2:=List.getElem?_eq_none_iff.1 hj
   simp only at h
   omega
theorem Du{β:BP}(hg:g=G0 P n0 N){H h:EH}(σ:List Nat){f:FuncId}{args args':List AT}{K:AV->EH->Prop}{Post:AV->EH->Prop}
  (hc:Con P f (toH h) args' fun res h'=>∃eh,toH eh=h'/\Post res eh) (hnd:σ.Nodup) (hlt:∀r∈σ,r<H.length) (hsub:HS (σ.map some) h H σ h) (ha:zV (σ.map some) (toH h) args' args)
  (hK:∀res eh,Post res eh->K (res.mv (plc σ H.length)) (dl (plc σ H.length) σ H eh)):g .C f H args K:=by
 subst hg
 refine⟨hc.1,fun F w M vs hH hl hx=> ?_⟩
 have hσ:=zC σ h hsub
 have hr:rnH 0 (σ.map some) (toH h) (toH H) 0 (toH h):=zA (h0:=[]) σ [] h rfl hsub
 have hs:((σ.map some).filterMap id).Nodup:=by rw [rR];exact hnd
 have hz:=RH.rn0 hH hs hr
 have hB:=nV _ _ ha
 have:=hc.2 F w _ vs hz (by rw [hl,hB]) (fun j y hj=>by
  obtain⟨x,hL,hM⟩:=nW _ _ j y ha hj
  obtain⟨v,hv,hJ⟩:=hx j x hL
  exact⟨v,hv,RT.rn hH hr hJ hM⟩)
 refine this.mono fun e w'⟨v,res,h',m',F1,he,⟨eh,heh,hpost⟩,hG,hst,hv⟩=> ?_
 subst heh
 have hn:M.length=H.length:=by have:=hH.len;rw [bP]at this;exact this
 have ho:m'.length=eh.length:=by have:=hst.hp.len;rw [bP]at this;exact this
 have hd:∀(i:Nat)(x:AE),(toH h)[i]? =some x->∃(r:Nat)(ab AB:AB),σ[i]? =some r/\x= .live ab/\(toH H)[r]? =some (.live AB)/\AB.k=ab.k/\AB.es.length=ab.es.length:=fun i x hx=>by
  simp only [toH,zqi,zqj]at hx
  obtain⟨e0,hC,rfl⟩:=hx
  obtain⟨r,ab,AB,h1,h2,h3,_,h4,h5⟩:=B9 σ h hsub i e0 hC
  refine⟨r,ab,AB,h1,h2,h3,h4.symm,?_⟩
  rcases h5 with h5|h5
  ·rw [h5.1]
  ·exact(yv _ _ h5).symm
 have hD:h.length<=eh.length:=by
  rcases Nat.eq_zero_or_pos h.length with h0|h0
  ·omega
  ·have hx:=zqc (l:=toH h) (i:=h.length-1) (by rw [bP];omega)
   obtain⟨r,ab,AB,_,h2,_⟩:=hd _ _ hx
   rw [h2]at hx
   rcases(hst.keeps (h.length-1)).2 ab hx with hg|⟨ab',hg,_⟩
   ·have:=(zqb.1 hg).1;rw [bP]at this;omega
   ·have:=(zqb.1 hg).1;rw [bP]at this;omega
 have hf:∀(i r:Nat),σ[i]? =some r->plc σ H.length i=r:=fun i r h1=>by rw [rL,h1]
 have ht:∀i:Nat,σ.length<=i->plc σ H.length i=H.length+(i-σ.length):=fun i h1=>by rw [rL,zqz h1]
 have hb:∀i:Nat,i<σ.length->∃r,σ[i]? =some r:=fun i hi=>⟨_,zqc hi⟩
 have hw:∀(i r:Nat),σ[i]? =some r->(rnM M (σ.map some) (toH h).length)[i]? =M[r]? :=fun i r h1=>by
  have hi:i<(toH h).length:=by rw [bP,<-hσ];exact(zqb.1 h1).1
  have hk:r<M.length:=by rw [hn];exact hlt r (zqd h1)
  rw [gH hi (by simp [h1]) (zqc hk),zqc hk]
 let M':AM:=M++m'.drop h.length
 have hA:M'.length=(dl (plc σ H.length) σ H eh).length:=by
  rw [no _ _ _ _ (by omega)];simp [M',hn,ho];omega
 have hq:∀(r i:Nat),(dl (plc σ H.length) σ H eh)[r]? =(eh[i]?).map (EE.mv (plc σ H.length))->(toH (dl (plc σ H.length) σ H eh))[r]? =((toH eh)[i]?).map (AE.mv (plc σ H.length)):=fun r i h1=>by
  simp only [toH,zqi,h1]
  cases eh[i]? with
  |none=>rfl
  |some x=>simp [EE.mv_e]
 obtain⟨hy,hh,hu⟩:=IX (H':=toH (dl (plc σ H.length) σ H eh)) (M':=M') (s:=plc σ H.length) hH hG hst
  (fun i x hx=>by
   obtain⟨r,ab,AB,h1,h2,h3,h4,h5⟩:=hd i x hx
   rw [hf i r h1]
   exact⟨ab,AB,h2,h3,h4,h5,hw i r h1⟩)
  (Cx hnd hlt)
  (fun i hi=>by
   rw [bP]at hi⊢
   obtain⟨r,h1⟩:=hb i (by omega)
   rw [hf i r h1];exact hlt r (zqd h1))
  (fun i hi=>by rw [bP]at hi⊢;rw [bP,ht i (by omega),hσ])
  (by rw [bP,bP,bP,bP,no _ _ _ _ (by omega),hσ])
  (by rw [bP];exact hA)
  (by rw [bP,bP];exact hD)
  (fun i hi=>by
   rw [bP]at hi
   apply hq
   by_cases hil:i<σ.length
   ·obtain⟨r,h1⟩:=hb i hil
    rw [hf i r h1]
    exact uu _ σ H eh i r hnd hlt hi h1
   ·rw [ht i (by omega)]
    exact rF _ σ H eh i (by omega) (by omega))
  (fun i hi hF=>by
   rw [bP]at hi
   by_cases hil:i<σ.length
   ·obtain⟨r,h1⟩:=hb i hil
    rw [hf i r h1]
    have hx:=zqc (l:=toH h) (i:=i) (by rw [bP];omega)
    obtain⟨r',ab,AB,_,h2,_⟩:=hd _ _ hx
    rw [h2]at hx
    rcases(hst.keeps i).2 ab hx with hg|⟨ab',_,_,_,h4⟩
    ·exact absurd hg hF
    ·rw [h4,hw i r h1]
     have hk:r<M.length:=by rw [hn];exact hlt r (zqd h1)
     exact zqh hk
   ·rw [ht i (by omega)]
    show(M++m'.drop h.length)[H.length+(i-σ.length)]? =_
    rw [zqg (by omega),List.getElem?_drop]
    congr 1
    omega)
  (fun r hr hE=>by
   rw [bP]at hr
   have hI:r∉σ:=fun hm=>by
    obtain⟨i,hi,h1⟩:=zpi hm
    have h2:=zqc hi
    rw [h1]at h2
    exact hE i (by rw [bP];omega) (hf i r h2)
   refine⟨?_,zqh (by omega)⟩
   simp only [toH,zqi,nm _ σ H eh r hr hI])
  (fun i hx=>by
   simp only [toH,zqi,zqj]at hx
   obtain⟨e0,_,h1⟩:=hx
   cases e0<;>cases h1)
 exact⟨v,res.mv _,_,M',F1,he,⟨_,rfl,hK res eh hpost⟩,hy,hh,hu res v hv⟩
end
inductive OT
 |done
 |none
 |op (i:Nat) (t r:OT)
def otB(ops:Array Oper):OT->Nat->Array Bool->List Nat->Bool->Bool
 | .done,_,_,al,top=>top&&al.isEmpty
 | .none,_,_,al,top=> !top&&al.isEmpty
 | .op i t r,f,L,al,_=>match f,al with
  |f'+1,j::al'=>Nat.beq i j&&(otB ops t f' (L.setIfInBounds i true) (Region.ready .any ops (L.setIfInBounds i true)) true&&otB ops r f L al' false)
  |_,_=>false
def Kf(ops:Array Oper)(t:OT):Bool:=otB ops t ops.size (Array.replicate ops.size false) (Region.ready .any ops (Array.replicate ops.size false)) true
section
variable {P:Program}{F:Nat->Prop}{w0:World}{m0:AM}{h0:AH}{N:Nat}{ops:Array Oper}{T:Nat->AV}{h:AH}
def HR [BP](P:Program)(ops:Array Oper)(Q:(Nat->AV)->AH->Prop):OT->(Nat->AV)->AH->Prop
 | .done,T,h=>Q T h
 | .none,_,_=>True
 | .op i t r,T,h=>(∃(o:Oper)(K:(Nat->AV)->AH->Prop),ops[i]? =some o/\sO P ops K [o] T h/\∀T h,K T h->HR P ops Q t T h)/\HR P ops Q r T h
theorem ph{β:BP}{F0:Nat->Prop}{Q:Exit->(Nat->AV)->AH->Prop}(hg:gv N ops=true)(hd:ops.toList.all (fS N)=true):
  ∀(t:OT)(f:Nat)(L:Array Bool)(al:List Nat)(top:Bool)(F:Nat->Prop)(T:Nat->AV)(h:AH)(a:Act)(w:World)(m:AM),otB ops t f L al top=true->fF F0 F w0 m0 h0->Rel F w0 m0 h0 N T h a w m->HR P ops (Q .normal) t T h->
   (∀i∈al,∃f',f=f'+1/\wpOp P ops (kB F0 w0 m0 h0 N Q) i (wpAny P .any ops (kB F0 w0 m0 h0 N Q) f' (L.setIfInBounds i true)) a w)/\(top=true->al=[]->kB F0 w0 m0 h0 N Q .normal a w)
 | .done,f,L,al,top,F,T,h,a,w,m,hB,hG,r,hq=>by
  simp only [otB,zqs,List.isEmpty_iff]at hB
  obtain⟨h1,rfl⟩:=hB
  exact⟨fun i hi=>by simp at hi,fun _ _=>⟨T,h,m,F,hq,hG,r⟩⟩
 | .none,f,L,al,top,F,T,h,a,w,m,hB,hG,r,hq=>by
  simp only [otB,zqs,List.isEmpty_iff,Bool.not_eq_true']at hB
  obtain⟨h1,rfl⟩:=hB
  exact⟨fun i hi=>by simp at hi,fun ht=>by rw [h1]at ht;cases ht⟩
 | .op i t rs,f,L,al,top,F,T,h,a,w,m,hB,hG,r,hq=>by
  unfold otB at hB
  split at hB
  ·rename_i f' j al'
   simp only [zqs]at hB
   obtain⟨he,hh,hj⟩:=hB
   have he:i=j:=Nat.eq_of_beq_eq_true he
   subst he
   obtain⟨⟨o,K,ho,hs,hK⟩,hr⟩:=hq
   refine⟨fun k hk=> ?_,fun _ h1=>by cases h1⟩
   rcases zph.1 hk with rfl|hk
   ·refine⟨f',rfl,?_⟩
    have ha:o∈ops.toList:=zqd (by simpa using ho:ops.toList[k]? =some o)
    have hf:fS N o=true:=zqf.1 hd o ha
    have fin:∀(F1:Nat->Prop)(T1:Nat->AV)(h1:AH)(a1:Act)(w1:World)(m1:AM),fF F0 F1 w0 m0 h0->Rel F1 w0 m0 h0 N T1 h1 a1 w1 m1->HR P ops (Q .normal) t T1 h1->
      wpAny P .any ops (kB F0 w0 m0 h0 N Q) f' (L.setIfInBounds k true) a1 w1:=fun F1 T1 h1 a1 w1 m1 hb r1 hl=>by
     obtain⟨hA,hE⟩:=ph hg hd t f' _ _ true F1 T1 h1 a1 w1 m1 hh hb r1 hl
     cases f' with
     |zero=>
      have hn:Region.ready .any ops (L.setIfInBounds k true)=[]:=by
       cases hc:Region.ready .any ops (L.setIfInBounds k true)with
       |nil=>rfl
       |cons x xs=>
        obtain⟨f2,h2,_⟩:=hA x (by rw [hc];simp)
        cases h2
      exact⟨hn,hE rfl hn⟩
     |succ f2=>
      refine⟨fun hn=>hE rfl hn,fun i hi=> ?_⟩
      obtain⟨f3,h3,h4⟩:=hA i hi
      cases h3
      exact h4
    unfold wpOp
    rw [ho]
    simp only
    unfold sO at hs
    rcases jM (a:=a) (fun g t h1 h2=>by rw [r.sz];exact fi hg ha g t h1 h2) (fun g t _ _=>r.tm t) hs with⟨hw,hA⟩|⟨hw,hA⟩
    ·rw [if_pos hw]
     left
     refine(lK r.st.hp r.tm hA).wp (fun v w'⟨res,h',m',F1,hk,hb,hs,hv⟩=> ?_)
     exact fin F1 _ _ _ _ _ (r.grow hG hb) (r.nextG hf hb.1 hs hv) (hK _ _ hk)
    ·rw [if_neg (by rw [hw];simp)]
     exact fin F _ _ _ _ _ hG (r.skip hf) (hK _ _ hA)
   ·exact(ph hg hd rs _ L al' false F T h a w m hj hG r hr).1 k hk
  ·cases hB
theorem H3{β:BP}{n0:Nat}{Q:Exit->(Nat->AV)->AH->Prop}{id:Nat}{l:List Oper}(t:OT)(hm:P.follows .mixedOrders=true)(hok:gf N l.toArray=true)(hB:Kf l.toArray t=true)(hs:HR P l.toArray (Q .normal) t T h):
  VC P n0 N (.region id l.toArray true) Q T h:=fun F w0 m0 h0 a w m hn r=>by
 unfold gf at hok
 simp only [zqs]at hok
 refine wp_region_any hm ?_
 have ha:=dD.drew r.st.hp
 have r':Rel F w0 m0 h0 N T h a {w with drawn:=w.drawn+1} m:=⟨fun d=>RV.step ha r.st.hp (r.tm d),r.st.trans ha,r.df,r.sz⟩
 obtain⟨hA,hE⟩:=ph (F0:=F) hok.1 hok.2 t _ _ _ true F T h a _ m hB (fF.refl _ _ _ _) r' hs
 generalize hf:l.toArray.size=f at *
 cases f with
 |zero=>
  have hn:Region.ready .any l.toArray (Array.replicate 0 false)=[]:=by
   cases hc:Region.ready .any l.toArray (Array.replicate 0 false)with
   |nil=>rfl
   |cons x xs=>
    obtain⟨f2,h2,_⟩:=hA x (by rw [hc];simp)
    cases h2
  exact⟨hn,hE rfl hn⟩
 |succ f2=>
  refine⟨fun hn=>hE rfl hn,fun i hi=> ?_⟩
  obtain⟨f3,h3,h4⟩:=hA i hi
  cases h3
  exact h4
end
def Jx(g:Gd)(tab:List (TypeId×TI))(ops:List Oper)(Q:List (Nat×AV)->EH->Prop):OT->List (Nat×AV)->EH->Prop
 | .done,l,h=>Q l h
 | .none,_,_=>True
 | .op i t r,l,h=>(match nth ops i with
  |some o=>lp g tab ops (fun l h=>Jx g tab ops Q t l h) [o] 0 l h
  |none=>False)/\Jx g tab ops Q r l h
def lkO:List (Nat×OT)->Nat->Option OT
 | [],_=>none
 |(k,t)::l,d=>match Nat.beq k d with|true=>some t|false=>lkO l d
def tt(ots:List (Nat×OT))(g:Gd)(tab:List (TypeId×TI)):Code->(Exit->List (Nat×AV)->EH->Prop)->List (Nat×AV)->EH->Prop
 | .skip,Q,l,h=>Q .normal l h
 | .ret,Q,l,h=>Q .ret l h
 | .exit id,Q,l,h=>Q (.exit id) l h
 | .seq x y,Q,l,h=>tt ots g tab x (fun e l h=>match e with| .normal=>tt ots g tab y Q l h|e=>Q e l h) l h
 | .cond c x y,Q,l,h=>match ev (lkT l) c with
  | .t (.c (.imm (.bool b)))=>(match b with|true=>tt ots g tab x Q l h|false=>tt ots g tab y Q l h)
  |_=>False
 | .block id c,Q,l,h=>tt ots g tab c (fun e l h=>match e with| .exit i=>(match Nat.beq i id with|true=>Q .normal l h|false=>Q (.exit i) l h)|e=>Q e l h) l h
 | .region id ops draw,Q,l,h=>match draw with
  |false=>lp g tab ops.toList (fun l h=>Q .normal l h) ops.toList 0 l h
  |true=>match lkO ots id with
   |some t=>Jx g tab ops.toList (fun l h=>Q .normal l h) t l h
   |none=>lp g tab ops.toList (fun l h=>Q .normal l h) ops.toList (wo ops.toList ops.toList) l h
 | .loop c,Q,l,h=>g .L c Q l h
 |_,_,_,_=>False
def ii(ots:List (Nat×OT))(N:Nat):Code->Bool
 | .seq x y=>ii ots N x&&ii ots N y
 | .cond _ x y=>ii ots N x&&ii ots N y
 | .block _ c=>ii ots N c
 | .region id ops draw=>gf N ops&&(!draw||(match lkO ots id with|some t=>Kf ops t|none=>ud ops (wo ops.toList ops.toList)))
 | .loop c=>ii ots N c
 |_=>true
section
variable {P:Program}{n0 N:Nat}{tab:List (TypeId × TI)}
theorem o3{β:BP}(hf:fI P tab){ops:Array Oper}{Q:List (Nat×AV)->EH->Prop}:∀(t:OT)(l:List (Nat×AV))(h:EH),Jx (G0 P n0 N) tab ops.toList Q t l h->HR P ops (QH Q) t (lkT l) (toH h)
 | .done,l,h,hp=>⟨l,h,rfl,rfl,hp⟩
 | .none,_,_,_=>trivial
 | .op i t r,l,h,hp=>by
  obtain⟨h1,h2⟩:=hp
  refine⟨?_,o3 hf r l h h2⟩
  split at h1
  ·rename_i o ho
   rw [fB,Array.getElem?_toList]at ho
   have h3:=bV hf [o] 0 l h h1
   refine⟨o,_,ho,h3,fun T h hk=> ?_⟩
   obtain⟨l',eh,rfl,rfl,hq⟩:=hk
   exact o3 hf t l' eh hq
  ·exact h1.elim
theorem gl{β:BP}(hf:fI P tab){ots:List (Nat×OT)}:∀(c:Code)(Q:Exit->List (Nat×AV)->EH->Prop)(l:List (Nat×AV))(h:EH),ii ots N c=true->tt ots (G0 P n0 N) tab c Q l h->VC P n0 N c (QE Q) (lkT l) (toH h)
 | .skip,Q,l,h,_,hp=>yj ⟨l,h,rfl,rfl,hp⟩
 | .ret,Q,l,h,_,hp=>BX ⟨l,h,rfl,rfl,hp⟩
 | .exit id,Q,l,h,_,hp=>yk ⟨l,h,rfl,rfl,hp⟩
 | .seq x y,Q,l,h,ho,hp=>by
  simp only [ii,zqs]at ho
  refine zp (fy (fun e T h hq=> ?_) (gl hf x _ l h ho.1 hp))
  obtain⟨l,eh,rfl,rfl,hq⟩:=hq
  cases e<;>first
   |exact⟨l,eh,rfl,rfl,hq⟩
   |exact gl hf y Q l eh ho.2 hq
 | .cond c x y,Q,l,h,ho,hp=>by
  simp only [ii,zqs]at ho
  simp only [tt]at hp
  split at hp
  ·rename_i b hb
   refine ym hb (fun hb=> ?_) (fun hb=> ?_)
   ·subst hb;exact gl hf x Q l h ho.1 hp
   ·subst hb;exact gl hf y Q l h ho.2 hp
  ·exact hp.elim
 | .block id c,Q,l,h,ho,hp=>by
  refine uT (fy (fun e T h hq=> ?_) (gl hf c _ l h ho hp))
  obtain⟨l,eh,rfl,rfl,hq⟩:=hq
  cases e<;>first
   |exact⟨l,eh,rfl,rfl,hq⟩
   |skip
  rename_i i
  simp only [xS]
  simp only at hq
  split at hq
  ·rename_i hb
   rw [if_pos (bt hb)]
   exact⟨l,eh,rfl,rfl,hq⟩
  ·rename_i hb
   rw [if_neg (fun he=>by subst he;simp at hb)]
   exact⟨l,eh,rfl,rfl,hq⟩
 | .region id ops draw,Q,l,h,ho,hp=>by
  obtain⟨os⟩:=ops
  simp only [ii,zqs,Bool.or_eq_true,Bool.not_eq_true']at ho
  cases draw with
  |false=>exact qV ho.1 (bV hf os 0 l h hp)
  |true=>
   obtain⟨h1,h2⟩:=ho
   rcases h2 with h2|h2
   ·cases h2
   ·simp only [tt]at hp
    cases hl:lkO ots id with
    |some t=>
     rw [hl]at h2 hp
     exact H3 t hf.mix h1 h2 (o3 hf (ops:=os.toArray) t l h hp)
    |none=>
     rw [hl]at h2 hp
     exact yl _ hf.mix h1 h2 (bV hf os _ l h hp)
 | .loop c,Q,l,h,_,hp=>hp
 | .rangeFunc _ _ _ _,_,_,_,_,hp=>hp.elim
 | .scope _,_,_,_,_,hp=>hp.elim
 | .label _,_,_,_,_,hp=>hp.elim
 | .goto _,_,_,_,_,hp=>hp.elim
 | .refuse _,_,_,_,_,hp=>hp.elim
variable {args:List AT}
theorem E9{β:BP}{ots:List (Nat×OT)}{f:FuncId}{fn:Func}{c:Code}{Post:AV->AH->Prop}{h:EH}(hfit:fI P tab)(hf:P.funcs[f]? =some fn)(hb:fn.body=some c)(hnm:(fn.name== "runtime.NumGoroutine")=false)(hn:args.length<=fn.ntmps)
  (hok:ii ots fn.ntmps c=true) (hv:∀(g:Gd)(F:List AT->EH->Prop),g=G0 P (toH h).length fn.ntmps->F=li (toH h).length Post->tt ots g tab c (yU tab fn.results.toList F) (sG args 0) h) (hex:∀b,¬BP.ex b:=by exact fun _ h=>h):Con P f (toH h) args Post:=by
 refine sD hex hf hb hnm hn (jB (T':=lkT (sG args 0)) (fun d=> ?_) (fy (fun e T h hq=> ?_) (gl hfit c _ _ h hok (hv _ _ rfl rfl))))
 ·rcases nt args 0 d with h1|⟨x,h1,h2,h3⟩
  ·exact .inl h1
  ·refine .inr ?_
   rw [h3]
   simp only [Nat.sub_zero]at h1
   simp only [T0,h1]
 ·obtain⟨l,eh,rfl,rfl,hq⟩:=hq
  cases e<;>first
   |exact hq.elim
   |exact fL hfit _ _ hq
theorem CE(ots:List (Nat×OT)){f:FuncId}{fn:Func}{c:Code}{Post:AV->List AB->Prop}(hfit:fI P tab)(hf:P.funcs[f]? =some fn)(hb:fn.body=some c)(hnm:(fn.name== "runtime.NumGoroutine")=false)(hn:Nat.ble args.length fn.ntmps=true)
  (hok:ii ots fn.ntmps c=true) (hv:∀(g:Gd)(F:List AT->EH->Prop),g=G0 P 0 fn.ntmps->F=li 0 (fun res h'=>∃rows,h'=rows.map .live/\Post res rows)->tt ots g tab c (yU tab fn.results.toList F) (sG args 0) []):bX P f args Post:=
 E9 (h:=[]) hfit hf hb hnm (bl hn) hok hv
end
theorem dh{β:BP}{P:Program}{n0 N:Nat}{g:Gd}(hg:g=G0 P n0 N){t k by_:Nat}{es:LLA}{y:List AC}{q:Prop}(hk:y.length=k)(hb:by_<=65536)(hl:es.length<=1048576)(hq:q):
  g .N ((∀x,x∈[y]->x.length=k)/\((AB.mk t k es).es.length+[y].length)*by_<=140737488355328/\(AB.mk t k es).es.length+[y].length<=4611686018427387904) q:=
 goN hg ⟨fun x hx=>by rw [zpa.1 hx];exact hk,zpb (Nat.mul_le_mul (show es.length+1<=1048577 by omega) hb) (by decide),by show es.length+1<=_;omega⟩ hq
end Go.Proofs.YtckchgoblpgpbaaGreat.Am
