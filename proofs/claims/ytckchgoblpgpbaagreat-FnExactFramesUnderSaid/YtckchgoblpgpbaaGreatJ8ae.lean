/- A part of AM, a framework of the prover own: functions of any program as maps of data. -/
import Derived.Test.YtckchgoblpgpbaaGreatJ8ad
set_option linter.unusedVariables false
set_option linter.unusedSimpArgs false
namespace Go.Proofs.YtckchgoblpgpbaaGreat.Am
open Go.RowKit
instance:BP:=bp0
def Ht(tab:List (TypeId×TI))(T:Nat->AV)(h:EH):List ResultVar->(List AT->Prop)->Prop
 | [],K=>K []
 | .tmp t::rs,K=>match T t with| .t x=>Ht tab T h rs (fun xs=>K (x::xs))|_=>False
 | .cell a t::rs,K=>match ti tab t with
  |some i=>match T a with
   | .t (.c (.ptr r e off))=>match nth h r with
    |some (.bx _ _ x)=>(match e with|0=>ldG i.agg x off (fun v=>match v with| .t y=>Ht tab T h rs (fun xs=>K (y::xs))|_=>False)|_=>False)
    |_=>False
   |_=>False
  |none=>False
def zF(tab:List (TypeId×TI))(rs:List ResultVar)(F:List AT->EH->Prop):Exit->List (Nat×AV)->EH->Prop
 | .normal,l,h=>Ht tab (lkT l) h rs (fun xs=>F xs h)
 | .ret,l,h=>Ht tab (lkT l) h rs (fun xs=>F xs h)
 |_,_,_=>False
def lv(n0:Nat)(Post:AV->AH->Prop)(xs:List AT)(eh:EH):Prop:=(∃res' h' ρ,Wk n0 (fun _=>mkV xs) (toH eh) [(0,res')] h' ρ/\Post res' h')\/(n0=0/\∃ys,qO (toH eh) xs ys/\Post (mkV ys) [])
def sV:List AT->Nat->List (Nat×AV)
 | [],_=>[]
 |x::xs,i=>(i,.t x)::sV xs i.succ
def jD(f:Func):Code:=f.body.getD .skip
def p8:AT->Bool
 | .c c=>dx c
 | .agg xs=>xs.all dx
def dv:AV->Bool
 | .t x=>p8 x
 | .tup xs=>xs.all p8
def dat:AC->Bool
 | .imm _=>true
 | .view _=>true
 |_=>false
def Kh:List AT->Bool
 | []=>true
 |x::xs=>x.cells.all dat&&Kh xs
def K9:AC->Bool
 | .imm _=>true
 | .view _=>true
 | .eptr _ _=>true
 |_=>false
def i7:List AT->Bool
 | []=>true
 |x::xs=>x.cells.all K9&&i7 xs
section
variable {P:Program}{tab:List (TypeId × TI)}{n0 N:Nat}{T:Nat->AV}{h:EH}{n:Nat}
theorem fN(hf:fL P tab):∀(rs:List ResultVar)(K:List AT->Prop),Ht tab T h rs K->rsL P T (toH h) rs K
 | [],K,hp=>hp
 | .tmp t::rs,K,hp=>by
  simp only [Ht]at hp
  simp only [rsL,rsA]
  split at hp
  ·rename_i x hx;rw [hx];exact fN hf rs _ hp
  ·exact hp.elim
 | .cell a t::rs,K,hp=>by
  simp only [Ht]at hp
  simp only [rsL,rsA]
  split at hp
  ·rename_i i hi
   rw [(dq (hf.info hi)).1]
   split at hp
   ·rename_i r e off hx
    rw [hx]
    simp only
    split at hp
    ·rename_i t' k x hr
     rw [uV hr]
     split at hp
     ·exact⟨x,rfl,mg hp fun v hv=>by
       split at hv
       ·exact fN hf rs _ hv
       ·exact hv.elim⟩
     ·exact hp.elim
    ·exact hp.elim
   ·exact hp.elim
  ·exact hp.elim
theorem nH:∀(args:List AT)(i d:Nat),lkT (sV args i) d= .t (.c .dead)\/∃x,args[d-i]? =some x/\i<=d/\lkT (sV args i) d= .t x
 | [],i,d=> .inl rfl
 |x::xs,i,d=>by
  simp only [sV,lkT]
  by_cases hd:d=i
  ·subst hd;rw [if_pos rfl];exact .inr ⟨x,by simp,zpk _,rfl⟩
  ·rw [if_neg hd]
   rcases nH xs i.succ d with h1|⟨y,h1,h2,h3⟩
   ·exact .inl h1
   ·refine .inr ⟨y,?_,by omega,h3⟩
    rw [show d-i=(d-i.succ)+1 by omega]
    simpa using h1
theorem jI{β:BP}{c:Code}{Q:Exit->(Nat->AV)->AH->Prop}{T T':Nat->AV}{h:AH}(hT:∀d,T' d= .t (.c .dead)\/T' d=T d)(hv:VC P n0 N c Q T' h):VC P n0 N c Q T h:=fun F w0 m0 h0 a w m hn r=>
 hv F w0 m0 h0 a w m hn ⟨fun d=>by
  rcases hT d with h1|h1
  ·rw [h1];trivial
  ·rw [h1];exact r.tm d,r.st,r.df,r.sz⟩
variable {args:List AT}{f:FuncId}{fn:Func}
theorem px{β:BP}{c:Code}{Post:AV->AH->Prop}(hfit:fL P tab)(hf:P.funcs[f]? =some fn)(hb:fn.body=some c)(hnm:(fn.name== "runtime.NumGoroutine")=false)(hn:args.length<=fn.ntmps)
  (hok:fS fn.ntmps c=true) (hv:∀(g:Gd)(F:List AT->EH->Prop),g=G0 P (toH h).length fn.ntmps->F=lv (toH h).length Post->vV g tab c (zF tab fn.results.toList F) (sV args 0) h) (hex:∀b,¬BP.ex b:=by exact fun _ h=>h):Con P f (toH h) args Post:=by
 refine sQ hex hf hb hnm hn (jI (T':=lkT (sV args 0)) (fun d=> ?_) (fD (fun e T h hq=> ?_) (fM hfit c _ _ h hok (hv _ _ rfl rfl))))
 ·rcases nH args 0 d with h1|⟨x,h1,h2,h3⟩
  ·exact .inl h1
  ·refine .inr ?_
   rw [h3]
   simp only [Nat.sub_zero]at h1
   simp only [T0,h1]
 ·obtain⟨l,eh,rfl,rfl,hq⟩:=hq
  cases e<;>first
   |exact hq.elim
   |exact fN hfit _ _ hq
variable {Post:AV->List AB->Prop}
theorem AN{c:Code}(hfit:fL P tab)(hf:P.funcs[f]? =some fn)(hb:fn.body=some c)(hnm:(fn.name== "runtime.NumGoroutine")=false)(hn:Nat.ble args.length fn.ntmps=true)
  (hok:fS fn.ntmps c=true) (hv:∀(g:Gd)(F:List AT->EH->Prop),g=G0 P 0 fn.ntmps->F=lv 0 (fun res h'=>∃rows,h'=rows.map .live/\Post res rows)->vV g tab c (zF tab fn.results.toList F) (sV args 0) []):bS P f args Post:=
 px (h:=[]) hfit hf hb hnm (bl hn) hok hv
theorem I9(c:Code)(hfit:fL P tab)(hf:P.funcs[f]? =some fn)
  (hv:∀(g:Gd)(F:List AT->EH->Prop),g=G0 P 0 fn.ntmps->F=lv 0 (fun res h'=>∃rows,h'=rows.map .live/\Post res rows)->vV g tab c (zF tab fn.results.toList F) (sV args 0) []) (hb:fn.body=some c:=by kernel_rfl) (hnm:(fn.name== "runtime.NumGoroutine")=false:=by kernel_rfl) (hn:Nat.ble args.length fn.ntmps=true:=by rfl) (hok:fS fn.ntmps c=true:=by kernel_rfl):bS P f args Post:=AN hfit hf hb hnm hn hok hv
variable {ρ:List (Option Nat)}{h':AH}
theorem xO{c:AC}(hp:dx c=true):rnC ρ h' c c:=by
 cases c<;>first|rfl|trivial|cases hp
theorem rL{x:AT}(hp:p8 x=true):rnT ρ h' x x:=by
 cases x with
 |c c=>unfold rnT;exact xO hp
 |agg xs=>exact .inl ⟨rfl,hp⟩
theorem uO{ρ:List (Option Nat)}{h':AH}:∀{xs:List AT},xs.all p8=true->AD ρ h' xs xs
 | [],_=>trivial
 |x::xs,hp=>by
  simp only [zqD,zqs]at hp
  exact⟨rL hp.1,uO hp.2⟩
theorem iR{x:AV}(hp:dv x=true):rnV ρ h' x x:=by
 cases x with
 |t x=>
  cases x with
  |c c=>cases c<;>first|trivial|exact rL hp
  |agg xs=>exact rL (x:= .agg xs) hp
 |tup xs=>exact uO hp
variable {F:List AT->EH->Prop}{eh:EH}{xs:List AT}
theorem gf(hF:F=lv 0 (fun res h'=>∃rows,h'=rows.map .live/\Post res rows))(hp:dv (mkV xs)=true)(hpost:Post (mkV xs) []):F xs eh:=by
 subst hF
 exact .inl ⟨mkV xs,[],[],⟨zpk _,fun i hi=>absurd hi (zpq _),List.nodup_nil,trivial,iR hp,zpt⟩,[],rfl,hpost⟩
theorem vg(ys:List AT)(hF:F=lv 0 (fun res h'=>∃rows,h'=rows.map .live/\Post res rows))(hr:qO (toH eh) xs ys)(hpost:Post (mkV ys) []):F xs eh:=by
 subst hF
 exact .inr ⟨rfl,ys,hr,[],rfl,hpost⟩
theorem KF{r:Nat}(ab:AB)(hF:F=lv 0 (fun res h'=>∃rows,h'=rows.map .live/\Post res rows))(hr:nth eh r=some (.rw ab))(hp:(ab.es.all fun x=>x.all dx)=true)
  (hpost:Post (.o 0) [ab]):F [.c (.own r)] eh:=by
 subst hF
 refine .inl ⟨.o 0,[.live ab],[some r],⟨zpn _,fun i hi=>absurd hi (zpq _),by simp,?_,?_⟩,[ab],rfl,hpost⟩
 ·simp only [rnH,zqw,f9 hr]
  exact⟨fun h=>absurd h (zpq _),⟨by first|trivial|rfl,by first|trivial|rfl,.inl ⟨by first|trivial|rfl,hp⟩⟩,zpt⟩
 ·refine⟨?_,zpt⟩
  show rnC [some r] [.live ab] (.own 0) (.own r)
  rfl
theorem rZ{c:AC}(hp:dx c=true)(n:Nat):c.shift n=c:=by cases c<;>first|rfl|cases hp
theorem l7{n:Nat}:∀{xs:List AC},xs.all dx=true->xs.map (AC.shift n)=xs
 | [],_=>rfl
 |x::xs,hp=>by
  simp only [zqD,zqs]at hp
  simp [rZ hp.1,l7 hp.2]
theorem je{n:Nat}:∀{es:LLA},(es.all fun x=>x.all dx)=true->es.map (fun x=>x.map (AC.shift n))=es
 | [],_=>rfl
 |x::xs,hp=>by
  simp only [zqD,zqs]at hp
  simp only [zqA,l7 hp.1,je hp.2]
theorem p7{x:AT}(hp:p8 x=true)(n:Nat):x.shift n=x:=by
 cases x with
 |c c=>exact congrArg AT.c (rZ hp n)
 |agg xs=>exact congrArg AT.agg (l7 hp)
theorem ea{x:AV}(hp:dv x=true)(n:Nat):x.shift n=x:=by
 cases x with
 |t x=>exact congrArg AV.t (p7 hp n)
 |tup xs=>
  refine congrArg AV.tup ?_
  have:∀(xs:List AT),xs.all p8=true->xs.map (AT.shift n)=xs:=fun xs=>by
   induction xs with
   |nil=>intro _;rfl
   |cons x xs ih=>
    intro hp
    simp only [zqD,zqs]at hp
    simp only [zqA,p7 hp.1,ih hp.2]
  exact this xs hp
theorem wY:∀{args:List AT},i7 args=true->dwA args args
 | [],_=>trivial
 | .c c::xs,hp=>by
  simp only [i7,AT.cells,zqD,List.all_nil,Bool.and_true,zqs]at hp
  exact⟨zH (by cases c<;>first|rfl|cases hp.1),wY hp.2⟩
 | .agg a::xs,hp=>by
  simp only [i7,zqs]at hp
  exact⟨wX (zqf.2 fun c hc=>by have:=zqf.1 hp.1 c hc;cases c<;>first|rfl|cases this),wY hp.2⟩
theorem yu{β:BP}{h:AH}{K:AV->AH->Prop}(hp:zc P f h h.length args (fun res ha=>K res (h++ha.map .live))):Con P f h args K:=by
 obtain⟨hg,Post,hc,hp⟩:=hp
 refine⟨hc.1,fun F w m vs hH hl hx=> ?_⟩
 rcases hp with⟨hdw,hK⟩|⟨hlen,hres,hK⟩
 ·obtain⟨d1,d2⟩:=hdw.at_
  have:=hc.2 F w [] vs (RH.empty hH.old (zpn _)) (by rw [hl,d1]) (fun j y hj=>by
   have hd:j<args.length:=by rw [d1];exact(zqb.1 hj).1
   obtain⟨v,hv,hr⟩:=hx j _ (zqc hd)
   exact⟨v,hv,(d2 j _ y (zqc hd) hj).rt hr⟩)
  refine this.mono fun e w''⟨v,res,h',m',F1,he,⟨ha,hh,hpost⟩,hG,hs,hv⟩=> ?_
  subst hh
  obtain⟨m'',F2,hf,h1,h2⟩:=dI.of_outG hH (jf (n:=h.length) hG hs hv)
  exact⟨v,_,_,m'',F2,he,hK res ha hpost,hf,h1,h2⟩
 ·have hF:∀b,s7 F m h b->b<w.heap.size:=fun b hb=>by
   rcases hb with hb|⟨r,ab,c,h1,h2⟩
   ·exact hH.old b hb
   ·exact(hH.lt h1 h2).2
  have:=hc.2 (s7 F m h) w [] vs (RH.empty hF (zpn _)) (by rw [hl,hlen]) (fun j y hj=>by
   have hd:j<args.length:=by rw [<-hlen];exact(zqb.1 hj).1
   have hm:=zqc hd
   obtain⟨v,hv,hr⟩:=hx j _ hm
   refine⟨v,hv,?_⟩
   rcases hres j _ y hm hj with⟨c0,d0,h1,rfl,h2⟩|⟨xs,ys,h1,rfl,h2,h3⟩
   ·rw [h1]at hr;exact h2.rc (Cp.refl h) hH hr
   ·rw [h1]at hr
    obtain⟨vs,g1,g2,g3⟩:=hr
    refine⟨vs,g1,by rw [g2,h2],fun i d hi=> ?_⟩
    have hq:i<xs.length:=by rw [h2];exact(zqb.1 hi).1
    have hk:=zqc hq
    obtain⟨u,hu,ht,hw⟩:=g3 i _ hk
    exact⟨u,hu,ht,(h3 i _ d hk hi).rc (Cp.refl h) hH hw⟩)
  refine this.mono fun e w''⟨v,res,h',m',F1,he,⟨ha,hh,hpost⟩,hG,hs,hv⟩=> ?_
  subst hh
  obtain⟨hn,ho,hK⟩:=hK res ha hpost
  obtain⟨m'',F2,hf,h1,h2⟩:=dI.of_outG hH (wh (r8 (n:=h.length) hs hv (.inr ⟨hn,ho⟩)) hH)
  exact⟨v,_,_,m'',F2,he,hK,hf,h1,h2⟩
theorem fO{h:AH}{K:AV->List AB->Prop}(hc:bS P f args Post)(hp:i7 args=true)(hK:∀res rows,Post res rows->K (res.shift n) (rows.map (AB.shift n))):zc P f h n args K:=
 ⟨args,Post,hc,.inl ⟨wY hp,hK⟩⟩
variable {K:AV->EH->Prop}{g:Gd}
theorem sT{β:BP}(hg:g=G0 P n0 N)(hp:zc P f (toH h) (toH h).length args (fun res ha=>∃es:EH,toH es=ha.map .live/\K res (h++es))):g .C f h args K:=by
 subst hg
 refine yu ?_
 obtain⟨hb,Post,hc,hp⟩:=hp
 refine⟨hb,Post,hc,?_⟩
 have hd:∀(res:AV)(ha:List AB),(∃es:EH,toH es=ha.map .live/\K res (h++es))->∃eh,toH eh=toH h++ha.map .live/\K res eh:=fun res ha⟨es,h1,h2⟩=>⟨h++es,by rw [o4,h1],h2⟩
 rcases hp with⟨h1,h3⟩|⟨h1,h2,h3⟩
 ·exact .inl ⟨h1,fun res ha hp=>hd _ _ (h3 res ha hp)⟩
 ·exact .inr ⟨h1,h2,fun res ha hp=>let⟨a,b,c⟩:=h3 res ha hp;⟨a,b,hd _ _ c⟩⟩
variable {r:AV}
theorem fV{β:BP}(hg:g=G0 P n0 N)(hc:bS P f args fun res hb=>res=r/\hb=[])(hp:i7 args=true)(hr:dv r=true)(hK:K r (h++[])):g .C f h args K:=
 sT hg (fO hc hp fun res hb ha=>by
  obtain⟨rfl,rfl⟩:=ha
  exact⟨[],rfl,by rw [ea hr];exact hK⟩)
theorem mD{β:BP}(hg:g=G0 P n0 N)(hc:bS P f args fun res hb=>res=r/\hb=[])(hp:i7 args=true)(hr:dv r=true)(hK:K r []):g .PC f h n args K:=by
 subst hg
 refine⟨r,[],fO hc hp fun res hb ha=> ?_,[],rfl,hK⟩
 obtain⟨rfl,rfl⟩:=ha
 exact⟨ea hr _,rfl⟩
theorem ad{β:BP}(hg:g=G0 P n0 N)(hc:bS P f args fun res ha=>res=r/\ha=[])(hK:K r (h++[]))(hp:i7 args=true:=by exact rfl)(hr:dv r=true:=by exact rfl):g .C f h args K:=fV hg hc hp hr hK
theorem aa{β:BP}(hg:g=G0 P n0 N)(hc:bS P f args fun res ha=>res=r/\ha=[])(hK:K r [])(hp:i7 args=true:=by exact rfl)(hr:dv r=true:=by exact rfl):g .PC f h n args K:=mD hg hc hp hr hK
theorem GX{β:BP}(hg:g=G0 P n0 N){args args':List AT}(hc:bS P f args' Post)(ha:dwA args args')
  (hK:∀res rows,Post res rows->∃es:EH,toH es=(rows.map (AB.shift (toH h).length)).map .live/\K (res.shift (toH h).length) (h++es)):g .C f h args K:=
 sT hg ⟨args',Post,hc,.inl ⟨ha,hK⟩⟩
theorem zM{β:BP}(hg:g=G0 P n0 N){args args':List AT}(hc:bS P f args' fun res hd=>res=r/\hd=[])(ha:dwA args args')(hr:dv r=true)(hK:K r (h++[])):g .C f h args K:=
 GX hg hc ha fun res hd hb=>by
  obtain⟨rfl,rfl⟩:=hb
  exact⟨[],rfl,by rw [ea hr];exact hK⟩
theorem oW{β:BP}(hg:g=G0 P n0 N){args args':List AT}(hc:bS P f args' fun res hd=>res=r/\hd=[])(ha:dwA args args')(hr:dv r=true)(hK:K r []):g .PC f h n args K:=by
 subst hg
 refine⟨r,[],⟨args',_,hc,.inl ⟨ha,fun res hd hb=> ?_⟩⟩,[],rfl,hK⟩
 obtain⟨rfl,rfl⟩:=hb
 exact⟨ea hr _,rfl⟩
theorem bQ{β:BP}(hg:g=G0 P n0 N)(hfit:fL P tab){S:Type}{c:Code}{Q:Exit->List (Nat×AV)->EH->Prop}{l:List (Nat×AV)}(hok:fS N c=true)(Tf:S->List (Nat×AV))(hf:S->EH)(ok:S->Prop)(μ:S->Nat)(s0:S)(ρ0:List (Option Nat))(h0:ok s0)
  (hw:Wk n0 (lkT l) (toH h) (Tf s0) (toH (hf s0)) ρ0)
  (hb:∀(s:S)(B:List (Nat×AV)->EH->Prop),ok s->B=(fun l' h'=>∃s' ρ,ok s'/\μ s'<μ s/\Wk n0 (lkT l') (toH h') (Tf s') (toH (hf s')) ρ)->vV g tab c (fun e l h=>match e with| .normal=>B l h|e=>Q e l h) (Tf s) (hf s)):g .L c Q l h:=by
 subst hg
 refine Hc Tf (fun s=>toH (hf s)) ok μ s0 ρ0 h0 hw (fun s hs=>fD (fun e T h hq=> ?_) (fM hfit c _ _ _ hok (hb s _ hs rfl)))
 obtain⟨l',eh,rfl,rfl,hq⟩:=hq
 cases e<;>first
  |exact⟨l',eh,rfl,rfl,hq⟩
  |exact hq
end
def aN(xs:LLA):Int:=(xs.length:Int)
theorem ao(xs:LLA):aN xs=(xs.length:Int):=rfl
section
variable {P:Program}{n0 N:Nat}{g:Gd}
theorem goN{β:BP}(hg:g=G0 P n0 N){p q:Prop}(hp:p)(hq:q):g .N p q:=by subst hg;exact⟨hp,hq⟩
variable {xs:LLA}
theorem goX{β:BP}(hg:g=G0 P n0 N){z:Int}{k:Nat}{K:List AC->Prop}(y:List AC)(hz:0<=z)(hy:xs[z.toNat]? =some y)(hk:y.length=k)(hK:K y):g .X xs z k K:=by subst hg;exact⟨hz,y,hy,hk,hK⟩
theorem goY{β:BP}(hg:g=G0 P n0 N){z:Int}{k:Nat}{K:Nat->Prop}(hz:0<=z)(hy:z<aN xs)(hK:∀j:Nat,j=z.toNat->j<xs.length->K j):g .Y k xs z K:=by subst hg;have:=ao xs;exact⟨hz,by omega,hK _ rfl (by omega)⟩
theorem jC{β:BP}(hg:g=G0 P n0 N)(xs:LLA)(i:Nat)(x:List AC):g .st xs i x=xs.set i x:=by subst hg;rfl
theorem fI{β:BP}(hg:g=G0 P n0 N)(xs ys:LLA):g .ap xs ys=xs++ys:=by subst hg;rfl
theorem zy{β:BP}(hg:g=G0 P n0 N)(n:Int)(x:List AC):g .rp n x=List.replicate n.toNat x:=by subst hg;rfl
theorem bz{β:BP}(hg:g=G0 P n0 N)(xs:LLA):g .ln xs=aN xs:=by subst hg;rfl
theorem GI{β:BP}(hg:g=G0 P n0 N){by_:Nat}{q:Prop}(hb:by_<=65536)(hl:xs.length<=1048576)(hq:q):g .N (g .ln xs=g .ln xs/\0<=g .ln xs/\(by_:Int)*g .ln xs<=140737488355328/\g .ln xs<=4611686018427387904) q:=by
 subst hg
 have h1:by_*xs.length<=68719476736:=zpb (Nat.mul_le_mul hb hl) (by decide)
 have h2:((by_*xs.length:Nat):Int)<=68719476736:=by omega
 rw [Int.natCast_mul]at h2
 refine⟨⟨rfl,?_,?_,?_⟩,hq⟩
 ·exact Int.natCast_nonneg _
 ·show(by_:Int)*(xs.length:Int)<=140737488355328;omega
 ·show(xs.length:Int)<=4611686018427387904;omega
theorem aG{β:BP}(hg:g=G0 P n0 N)(a b:Int):g .w .add .i64 a b=wrap64 (a+b):=by subst hg;exact IntWalk.i64_left _
theorem cu{β:BP}(hg:g=G0 P n0 N)(a b:Int):g .w .sub .i64 a b=wrap64 (a-b):=by subst hg;exact IntWalk.i64_left _
theorem gA{β:BP}(hg:g=G0 P n0 N)(a b:Int):g .w .mul .i64 a b=wrap64 (a*b):=by subst hg;exact IntWalk.i64_left _
theorem ba{β:BP}(hg:g=G0 P n0 N)(a b:Int):g .q .lss a b=decide (a<b):=by subst hg;rfl
theorem ja{β:BP}(hg:g=G0 P n0 N)(a b:Int):g .q .leq a b=decide (a<=b):=by subst hg;rfl
theorem dm{β:BP}(hg:g=G0 P n0 N)(a b:Int):g .q .gtr a b=decide (a>b):=by subst hg;rfl
theorem i6{β:BP}(hg:g=G0 P n0 N)(a b:Int):g .q .geq a b=decide (a≥b):=by subst hg;rfl
theorem bj{β:BP}(hg:g=G0 P n0 N)(a b:Int):g .q .eql a b=(a==b):=by subst hg;rfl
theorem bC{β:BP}(hg:g=G0 P n0 N)(a b:Int):g .q .neq a b=(a !=b):=by subst hg;rfl
variable {l':List (Nat×AV)}{T:Nat->AV}
theorem wk0(hk:rnK [] [] T l'):Wk 0 T [] l' [] []:=⟨zpk _,fun i hi=>absurd hi (zpq _),List.nodup_nil,trivial,hk⟩
theorem gk{β:BP}(hg:g=G0 P n0 N)(a b:Bool):g .qb .neq a b=(a !=b):=by subst hg;rfl
theorem Jw{β:BP}(hg:g=G0 P n0 N)(a b:Bool):g .qb .eql a b=(a==b):=by subst hg;rfl
def ay(es:LLA):Bool:=es.all fun x=>x.all dx
def EI(h:AH):List Nat->AH->Prop
 | [],[]=>True
 |j::ρ,e::es=>(∃ab,h[j]? =some (.live ab)/\e= .live ab/\ay ab.es=true)/\EI h ρ es
 |_,_=>False
theorem rG{h h':AH}:∀(ρ:List Nat)(es:AH)(pre:List Nat),EI h ρ es->rnH 0 ((pre++ρ).map some) h' h pre.length es
 | [],[],pre,_=>trivial
 | [],_::_,_,h=>h.elim
 |_::_,[],_,h=>h.elim
 |j::ρ,e::es,pre,hs=>by
  obtain⟨⟨ab,h1,rfl,h3⟩,h4⟩:=hs
  have:=rG (h':=h') ρ es (pre++[j]) h4
  rw [zqC,List.singleton_append,zqe,zqm]at this
  unfold rnH
  refine⟨fun hi=>absurd hi (zpq _),?_,this⟩
  have e1:(List.map some (pre++j::ρ))[pre.length]? =some (some j):=by simp
  simp only [e1,h1]
  exact⟨by first|trivial|rfl,by first|trivial|rfl,.inl ⟨by first|trivial|rfl,h3⟩⟩
theorem r9:∀(ρ:List Nat),(ρ.map some).filterMap id=ρ
 | []=>rfl
 |j::ρ=>by simp
theorem wkS{h h':AH}(ρ:List Nat)(hn:ρ.Nodup)(hs:EI h ρ h')(hk:rnK (ρ.map some) h' T l'):Wk 0 T h l' h' (ρ.map some):=
 ⟨zpn _,fun i hi=>absurd hi (zpq _),by rw [r9];exact hn,rG ρ h' [] hs,hk⟩
variable {h:EH}
theorem iE{S:Type}{ok:S->Prop}{μ:S->Nat}{s:S}{Tf:S->List (Nat×AV)}{hf:S->EH}{B:List (Nat×AV)->EH->Prop}{l:List (Nat×AV)}
  (hB:B=fun l' h'=>∃s' ρ,ok s'/\μ s'<μ s/\Wk n0 (lkT l') (toH h') (Tf s') (toH (hf s')) ρ) (s':S) (ρ:List (Option Nat)) (hw:Wk n0 (lkT l) (toH h) (Tf s') (toH (hf s')) ρ) (h1:ok s') (h2:μ s'<μ s):B l h:=by
 subst hB;exact⟨s',ρ,h1,h2,hw⟩
theorem Kd{β:BP}(hg:g=G0 P n0 N)(a b:Int):g .mn a b=if b<a then b else a:=by subst hg;rfl
theorem GH{β:BP}(hg:g=G0 P n0 N)(a b:Int):g .mx a b=if a<b then b else a:=by subst hg;rfl
variable {F:List AT->EH->Prop}
theorem aO{eh:EH}{m z:Int}(hF:F=lv 0 (fun res h'=>∃rows,h'=rows.map .live/\(res= .t (.c (.J m))/\rows=[])))(h:z=m):F [.c (.J z)] eh:=by
 subst h;exact gf hF rfl ⟨rfl,rfl⟩
theorem bm{eh:EH}{m z:Bool}(hF:F=lv 0 (fun res h'=>∃rows,h'=rows.map .live/\(res= .t (.c (.B m))/\rows=[])))(h:z=m):F [.c (.B z)] eh:=by
 subst h;exact gf hF rfl ⟨rfl,rfl⟩
def xp(h:AH):List AT->List AT->Prop
 | [],[]=>True
 | .c c::xs,.c d::ys=>Ec h c d/\xp h xs ys
 | .agg a::xs,.agg b::ys=>(a=b/\a.all dat=true)/\xp h xs ys
 |_,_=>False
theorem av{h:AH}{c:AC}(hc:dat c=true):qj h c c:=by
 cases c<;>first|exact .imm _|exact .view _|cases hc
theorem aX{h:AH}{r:Nat}{ab:AB}(hn:h[r]? =some (.live ab))(hk:∀x∈ab.es,x.length=ab.k)(hd:∀x∈ab.es,x.all dat=true):qj h (.own r) (.view ab.es):=
 .row (.own r) ab.es ab.es ab.k (.inl ⟨r,ab,rfl,hn,rfl,rfl⟩) rfl (fun i x hx=>hk x (zqd hx)) (fun i x hx=>hk x (zqd hx)) fun i x y hx hy j c d hc ha=>by
  rw [hx]at hy
  cases hy
  rw [hc]at ha
  cases ha
  exact av (zqf.1 (hd x (zqd hx)) c (zqd hc))
theorem ol{h:AH}:∀(xs ys:List AT),xp h xs ys->ys.length=xs.length
 | [],[],_=>rfl
 | [],_::_,h=>by simp [xp]at h
 | .c _::_,[],h=>h.elim
 | .agg _::_,[],h=>h.elim
 | .c _::xs,.c _::ys,h=>by simp [ol xs ys h.2]
 | .agg _::xs,.agg _::ys,h=>by simp [ol xs ys h.2]
 | .c _::_,.agg _::_,h=>h.elim
 | .agg _::_,.c _::_,h=>h.elim
theorem rO{h:AH}:∀(xs ys:List AT),xp h xs ys->∀(j:Nat)(x y:AT),xs[j]? =some x->ys[j]? =some y->(∃c d,x= .c c/\y= .c d/\Ec h c d)\/∃xs ys,x= .agg xs/\y= .agg ys/\xs.length=ys.length/\∀(i:Nat)(c d:AC),xs[i]? =some c->ys[i]? =some d->qj h c d
 | [],_,_,j,x,y,hx,_=>by simp at hx
 | .c c::xs,.c d::ys,h,j,x,y,hx,hy=>by
  cases j with
  |zero=>simp at hx hy;subst hx hy;exact .inl ⟨c,d,rfl,rfl,h.1⟩
  |succ j=>exact rO xs ys h.2 j x y (by simpa using hx) (by simpa using hy)
 | .agg a::xs,.agg b::ys,h,j,x,y,hx,hy=>by
  cases j with
  |zero=>
   simp at hx hy
   subst hx hy
   obtain⟨⟨rfl,hd⟩,_⟩:=h
   refine .inr ⟨a,a,rfl,rfl,rfl,fun i c d hc ha=> ?_⟩
   rw [hc]at ha
   cases ha
   exact av (zqf.1 hd c (zqd hc))
  |succ j=>exact rO xs ys h.2 j x y (by simpa using hx) (by simpa using hy)
 | .c _::_,[],h,_,_,_,_,_=>h.elim
 | .agg _::_,[],h,_,_,_,_,_=>h.elim
 | .c _::_,.agg _::_,h,_,_,_,_,_=>h.elim
 | .agg _::_,.c _::_,h,_,_,_,_,_=>h.elim
def yA:AV->Bool
 | .t (.c (.imm _))=>true
 | .t (.agg xs)=>xs.all fun c=>match c with| .imm _=>true|_=>false
 |_=>false
variable {r:AV}
theorem vp(hr:yA r=true):dv r=true:=by
 match r,hr with
 | .t (.c (.imm _)),_=>rfl
 | .t (.agg xs),h=>
  simp only [yA,zqf]at h
  show xs.all dx=true
  rw [zqf]
  intro c hc
  have:=h c hc
  cases c<;>first|rfl|cases this
theorem vq(hr:yA r=true):r.fresh=true:=by
 match r,hr with
 | .t (.c (.imm _)),_=>rfl
 | .t (.agg xs),h=>
  simp only [yA,zqf]at h
  show xs.all AC.fresh=true
  rw [zqf]
  intro c hc
  have:=h c hc
  cases c<;>first|rfl|cases this
variable {args args':List AT}{f:FuncId}
theorem xR{h:AH}{n:Nat}{K:AV->List AB->Prop}(hc:bS P f args' fun res hb=>res=r/\hb=[])(ha:xp h args args')(hr:yA r=true)(hK:K r []):zc P f h n args K:=
 ⟨args',_,hc,.inr ⟨ol _ _ ha,rO _ _ ha,fun res hb hp=>by
  obtain⟨rfl,rfl⟩:=hp
  exact⟨vq hr,fun ab hd=>by simp at hd,by rw [ea (vp hr)];exact hK⟩⟩⟩
variable {K:AV->EH->Prop}
theorem gC{β:BP}(hg:g=G0 P n0 N)(hc:bS P f args' fun res hb=>res=r/\hb=[])(ha:xp (toH h) args args')(hr:yA r=true)(hK:K r (h++[])):g .C f h args K:=
 sT hg (xR hc ha hr ⟨[],rfl,hK⟩)
theorem fy{β:BP}(hg:g=G0 P n0 N){n:Nat}(hc:bS P f args' fun res hb=>res=r/\hb=[])(ha:xp (toH h) args args')(hr:yA r=true)(hK:K r []):g .PC f h n args K:=by
 subst hg
 exact⟨r,[],xR hc ha hr ⟨rfl,rfl⟩,[],rfl,hK⟩
end
section
variable {P:Program}{n0 N n:Nat}{g:Gd}
variable {F:List AT->EH->Prop}{eh:EH}
theorem vf{Post:AV->List AB->Prop}(t k:Nat)(hF:F=lv 0 (fun res h'=>∃rows,h'=rows.map .live/\Post res rows))
  (hpost:Post (.o 0) [⟨t,k,[]⟩]):F [.c (.N)] eh:=by
 subst hF
 refine .inl ⟨.o 0,[.live ⟨t,k,[]⟩],[none],⟨zpn _,fun i hi=>absurd hi (zpq _),by simp,?_,?_⟩,[⟨t,k,[]⟩],rfl,hpost⟩
 ·simp only [rnH,zqw]
  exact⟨fun h=>absurd h (zpq _),rfl,zpt⟩
 ·refine⟨?_,zpt⟩
  show rnC [none] [.live ⟨t,k,[]⟩] (.own 0) (.N)
  rfl
variable {ab:AB}
theorem bN{r:Nat}(hF:F=lv 0 (fun res h'=>∃rows,h'=rows.map .live/\(res= .o 0/\rows=[ab])))(hr:nth eh r=some (.rw ab))(hp:ay ab.es=true):F [.c (.own r)] eh:=
 KF ab hF hr hp ⟨rfl,rfl⟩
theorem az{h:AH}:xp h [] []:=trivial
variable {xs ys:List AT}
theorem aj{h:AH}{c d:AC}(h1:qj h c d)(h2:xp h xs ys):xp h (.c c::xs) (.c d::ys):=⟨.c h1,h2⟩
theorem dz{h:AH}{c d:AC}(h1:Ec h c d)(h2:xp h xs ys):xp h (.c c::xs) (.c d::ys):=⟨h1,h2⟩
theorem bv{h:AH}{a:List AC}(hd:a.all dat=true)(h2:xp h xs ys):xp h (.agg a::xs) (.agg a::ys):=⟨⟨rfl,hd⟩,h2⟩
theorem bn:∀{args:List AT},Kh args=true->∀{h:AH},xp h args args
 | [],_,_=>trivial
 | .c c::xs,hp,h=>by
  simp only [Kh,zqs]at hp
  exact⟨.c (av (by simpa [AT.cells]using hp.1)),bn hp.2⟩
 | .agg a::xs,hp,h=>by
  simp only [Kh,zqs]at hp
  exact⟨⟨rfl,by simpa [AT.cells]using hp.1⟩,bn hp.2⟩
theorem ki{es:LLA}(h:es.all (fun x=>x.all fun c=>match c with| .imm _=>true|_=>false)=true)(t k:Nat):AB.fresh ⟨t,k,es⟩=true:=by
 simp only [AB.fresh,zqf]at h⊢
 intro x hx c hc
 have:=h x hx c hc
 cases c<;>first|rfl|cases this
def qd(es:LLA):Bool:=es.all fun x=>x.all fun c=>match c with| .imm _=>true|_=>false
theorem ff{es:LLA}(h:qd es=true):ay es=true:=by
 simp only [qd,ay,zqf]at h⊢
 intro x hx c hc
 have:=h x hx c hc
 cases c<;>first|rfl|cases this
theorem fY(h:ay ab.es=true)(n:Nat):AB.shift n ab=ab:=by
 obtain⟨t,k,es⟩:=ab
 exact congrArg (AB.mk t k) (je h)
variable {K:AV->EH->Prop}{f:FuncId}{h:EH}
theorem bH{β:BP}(hg:g=G0 P n0 N){args args':List AT}(hc:bS P f args' fun res hd=>res= .o 0/\hd=[ab])(ha:xp (toH h) args args')(hp:qd ab.es=true)
  (hK:K (.t (.c (.own (mU h)))) (h++[.rw ab])):g .C f h args K:=by
 refine sT hg ⟨args',_,hc,.inr ⟨ol _ _ ha,rO _ _ ha,fun res hd hb=> ?_⟩⟩
 obtain⟨rfl,rfl⟩:=hb
 refine⟨rfl,fun hf he=> ?_,[.rw ab],?_,?_⟩
 ·obtain rfl:=zpa.1 he
  exact ki hp _ _
 ·simp only [zqA,List.map_nil,fY (ff hp)];rfl
 ·rw [dy]at hK;rw [bV];exact hK
theorem bU{β:BP}(hg:g=G0 P n0 N){n:Nat}{args args':List AT}(hc:bS P f args' fun res hd=>res= .o 0/\hd=[ab])(ha:xp (toH h) args args')(hp:qd ab.es=true)
  (hK:K (.o n) [.rw ab]):g .PC f h n args K:=by
 subst hg
 refine⟨.o n,[ab],⟨args',_,hc,.inr ⟨ol _ _ ha,rO _ _ ha,fun res hd hb=> ?_⟩⟩,[.rw ab],rfl,hK⟩
 obtain⟨rfl,rfl⟩:=hb
 refine⟨rfl,fun hf he=> ?_,rfl,?_⟩
 ·obtain rfl:=zpa.1 he
  exact ki hp _ _
 ·simp only [zqA,List.map_nil,fY (ff hp)]
variable {args:List AT}
theorem aY{β:BP}(hg:g=G0 P n0 N){r:Int}(hc:bS P f args fun res ha=>res= .t (.c (.J r))/\ha=[])(hp:i7 args=true)
  (hK:∀R,R=r->K (.t (.c (.J R))) (h++[])):g .C f h args K:=fV hg hc hp rfl (hK r rfl)
theorem aJ{β:BP}(hg:g=G0 P n0 N){n:Nat}{r:Int}(hc:bS P f args fun res ha=>res= .t (.c (.J r))/\ha=[])(hp:i7 args=true)
  (hK:∀R,R=r->K (.t (.c (.J R))) []):g .PC f h n args K:=mD hg hc hp rfl (hK r rfl)
theorem bA{β:BP}(hg:g=G0 P n0 N){r:Bool}(hc:bS P f args fun res ha=>res= .t (.c (.B r))/\ha=[])(hp:i7 args=true)
  (hK:∀R,R=r->K (.t (.c (.B R))) (h++[])):g .C f h args K:=fV hg hc hp rfl (hK r rfl)
theorem bf{β:BP}(hg:g=G0 P n0 N){n:Nat}{r:Bool}(hc:bS P f args fun res ha=>res= .t (.c (.B r))/\ha=[])(hp:i7 args=true)
  (hK:∀R,R=r->K (.t (.c (.B R))) []):g .PC f h n args K:=mD hg hc hp rfl (hK r rfl)
theorem nf{β:BP}(hg:g=G0 P n0 N){r s:Int}(hc:bS P f args fun res ha=>res= .t (.agg [.J r,.J s])/\ha=[])(hp:i7 args=true)
  (hK:∀R S,R=r->S=s->K (.t (.agg [.J R,.J S])) (h++[])):g .C f h args K:=fV hg hc hp rfl (hK r s rfl rfl)
theorem jk{β:BP}(hg:g=G0 P n0 N){n:Nat}{r s:Int}(hc:bS P f args fun res ha=>res= .t (.agg [.J r,.J s])/\ha=[])(hp:i7 args=true)
  (hK:∀R S,R=r->S=s->K (.t (.agg [.J R,.J S])) []):g .PC f h n args K:=mD hg hc hp rfl (hK r s rfl rfl)
theorem mA{a b r s:Int}(hF:F=lv 0 (fun res h'=>∃rows,h'=rows.map .live/\(res= .t (.agg [.J r,.J s])/\rows=[])))(h:a=r/\b=s):F [.agg [.J a,.J b]] eh:=by
 obtain⟨rfl,rfl⟩:=h;exact gf hF rfl ⟨rfl,rfl⟩
theorem HN{β:BP}(hg:g=G0 P n0 N)(a b:Int):g .w .quo .i64 a b=wrap64 (a.tdiv b):=by subst hg;exact IntWalk.i64_left _
theorem Fk{β:BP}(hg:g=G0 P n0 N)(a b:Int):g .w .rem .i64 a b=a.tmod b:=by subst hg;rfl
theorem K7{β:BP}(hg:g=G0 P n0 N)(a:Int):g .ng .i64 a=wrap64 (0-a):=by subst hg;exact IntWalk.i64_left _
theorem di{β:BP}(hg:g=G0 P n0 N):(∀a b,g .q .lss a b=decide (a<b))/\(∀a b,g .q .leq a b=decide (a<=b))/\(∀a b,g .q .gtr a b=decide (a>b))/\(∀a b,g .q .geq a b=decide (a≥b))/\(∀a b,g .q .eql a b=(a==b))/\(∀a b,g .q .neq a b=(a !=b))/\(∀a b,g .qb .eql a b=(a==b))/\(∀a b,g .qb .neq a b=(a !=b))/\(∀a b:Int,((a==b)=true)=(a=b))/\(∀a b:Bool,((a==b)=true)=(a=b))/\(∀a b:Int,((a !=b)=true)=¬a=b)/\(∀a b:Bool,((a !=b)=true)=¬a=b)/\(∀a b:Int,((a==b)=false)=¬a=b)/\(∀a b:Bool,((a==b)=false)=¬a=b)/\(∀a b:Int,((a !=b)=false)=(a=b))/\(∀a b:Bool,((a !=b)=false)=(a=b))/\(∀(p:Prop) [Decidable p],(decide p=true)=p)/\(∀(p:Prop) [Decidable p],(decide p=false)=¬p)/\(∀p:Prop,(¬¬p)=p)/\(∀a b,g .w .add .i64 a b=wrap64 (a+b))/\(∀a b,g .w .sub .i64 a b=wrap64 (a-b))/\(∀a b,g .w .mul .i64 a b=wrap64 (a*b))/\(∀a b,g .w .quo .i64 a b=wrap64 (a.tdiv b))/\(∀a b,g .w .rem .i64 a b=a.tmod b)/\(∀a,g .ng .i64 a=wrap64 (0-a))/\(∀a b,g .mn a b=if b<a then b else a)/\(∀a b,g .mx a b=if a<b then b else a)/\(∀a b:Int,(a≠b)=¬a=b)/\(∀a b:Bool,(a≠b)=¬a=b):=
 ⟨ba hg,ja hg,dm hg,i6 hg,bj hg,bC hg,Jw hg,gk hg,by simp,by simp,by simp,by simp,by simp,by simp,by simp,by simp,by simp,by simp,fun p=>propext Classical.not_not,aG hg,cu hg,gA hg,HN hg,Fk hg,K7 hg,Kd hg,GH hg,fun _ _=>rfl,fun _ _=>rfl⟩
theorem Ix{β:BP}(hg:g=G0 P n0 N){b:Int}{q:Prop}(hb:b≠0)(hq:q):g .N (b≠0) q:=by subst hg;exact⟨hb,hq⟩
variable {r0:Int}{r1:Int}{r2:Int}{r3:Int}
theorem FM{β:BP}(hg:g=G0 P n0 N)(hc:bS P f args fun res ha=>res= .t (.agg [.J r0,.J r1,.J r2,.J r3])/\ha=[])(hp:i7 args=true)
  (hK:∀R0 R1 R2 R3,R0=r0->R1=r1->R2=r2->R3=r3->K (.t (.agg [.J R0,.J R1,.J R2,.J R3])) (h++[])):g .C f h args K:=fV hg hc hp rfl (hK _ _ _ _ rfl rfl rfl rfl)
theorem GW{β:BP}(hg:g=G0 P n0 N){n:Nat}(hc:bS P f args fun res ha=>res= .t (.agg [.J r0,.J r1,.J r2,.J r3])/\ha=[])(hp:i7 args=true)
  (hK:∀R0 R1 R2 R3,R0=r0->R1=r1->R2=r2->R3=r3->K (.t (.agg [.J R0,.J R1,.J R2,.J R3])) []):g .PC f h n args K:=mD hg hc hp rfl (hK _ _ _ _ rfl rfl rfl rfl)
variable {R0:Int}{R1:Int}
theorem Fz{R2:Int}{R3:Int}(hF:F=lv 0 (fun res h'=>∃rows,h'=rows.map .live/\(res= .t (.agg [.J r0,.J r1,.J r2,.J r3])/\rows=[])))(h:R0=r0/\R1=r1/\R2=r2/\R3=r3):F [.agg [.J R0,.J R1,.J R2,.J R3]] eh:=by
 obtain⟨rfl,rfl,rfl,rfl⟩:=h;exact gf hF rfl ⟨rfl,rfl⟩
theorem DZ{β:BP}(hg:g=G0 P n0 N)(hc:bS P f args fun res ha=>res= .tup [.c (.J r0),.c (.J r1)]/\ha=[])(hp:i7 args=true)
  (hK:∀R0 R1,R0=r0->R1=r1->K (.tup [.c (.J R0),.c (.J R1)]) (h++[])):g .C f h args K:=fV hg hc hp rfl (hK _ _ rfl rfl)
theorem BD{β:BP}(hg:g=G0 P n0 N){n:Nat}(hc:bS P f args fun res ha=>res= .tup [.c (.J r0),.c (.J r1)]/\ha=[])(hp:i7 args=true)
  (hK:∀R0 R1,R0=r0->R1=r1->K (.tup [.c (.J R0),.c (.J R1)]) []):g .PC f h n args K:=mD hg hc hp rfl (hK _ _ rfl rfl)
theorem sL(hF:F=lv 0 (fun res h'=>∃rows,h'=rows.map .live/\(res= .tup [.c (.J r0),.c (.J r1)]/\rows=[])))(h:R0=r0/\R1=r1):F [.c (.J R0),.c (.J R1)] eh:=by
 obtain⟨rfl,rfl⟩:=h;exact gf hF rfl ⟨rfl,rfl⟩
theorem zL{β:BP}(hg:g=G0 P n0 N){r1:Bool}(hc:bS P f args fun res ha=>res= .tup [.c (.J r0),.c (.B r1)]/\ha=[])(hp:i7 args=true)
  (hK:∀R0 R1,R0=r0->R1=r1->K (.tup [.c (.J R0),.c (.B R1)]) (h++[])):g .C f h args K:=fV hg hc hp rfl (hK _ _ rfl rfl)
theorem yx{β:BP}(hg:g=G0 P n0 N){n:Nat}{r1:Bool}(hc:bS P f args fun res ha=>res= .tup [.c (.J r0),.c (.B r1)]/\ha=[])(hp:i7 args=true)
  (hK:∀R0 R1,R0=r0->R1=r1->K (.tup [.c (.J R0),.c (.B R1)]) []):g .PC f h n args K:=mD hg hc hp rfl (hK _ _ rfl rfl)
theorem Fy{r1:Bool}{R1:Bool}(hF:F=lv 0 (fun res h'=>∃rows,h'=rows.map .live/\(res= .tup [.c (.J r0),.c (.B r1)]/\rows=[])))(h:R0=r0/\R1=r1):F [.c (.J R0),.c (.B R1)] eh:=by
 obtain⟨rfl,rfl⟩:=h;exact gf hF rfl ⟨rfl,rfl⟩
theorem JC{R2:Int}{R3:Int}(hF:F=lv 0 (fun res h'=>∃rows,h'=rows.map .live/\(res= .tup [.agg [.J r0,.J r1],.agg [.J r2,.J r3]]/\rows=[])))(h:R0=r0/\R1=r1/\R2=r2/\R3=r3):F [.agg [.J R0,.J R1],.agg [.J R2,.J R3]] eh:=by
 obtain⟨rfl,rfl,rfl,rfl⟩:=h;exact gf hF rfl ⟨rfl,rfl⟩
end
def AC.mv(s:Nat->Nat):AC->AC
 | .own r=> .own (s r)
 | .sub r lo k=> .sub (s r) lo k
 | .ptr r i o=> .ptr (s r) i o
 | .clo g rs=> .clo g (rs.map s)
 |c=>c
def AT.mv(s:Nat->Nat):AT->AT
 | .c x=> .c (x.mv s)
 | .agg xs=> .agg (xs.map (AC.mv s))
def AV.mv(s:Nat->Nat):AV->AV
 | .t x=> .t (x.mv s)
 | .tup xs=> .tup (xs.map (AT.mv s))
def AB.mv(s:Nat->Nat)(ab:AB):AB:=⟨ab.ty,ab.k,ab.es.map (·.map (AC.mv s))⟩
def AE.mv(s:Nat->Nat):AE->AE
 | .live ab=> .live (ab.mv s)
 | .gone=> .gone
 | .hole=> .gone
def plc(σ:List Nat)(n:Nat)(i:Nat):Nat:=match nth σ i with|some r=>r|none=>n+(i-mU σ)
section
variable {F:Nat->Prop}{w:World}{m m':AM}{h h':AH}{s:Nat->Nat}
theorem RC.mv(hp:∀(j:Nat),(h[j]? =some .gone->h'[s j]? =some .gone)/\∀(ab:AB),h[j]? =some (.live ab)->∃ha,h'[s j]? =some (.live ha)/\ha.k=ab.k/\ha.es.length=ab.es.length/\m'[s j]? =m[j]?){c:AC}{v:Value}
  (hc:RC F w m h c v):RC F w m' h' (c.mv s) v:=by
 cases c with
 |imm u=>exact hc
 |view xs=>exact hc
 |own r=>
  rcases hc with hg|⟨ab,h1,h2⟩
  ·exact .inl ((hp r).1 hg)
  ·obtain⟨ha,h3,h4,h5,h6⟩:=(hp r).2 ab h1
   exact .inr ⟨ha,h3,by rw [h6,h5];exact h2⟩
 |sub r lo k=>
  rcases hc with hg|⟨ab,c,p,h1,h2,h7,h8,h9,h10⟩
  ·exact .inl ((hp r).1 hg)
  ·obtain⟨ha,h3,h4,h5,h6⟩:=(hp r).2 ab h1
   exact .inr ⟨ha,c,p,h3,by rw [h5];exact h2,h7,h8,h9,by rw [h6,h4];exact h10⟩
 |ptr r i o=>
  rcases hc with hg|⟨ab,b,cap,h1,h2,h7⟩
  ·exact .inl ((hp r).1 hg)
  ·obtain⟨ha,h3,h4,h5,h6⟩:=(hp r).2 ab h1
   exact .inr ⟨ha,b,cap,h3,by rw [h6];exact h2,by rw [h4];exact h7⟩
 |eptr cs o=>exact hc
 |fv bs xs=>exact hc
 |old p xs=>exact hc
 |clo g rs=>
  exact RCl.map (fun r u hr=>by
   rcases hr with hg|⟨ab,b,cap,h1,h2,h7⟩
   ·exact .inl ((hp r).1 hg)
   ·obtain⟨ha,h3,h4,h5,h6⟩:=(hp r).2 ab h1
    exact .inr ⟨ha,b,cap,h3,by rw [h6];exact h2,h7⟩) hc
 |dead=>trivial
theorem RT.mv(hp:∀(j:Nat),(h[j]? =some .gone->h'[s j]? =some .gone)/\∀(ab:AB),h[j]? =some (.live ab)->∃ab',h'[s j]? =some (.live ab')/\ab'.k=ab.k/\ab'.es.length=ab.es.length/\m'[s j]? =m[j]?){c:AT}{v:Value}
  (hc:RT F w m h c v):RT F w m' h' (c.mv s) v:=by
 cases c with
 |c x=>exact RC.mv hp hc
 |agg xs=>
  obtain⟨vs,h1,h2,h3⟩:=hc
  refine⟨vs,h1,by simpa using h2,fun j x hj=> ?_⟩
  simp only [zqi,zqj]at hj
  obtain⟨y,hy,rfl⟩:=hj
  obtain⟨u,hu,ho,hr⟩:=h3 j y hy
  exact⟨u,hu,ho,RC.mv hp hr⟩
theorem RV.mv(hp:∀(j:Nat),(h[j]? =some .gone->h'[s j]? =some .gone)/\∀(ab:AB),h[j]? =some (.live ab)->∃ab',h'[s j]? =some (.live ab')/\ab'.k=ab.k/\ab'.es.length=ab.es.length/\m'[s j]? =m[j]?){c:AV}{v:Value}
  (hc:RV F w m h c v):RV F w m' h' (c.mv s) v:=by
 cases c with
 |t x=>exact RT.mv hp hc
 |tup xs=>
  obtain⟨vs,h1,h2,h3⟩:=hc
  refine⟨vs,h1,by simpa using h2,fun j x hj=> ?_⟩
  simp only [zqi,zqj]at hj
  obtain⟨y,hy,rfl⟩:=hj
  obtain⟨u,hu,hr⟩:=h3 j y hy
  exact⟨u,hu,RT.mv hp hr⟩
end
section
variable {F:Nat->Prop}{w w':World}{M:AM}{H:AH}
theorem Jy{β:BP}{F1:Nat->Prop}{m:AM}{h:AH}{m':AM}{h' H':AH}{M':AM}{s:Nat->Nat}(hH:RH F w M H)(hG:fJ F F1 w m h)(hst:dI F1 w m h w' m' h')
  (hsm:∀i e,h[i]? =some e->∃ab AB,e= .live ab/\H[s i]? =some (.live AB)/\AB.k=ab.k/\AB.es.length=ab.es.length/\m[i]? =M[s i]?)
  (hinj:∀i j,s i=s j->i=j)
  (hin:∀i,i<h.length->s i<H.length) (hnew:∀i,h.length<=i->s i=H.length+(i-h.length))
  (hl:H'.length=H.length+(h'.length-h.length)) (hlM:M'.length=H'.length) (hle:h.length<=h'.length)
  (hat:∀i,i<h'.length->H'[s i]? =(h'[i]?).map (AE.mv s)) (hatM:∀i,i<h'.length->h'[i]? ≠some .gone->M'[s i]? =m'[i]?)
  (hout:∀r,r<H.length->(∀i,i<h.length->s i≠r)->H'[r]? =H[r]? /\M'[r]? =M[r]?)
  (hnh:∀i:Nat,h'[i]? ≠some AE.hole):fJ F F1 w M H/\dI F1 w M H w' M' H'/\(∀res v,RV F1 w' m' h' res v->RV F1 w' M' H' (res.mv s) v):=by
 have ht:∀(j:Nat),(h'[j]? =some .gone->H'[s j]? =some .gone)/\∀(ab:AB),h'[j]? =some (.live ab)->∃hh,H'[s j]? =some (.live hh)/\hh.k=ab.k/\hh.es.length=ab.es.length/\M'[s j]? =m'[j]? :=fun j=>by
  refine⟨fun hg=> ?_,fun ab hs=> ?_⟩
  ·have hj:=(zqb.1 hg).1
   rw [hat j hj,hg];rfl
  ·have hj:=(zqb.1 hs).1
   exact⟨ab.mv s,by rw [hat j hj,hs];rfl,rfl,by simp [AB.mv],hatM j hj (by rw [hs];simp)⟩
 have hk:∀r ab,H'[r]? =some (.live ab)->(∃i ha,r=s i/\i<h'.length/\h'[i]? =some (.live ha)/\ab=ha.mv s/\M'[r]? =m'[i]?)\/(r<H.length/\(∀i,i<h.length->s i≠r)/\H[r]? =some (.live ab)/\M'[r]? =M[r]?):=fun r ab hr=>by
  have hw:=(zqb.1 hr).1
  have hn:∀i,i<h'.length->r=s i->∃i ha,r=s i/\i<h'.length/\h'[i]? =some (.live ha)/\ab=ha.mv s/\M'[r]? =m'[i]? :=fun i hi hm=>by
   have h1:=hat i hi
   rw [<-hm,hr,zqc hi]at h1
   simp only [Option.map_some,zqy]at h1
   have h2:=zqc hi
   cases he:h'[i]with
   |live ha=>
    rw [he]at h1 h2
    simp only [AE.mv,AE.live.injEq]at h1
    exact⟨i,ha,hm,hi,h2,h1,by rw [hm];exact hatM i hi (by rw [h2];simp)⟩
   |gone=>rw [he]at h1;cases h1
   |hole=>rw [he]at h2;exact absurd h2 (hnh i)
  by_cases hlt:r<H.length
  ·by_cases hex:∃i,i<h.length/\s i=r
   ·obtain⟨i,hi,hm⟩:=hex
    exact .inl (hn i (by omega) hm.symm)
   ·right
    have hc:∀i,i<h.length->s i≠r:=fun i hi he=>hex ⟨i,hi,he⟩
    obtain⟨h1,h2⟩:=hout r hlt hc
    exact⟨hlt,hc,by rw [<-h1];exact hr,h2⟩
  ·left
   have:s (h.length+(r-H.length))=r:=by rw [hnew _ (by omega)];omega
   exact hn _ (by omega) this.symm
 have hD:∀b,F b->w'.heap[b]? =w.heap[b]? :=fun b hb=>hst.blk b (hH.old b hb) fun r ab c h1 h2=>by
  obtain⟨ha,AB,h3,h4,_,_,h5⟩:=hsm r _ h1
  rw [h5]at h2
  exact(hH.lt h4 h2).1 hb
 have hE:∀r ab b c,r<H.length->(∀i,i<h.length->s i≠r)->H[r]? =some (.live ab)->M[r]? =some (some (b,c))->w'.heap[b]? =w.heap[b]? :=fun r ab b c _ hc h1 h2=>hst.blk b (hH.lt h1 h2).2 fun i hA c1 h3 h4=>by
  obtain⟨ha,AB,h5,h6,_,_,h7⟩:=hsm i _ h3
  rw [h7]at h4
  exact hc i (zqb.1 h3).1 (hH.inj _ _ _ _ _ _ _ h6 h1 h4 h2)
 have hq:fW M H M' H':=fun r=>by
  refine⟨fun hg=> ?_,fun ab hs=> ?_⟩
  ·have hw:=(zqb.1 hg).1
   have hc:∀i,i<h.length->s i≠r:=fun i hi he=>by
    obtain⟨ha,AB,_,h4,_⟩:=hsm i _ (zqc hi)
    rw [he,hg]at h4;cases h4
   rw [(hout r hw hc).1];exact hg
  ·have hw:=(zqb.1 hs).1
   by_cases hex:∃i,i<h.length/\s i=r
   ·obtain⟨i,hi,hm⟩:=hex
    obtain⟨ha,AB,h3,h4,h5,h6,h7⟩:=hsm i _ (zqc hi)
    rw [hm,hs]at h4
    cases h4
    have h8:h[i]? =some (.live ha):=by rw [zqc hi,h3]
    rcases(hst.keeps i).2 ha h8 with hg|⟨hh,g1,g2,g3,g4⟩
    ·left;have:=(ht i).1 hg;rwa [hm]at this
    ·obtain⟨hz,k1,k2,k3,k4⟩:=(ht i).2 hh g1
     right
     rw [hm]at k1 k4 h7
     exact⟨hz,k1,by rw [k2,g2,h5],by rw [k3,g3,h6],by rw [k4,g4,h7]⟩
   ·have hc:∀i,i<h.length->s i≠r:=fun i hi he=>hex ⟨i,hi,he⟩
    obtain⟨h1,h2⟩:=hout r hw hc
    exact .inr ⟨ab,by rw [h1];exact hs,rfl,rfl,h2⟩
 have hC:fJ F F1 w M H:=⟨hG.1,fun b hb=>by
  rcases hG.2 b hb with h1|h1|⟨r,ab,c,h1,h2⟩
  ·exact .inl h1
  ·exact .inr (.inl h1)
  ·obtain⟨ha,AB,_,k4,_,_,k7⟩:=hsm r _ h1
   rw [k7]at h2
   exact .inr (.inr ⟨_,_,_,k4,h2⟩)⟩
 refine⟨hC,⟨⟨fun r ab hr=> ?_,fun r r' ab hh b c c' h1 h2 h3 h4=> ?_,hlM,hst.hp.old,hst.hp.lo⟩,hq,hst.os,hst.tape,hst.output,hst.size,fun b hb hc=>hst.blk b hb fun i ab c h1 h2=> ?_,fun r ab b c h1 h2=> ?_⟩,fun res v hv=>RV.mv ht hv⟩
 ·rcases hk r ab hr with⟨i,ha,rfl,hi,h1,rfl,h2⟩|⟨hlt,hc,h1,h2⟩
  ·rw [h2]
   rcases hst.hp.at_ i ha h1 with⟨h3,h4⟩|⟨b,c,h3,h4,cur,g1,g2,g3,g4,g5⟩
   ·exact .inl ⟨h3,by simpa [AB.mv]using h4⟩
   ·refine .inr ⟨b,c,h3,h4,cur,g1,g2,by simpa [AB.mv]using g3,g4,fun p x hx=> ?_⟩
    simp only [AB.mv,zqi,zqj]at hx
    obtain⟨y,hy,rfl⟩:=hx
    refine⟨by simpa [AB.mv]using(g5 p y hy).1,fun q d hd=> ?_⟩
    simp only [zqi,zqj]at hd
    obtain⟨d0,hd0,rfl⟩:=hd
    obtain⟨u,hu,ho,hr⟩:=(g5 p y hy).2 q d0 hd0
    exact⟨u,hu,ho,RC.mv ht hr⟩
  ·rw [h2]
   rcases hH.at_ r ab h1 with h3|⟨b,c,h3,h4,h5⟩
   ·exact .inl h3
   ·refine .inr ⟨b,c,h3,fun hf=> ?_,RB.ext hG.1 hD hq (hE r ab b c hlt hc h1 h3) h5⟩
    rcases hG.2 b hf with g1|g1|⟨r0,ha,c0,g1,g2⟩
    ·exact h4 g1
    ·have:=(hH.lt h1 h3).2;omega
    ·obtain⟨hA,AB,_,k4,_,_,k7⟩:=hsm r0 _ g1
     rw [k7]at g2
     exact hc r0 (zqb.1 g1).1 (hH.inj _ _ _ _ _ _ _ k4 h1 g2 h3)
 ·have hx:∀r ab b c,H'[r]? =some (.live ab)->M'[r]? =some (some (b,c))->(∃i ha,r=s i/\h'[i]? =some (.live ha)/\m'[i]? =some (some (b,c)))\/(r<H.length/\(∀i,i<h.length->s i≠r)/\H[r]? =some (.live ab)/\M[r]? =some (some (b,c))):=fun r ab b c h1 h2=>by
   rcases hk r ab h1 with⟨i,ha,h3,hi,h4,_,h5⟩|⟨h3,h4,h5,h6⟩
   ·exact .inl ⟨i,ha,h3,h4,by rw [<-h5];exact h2⟩
   ·exact .inr ⟨h3,h4,h5,by rw [<-h6];exact h2⟩
  have mix:∀(i:Nat)(ha:AB)(r':Nat)(hh:AB)(b c c':Nat),h'[i]? =some (AE.live ha)->m'[i]? =some (some (b,c))->r'<H.length->(∀i,i<h.length->s i≠r')->H[r']? =some (.live hh)->M[r']? =some (some (b,c'))->False:=fun i ha r' hh b c c' g1 g2 g3 g4 g5 g6=>by
   rcases hst.own i ha b c g1 g2 with⟨r0,hA,c0,k1,k2⟩|k1
   ·obtain⟨hB,AB,_,k4,_,_,k7⟩:=hsm r0 _ k1
    rw [k7]at k2
    exact g4 r0 (zqb.1 k1).1 (hH.inj _ _ _ _ _ _ _ k4 g5 k2 g6)
   ·have:=(hH.lt g5 g6).2;omega
  rcases hx r ab b c h1 h3 with⟨i,a0,rfl,g1,g2⟩|⟨g1,g2,g3,g4⟩<;>rcases hx r' hh b c' h2 h4 with⟨i',a0',rfl,g1',g2'⟩|⟨g1',g2',g3',g4'⟩
  ·rw [hst.hp.inj i i' a0 a0' b c c' g1 g1' g2 g2']
  ·exact(mix i a0 r' hh b c c' g1 g2 g1' g2' g3' g4').elim
  ·exact(mix i' a0' r ab b c' c g1' g2' g1 g2 g3 g4).elim
  ·exact hH.inj r r' ab hh b c c' g3 g3' g4 g4'
 ·obtain⟨ha,AB,_,k4,_,_,k7⟩:=hsm i _ h1
  rw [k7]at h2
  exact hc _ _ _ k4 h2
 ·rcases hk r ab h1 with⟨i,ha,rfl,hi,h3,_,h4⟩|⟨h3,h4,h5,h6⟩
  ·rw [h4]at h2
   rcases hst.own i ha b c h3 h2 with⟨r0,hA,c0,k1,k2⟩|k1
   ·obtain⟨hB,AB,_,k4,_,_,k7⟩:=hsm r0 _ k1
    rw [k7]at k2
    exact .inl ⟨_,_,_,k4,k2⟩
   ·exact .inr k1
  ·rw [h6]at h2;exact .inl ⟨r,ab,c,h5,h2⟩
end
def EE.mv(s:Nat->Nat):EE->EE
 | .bx t k x=> .bx t k (x.map (AC.mv s))
 | .rw ab=> .rw (ab.mv s)
 | .gn=> .gn
theorem EE.mv_e(s:Nat->Nat)(e:EE):(e.mv s).e=e.e.mv s:=by cases e<;>rfl
def dp(s:Nat->Nat):List Nat->EH->EH->EH
 | [],H,h'=>H++h'.map (EE.mv s)
 |_::_,H,[]=>H
 |r::σ,H,e::h'=>dp s σ (H.set r (e.mv s)) h'
theorem rY(σ:List Nat)(n i:Nat):plc σ n i=match σ[i]? with|some r=>r|none=>n+(i-σ.length):=by
 unfold plc;rw [fF,dy]
theorem nF(s:Nat->Nat):∀(σ:List Nat)(H h':EH),σ.length<=h'.length->(dp s σ H h').length=H.length+(h'.length-σ.length)
 | [],H,h',_=>by simp [dp]
 |r::σ,H,[],hl=>by simp at hl
 |r::σ,H,e::h',hl=>by
  unfold dp
  rw [nF s σ _ _ (by simpa using hl)]
  simp
theorem rS(s:Nat->Nat):∀(σ:List Nat)(H h':EH)(i:Nat),σ.length<=h'.length->σ.length<=i->(dp s σ H h')[H.length+(i-σ.length)]? =(h'[i]?).map (EE.mv s)
 | [],H,h',i,_,_=>by
  unfold dp
  rw [show H.length+(i-([]:List Nat).length)=H.length+i by simp,zqg (by omega),Nat.add_sub_cancel_left,zqi]
 |r::σ,H,[],i,hl,_=>by simp at hl
 |r::σ,H,e::h',0,_,hi=>by simp at hi
 |r::σ,H,e::h',i+1,hl,hi=>by
  unfold dp
  have:=rS s σ (H.set r (e.mv s)) h' i (by simpa using hl) (by simpa using hi)
  simpa using this
theorem nD(s:Nat->Nat):∀(σ:List Nat)(H h':EH)(r:Nat),r<H.length->r∉σ->(dp s σ H h')[r]? =H[r]?
 | [],H,h',r,hr,_=>by unfold dp;rw [zqh hr]
 |q::σ,H,[],r,_,_=>rfl
 |q::σ,H,e::h',r,hr,hn=>by
  unfold dp
  simp only [zph,not_or]at hn
  rw [nD s σ _ h' r (by simpa using hr) hn.2,List.getElem?_set_ne (fun h=>hn.1 h.symm)]
theorem uR(s:Nat->Nat):∀(σ:List Nat)(H h':EH)(i r:Nat),σ.Nodup->(∀q∈σ,q<H.length)->i<h'.length->σ[i]? =some r->(dp s σ H h')[r]? =(h'[i]?).map (EE.mv s)
 | [],H,h',i,r,_,_,_,hr=>by simp at hr
 |q::σ,H,[],i,r,_,_,hi,_=>by simp at hi
 |q::σ,H,e::h',i,r,hn,hq,hi,hr=>by
  unfold dp
  rw [List.nodup_cons]at hn
  cases i with
  |zero=>
   simp only [zqw,zqy]at hr
   subst hr
   have ha:q<H.length:=hq q (by simp)
   rw [nD s σ _ h' q (by simpa using ha) hn.1]
   simp [zpm ha]
  |succ i=>
   have:=uR s σ (H.set q (e.mv s)) h' i r hn.2 (fun x hx=>by simpa using hq x (by simp [hx])) (by simpa using hi) (by simpa using hr)
   simpa using this
def IB(ρ:List (Option Nat))(h:EH)(H:EH):List Nat->EH->Prop
 | [],[]=>True
 |r::σ,e::es=>(∃ab AB,e.e= .live ab/\(nth H r).map EE.e=some (.live AB)/\ab.ty=AB.ty/\ab.k=AB.k/\((ab.es=AB.es/\(AB.es.all fun x=>x.all dx)=true)\/rnE ρ (toH h) ab.es AB.es))/\IB ρ h H σ es
 |_,_=>False
theorem Ag{ρ:List (Option Nat)}{h H:EH}:∀(σ:List Nat)(es:EH),IB ρ h H σ es->σ.length=es.length
 | [],[],_=>rfl
 | [],_::_,h=>h.elim
 |_::_,[],h=>h.elim
 |_::σ,_::es,h=>by simp [Ag σ es h.2]
theorem CL{ρ:List (Option Nat)}{h H:EH}:∀(σ:List Nat)(es:EH),IB ρ h H σ es->∀(i:Nat)(e:EE),es[i]? =some e->∃(r:Nat)(ab AB:AB),σ[i]? =some r/\e.e= .live ab/\(toH H)[r]? =some (.live AB)/\ab.ty=AB.ty/\ab.k=AB.k/\((ab.es=AB.es/\(AB.es.all fun x=>x.all dx)=true)\/rnE ρ (toH h) ab.es AB.es)
 | [],[],_,i,e,he=>by simp at he
 | [],_::_,h,_,_,_=>h.elim
 |_::_,[],h,_,_,_=>h.elim
 |r::σ,e0::es,hs,i,e,he=>by
  cases i with
  |zero=>
   simp only [zqw,zqy]at he
   subst he
   obtain⟨⟨ab,AB,h1,h2,h3⟩,_⟩:=hs
   refine⟨r,ab,AB,rfl,h1,?_,h3⟩
   rw [fF]at h2
   simpa [toH]using h2
  |succ i=>exact CL σ es hs.2 i e (by simpa using he)
theorem Af{ρ:List Nat}{h h0 H:EH}:∀(σ pre:List Nat)(es:EH),ρ=pre++σ->IB (ρ.map some) h H σ es->rnH 0 (ρ.map some) (toH h) (toH H) pre.length (toH es)
 | [],pre,[],_,_=>trivial
 | [],_,_::_,_,h=>h.elim
 |_::_,_,[],_,h=>h.elim
 |r::σ,pre,e::es,hρ,hs=>by
  have ih:=Af (h0:=h0) σ (pre++[r]) es (by simp [hρ]) hs.2
  rw [zqe,zqm]at ih
  obtain⟨⟨ab,AB,h1,h2,h3,h4,h5⟩,_⟩:=hs
  have h6:(toH H)[r]? =some (.live AB):=by rw [fF]at h2;simpa [toH]using h2
  have h7:(List.map some ρ)[pre.length]? =some (some r):=by simp [hρ]
  show rnH 0 (ρ.map some) (toH h) (toH H) pre.length (e.e::toH es)
  unfold rnH
  refine⟨fun hi=>absurd hi (zpq _),?_,ih⟩
  rw [h1]
  simp only [h7,h6]
  exact⟨h3,h4,h5⟩
section
variable {P:Program}{n0 N:Nat}{g:Gd}
theorem RH.rn0{β:BP}{F:Nat->Prop}{w:World}{M:AM}{H h:AH}{ρ:List (Option Nat)}(hH:RH F w M H)(hnd:(ρ.filterMap id).Nodup)(hr:rnH 0 ρ h H 0 h):RH F w (rnM M ρ h.length) h:=
 (gD.rn (n0:=0) (h0:=[]) (w0:={w with heap:= #[]}) (m0:=[]) (h:=H) (m:=M) (h':=h) (ρ:=ρ) (F:=F) (w:=w) ⟨hH,fun r=>⟨fun h=>by simp at h,fun ab h=>by simp at h⟩,rfl,rfl,rfl,zpn _,fun b hb=>absurd hb (zpq _),fun r ab b c h1 h2=> .inr (zpn _),fun b cur ty _ hc=>by simp at hc⟩ rfl (zpn _) (fun i hi=>absurd hi (zpq _)) hnd hr).hp
theorem C8{σ:List Nat}{n:Nat}(hnd:σ.Nodup)(hlt:∀r∈σ,r<n):∀i j,plc σ n i=plc σ n j->i=j:=fun i j h=>by
 rw [rY,rY]at h
 cases hi:σ[i]? with
 |some r=>
  cases hj:σ[j]? with
  |some q=>
   rw [hi,hj]at h
   simp only at h
   subst h
   have h1:=(zqb.1 hi)
   have h2:=(zqb.1 hj)
   obtain⟨a1,a2⟩:=h1
   obtain⟨b1,b2⟩:=h2
   exact(List.getElem_inj hnd).1 (a2.trans b2.symm)
  |none=>
   rw [hi,hj]at h
   have:=hlt r (zqd hi)
   simp only at h
   omega
 |none=>
  cases hj:σ[j]? with
  |some q=>
   rw [hi,hj]at h
   have:=hlt q (zqd hj)
   simp only at h
   omega
  |none=>
   rw [hi,hj]at h
   have h1:=List.getElem?_eq_none_iff.1 hi
   have h2:=List.getElem?_eq_none_iff.1 hj
   simp only at h
   omega
theorem D0{β:BP}(hg:g=G0 P n0 N){H h:EH}(σ:List Nat){f:FuncId}{args args':List AT}{K:AV->EH->Prop}{Post:AV->EH->Prop}
  (hc:Con P f (toH h) args' fun res h'=>∃eh,toH eh=h'/\Post res eh) (hnd:σ.Nodup) (hlt:∀r∈σ,r<H.length) (hsub:IB (σ.map some) h H σ h) (ha:AD (σ.map some) (toH h) args' args)
  (hK:∀res eh,Post res eh->K (res.mv (plc σ H.length)) (dp (plc σ H.length) σ H eh)):g .C f H args K:=by
 subst hg
 refine⟨hc.1,fun F w M vs hH hl hx=> ?_⟩
 have hσ:=Ag σ h hsub
 have hr:rnH 0 (σ.map some) (toH h) (toH H) 0 (toH h):=Af (h0:=[]) σ [] h rfl hsub
 have hs:((σ.map some).filterMap id).Nodup:=by rw [r9];exact hnd
 have hz:=RH.rn0 hH hs hr
 have hB:=og _ _ ha
 have:=hc.2 F w _ vs hz (by rw [hl,hB]) (fun j y hj=>by
  obtain⟨x,hL,hM⟩:=oh _ _ j y ha hj
  obtain⟨v,hv,hJ⟩:=hx j x hL
  exact⟨v,hv,RT.rn hH hr hJ hM⟩)
 refine this.mono fun e w'⟨v,res,h',m',F1,he,⟨eh,heh,hpost⟩,hG,hst,hv⟩=> ?_
 subst heh
 have hn:M.length=H.length:=by have:=hH.len;rw [bV]at this;exact this
 have ho:m'.length=eh.length:=by have:=hst.hp.len;rw [bV]at this;exact this
 have hd:∀(i:Nat)(x:AE),(toH h)[i]? =some x->∃(r:Nat)(ab AB:AB),σ[i]? =some r/\x= .live ab/\(toH H)[r]? =some (.live AB)/\AB.k=ab.k/\AB.es.length=ab.es.length:=fun i x hx=>by
  simp only [toH,zqi,zqj]at hx
  obtain⟨e0,hC,rfl⟩:=hx
  obtain⟨r,ab,AB,h1,h2,h3,_,h4,h5⟩:=CL σ h hsub i e0 hC
  refine⟨r,ab,AB,h1,h2,h3,h4.symm,?_⟩
  rcases h5 with h5|h5
  ·rw [h5.1]
  ·exact(yY _ _ h5).symm
 have hD:h.length<=eh.length:=by
  rcases Nat.eq_zero_or_pos h.length with h0|h0
  ·omega
  ·have hx:=zqc (l:=toH h) (i:=h.length-1) (by rw [bV];omega)
   obtain⟨r,ab,AB,_,h2,_⟩:=hd _ _ hx
   rw [h2]at hx
   rcases(hst.keeps (h.length-1)).2 ab hx with hg|⟨ab',hg,_⟩
   ·have:=(zqb.1 hg).1;rw [bV]at this;omega
   ·have:=(zqb.1 hg).1;rw [bV]at this;omega
 have hf:∀(i r:Nat),σ[i]? =some r->plc σ H.length i=r:=fun i r h1=>by rw [rY,h1]
 have ht:∀i:Nat,σ.length<=i->plc σ H.length i=H.length+(i-σ.length):=fun i h1=>by rw [rY,zqz h1]
 have hb:∀i:Nat,i<σ.length->∃r,σ[i]? =some r:=fun i hi=>⟨_,zqc hi⟩
 have hw:∀(i r:Nat),σ[i]? =some r->(rnM M (σ.map some) (toH h).length)[i]? =M[r]? :=fun i r h1=>by
  have hi:i<(toH h).length:=by rw [bV,<-hσ];exact(zqb.1 h1).1
  have hk:r<M.length:=by rw [hn];exact hlt r (zqd h1)
  rw [gK hi (by simp [h1]) (zqc hk),zqc hk]
 let M':AM:=M++m'.drop h.length
 have hA:M'.length=(dp (plc σ H.length) σ H eh).length:=by
  rw [nF _ _ _ _ (by omega)];simp [M',hn,ho];omega
 have hq:∀(r i:Nat),(dp (plc σ H.length) σ H eh)[r]? =(eh[i]?).map (EE.mv (plc σ H.length))->(toH (dp (plc σ H.length) σ H eh))[r]? =((toH eh)[i]?).map (AE.mv (plc σ H.length)):=fun r i h1=>by
  simp only [toH,zqi,h1]
  cases eh[i]? with
  |none=>rfl
  |some x=>simp [EE.mv_e]
 obtain⟨hy,hh,hu⟩:=Jy (H':=toH (dp (plc σ H.length) σ H eh)) (M':=M') (s:=plc σ H.length) hH hG hst
  (fun i x hx=>by
   obtain⟨r,ab,AB,h1,h2,h3,h4,h5⟩:=hd i x hx
   rw [hf i r h1]
   exact⟨ab,AB,h2,h3,h4,h5,hw i r h1⟩)
  (C8 hnd hlt)
  (fun i hi=>by
   rw [bV]at hi⊢
   obtain⟨r,h1⟩:=hb i (by omega)
   rw [hf i r h1];exact hlt r (zqd h1))
  (fun i hi=>by rw [bV]at hi⊢;rw [bV,ht i (by omega),hσ])
  (by rw [bV,bV,bV,bV,nF _ _ _ _ (by omega),hσ])
  (by rw [bV];exact hA)
  (by rw [bV,bV];exact hD)
  (fun i hi=>by
   rw [bV]at hi
   apply hq
   by_cases hil:i<σ.length
   ·obtain⟨r,h1⟩:=hb i hil
    rw [hf i r h1]
    exact uR _ σ H eh i r hnd hlt hi h1
   ·rw [ht i (by omega)]
    exact rS _ σ H eh i (by omega) (by omega))
  (fun i hi hF=>by
   rw [bV]at hi
   by_cases hil:i<σ.length
   ·obtain⟨r,h1⟩:=hb i hil
    rw [hf i r h1]
    have hx:=zqc (l:=toH h) (i:=i) (by rw [bV];omega)
    obtain⟨r',ab,AB,_,h2,_⟩:=hd _ _ hx
    rw [h2]at hx
    rcases(hst.keeps i).2 ab hx with hg|⟨ab',_,_,_,h4⟩
    ·exact absurd hg hF
    ·rw [h4,hw i r h1]
     have hk:r<M.length:=by rw [hn];exact hlt r (zqd h1)
     exact zqh hk
   ·rw [ht i (by omega)]
    show(M++m'.drop h.length)[H.length+(i-σ.length)]? =_
    rw [zqg (by omega),List.getElem?_drop]
    congr 1
    omega)
  (fun r hr hE=>by
   rw [bV]at hr
   have hI:r∉σ:=fun hm=>by
    obtain⟨i,hi,h1⟩:=zpi hm
    have h2:=zqc hi
    rw [h1]at h2
    exact hE i (by rw [bV];omega) (hf i r h2)
   refine⟨?_,zqh (by omega)⟩
   simp only [toH,zqi,nD _ σ H eh r hr hI])
  (fun i hx=>by
   simp only [toH,zqi,zqj]at hx
   obtain⟨e0,_,h1⟩:=hx
   cases e0<;>cases h1)
 exact⟨v,res.mv _,_,M',F1,he,⟨_,rfl,hK res eh hpost⟩,hy,hh,hu res v hv⟩
end
inductive OT
 |done
 |none
 |op (i:Nat) (t r:OT)
def otB(ops:Array Oper):OT->Nat->Array Bool->List Nat->Bool->Bool
 | .done,_,_,al,top=>top&&al.isEmpty
 | .none,_,_,al,top=> !top&&al.isEmpty
 | .op i t r,f,L,al,_=>match f,al with
  |f'+1,j::al'=>Nat.beq i j&&(otB ops t f' (L.setIfInBounds i true) (Region.ready .any ops (L.setIfInBounds i true)) true&&otB ops r f L al' false)
  |_,_=>false
def KU(ops:Array Oper)(t:OT):Bool:=otB ops t ops.size (Array.replicate ops.size false) (Region.ready .any ops (Array.replicate ops.size false)) true
section
variable {P:Program}{F:Nat->Prop}{w0:World}{m0:AM}{h0:AH}{N:Nat}{ops:Array Oper}{T:Nat->AV}{h:AH}
def IA [BP](P:Program)(ops:Array Oper)(Q:(Nat->AV)->AH->Prop):OT->(Nat->AV)->AH->Prop
 | .done,T,h=>Q T h
 | .none,_,_=>True
 | .op i t r,T,h=>(∃(o:Oper)(K:(Nat->AV)->AH->Prop),ops[i]? =some o/\s8 P ops K [o] T h/\∀T h,K T h->IA P ops Q t T h)/\IA P ops Q r T h
theorem pz{β:BP}{F0:Nat->Prop}{Q:Exit->(Nat->AV)->AH->Prop}(hg:gz N ops=true)(hd:ops.toList.all (fT N)=true):
  ∀(t:OT)(f:Nat)(L:Array Bool)(al:List Nat)(top:Bool)(F:Nat->Prop)(T:Nat->AV)(h:AH)(a:Act)(w:World)(m:AM),otB ops t f L al top=true->fJ F0 F w0 m0 h0->Rel F w0 m0 h0 N T h a w m->IA P ops (Q .normal) t T h->
   (∀i∈al,∃f',f=f'+1/\wpOp P ops (kO F0 w0 m0 h0 N Q) i (wpAny P .any ops (kO F0 w0 m0 h0 N Q) f' (L.setIfInBounds i true)) a w)/\(top=true->al=[]->kO F0 w0 m0 h0 N Q .normal a w)
 | .done,f,L,al,top,F,T,h,a,w,m,hB,hG,r,hq=>by
  simp only [otB,zqs,List.isEmpty_iff]at hB
  obtain⟨h1,rfl⟩:=hB
  exact⟨fun i hi=>by simp at hi,fun _ _=>⟨T,h,m,F,hq,hG,r⟩⟩
 | .none,f,L,al,top,F,T,h,a,w,m,hB,hG,r,hq=>by
  simp only [otB,zqs,List.isEmpty_iff,Bool.not_eq_true']at hB
  obtain⟨h1,rfl⟩:=hB
  exact⟨fun i hi=>by simp at hi,fun ht=>by rw [h1]at ht;cases ht⟩
 | .op i t rs,f,L,al,top,F,T,h,a,w,m,hB,hG,r,hq=>by
  unfold otB at hB
  split at hB
  ·rename_i f' j al'
   simp only [zqs]at hB
   obtain⟨he,hh,hj⟩:=hB
   have he:i=j:=Nat.eq_of_beq_eq_true he
   subst he
   obtain⟨⟨o,K,ho,hs,hK⟩,hr⟩:=hq
   refine⟨fun k hk=> ?_,fun _ h1=>by cases h1⟩
   rcases zph.1 hk with rfl|hk
   ·refine⟨f',rfl,?_⟩
    have ha:o∈ops.toList:=zqd (by simpa using ho:ops.toList[k]? =some o)
    have hf:fT N o=true:=zqf.1 hd o ha
    have fin:∀(F1:Nat->Prop)(T1:Nat->AV)(h1:AH)(a1:Act)(w1:World)(m1:AM),fJ F0 F1 w0 m0 h0->Rel F1 w0 m0 h0 N T1 h1 a1 w1 m1->IA P ops (Q .normal) t T1 h1->
      wpAny P .any ops (kO F0 w0 m0 h0 N Q) f' (L.setIfInBounds k true) a1 w1:=fun F1 T1 h1 a1 w1 m1 hb r1 hl=>by
     obtain⟨hA,hE⟩:=pz hg hd t f' _ _ true F1 T1 h1 a1 w1 m1 hh hb r1 hl
     cases f' with
     |zero=>
      have hn:Region.ready .any ops (L.setIfInBounds k true)=[]:=by
       cases hc:Region.ready .any ops (L.setIfInBounds k true)with
       |nil=>rfl
       |cons x xs=>
        obtain⟨f2,h2,_⟩:=hA x (by rw [hc];simp)
        cases h2
      exact⟨hn,hE rfl hn⟩
     |succ f2=>
      refine⟨fun hn=>hE rfl hn,fun i hi=> ?_⟩
      obtain⟨f3,h3,h4⟩:=hA i hi
      cases h3
      exact h4
    unfold wpOp
    rw [ho]
    simp only
    unfold s8 at hs
    rcases jT (a:=a) (fun g t h1 h2=>by rw [r.sz];exact fu hg ha g t h1 h2) (fun g t _ _=>r.tm t) hs with⟨hw,hA⟩|⟨hw,hA⟩
    ·rw [if_pos hw]
     left
     refine(l9 r.st.hp r.tm hA).wp (fun v w'⟨res,h',m',F1,hk,hb,hs,hv⟩=> ?_)
     exact fin F1 _ _ _ _ _ (r.grow hG hb) (r.nextG hf hb.1 hs hv) (hK _ _ hk)
    ·rw [if_neg (by rw [hw];simp)]
     exact fin F _ _ _ _ _ hG (r.skip hf) (hK _ _ hA)
   ·exact(pz hg hd rs _ L al' false F T h a w m hj hG r hr).1 k hk
  ·cases hB
theorem IH{β:BP}{n0:Nat}{Q:Exit->(Nat->AV)->AH->Prop}{id:Nat}{l:List Oper}(t:OT)(hm:P.follows .mixedOrders=true)(hok:gg N l.toArray=true)(hB:KU l.toArray t=true)(hs:IA P l.toArray (Q .normal) t T h):
  VC P n0 N (.region id l.toArray true) Q T h:=fun F w0 m0 h0 a w m hn r=>by
 unfold gg at hok
 simp only [zqs]at hok
 refine wp_region_any hm ?_
 have ha:=dI.drew r.st.hp
 have r':Rel F w0 m0 h0 N T h a {w with drawn:=w.drawn+1} m:=⟨fun d=>RV.step ha r.st.hp (r.tm d),r.st.trans ha,r.df,r.sz⟩
 obtain⟨hA,hE⟩:=pz (F0:=F) hok.1 hok.2 t _ _ _ true F T h a _ m hB (fJ.refl _ _ _ _) r' hs
 generalize hf:l.toArray.size=f at *
 cases f with
 |zero=>
  have hn:Region.ready .any l.toArray (Array.replicate 0 false)=[]:=by
   cases hc:Region.ready .any l.toArray (Array.replicate 0 false)with
   |nil=>rfl
   |cons x xs=>
    obtain⟨f2,h2,_⟩:=hA x (by rw [hc];simp)
    cases h2
  exact⟨hn,hE rfl hn⟩
 |succ f2=>
  refine⟨fun hn=>hE rfl hn,fun i hi=> ?_⟩
  obtain⟨f3,h3,h4⟩:=hA i hi
  cases h3
  exact h4
end
def J5(g:Gd)(tab:List (TypeId×TI))(ops:List Oper)(Q:List (Nat×AV)->EH->Prop):OT->List (Nat×AV)->EH->Prop
 | .done,l,h=>Q l h
 | .none,_,_=>True
 | .op i t r,l,h=>(match nth ops i with
  |some o=>lz g tab ops (fun l h=>J5 g tab ops Q t l h) [o] 0 l h
  |none=>False)/\J5 g tab ops Q r l h
def lkO:List (Nat×OT)->Nat->Option OT
 | [],_=>none
 |(k,t)::l,d=>match Nat.beq k d with|true=>some t|false=>lkO l d
def tQ(ots:List (Nat×OT))(g:Gd)(tab:List (TypeId×TI)):Code->(Exit->List (Nat×AV)->EH->Prop)->List (Nat×AV)->EH->Prop
 | .skip,Q,l,h=>Q .normal l h
 | .ret,Q,l,h=>Q .ret l h
 | .exit id,Q,l,h=>Q (.exit id) l h
 | .seq x y,Q,l,h=>tQ ots g tab x (fun e l h=>match e with| .normal=>tQ ots g tab y Q l h|e=>Q e l h) l h
 | .cond c x y,Q,l,h=>match ev (lkT l) c with
  | .t (.c (.imm (.bool b)))=>(match b with|true=>tQ ots g tab x Q l h|false=>tQ ots g tab y Q l h)
  |_=>False
 | .block id c,Q,l,h=>tQ ots g tab c (fun e l h=>match e with| .exit i=>(match Nat.beq i id with|true=>Q .normal l h|false=>Q (.exit i) l h)|e=>Q e l h) l h
 | .region id ops draw,Q,l,h=>match draw with
  |false=>lz g tab ops.toList (fun l h=>Q .normal l h) ops.toList 0 l h
  |true=>match lkO ots id with
   |some t=>J5 g tab ops.toList (fun l h=>Q .normal l h) t l h
   |none=>lz g tab ops.toList (fun l h=>Q .normal l h) ops.toList (wR ops.toList ops.toList) l h
 | .loop c,Q,l,h=>g .L c Q l h
 |_,_,_,_=>False
def io(ots:List (Nat×OT))(N:Nat):Code->Bool
 | .seq x y=>io ots N x&&io ots N y
 | .cond _ x y=>io ots N x&&io ots N y
 | .block _ c=>io ots N c
 | .region id ops draw=>gg N ops&&(!draw||(match lkO ots id with|some t=>KU ops t|none=>uB ops (wR ops.toList ops.toList)))
 | .loop c=>io ots N c
 |_=>true
section
variable {P:Program}{n0 N:Nat}{tab:List (TypeId × TI)}
theorem pg{β:BP}(hf:fL P tab){ops:Array Oper}{Q:List (Nat×AV)->EH->Prop}:∀(t:OT)(l:List (Nat×AV))(h:EH),J5 (G0 P n0 N) tab ops.toList Q t l h->IA P ops (QH Q) t (lkT l) (toH h)
 | .done,l,h,hp=>⟨l,h,rfl,rfl,hp⟩
 | .none,_,_,_=>trivial
 | .op i t r,l,h,hp=>by
  obtain⟨h1,h2⟩:=hp
  refine⟨?_,pg hf r l h h2⟩
  split at h1
  ·rename_i o ho
   rw [fF,Array.getElem?_toList]at ho
   have h3:=cj hf [o] 0 l h h1
   refine⟨o,_,ho,h3,fun T h hk=> ?_⟩
   obtain⟨l',eh,rfl,rfl,hq⟩:=hk
   exact pg hf t l' eh hq
  ·exact h1.elim
theorem gq{β:BP}(hf:fL P tab){ots:List (Nat×OT)}:∀(c:Code)(Q:Exit->List (Nat×AV)->EH->Prop)(l:List (Nat×AV))(h:EH),io ots N c=true->tQ ots (G0 P n0 N) tab c Q l h->VC P n0 N c (QE Q) (lkT l) (toH h)
 | .skip,Q,l,h,_,hp=>yN ⟨l,h,rfl,rfl,hp⟩
 | .ret,Q,l,h,_,hp=>CD ⟨l,h,rfl,rfl,hp⟩
 | .exit id,Q,l,h,_,hp=>yO ⟨l,h,rfl,rfl,hp⟩
 | .seq x y,Q,l,h,ho,hp=>by
  simp only [io,zqs]at ho
  refine zZ (fD (fun e T h hq=> ?_) (gq hf x _ l h ho.1 hp))
  obtain⟨l,eh,rfl,rfl,hq⟩:=hq
  cases e<;>first
   |exact⟨l,eh,rfl,rfl,hq⟩
   |exact gq hf y Q l eh ho.2 hq
 | .cond c x y,Q,l,h,ho,hp=>by
  simp only [io,zqs]at ho
  simp only [tQ]at hp
  split at hp
  ·rename_i b hb
   refine yQ hb (fun hb=> ?_) (fun hb=> ?_)
   ·subst hb;exact gq hf x Q l h ho.1 hp
   ·subst hb;exact gq hf y Q l h ho.2 hp
  ·exact hp.elim
 | .block id c,Q,l,h,ho,hp=>by
  refine vx (fD (fun e T h hq=> ?_) (gq hf c _ l h ho hp))
  obtain⟨l,eh,rfl,rfl,hq⟩:=hq
  cases e<;>first
   |exact⟨l,eh,rfl,rfl,hq⟩
   |skip
  rename_i i
  simp only [yy]
  simp only at hq
  split at hq
  ·rename_i hb
   rw [if_pos (bt hb)]
   exact⟨l,eh,rfl,rfl,hq⟩
  ·rename_i hb
   rw [if_neg (fun he=>by subst he;simp at hb)]
   exact⟨l,eh,rfl,rfl,hq⟩
 | .region id ops draw,Q,l,h,ho,hp=>by
  obtain⟨os⟩:=ops
  simp only [io,zqs,Bool.or_eq_true,Bool.not_eq_true']at ho
  cases draw with
  |false=>exact rq ho.1 (cj hf os 0 l h hp)
  |true=>
   obtain⟨h1,h2⟩:=ho
   rcases h2 with h2|h2
   ·cases h2
   ·simp only [tQ]at hp
    cases hl:lkO ots id with
    |some t=>
     rw [hl]at h2 hp
     exact IH t hf.mix h1 h2 (pg hf (ops:=os.toArray) t l h hp)
    |none=>
     rw [hl]at h2 hp
     exact yP _ hf.mix h1 h2 (cj hf os _ l h hp)
 | .loop c,Q,l,h,_,hp=>hp
 | .rangeFunc _ _ _ _,_,_,_,_,hp=>hp.elim
 | .scope _,_,_,_,_,hp=>hp.elim
 | .label _,_,_,_,_,hp=>hp.elim
 | .goto _,_,_,_,_,hp=>hp.elim
 | .refuse _,_,_,_,_,hp=>hp.elim
variable {args:List AT}
theorem FK{β:BP}{ots:List (Nat×OT)}{f:FuncId}{fn:Func}{c:Code}{Post:AV->AH->Prop}{h:EH}(hfit:fL P tab)(hf:P.funcs[f]? =some fn)(hb:fn.body=some c)(hnm:(fn.name== "runtime.NumGoroutine")=false)(hn:args.length<=fn.ntmps)
  (hok:io ots fn.ntmps c=true) (hv:∀(g:Gd)(F:List AT->EH->Prop),g=G0 P (toH h).length fn.ntmps->F=lv (toH h).length Post->tQ ots g tab c (zF tab fn.results.toList F) (sV args 0) h) (hex:∀b,¬BP.ex b:=by exact fun _ h=>h):Con P f (toH h) args Post:=by
 refine sQ hex hf hb hnm hn (jI (T':=lkT (sV args 0)) (fun d=> ?_) (fD (fun e T h hq=> ?_) (gq hfit c _ _ h hok (hv _ _ rfl rfl))))
 ·rcases nH args 0 d with h1|⟨x,h1,h2,h3⟩
  ·exact .inl h1
  ·refine .inr ?_
   rw [h3]
   simp only [Nat.sub_zero]at h1
   simp only [T0,h1]
 ·obtain⟨l,eh,rfl,rfl,hq⟩:=hq
  cases e<;>first
   |exact hq.elim
   |exact fN hfit _ _ hq
theorem Dd(ots:List (Nat×OT)){f:FuncId}{fn:Func}{c:Code}{Post:AV->List AB->Prop}(hfit:fL P tab)(hf:P.funcs[f]? =some fn)(hb:fn.body=some c)(hnm:(fn.name== "runtime.NumGoroutine")=false)(hn:Nat.ble args.length fn.ntmps=true)
  (hok:io ots fn.ntmps c=true) (hv:∀(g:Gd)(F:List AT->EH->Prop),g=G0 P 0 fn.ntmps->F=lv 0 (fun res h'=>∃rows,h'=rows.map .live/\Post res rows)->tQ ots g tab c (zF tab fn.results.toList F) (sV args 0) []):bS P f args Post:=
 FK (h:=[]) hfit hf hb hnm (bl hn) hok hv
end
theorem dg{β:BP}{P:Program}{n0 N:Nat}{g:Gd}(hg:g=G0 P n0 N){t k by_:Nat}{es:LLA}{y:List AC}{q:Prop}(hk:y.length=k)(hb:by_<=65536)(hl:es.length<=1048576)(hq:q):
  g .N ((∀x,x∈[y]->x.length=k)/\((AB.mk t k es).es.length+[y].length)*by_<=140737488355328/\(AB.mk t k es).es.length+[y].length<=4611686018427387904) q:=
 goN hg ⟨fun x hx=>by rw [zpa.1 hx];exact hk,zpb (Nat.mul_le_mul (show es.length+1<=1048577 by omega) hb) (by decide),by show es.length+1<=_;omega⟩ hq
end Go.Proofs.YtckchgoblpgpbaaGreat.Am
