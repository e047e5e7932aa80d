/- A part of AM, a framework of the prover own: functions of any program as maps of data. -/
import Derived.Test.YtckchgoblpgpbaaGreatJ8ag
set_option linter.unusedVariables false
set_option linter.unusedSimpArgs false
namespace Go.Proofs.YtckchgoblpgpbaaGreat.Am
open Go.RowKit
def hid(σ:List Nat)(h:AH):AH:=(List.range h.length).map fun r=>cond (σ.contains r) .gone ((h[r]?).getD .gone)
theorem HK(σ:List Nat)(h:AH):(hid σ h).length=h.length:=by simp [hid]
variable {σ:List Nat}{r:Nat}
theorem HJ{h:AH}(hr:r∉σ):(hid σ h)[r]? =h[r]? :=by
 unfold hid
 rw [zqi]
 by_cases hl:r<h.length
 ·rw [List.getElem?_range hl]
  simp [hr,hl]
 ·rw [zqz (by simpa using hl),zqz (by omega)];rfl
theorem Jt{h:AH}(hr:r∈σ)(hl:r<h.length):(hid σ h)[r]? =some .gone:=by
 unfold hid
 rw [zqi,List.getElem?_range hl]
 simp [hr]
def bck(σ:List Nat)(H X:AH):AH:=(List.range (H.length+(X.length-σ.length))).map fun r=>
 match σ.idxOf? r with
 |some i=>((X[i]?).getD .gone).mv (plc σ H.length)
 |none=>if r<H.length then(H[r]?).getD .gone else((X[σ.length+(r-H.length)]?).getD .gone).mv (plc σ H.length)
theorem zO(σ:List Nat)(H X:AH):(bck σ H X).length=H.length+(X.length-σ.length):=by simp [bck]
theorem zN{H X:AH}(hr:r∉σ)(hl:r<H.length):(bck σ H X)[r]? =H[r]? :=by
 have h1:σ.idxOf? r=none:=by rw [List.idxOf?_eq_none_iff];exact hr
 unfold bck
 rw [zqi,List.getElem?_range (by omega)]
 simp [h1,hl]
theorem FO{H H' X:AH}(he:H.length=H'.length)(hr:r∈σ\/H.length<=r):(bck σ H X)[r]? =(bck σ H' X)[r]? :=by
 unfold bck
 rw [zqi,zqi,he]
 by_cases hl:r<H'.length+(X.length-σ.length)
 ·rw [List.getElem?_range hl]
  simp only [Option.map_some]
  congr 1
  cases hi:σ.idxOf? r with
  |some i=>rfl
  |none=>
   have ha:r∉σ:=by rw [List.idxOf?_eq_none_iff]at hi;exact hi
   rcases hr with hr|hr
   ·exact(ha hr).elim
   ·simp only;rw [if_neg (by omega),if_neg (by omega)]
 ·rw [zqz (by simpa using hl)];rfl
theorem Jr(hnd:σ.Nodup){i r:Nat}(h:σ[i]? =some r):σ.idxOf? r=some i:=by
 obtain⟨hi,hr⟩:=zqb.1 h
 rw [List.idxOf?_eq_some_iff]
 refine⟨hi,hr,fun j hj he=> ?_⟩
 have:=(List.getElem_inj (h₀:=by omega) (h₁:=hi) hnd).1 (he.trans hr.symm)
 omega
theorem JR{H X:AH}(hnd:σ.Nodup)(hlt:∀r∈σ,r<H.length)(hx:σ.length<=X.length){i:Nat}(hi:i<X.length):(bck σ H X)[plc σ H.length i]? =(X[i]?).map (AE.mv (plc σ H.length)):=by
 rw [rY,zqc hi]
 cases hs:σ[i]? with
 |some r=>
  have hr:r∈σ:=zqd hs
  have:=hlt r hr
  simp only
  unfold bck
  rw [zqi,List.getElem?_range (by omega)]
  simp [Jr hnd hs,hi]
 |none=>
  have hb:σ.length<=i:=List.getElem?_eq_none_iff.1 hs
  simp only
  unfold bck
  rw [zqi,List.getElem?_range (by omega)]
  have ha:σ.idxOf? (H.length+(i-σ.length))=none:=by
   rw [List.idxOf?_eq_none_iff]
   intro hm
   have:=hlt _ hm
   omega
  simp only [Option.map_some,ha]
  rw [if_neg (by omega),show σ.length+(H.length+(i-σ.length)-H.length)=i by omega,zqc hi]
  rfl
theorem xN{n0:Nat}{ρ:List (Option Nat)}{h' h1 h2:AH}(hs:∀(i j:Nat),ρ[i]? =some (some j)->h1[j]? =h2[j]?):∀(es:AH)(i:Nat),(∀k,n0<=k)->rnH n0 ρ h' h1 i es->rnH n0 ρ h' h2 i es
 | [],i,_,_=>trivial
 |e::es,i,h0,hr=>by
  unfold rnH at hr⊢
  obtain⟨a1,a2,a3⟩:=hr
  refine⟨a1,?_,xN hs es (i+1) h0 a3⟩
  cases e with
  |live ab'=>
   simp only at a2⊢
   cases hq:ρ[i]? with
   |none=>rw [hq]at a2;exact a2
   |some o=>
    rw [hq]at a2
    cases o with
    |none=>exact a2
    |some j=>simp only at a2⊢;rw [<-hs i j hq];exact a2
  |gone=>trivial
  |hole=>intro hi;have:=h0 i;omega
def EOk [BP](P:Program)(o:Oper)(h:AH)(σ:List Nat)(T:Nat->AV)(res:AV)(X:AH):Prop:=
 dv res=true/\σ.length<=X.length/\(∀i:Nat,X[i]? ≠some .hole)/\σ.Nodup/\(∀r∈σ,r<h.length)/\∃(c:Call)(f:FuncId)(args args':List AT)(hs:AH),o.op= .call c/\
  ((c.callee= .value (.func f)/\c.args.toList.map (ev T)=args.map .t)\/∃t rs as,c.callee= .value (.tmp t)/\T t= .t (.c (.clo f rs))/\c.args.toList.map (ev T)=as.map .t/\args=as++rs.map fun r=> .c (.ptr r 0 0))/\
  Con P f hs args' (fun r s=>r=res/\s=X)/\hs.length=σ.length/\rnH 0 (σ.map some) hs h 0 hs/\(∀(i:Nat)(e:AE),hs[i]? =some e->∃ab,e= .live ab)/\AD (σ.map some) hs args' args
theorem ot{c:AC}(hp:dx c=true)(s:Nat->Nat):c.mv s=c:=by cases c<;>first|rfl|cases hp
theorem Db{xs:List AC}(hp:xs.all dx=true)(s:Nat->Nat):xs.map (AC.mv s)=xs:=by
 induction xs with
 |nil=>rfl
 |cons x xs ih=>simp only [zqD,zqs]at hp;rw [zqA,ot hp.1,ih hp.2]
theorem ou{x:AT}(hp:p8 x=true)(s:Nat->Nat):x.mv s=x:=by
 cases x with
 |c c=>exact congrArg AT.c (ot hp s)
 |agg xs=>exact congrArg AT.agg (Db hp s)
theorem Da{x:AV}(hp:dv x=true)(s:Nat->Nat):x.mv s=x:=by
 cases x with
 |t x=>exact congrArg AV.t (ou hp s)
 |tup xs=>
  refine congrArg AV.tup ?_
  simp only [dv]at hp
  induction xs with
  |nil=>rfl
  |cons x xs ih=>simp only [zqD,zqs]at hp;rw [zqA,ou hp.1,ih hp.2]
section
variable {P:Program}{F:Nat->Prop}{w:World}{m:AM}{T:Nat->AV}{a:Act}
variable {σ:List Nat}
theorem EOk.congr{β:BP}{o:Oper}{h:AH}{T T':Nat->AV}{res:AV}{X:AH}(he:∀x∈o.op.operands,ev T x=ev T' x)(hE:EOk P o h σ T res X):EOk P o h σ T' res X:=by
 obtain⟨hp,hi,hh,hg,hd,c,f,args,ha,hs,hf,hc,hb⟩:=hE
 refine⟨hp,hi,hh,hg,hd,c,f,args,ha,hs,hf,?_,hb⟩
 rw [hf]at he
 have e1:∀x∈c.args.toList,ev T x=ev T' x:=fun x hx=>he x (by simp [Op.operands,Call.operands];right;simpa using hx)
 have em:c.args.toList.map (ev T')=c.args.toList.map (ev T):=zpl (fun x hx=>(e1 x hx).symm)
 rcases hc with⟨h1,h2⟩|⟨t,rs,as,h1,h2,h3,h4⟩
 ·exact .inl ⟨h1,by rw [em];exact h2⟩
 ·refine .inr ⟨t,rs,as,h1,?_,by rw [em];exact h3,h4⟩
  have:=he (.tmp t) (by simp [Op.operands,Call.operands,h1])
  simp only [ev]at this
  rw [<-this];exact h2
theorem EOk.run{β:BP}{o:Oper}{h hS:AH}{res:AV}{X:AH}(hE:EOk P o h σ T res X)(hH:RH F w m hS)(hT:RTm F w m hS T a)(hsame:∀r∈σ,hS[r]? =h[r]?)(hle:h.length<=hS.length):
  Yl P o a w fun v w'=>∃m' F1,fJ F F1 w m hS/\dI F1 w m hS w' m' (bck σ hS X)/\RV F1 w' m' (bck σ hS X) res v:=by
 obtain⟨hp,xb,hW,hB,hz,c,f,args,hI,hs,hL,ht,hf,hl,hr0,hR,ha⟩:=hE
 have hh:∀r∈σ,r<hS.length:=fun r hr=>zpu (hz r hr) hle
 have hr:rnH 0 (σ.map some) hs hS 0 hs:=xN (fun i j hJ=>by
  rw [zqi,zqj]at hJ
  obtain⟨r,h1,h2⟩:=hJ
  cases h2
  exact(hsame _ (zqd h1)).symm) hs 0 (fun k=>zpn k) hr0
 have hC:((σ.map some).filterMap id).Nodup:=by rw [r9];exact hB
 have hP:=RH.rn0 hH hC hr
 have hQ:=og _ _ ha
 obtain⟨vs,hF,h0,h8⟩:∃vs:List Value,(execOp a.eval o).run P w= .ok (.enter f vs.toArray) w/\vs.length=args.length/\∀(j:Nat)(x:AT),args[j]? =some x->∃v,vs[j]? =some v/\RT F w m hS x v:=by
  rcases ht with⟨h1,h2⟩|⟨t,rs,as,h1,h2,h3,h4⟩
  ·obtain⟨g1,g2⟩:=iO hT h2
   refine⟨c.args.toList.map a.eval,?_,g1,g2⟩
   rw [od hL h1 hf.1,<-Array.toList_map]
  ·obtain⟨g1,g2⟩:=iO hT h3
   obtain⟨us,k1,k2,k3⟩:RCl m hS f rs (a.eval (.tmp t)):=pv hT (show ev T (.tmp t)=_ from h2)
   refine⟨c.args.toList.map a.eval++us,?_,by simp [h4,k2,<-g1],fun j x hj=> ?_⟩
   ·rw [xL hL h1 k1 hf.1,<-List.append_toArray,<-Array.toList_map]
   ·rw [h4,List.getElem?_append]at hj
    rw [List.getElem?_append,g1]
    split at hj
    ·rw [if_pos (by assumption)];exact g2 j x hj
    ·rw [if_neg (by assumption)]
     simp only [zqi,zqj]at hj
     obtain⟨r,hr,rfl⟩:=hj
     obtain⟨u,hu,hY⟩:=k3 _ r hr
     refine⟨u,hu,?_⟩
     rcases hY with hg|⟨ab,b,cap,q1,q2,q3⟩
     ·exact .inl hg
     ·exact .inr ⟨ab,b,cap,q1,q2,by rw [q3];simp⟩
 have hc:∀(i:Nat)(x:AE),hs[i]? =some x->∃(r:Nat)(ab AB:AB),σ[i]? =some r/\x= .live ab/\hS[r]? =some (.live AB)/\AB.k=ab.k/\AB.es.length=ab.es.length:=fun i x hx=>by
  obtain⟨ab,rfl⟩:=hR i x hx
  have hw:i<σ.length:=by rw [<-hl];exact(zqb.1 hx).1
  rcases kg hr hx with⟨h1,_⟩|⟨j,AB,h1,h2,h3,h4,h5,_⟩
  ·rw [zqi,zqc hw]at h1;cases h1
  ·rw [zqi,zqj]at h1
   obtain⟨r,h6,h7⟩:=h1
   cases h7
   exact⟨j,ab,AB,h6,rfl,h2,h4.symm,h5.symm⟩
 have hq:m.length=hS.length:=hH.len
 have hn:∀(i r:Nat),σ[i]? =some r->plc σ hS.length i=r:=fun i r h1=>by rw [rY,h1]
 have hM:∀i:Nat,σ.length<=i->plc σ hS.length i=hS.length+(i-σ.length):=fun i h1=>by rw [rY,zqz h1]
 have hb:∀i:Nat,i<σ.length->∃r,σ[i]? =some r:=fun i hi=>⟨_,zqc hi⟩
 have hK:∀(i r:Nat),σ[i]? =some r->(rnM m (σ.map some) hs.length)[i]? =m[r]? :=fun i r h1=>by
  have hi:i<hs.length:=by rw [hl];exact(zqb.1 h1).1
  have ho:r<m.length:=by rw [hq];exact hh r (zqd h1)
  rw [gK hi (by simp [h1]) (zqc ho),zqc ho]
 have hd:=hf.2 F w _ vs hP (by rw [h0,hQ]) (fun j y hj=>by
  obtain⟨x,h9,xa⟩:=oh _ _ j y ha hj
  obtain⟨v,hv,hZ⟩:=h8 j x h9
  exact⟨v,hv,RT.rn hH hr hZ xa⟩)
 have hy:hs.length<=X.length:=by omega
 have post:∀{F1:Nat->Prop}{w':World}{m':AM}{v:Value},fJ F F1 w (rnM m (σ.map some) hs.length) hs->dI F1 w (rnM m (σ.map some) hs.length) hs w' m' X->RV F1 w' m' X res v->
   ∃m' F1,fJ F F1 w m hS/\dI F1 w m hS w' m' (bck σ hS X)/\RV F1 w' m' (bck σ hS X) res v:=fun{F1 w' m' v} hG hst hv=>by
  have hA:m'.length=X.length:=hst.hp.len
  obtain⟨hO,hk,hD⟩:=Jy (H':=bck σ hS X) (M':=m++m'.drop hs.length) (s:=plc σ hS.length) hH hG hst
   (fun i x hx=>by
    obtain⟨r,ab,AB,h1,h2,h3,h4,h5⟩:=hc i x hx
    rw [hn i r h1]
    exact⟨ab,AB,h2,h3,h4,h5,hK i r h1⟩)
   (C8 hB hh)
   (fun i hi=>by
    obtain⟨r,h1⟩:=hb i (by omega)
    rw [hn i r h1];exact hh r (zqd h1))
   (fun i hi=>by rw [hM i (by omega),hl])
   (by rw [zO,hl])
   (by rw [zO];simp [hq,hA];omega)
   hy
   (fun i hi=>JR hB hh (by omega) hi)
   (fun i hi hV=>by
    by_cases hw:i<σ.length
    ·obtain⟨r,h1⟩:=hb i hw
     rw [hn i r h1]
     have hx:=zqc (l:=hs) (i:=i) (by omega)
     obtain⟨r',ab,AB,_,h2,_⟩:=hc _ _ hx
     rw [h2]at hx
     rcases(hst.keeps i).2 ab hx with hg|⟨ab',_,_,_,h4⟩
     ·exact absurd hg hV
     ·rw [h4,hK i r h1]
      have ho:r<m.length:=by rw [hq];exact hh r (zqd h1)
      exact zqh ho
    ·rw [hM i (by omega)]
     rw [zqg (by omega),List.getElem?_drop]
     congr 1
     omega)
   (fun r hr hU=>by
    have hX:r∉σ:=fun hm=>by
     obtain⟨i,hi,h1⟩:=zpi hm
     have h2:=zqc hi
     rw [h1]at h2
     exact hU i (by omega) (hn i r h2)
    exact⟨zN hX hr,zqh (by omega)⟩)
   hW
  have hN:=hD res v hv
  rw [Da hp]at hN
  exact⟨_,F1,hO,hk,hN⟩
 unfold Yl
 rw [hF]
 exact hd.mono fun e w''⟨v,res',h',m',F1,he,⟨h1,h2⟩,hG,hs',hv⟩=>by
  subst h1 h2
  exact⟨v,he,post hG hs' hv⟩
end
def La [BP](P:Program)(σ:List Nat)(L:Nat)(o:Oper)(T:Nat->AV)(H:AH)(res:AV)(X:AH):Prop:=
 ∀(F:Nat->Prop)(w:World)(m:AM)(a:Act)(hS:AH),RH F w m hS->RTm F w m hS T a->(∀r∈σ,hS[r]? =H[r]?)->Cp (hid σ H) hS->hS.length=L->Yl P o a w fun v w'=>∃m' F1,fJ F F1 w m hS/\dI F1 w m hS w' m' (bck σ hS X)/\RV F1 w' m' (bck σ hS X) res v
structure s5(P:Program)(ops:Array Oper)(l:List Oper)(T:Nat->AV)(h:AH)(σ:List Nat)(e:Nat)(E:Oper->(Nat->AV)->AH->AV->AH->Prop)(X:AH)(Ts:Nat->Nat->AV)(Hs:Nat->AH)(R:Nat->AV)(Rw:Nat->List AB)(W:Nat->Bool):Prop where
 t0:Ts 0=T
 h0:Hs 0=h
 at_:∀(i:Nat)(o:Oper),l[i]? =some o->GG ops o (Ts i)=some (W i)/\(W i=true->i≠e->Ct P (Ts i) (hid σ (Hs i)) (Hs i).length o.op (fun r s=>r=R i/\s=Rw i))/\(W i=false->R i= .t (.c (.imm undef))/\Rw i=[])/\
  Ts (i+1)=put (Ts i) o.dst (R i)/\Hs (i+1)=Hs i++(Rw i).map .live/\(i=e->W i=true/\Rw i=[]/\E o (Ts i) (Hs i) (R i) X)
section
variable {P:Program}{F:Nat->Prop}{w0:World}{m0:AM}{h0:AH}{N mm:Nat}{ops:Array Oper}{T:Nat->AV}{h:AH}{Ts:Nat->Nat->AV}{Hs:Nat->AH}{R:Nat->AV}{Rw:Nat->List AB}{W:Nat->Bool}{e:Nat}{σ:List Nat}{X:AH}{E:Oper->(Nat->AV)->AH->AV->AH->Prop}
theorem s5.len(htr:s5 P ops (ops.toList.take mm) T h σ e E X Ts Hs R Rw W)(hle:mm<=ops.size){i:Nat}(hi:i<mm):(Hs (i+1)).length=(Hs i).length+(Rw i).length:=by
 have ho:ops[i]? =some ops[i]:=by simp
 have hg:(ops.toList.take mm)[i]? =some ops[i]:=by rw [zpp,if_pos hi];simp
 rw [(htr.at_ i _ hg).2.2.2.2.1];simp
theorem s5.mono(htr:s5 P ops (ops.toList.take mm) T h σ e E X Ts Hs R Rw W)(hle:mm<=ops.size){i:Nat}:∀(d:Nat),i+d<=mm->(Hs i).length<=(Hs (i+d)).length/\∀(r:Nat)(x:AE),(Hs i)[r]? =some x->(Hs (i+d))[r]? =some x
 |0,_=>⟨zpk _,fun r x h=>h⟩
 |d+1,hd=>by
  obtain⟨h1,h2⟩:=htr.mono hle (i:=i) d (by omega)
  have ho:ops[i+d]? =some ops[i+d]:=by simp
  have hg:(ops.toList.take mm)[i+d]? =some ops[i+d]:=by rw [zpp,if_pos (by omega)];simp
  have h3:=(htr.at_ (i+d) _ hg).2.2.2.2.1
  rw [<-Nat.add_assoc,h3]
  refine⟨by simp;omega,fun r x hr=> ?_⟩
  have h4:=h2 r x hr
  rw [zqh (zqb.1 h4).1]
  exact h4
theorem s5.temp(htr:s5 P ops (ops.toList.take mm) T h σ e E X Ts Hs R Rw W)(hle:mm<=ops.size){i d:Nat}:∀(k:Nat),i+k<=mm->(∀(j:Nat)(o:Oper),i<=j->j<i+k->ops[j]? =some o->o.dst≠some d)->Ts (i+k) d=Ts i d
 |0,_,_=>rfl
 |k+1,hk,hj=>by
  have ho:ops[i+k]? =some ops[i+k]:=by simp
  have hg:(ops.toList.take mm)[i+k]? =some ops[i+k]:=by rw [zpp,if_pos (by omega)];simp
  have h3:=(htr.at_ (i+k) _ hg).2.2.2.1
  rw [<-Nat.add_assoc,h3]
  have ha:=hj (i+k) _ (by omega) (by omega) ho
  have h4:=htr.temp hle (i:=i) k (by omega) (fun j o h1 h2 h3=>hj j o h1 (by omega) h3)
  rw [AI _ _ ha]
  exact h4
structure KS [BP](F:Nat->Prop)(w0:World)(m0:AM)(h0:AH)(N mm:Nat)(ops:Array Oper)(e:Nat)(σ:List Nat)(X:AH)(Ts:Nat->Nat->AV)(Hs:Nat->AH)(Rw:Nat->List AB)(listed:Array Bool)(U:List Nat)(a:Act)(w:World)(m:AM)(hS:AH):Prop where
 inv:HeadInv .any ops mm listed
 nodup:U.Nodup
 un:∀i,i∈U↔i<mm/\listed.getD i true=false
 len:hS.length=(Hs mm).length+(if e∈U then 0 else X.length-σ.length)
 same:∀r:Nat,(r∉σ\/e∈U)->r<(Hs mm).length->hS[r]? =(Hs mm)[r]? \/∃i∈U,(Hs i).length<=r/\r<(Hs i).length+(Rw i).length
 hole:∀i∈U,∀r:Nat,(Hs i).length<=r->r<(Hs i).length+(Rw i).length->hS[r]? =some .hole
 subr:e∉U->∀r∈σ,∀i∈U,¬((Hs i).length<=r/\r<(Hs i).length+(Rw i).length)
 sub1:e∉U->∀r:Nat,(r∈σ\/(Hs mm).length<=r)->hS[r]? =(bck σ (Hs mm) X)[r]?
 tm:∀d,(∃i∈U,∃o,ops[i]? =some o/\o.dst=some d)\/RV F w m hS (Ts mm d) (a.tmps.getD d undef)
 st:gD F w0 m0 h0 w m hS
 df:a.defers=[]
 sz:a.tmps.size=N
theorem KS.step{β:BP}(hE:∀{o T H res X},H.length<=(Hs mm).length->E o T H res X->La P σ (Hs mm).length o T H res X)(hC:∀{o T T' H res X},(∀x∈o.op.operands,ev T x=ev T' x)->E o T H res X->E o T' H res X)(hW:∀{o T H res X},E o T H res X->∀r∈σ,r<H.length/\(r<h.length\/∃t,Operand.tmp t∈o.op.operands/\T t= .o r))(hem:e<mm)(htr:s5 P ops (ops.toList.take mm) T h σ e E X Ts Hs R Rw W)(hle:mm<=ops.size)(hB:Ce ops mm=true)(hg:gz N ops=true)(hd:ops.toList.all (fT N)=true)
  {listed:Array Bool} {U:List Nat} {a:Act} {w:World} {m:AM} {hS:AH} (M:KS F w0 m0 h0 N mm ops e σ X Ts Hs Rw listed U a w m hS) {i:Nat} (hr:i∈Region.ready .any ops listed) (hi:i<mm) {Q':Exit->Act->World->Prop} {K:Act->World->Prop}
  (hK:∀F1 a' w' m' hS',fJ F F1 w m hS->KS F1 w0 m0 h0 N mm ops e σ X Ts Hs Rw (listed.setIfInBounds i true) (U.erase i) a' w' m' hS'->K a' w'):wpOp P ops Q' i K a w:=by
 obtain⟨o,ho,xt,hy⟩:=pr hB hi
 obtain⟨xC,o2,xn,h7⟩:=mem_ready.1 hr
 rw [ho]at xn
 cases xn
 have xa:i∈U:=(M.un i).2 ⟨hi,xC⟩
 obtain⟨xu,xe,hT,xr,xq,hL⟩:=htr.at_ i o (by rw [zpp,if_pos hi];simpa using ho)
 have hn:fT N o=true:=zqf.1 hd o (zqd (by simpa using ho:ops.toList[i]? =some o))
 have hO:o∈ops.toList:=zqd (by simpa using ho:ops.toList[i]? =some o)
 have hf:∀d,d∈o.looksAt ops->RV F w m hS (Ts i d) (a.tmps.getD d undef):=fun d hl=>by
  have hJ:Ts mm d=Ts i d:=by
   have:=htr.temp hle (i:=i) (d:=d) (mm-i) (by omega) (fun j o' h1 h2 h3 h4=>by
    have:=((hy j o' d (by omega) h3 h4).2 hl).1
    omega)
   rwa [show i+(mm-i)=mm by omega]at this
  rcases M.tm d with⟨j,hM,o',hj,hjd⟩|h1
  ·obtain⟨hH,xb⟩:=(M.un j).1 hM
   obtain⟨_,hw⟩:=(hy j o' d hH hj hjd).2 hl
   obtain⟨oi,xo,e,he,hb,xy⟩:=Region.waitsFor_spec hw
   rw [ho]at xo
   cases xo
   have h2:=h7 e he hb
   rw [xy,getD_both xb]at h2
   cases h2
  ·rwa [hJ]at h1
 have hu:Region.wanted o (yielded ops a.tmps)=W i:=va (F:=F) (w:=w) (m:=m) (h:=hS) (fun g t h1 h2=>by rw [M.sz];exact fu hg hO g t h1 h2) (fun g t h1 h2=>hf t (kj h1 h2)) xu
 have hP:=htr.mono hle (i:=i+1) (mm-(i+1)) (by omega)
 rw [show i+1+(mm-(i+1))=mm by omega]at hP
 have hN:=htr.len hle hi
 have hU:(Hs i).length+(Rw i).length<=hS.length:=by rw [M.len];omega
 have hQ:=htr.mono hle (i:=0) i (by omega)
 rw [Nat.zero_add,htr.h0]at hQ
 have hc:i≠e->(e∈U.erase i↔e∈U):=fun hI=>by
  rw [M.nodup.mem_erase_iff]
  exact⟨fun h=>h.2,fun h=>⟨fun he=>hI he.symm,h⟩⟩
 have hJ:∀d,o.dst=some d->Ts mm d=R i:=fun d hl=>by
  have:=htr.temp hle (i:=i+1) (d:=d) (mm-(i+1)) (by omega) (fun j o' h1 h2 h3 h4=>by
   exact(hy j o' d (by omega) h3 h4).1 (by omega) hl)
  rw [show i+1+(mm-(i+1))=mm by omega]at this
  rw [this,xr]
  unfold put
  rw [hl]
  simp
 have hD:=M.inv.set hr hi
 have xg:∀j,j∈U.erase i↔j<mm/\(listed.setIfInBounds i true).getD j true=false:=fun j=>by
  rw [M.nodup.mem_erase_iff,M.un j]
  by_cases hij:i=j
  ·subst hij
   have xv:i<listed.size:=by rw [M.inv.size];exact(zpj.1 ho).1
   simp [xv]
  ·rw [getD_set_ne true hij]
   exact⟨fun⟨_,h2⟩=>h2,fun h2=>⟨fun e=>hij e.symm,h2⟩⟩
 have h9:∀j,j∈U.erase i->∀r,(Hs j).length<=r->r<(Hs j).length+(Rw j).length->r<(Hs i).length\/(Hs i).length+(Rw i).length<=r:=fun j hj r h1 h2=>by
  rw [M.nodup.mem_erase_iff]at hj
  have hH:=((M.un j).1 hj.2).1
  rcases Nat.lt_or_gt_of_ne hj.1 with hz|hz
  ·have h3:=(htr.mono hle (i:=j+1) (i-(j+1)) (by omega)).1
   rw [show j+1+(i-(j+1))=i by omega,htr.len hle hH]at h3
   omega
  ·have h3:=(htr.mono hle (i:=i+1) (j-(i+1)) (by omega)).1
   rw [show i+1+(j-(i+1))=j by omega,hN]at h3
   omega
 unfold wpOp
 rw [ho]
 simp only
 cases hWi:W i with
 |false=>
  rw [hu,hWi]
  simp only [Bool.false_eq_true,if_false]
  obtain⟨hR,hZ⟩:=hT hWi
  have hI:i≠e:=fun he=>by have:=(hL he).1;rw [hWi]at this;cases this
  refine hK F _ _ m hS (fJ.refl _ _ _ _) ⟨hD,M.nodup.erase i,xg,by simp only [hc hI];exact M.len,fun r ha hk=> ?_,fun j hj r h1 h2=>M.hole j (List.mem_of_mem_erase hj) r h1 h2,fun he r hr j hj=>M.subr (fun h=>he ((hc hI).2 h)) r hr j (List.mem_of_mem_erase hj),fun he=>M.sub1 (fun h=>he ((hc hI).2 h)),fun d=> ?_,M.st,by rw [eV];exact M.df,by rw [gL];exact M.sz⟩
  ·rcases M.same r (ha.imp id (hc hI).1) hk with h1|⟨j,hj,h1,h2⟩
   ·exact .inl h1
   ·by_cases hij:j=i
    ·subst hij;rw [hZ]at h2;simp at h2;omega
    ·exact .inr ⟨j,(M.nodup.mem_erase_iff).2 ⟨hij,hj⟩,h1,h2⟩
  ·by_cases hdd:o.dst=some d
   ·right
    rw [fo]
    have hz:d<N:=by unfold fT at hn;rw [hdd]at hn;simpa using hn
    rw [if_pos ⟨hdd,by rw [M.sz];exact hz⟩,hJ d hdd,hR]
    rfl
   ·rw [fo,if_neg (fun hx=>hdd hx.1)]
    rcases M.tm d with⟨j,hj,o',ho',hjd⟩|h1
    ·left
     refine⟨j,(M.nodup.mem_erase_iff).2 ⟨fun e=> ?_,hj⟩,o',ho',hjd⟩
     subst e
     rw [ho]at ho'
     cases ho'
     exact hdd hjd
    ·exact .inr h1
 |true=>
  rw [hu,hWi]
  simp only [if_true]
  left
  have xk:RTm F w m hS (fun d=>if d∈o.looksAt ops then Ts i d else .t (.c .dead)) a:=fun d=>by
   by_cases hl:d∈o.looksAt ops
   ·simp only [hl,if_true];exact hf d hl
   ·simp only [hl,if_false];exact(trivial:RC F w m hS .dead _)
  have xi:Cp (hid σ (Hs i)) hS:=fun r ab hh=>by
   have xf:r<(Hs i).length:=by rw [<-HK σ (Hs i)];exact(zqb.1 hh).1
   have ha:r∉σ:=fun hm=>by rw [Jt hm xf]at hh;cases hh
   rw [HJ ha]at hh
   have h1:=(htr.mono hle (i:=i) (mm-i) (by omega)).2 r _ hh
   rw [show i+(mm-i)=mm by omega]at h1
   have hk:r<(Hs mm).length:=(zqb.1 h1).1
   rcases M.same r (.inl ha) hk with h2|⟨j,hj,h2,h3⟩
   ·rw [h2,h1]
    exact⟨(by intro he;cases he),(fun xh he=>by cases he;rfl)⟩
   ·rw [M.hole j hj r h2 h3]
    exact⟨(by intro he;cases he),(fun xh he=>by cases he)⟩
  by_cases hie:i=e
  ·
   obtain⟨_,hZ,hV⟩:=hL hie
   have xs:=hW hV
   have hV:=hC (T':=fun d=>if d∈o.looksAt ops then Ts i d else .t (.c .dead)) (fun x hx=>by
    cases x with
    |tmp t=>simp only [ev,mQ (ops:=ops) hx,if_true]
    |const v=>rfl
    |global g=>rfl
    |func f=>rfl) hV
   have xl:e∈U:=hie▸xa
   have hF:hS.length=(Hs mm).length:=by rw [M.len,if_pos xl];rfl
   have xd:∀r∈σ,r<(Hs i).length/\∀j∈U,¬((Hs j).length<=r/\r<(Hs j).length+(Rw j).length):=fun r hr=>by
    obtain⟨g1,g2⟩:=xs r hr
    refine⟨g1,fun j hj hx=> ?_⟩
    rcases g2 with g2|⟨t,g2,g3⟩
    ·have hH:=((M.un j).1 hj).1
     have h4:=(htr.mono hle (i:=0) j (by omega)).1
     rw [Nat.zero_add,htr.h0]at h4
     omega
    ·have h5:=hf t (mQ (ops:=ops) g2)
     rw [g3]at h5
     have h6:=M.hole j hj r hx.1 hx.2
     rcases h5 with h5|⟨ab,h5,_⟩
     ·rw [h6]at h5;cases h5
     ·rw [h6]at h5;cases h5
   have xB:∀r∈σ,hS[r]? =(Hs i)[r]? :=fun r hr=>by
    obtain⟨g1,g2⟩:=xd r hr
    have g3:=zqc g1
    have g4:=(htr.mono hle (i:=i) (mm-i) (by omega)).2 r _ g3
    rw [show i+(mm-i)=mm by omega]at g4
    rcases M.same r (.inr xl) (zqb.1 g4).1 with g5|⟨j,hj,g5,g6⟩
    ·rw [g5,g4,g3]
    ·exact(g2 j hj ⟨g5,g6⟩).elim
   have xm:e∉U.erase i:=fun hm=>by rw [M.nodup.mem_erase_iff]at hm;exact hm.1 hie.symm
   refine(hE (by have:=(htr.mono hle (i:=i) (mm-i) (by omega)).1;rwa [show i+(mm-i)=mm by omega]at this) hV F w m a hS M.st.hp xk xB xi hF).wp (fun v w'⟨m',F1,hG,hst,hv⟩=> ?_)
   refine hK F1 _ _ m' _ hG ⟨hD,M.nodup.erase i,xg,by rw [zO,hF,if_neg xm],fun r ha hk=> ?_,fun j hj r h1 h2=> ?_,fun _ r hr j hj=>(xd r hr).2 j (List.mem_of_mem_erase hj),fun _ r hr=>FO hF (by rw [hF];exact hr),fun d=> ?_,M.st.trans hst,by rw [eV];exact M.df,by rw [gL];exact M.sz⟩
   ·have ha:r∉σ:=by rcases ha with h|h;exact h;exact absurd h xm
    rw [zN ha (by rw [hF];exact hk)]
    rcases M.same r (.inl ha) hk with h1|⟨j,hj,h1,h2⟩
    ·exact .inl h1
    ·by_cases hij:j=i
     ·subst hij;rw [hZ]at h2;simp at h2;omega
     ·exact .inr ⟨j,(M.nodup.mem_erase_iff).2 ⟨hij,hj⟩,h1,h2⟩
   ·have hM:=List.mem_of_mem_erase hj
    have hH:=((M.un j).1 hM).1
    have h3:=(htr.mono hle (i:=j+1) (mm-(j+1)) (by omega)).1
    rw [show j+1+(mm-(j+1))=mm by omega,htr.len hle hH]at h3
    rw [zN (fun hm=>(xd r hm).2 j hM ⟨h1,h2⟩) (by rw [hF];omega)]
    exact M.hole j hM r h1 h2
   ·by_cases hdd:o.dst=some d
    ·right
     rw [fo]
     have hz:d<N:=by unfold fT at hn;rw [hdd]at hn;simpa using hn
     rw [if_pos ⟨hdd,by rw [M.sz];exact hz⟩,hJ d hdd]
     exact hv
    ·rw [fo,if_neg (fun hx=>hdd hx.1)]
     rcases M.tm d with⟨j,hj,o',ho',hjd⟩|h1
     ·left
      refine⟨j,(M.nodup.mem_erase_iff).2 ⟨fun e'=> ?_,hj⟩,o',ho',hjd⟩
      subst e'
      rw [ho]at ho'
      cases ho'
      exact hdd hjd
     ·exact .inr (RV.stepG hst hG.1 M.st.hp h1)
  have xz:=pi (T':=fun d=>if d∈o.looksAt ops then Ts i d else .t (.c .dead)) (fun x hx=>by
   cases x with
   |tmp t=>simp only [ev,mQ (ops:=ops) hx,if_true]
   |const v=>rfl
   |global g=>rfl
   |func f=>rfl) (xe hWi hie)
  refine(ph o xi xk M.st.hp xz).wp (fun v w'⟨res,rows,⟨hres,hrows⟩,hout⟩=> ?_)
  subst hres
  subst hrows
  obtain⟨F1,hY,xj,xp,h8,nb,hX,xw,xx,hA⟩:=hout
  have xc:m.length=hS.length:=M.st.hp.len
  have gh:∀r,(uP hS (Hs i).length ((Rw i).map AE.live))[r]? =if(Hs i).length<=r/\r<(Hs i).length+(Rw i).length then((Rw i).map AE.live)[r-(Hs i).length]? else hS[r]? :=fun r=>by
   have:=qU hS (Hs i).length ((Rw i).map AE.live) (by simpa using hU) r
   simpa using this
  have gm:∀r,(uP m (Hs i).length nb)[r]? =if(Hs i).length<=r/\r<(Hs i).length+(Rw i).length then nb[r-(Hs i).length]? else m[r]? :=fun r=>by
   have:=qU m (Hs i).length nb (by rw [hX,xc];exact hU) r
   rw [hX]at this
   exact this
  have hq:fW m hS (uP m (Hs i).length nb) (uP hS (Hs i).length ((Rw i).map AE.live)):=fun r=>by
   rw [gh r,gm r]
   by_cases hin:(Hs i).length<=r/\r<(Hs i).length+(Rw i).length
   ·have:=M.hole i xa r hin.1 hin.2
    rw [this]
    exact⟨(fun h1=>by cases h1),(fun ab h1=>by cases h1)⟩
   ·rw [if_neg hin,if_neg hin]
    exact⟨id,fun ab h1=> .inr ⟨ab,h1,rfl,rfl,rfl⟩⟩
  have xA:∀(j:Nat)(ab:AB),(Rw i)[j]? =some ab->(uP hS (Hs i).length ((Rw i).map AE.live))[(Hs i).length+j]? =some (.live ab)/\(uP m (Hs i).length nb)[(Hs i).length+j]? =nb[j]? :=fun j ab hj=>by
   have xD:=(zqb.1 hj).1
   rw [gh,gm,if_pos (by omega),if_pos (by omega),Nat.add_sub_cancel_left]
   exact⟨by simp [hj],rfl⟩
  have hs:=hA _ _ hq xA
  have ht:dI F1 w m hS w' (uP m (Hs i).length nb) (uP hS (Hs i).length ((Rw i).map AE.live)):=by
   refine dI.of_out_at (n:=(Hs i).length) M.st.hp hY xj xp h8 hX xw xx hs hq (by rw [mN _ _ _ (by rw [hX,xc];exact hU),mN _ _ _ (by simpa using hU)];exact xc) (fun r ab hh=> ?_)
   rw [gh r]at hh
   rw [gm r]
   by_cases hin:(Hs i).length<=r/\r<(Hs i).length+(Rw i).length
   ·right
    rw [if_pos hin]at hh
    rw [if_pos hin]
    obtain⟨xh,h1,h2⟩:=AA hh
    cases h2
    exact⟨r-(Hs i).length,by omega,h1,rfl⟩
   ·left
    rw [if_neg hin]at hh
    rw [if_neg hin]
    exact⟨hh,rfl⟩
  refine hK F1 _ _ _ _ ⟨hY,fun b hb=>(xj b hb).imp id .inl⟩ ⟨hD,M.nodup.erase i,xg,by rw [mN _ _ _ (by simpa using hU)];simp only [hc hie];exact M.len,fun r ha hk=> ?_,fun j hj r h1 h2=> ?_,fun he r hr j hj=>M.subr (fun h=>he ((hc hie).2 h)) r hr j (List.mem_of_mem_erase hj),fun he r hr=> ?_,fun d=> ?_,M.st.trans ht,by rw [eV];exact M.df,by rw [gL];exact M.sz⟩
  ·rw [gh r]
   by_cases hin:(Hs i).length<=r/\r<(Hs i).length+(Rw i).length
   ·left
    rw [if_pos hin]
    have hk:r-(Hs i).length<((Rw i).map AE.live).length:=by simp;omega
    rw [zqc hk]
    refine(hP.2 r _ ?_).symm
    rw [xq,zqg hin.1,zqc hk]
   ·rw [if_neg hin]
    rcases M.same r (ha.imp id (hc hie).1) hk with h1|⟨j,hj,h1,h2⟩
    ·exact .inl h1
    ·by_cases hij:j=i
     ·subst hij;exact(hin ⟨h1,h2⟩).elim
     ·exact .inr ⟨j,(M.nodup.mem_erase_iff).2 ⟨hij,hj⟩,h1,h2⟩
  ·rw [gh r,if_neg (by have:=h9 j hj r h1 h2;omega)]
   exact M.hole j (List.mem_of_mem_erase hj) r h1 h2
  ·rw [gh r,if_neg (by
    rcases hr with hr|hr
    ·exact M.subr (fun h=>he ((hc hie).2 h)) r hr i xa
    ·omega)]
   exact M.sub1 (fun h=>he ((hc hie).2 h)) r hr
  ·by_cases hdd:o.dst=some d
   ·right
    rw [fo]
    have hz:d<N:=by unfold fT at hn;rw [hdd]at hn;simpa using hn
    rw [if_pos ⟨hdd,by rw [M.sz];exact hz⟩,hJ d hdd]
    exact hs.1
   ·rw [fo,if_neg (fun hx=>hdd hx.1)]
    rcases M.tm d with⟨j,hj,o',ho',hjd⟩|h1
    ·left
     refine⟨j,(M.nodup.mem_erase_iff).2 ⟨fun e=> ?_,hj⟩,o',ho',hjd⟩
     subst e
     rw [ho]at ho'
     cases ho'
     exact hdd hjd
    ·exact .inr (RV.stepG ht hY M.st.hp h1)
end
inductive EK where
 |hand
abbrev ET:=List (Nat×EK)
def lkE:ET->Nat->Option EK
 | [],_=>none
 |(k,t)::l,d=>match Nat.beq k d with|true=>some t|false=>lkE l d
abbrev EF:=EH->List Nat->FuncId->List AT->(AV->EH->Prop)->Prop
abbrev HF:=Code->(Exit->List (Nat×AV)->EH->Prop)->List (Nat×AV)->EH->Prop
def hd0 [BP](P:Program)(n0 N:Nat):HF:=fun c Q l h=>VC P n0 N c (QE Q) (lkT l) (toH h)
def Ci [BP](P:Program):EF:=fun h σ f args K=>∃res X hs args',dv res=true/\σ.length<=X.length/\σ.Nodup/\(∀r∈σ,r<h.length)/\Con P f (toH hs) args' (fun r s=>r=res/\s=toH X)/\IB (σ.map some) hs h σ hs/\AD (σ.map some) (toH hs) args' args/\K res X
section
variable {P:Program}{ops:Array Oper}{σ:List Nat}{e:Nat}{E:Oper->(Nat->AV)->AH->AV->AH->Prop}{K:(Nat->AV)->AH->AH->Prop}
end
section
variable {P:Program}{n0 N:Nat}{tab:List (TypeId × TI)}
end
def jM (ets : ET) (lts : LT) (eff : EF) (hd : HF) (g : Gd) (tab : List (TypeId × TI)) : Code -> (Exit -> List (Nat × AV) -> EH -> Prop) -> List (Nat × AV) -> EH -> Prop
  | .skip, Q, l, h => Q .normal l h
  | .ret, Q, l, h => Q .ret l h
  | .exit id, Q, l, h => Q (.exit id) l h
  | .seq x y, Q, l, h => jM ets lts eff hd g tab x (fun e l h => match e with | .normal => jM ets lts eff hd g tab y Q l h | e => Q e l h) l h
  | .cond c x y, Q, l, h => match ev (lkT l) c with
    | .t (.c (.imm (.bool b))) => (match b with | true => jM ets lts eff hd g tab x Q l h | false => jM ets lts eff hd g tab y Q l h)
    | _ => False
  | .block id c, Q, l, h => jM ets lts eff hd g tab c (fun e l h => match e with | .exit i => (match Nat.beq i id with | true => Q .normal l h | false => Q (.exit i) l h) | e => Q e l h) l h
  | .region id ops draw, Q, l, h => match lkE ets id with
    | some .hand => hd (.region id ops draw) Q l h
    | none => match draw with
     | false => lz g tab ops.toList (fun l h => Q .normal l h) ops.toList 0 l h
     | true => lz g tab ops.toList (fun l h => Q .normal l h) ops.toList (wR ops.toList ops.toList) l h
  | .loop c, Q, l, h => g .L c Q l h
  | _, _, _, _ => False
def dh(ets:ET)(lts:LT)(N:Nat):Code->Bool
 | .seq x y=>dh ets lts N x&&dh ets lts N y
 | .cond _ x y=>dh ets lts N x&&dh ets lts N y
 | .block _ c=>dh ets lts N c
 | .region id ops draw=>match lkE ets id with|some .hand=>true|none=>gg N ops&&(!draw||(uB ops (wR ops.toList ops.toList)))
 | .loop c=>dh ets lts N c
 |_=>true
section
variable {P:Program}{n0 N:Nat}{tab:List (TypeId × TI)}
theorem dd{β:BP}(hf:fL P tab){ets:ET}{lts:LT}:∀(c:Code)(Q:Exit->List (Nat×AV)->EH->Prop)(l:List (Nat×AV))(h:EH),dh ets lts N c=true->jM ets lts (Ci P) (hd0 P n0 N) (G0 P n0 N) tab c Q l h->VC P n0 N c (QE Q) (lkT l) (toH h)
 | .skip,Q,l,h,_,hp=>yN ⟨l,h,rfl,rfl,hp⟩
 | .ret,Q,l,h,_,hp=>CD ⟨l,h,rfl,rfl,hp⟩
 | .exit id,Q,l,h,_,hp=>yO ⟨l,h,rfl,rfl,hp⟩
 | .seq x y,Q,l,h,ho,hp=>by
  simp only [dh,zqs]at ho
  refine zZ (fD (fun e T h hq=> ?_) (dd hf x _ l h ho.1 hp))
  obtain⟨l,eh,rfl,rfl,hq⟩:=hq
  cases e<;>first
   |exact⟨l,eh,rfl,rfl,hq⟩
   |exact dd hf y Q l eh ho.2 hq
 | .cond c x y,Q,l,h,ho,hp=>by
  simp only [dh,zqs]at ho
  simp only [jM]at hp
  split at hp
  ·rename_i b hb
   refine yQ hb (fun hb=> ?_) (fun hb=> ?_)
   ·subst hb;exact dd hf x Q l h ho.1 hp
   ·subst hb;exact dd hf y Q l h ho.2 hp
  ·exact hp.elim
 | .block id c,Q,l,h,ho,hp=>by
  refine vx (fD (fun e T h hq=> ?_) (dd hf c _ l h ho hp))
  obtain⟨l,eh,rfl,rfl,hq⟩:=hq
  cases e<;>first
   |exact⟨l,eh,rfl,rfl,hq⟩
   |skip
  rename_i i
  simp only [yy]
  simp only at hq
  split at hq
  ·rename_i hb
   rw [if_pos (bt hb)]
   exact⟨l,eh,rfl,rfl,hq⟩
  ·rename_i hb
   rw [if_neg (fun he=>by subst he;simp at hb)]
   exact⟨l,eh,rfl,rfl,hq⟩
 | .region id ops draw,Q,l,h,ho,hp=>by
  obtain⟨os⟩:=ops
  simp only [dh]at ho
  simp only [jM]at hp
  have ha:∀{mm:Nat},uB os.toArray mm=true->mm<=os.length:=fun{mm} this=>by
   unfold uB at this
   simp only [zqs,zqp]at this
   simpa using this.1.1.1
  cases hk:lkE ets id with
  |some t=>
   rw [hk]at ho hp
   cases t with
   |hand=>exact hp
  |none=>
   rw [hk]at ho hp
   simp only [zqs,Bool.or_eq_true,Bool.not_eq_true']at ho
   cases draw with
   |false=>exact rq ho.1 (cj hf os 0 l h hp)
   |true=>
    obtain⟨h1,h2⟩:=ho
    rcases h2 with h2|h2
    ·cases h2
    ·simp only at hp
     exact yP _ hf.mix h1 h2 (cj hf os _ l h hp)
 | .loop c,Q,l,h,_,hp=>hp
 | .rangeFunc _ _ _ _,_,_,_,_,hp=>hp.elim
 | .scope _,_,_,_,_,hp=>hp.elim
 | .label _,_,_,_,_,hp=>hp.elim
 | .goto _,_,_,_,_,hp=>hp.elim
 | .refuse _,_,_,_,_,hp=>hp.elim
variable {args:List AT}
theorem w9{β:BP}(ets:ET)(lts:LT){f:FuncId}{fn:Func}{c:Code}{Post:AV->AH->Prop}{h:EH}(hfit:fL P tab)(hf:P.funcs[f]? =some fn)(hb:fn.body=some c)(hnm:(fn.name== "runtime.NumGoroutine")=false)(hn:args.length<=fn.ntmps)
  (hok:dh ets lts fn.ntmps c=true) (hv:∀(g:Gd)(eff:EF)(hd:HF)(F:List AT->EH->Prop),eff=Ci P->hd=hd0 P (toH h).length fn.ntmps->g=G0 P (toH h).length fn.ntmps->F=lv (toH h).length Post->jM ets lts eff hd g tab c (zF tab fn.results.toList F) (sV args 0) h) (hex:∀b,¬BP.ex b:=by exact fun _ h=>h):Con P f (toH h) args Post:=by
 refine sQ hex hf hb hnm hn (jI (T':=lkT (sV args 0)) (fun d=> ?_) (fD (fun e T h hq=> ?_) (dd hfit c _ _ h hok (hv _ _ _ _ rfl rfl rfl rfl))))
 ·rcases nH args 0 d with h1|⟨x,h1,h2,h3⟩
  ·exact .inl h1
  ·refine .inr ?_
   rw [h3]
   simp only [Nat.sub_zero]at h1
   simp only [T0,h1]
 ·obtain⟨l,eh,rfl,rfl,hq⟩:=hq
  cases e<;>first
   |exact hq.elim
   |exact fN hfit _ _ hq
theorem Dc(ets:ET)(lts:LT){f:FuncId}{fn:Func}{c:Code}{Post:AV->List AB->Prop}(hfit:fL P tab)(hf:P.funcs[f]? =some fn)(hb:fn.body=some c)(hnm:(fn.name== "runtime.NumGoroutine")=false)(hn:Nat.ble args.length fn.ntmps=true)
  (hok:dh ets lts fn.ntmps c=true) (hv:∀(g:Gd)(eff:EF)(hd:HF)(F:List AT->EH->Prop),eff=Ci P->hd=hd0 P 0 fn.ntmps->g=G0 P 0 fn.ntmps->F=lv 0 (fun res h'=>∃rows,h'=rows.map .live/\Post res rows)->jM ets lts eff hd g tab c (zF tab fn.results.toList F) (sV args 0) []):bS P f args Post:=
 w9 ets lts (h:=[]) hfit hf hb hnm (bl hn) hok hv
end
section
variable {P:Program}{tab:List (TypeId × TI)}{n0 N:Nat}{g:Gd}{h:EH}{c:Code}{Q:Exit->List (Nat × AV)->EH->Prop}{l:List (Nat × AV)}
theorem gu{β:BP}(ets:ET)(lts:LT){eff:EF}{hd:HF}(he:eff=Ci P)(hh:hd=hd0 P n0 N)(hg:g=G0 P n0 N)(hfit:fL P tab){S:Type}(hok:dh ets lts N c=true)(Tf:S->List (Nat×AV))(hf:S->EH)(ok:S->Prop)(μ:S->Nat)(s0:S)(h0:ok s0)
  (hw:qN n0 N (lkT l) (toH h) (Tf s0) (toH (hf s0)))
  (hb:∀(s:S)(B:List (Nat×AV)->EH->Prop),ok s->B=(fun l' h'=>∃s',ok s'/\μ s'<μ s/\qN n0 N (lkT l') (toH h') (Tf s') (toH (hf s')))->jM ets lts eff hd g tab c (fun e l h=>match e with| .normal=>B l h|e=>Q e l h) (Tf s) (hf s)):g .L c Q l h:=by
 subst hg he hh
 refine z6 Tf (fun s=>toH (hf s)) ok μ s0 h0 hw (fun s hs=>fD (fun e T h hq=> ?_) (dd hfit c _ _ _ hok (hb s _ hs rfl)))
 obtain⟨l',eh,rfl,rfl,hq⟩:=hq
 cases e<;>first
  |exact⟨l',eh,rfl,rfl,hq⟩
  |exact hq
theorem iA{β:BP}(ets:ET)(lts:LT){eff:EF}{hd:HF}(he:eff=Ci P)(hh:hd=hd0 P n0 N)(hg:g=G0 P n0 N)(hfit:fL P tab){α S R:Type}(hok:dh ets lts N c=true)(V:LLA)(ac:α->List AC)(xs:List α)(hV:V=xs.map ac)(hl:xs.length<=1048576)
  (Tf:Int->S->List (Nat×AV)) (hf:Int->S->EH) (inv:Int->S->Prop) (go:S->List α->R) (r:R) (s0:S) (h0:go s0 xs=r) (hi0:inv 0 s0)
  (hw:qN n0 N (lkT l) (toH h) (Tf 0 s0) (toH (hf 0 s0)))
  (hexit:∀(z:Int)(s:S)(B:List (Nat×AV)->EH->Prop),z=aN V->go s []=r->inv z s->g .q .lss z (g .ln V)=false->jM ets lts eff hd g tab c (fun e l h=>match e with| .normal=>B l h|e=>Q e l h) (Tf z s) (hf z s))
  (hbody:∀(z:Int)(s:S)(x:α)(rest:List α)(B:List (Nat×AV)->EH->Prop),0<=z->z<aN V->z<1048576->xs[z.toNat]? =some x->V[z.toNat]? =some (ac x)->go s (x::rest)=r->inv z s->g .q .lss z (g .ln V)=true->g .w .add .i64 z 1=z+1->
   Bk n0 N (Tf (z+1)) (hf (z+1)) B (fun s'=>go s' rest=r/\inv (z+1) s')->
   jM ets lts eff hd g tab c (fun e l h=>match e with| .normal=>B l h|e=>Q e l h) (Tf z s) (hf z s)):g .L c Q l h:=by
 have hb:aN V=(xs.length:Int):=by rw [hV,ao,zql]
 refine gu ets lts he hh hg hfit hok (fun t:Int×S=>Tf t.1 t.2) (fun t=>hf t.1 t.2) (fun t=>0<=t.1/\t.1<=aN V/\go t.2 (xs.drop t.1.toNat)=r/\inv t.1 t.2) (fun t=>(aN V).toNat-t.1.toNat) (0,s0)
  ⟨zpc 0,by simp only;omega,by simpa using h0,hi0⟩ hw (fun t B ht hB=> ?_)
 obtain⟨z,s⟩:=t
 obtain⟨h1,h2,h3,h4⟩:=ht
 simp only at h1 h2 h3 h4
 by_cases hz:z<aN V
 ·have ha:z.toNat<xs.length:=by omega
  have hx:=zqc ha
  have hd:xs.drop z.toNat=xs[z.toNat]::xs.drop (z+1).toNat:=by
   rw [List.drop_eq_getElem_cons ha,show(z+1).toNat=z.toNat+1 by omega]
  rw [hd]at h3
  refine hbody z s _ _ B h1 hz (by omega) hx (by rw [hV,zqi,hx];rfl) h3 h4 (by rw [ba hg,bz hg];exact zqu hz) (by rw [aG hg];exact wr1 (by omega) (by omega)) (fun s' l' h'⟨g1,g2⟩ hwk=> ?_)
  subst hB
  exact⟨(z+1,s'),⟨by simp only;omega,by simp only;omega,g1,g2⟩,by simp only;omega,hwk⟩
 ·obtain rfl:z=aN V:=by omega
  rw [List.drop_of_length_le (by omega)]at h3
  exact hexit _ s B rfl h3 h4 (by rw [ba hg,bz hg];exact zqt (by omega))
end
end Go.Proofs.YtckchgoblpgpbaaGreat.Am
