/- The sides of a line, the line of an item. -/
import Derived.Test.YtckchgoblpgpbaaGreatJ8aw
set_option linter.unusedVariables false
set_option linter.unusedSimpArgs false
set_option maxHeartbeats 8000000
namespace Go.Proofs.YtckchgoblpgpbaaGreat
open Go.ChangeShapes Go.WideShapes Go.ChangeAt Go.RowKit Am Go.Proofs.Tryz
set_option maxRecDepth 100000
structure Pl where
 s:ah
 row:Bool
 w:aK
 h:aK
 wide:aK
 high:aK
 al:aK
 ac:aK
 kids:List Int
def KY:ah:=ah.of (fun _=>0) (fun _=>false)
def kst(ns:List ae)(k:Int):ah:=match ns[(k-1).toNat]? with|some y=>y.style|none=>KY
def plO(ns:List ae)(n:Int)(w h:aK):Pl:=
 ⟨kst ns n,kf (kst ns n),w,h,inW (kst ns n) w,inH (kst ns n) h,if kf (kst ns n)then inW (kst ns n) w else inH (kst ns n) h,if kf (kst ns n)then inH (kst ns n) h else inW (kst ns n) w,flK ns n⟩
abbrev St:=List pI×List lu
abbrev Bx:=Int->aK->aK->St->jH×St
def kcX(p:Pl)(k:ah)(rtl:Bool):aK:=H8 p.s k rtl p.row p.ac (knS p.wide)
def Ay(p:Pl)(k:ah)(rtl main:Bool):aw:=sdB p.s k rtl main (knS p.wide)
def Il(p:Pl)(k:ah)(rtl:Bool):aK:=if p.row then E7 (qE p.al (wrap64 ((Ay p k rtl true).before+(Ay p k rtl true).behind)))else⟨1,0⟩
def FS(p:Pl)(k:ah)(rtl:Bool):Int:=
 if uI k.basis (knS p.al)≠ -1 then uI k.basis (knS p.al)else if qL k p.row (knS p.al)≠ -1 then qL k p.row (knS p.al)
 else if(kcX p k rtl).mode=3 then rQ k p.row (kcX p k rtl).n else-1
def vr(bx:Bx)(row:Bool)(kid:Int)(al ac:aK)(st:St):jH×St:=if row then bx kid al ac st else bx kid ac al st
def alB(row:Bool)(b:jH):Int:=if row then b.wide else b.high
def yz(bx:Bx)(p:Pl)(rtl:Bool)(ns:List ae)(kid:Int)(st:St):Int×St:=
 if FS p (kst ns kid) rtl≠ -1 then(FS p (kst ns kid) rtl,st)else
 (alB p.row (vr bx p.row kid (Il p (kst ns kid) rtl) (kcX p (kst ns kid) rtl) st).1,(vr bx p.row kid (Il p (kst ns kid) rtl) (kcX p (kst ns kid) rtl) st).2)
def Jo(p:Pl)(k:ah)(rtl:Bool)(b:Int):af:=
 ⟨b,Dm k p.row (knS p.al),Ei k p.row (knS p.al),k.grow,k.shrink,(Ay p k rtl true).before,(Ay p k rtl true).behind,(Ay p k rtl true).autoBefore,(Ay p k rtl true).autoBehind⟩
def mV(bx:Bx)(p:Pl)(rtl:Bool)(ns:List ae):List Int->St->List af×St
 | [],st=>([],st)
 |k::r,st=>(Jo p (kst ns k) rtl (yz bx p rtl ns k st).1::(mV bx p rtl ns r (yz bx p rtl ns k st).2).1,(mV bx p rtl ns r (yz bx p rtl ns k st).2).2)
def El(p:Pl):Int:=jG p.s p.row
def vb(p:Pl):Int:=jG p.s (!p.row)
def wrP(p:Pl):Bool:= !decide (p.s.wrap=1)
def Ek(p:Pl)(xs:List af):Int:=tak p.al (lng xs (El p) (lw p.al) (wrP p))
def tc(p:Pl)(xs:List af):List Int:=lsz xs (El p) (lw p.al) (wrP p) (Ek p xs)
def m5(p:Pl)(xs:List af):List (List Int):=lns xs (El p) (lw p.al) (wrP p)
def Cw(p:Pl)(k:ah)(rtl:Bool)(size:Int):aK:=
 if(kcX p k rtl).mode≠3/\qL k (!p.row) (knS p.ac)= -1/\rQ k (!p.row) size≠ -1 then⟨3,mG k (!p.row) (knS p.ac) (rQ k (!p.row) size)⟩else kcX p k rtl
def tV(a b:Int):Int:=if b<a then b else a
def J1(p:Pl)(k:ah)(rtl:Bool)(b:jH):aw:=
 ⟨mG k (!p.row) (knS p.ac) (alB (!p.row) b),(Ay p k rtl false).before,(Ay p k rtl false).behind,(Ay p k rtl false).autoBefore,(Ay p k rtl false).autoBehind,Cv p.s k,tV b.base (mG k (!p.row) (knS p.ac) (alB (!p.row) b))⟩
def vU(bx:Bx)(p:Pl)(rtl:Bool)(ns:List ae):List (Int×Int)->St->List aw×St
 | [],st=>([],st)
 |(k,z)::r,st=>
  (J1 p (kst ns k) rtl (vr bx p.row k ⟨3,z⟩ (Cw p (kst ns k) rtl z) st).1::(vU bx p rtl ns r (vr bx p.row k ⟨3,z⟩ (Cw p (kst ns k) rtl z) st).2).1,(vU bx p rtl ns r (vr bx p.row k ⟨3,z⟩ (Cw p (kst ns k) rtl z) st).2).2)
def pck(sides:List aw)(ln:List Int):List aw:=ln.filterMap fun i=>if 0<=i then sides[i.toNat]? else none
def Ki(p:Pl)(sides:List aw)(ln:List Int):Int:=if p.s.wrap=1/\p.ac.mode=3 then p.ac.n else cro (pck sides ln)
def zK(p:Pl)(lines:List (List Int))(sides:List aw):List Int:=
 if¬p.s.wrap=1/\p.ac.mode=3 then yE (lines.map (Ki p sides)) (vb p) p.ac.n p.s.content else lines.map (Ki p sides)
def BJ(p:Pl)(cs:List Int):Int:=tak p.ac (crt cs (vb p))
def ctP(p:Pl):Int:=if p.s.wrap=1 then 2 else p.s.content
def It(p:Pl)(cs:List Int):List Int:=pll cs (vb p) (BJ p cs) (ctP p)
def sdZ(sides:List aw)(i:Int):aw:=(if 0<=i then sides[i.toNat]? else none).getD ⟨0,0,0,false,false,0,0⟩
def DL(x:aw)(z:Int):aw:=⟨z,x.before,x.behind,x.autoBefore,x.autoBehind,x.align,tV x.base z⟩
def zG(p:Pl)(ns:List ae)(sides:List aw)(sizes:List Int)(c i:Int):aw:=
 if Bq (sdZ sides i)=true/\qL (kst ns (elZ p.kids i)) (!p.row) (knS p.ac)= -1/\rQ (kst ns (elZ p.kids i)) (!p.row) (elZ sizes i)= -1 then
  DL (sdZ sides i) (mG (kst ns (elZ p.kids i)) (!p.row) (knS p.ac) (wrap64 (c-wrap64 ((sdZ sides i).before+(sdZ sides i).behind))))
 else sdZ sides i
def DN(p:Pl)(ns:List ae)(sides:List aw)(sizes:List Int)(ls:List (List Int×Int)):List aw:=ls.flatMap fun q=>q.1.map (zG p ns sides sizes q.2)
def HR(p:Pl)(rtl:Bool)(inner across:Int)(sizes:List Int)(sides:List aw)(st c lb a0 i:Int):ag:=
 let a:=Gs inner a0 (elZ sizes i) (mc p.s rtl)
 let b:=Gs across (wrap64 (st+Hy (sdZ sides i) c lb)) (sdZ sides i).size (mE p.s rtl)
 if p.row then⟨elZ p.kids i,wrap64 (a+(mz p.s).left),wrap64 (b+(mz p.s).top),elZ sizes i,(sdZ sides i).size⟩
 else⟨elZ p.kids i,wrap64 (b+(mz p.s).left),wrap64 (a+(mz p.s).top),(sdZ sides i).size,elZ sizes i⟩
def ta(p:Pl)(rtl:Bool)(inner across:Int)(sizes:List Int)(sides:List aw)(st c lb:Int)(ps:List Int):Int->List Int->List ag
 |_,[]=>[]
 |j,i::r=>HR p rtl inner across sizes sides st c lb (elZ ps j) i::ta p rtl inner across sizes sides st c lb ps (j+1) r
def I7(p:Pl)(items:List af)(inner:Int)(sizes:List Int)(ln:List Int):List Int:=alg (lit items ln) (ln.map (elZ sizes)) (El p) inner p.s.justify
def yh(p:Pl)(rtl:Bool)(items:List af)(inner across:Int)(sizes:List Int)(sides:List aw)(sts:List Int):Int->List (List Int×Int)->List ag
 |_,[]=>[]
 |k,(ln,c)::r=>ta p rtl inner across sizes sides (elZ sts k) c (bas (pck sides ln)) (I7 p items inner sizes ln) 0 ln++yh p rtl items inner across sizes sides sts (k+1) r
def G4(p:Pl)(inner across:Int)(frames:List ag)(sides:List aw):jH:=
 ⟨tak p.w (wrap64 ((if p.row then inner else across)+adE (mz p.s).left (mz p.s).right)),tak p.h (wrap64 ((if p.row then across else inner)+adE (mz p.s).top (mz p.s).bottom)),
  cl (wrap64 ((match frames with|f::_=>f.y| []=>0)+(sdZ sides 0).base)),frames⟩
def Ke(p:Pl)(rtl:Bool)(ns:List ae)(items:List af)(sides0:List aw):jH:=
 let lines:=m5 p items
 let sizes:=tc p items
 let cs:=zK p lines sides0
 let sides:=DN p ns sides0 sizes (lines.zip cs)
 G4 p (Ek p items) (BJ p cs) (yh p rtl items (Ek p items) (BJ p cs) sizes sides (It p cs) 0 (lines.zip cs)) sides
def Fr(bx:Bx)(p:Pl)(rtl:Bool)(ns:List ae)(st:St):jH×St:=
 let a:=mV bx p rtl ns p.kids st
 let b:=vU bx p rtl ns (p.kids.zip (tc p a.1)) a.2
 (Ke p rtl ns a.1 b.1,b.2)
def Cc(s:ah)(w h:aK)(q:Int×Int):jH:=
 ⟨tak w (wrap64 (q.1+adE (mz s).left (mz s).right)),tak h (wrap64 (q.2+adE (mz s).top (mz s).bottom)),tak h (wrap64 (q.2+adE (mz s).top (mz s).bottom)),[]⟩
def wnt(rs:List aC)(room:Int):Int×Int:=
 match rs.find? fun r=>decide (room= -1)||decide (r.room<=room)with|some r=>(cl r.wide,cl r.high)|none=>(0,0)
def nod(ns:List ae)(n:Int):ae:=(ns[(n-1).toNat]?).getD ⟨0,[],KY,false,⟨[]⟩⟩
def zj(bx:Bx)(ns:List ae)(rtl:Bool)(n:Int)(w h:aK)(st:St):jH×St:=
 if(nod ns n).measured then(Cc (kst ns n) w h (wnt (nod ns n).table.rules (lw (inW (kst ns n) w))),(st.1,st.2++[⟨n,w,h,rtl⟩]))
 else if flK ns n=[]then(Cc (kst ns n) w h (0,0),st)else Fr bx (plO ns n w h) rtl ns st
def kpF(keeps:Bool)(rtl:Bool)(bx:Bx):Bx:=fun n w h st=>
 if keeps=false then bx n w h st else
 if(HB n w h rtl st.1).2 then((HB n w h rtl st.1).1,st)else((bx n w h st).1,((bx n w h st).2.1++[⟨n,w,h,rtl,(bx n w h st).1⟩],(bx n w h st).2.2))
def vo(keeps:Bool)(ns:List ae)(rtl:Bool):Nat->Bx
 |0=>fun _ _ _ st=>(⟨0,0,0,[]⟩,st)
 |f+1=>kpF keeps rtl (zj (vo keeps ns rtl f) ns rtl)
abbrev Bv:=Int->aK->aK->jH
def Ep(b:Bv)(row:Bool)(kid:Int)(al ac:aK):jH:=if row then b kid al ac else b kid ac al
def FQ(b:Bv)(p:Pl)(rtl:Bool)(ns:List ae)(kid:Int):Int:=
 if FS p (kst ns kid) rtl≠ -1 then FS p (kst ns kid) rtl else alB p.row (Ep b p.row kid (Il p (kst ns kid) rtl) (kcX p (kst ns kid) rtl))
def Ej(b:Bv)(p:Pl)(rtl:Bool)(ns:List ae)(kids:List Int):List af:=kids.map fun k=>Jo p (kst ns k) rtl (FQ b p rtl ns k)
def Gh(b:Bv)(p:Pl)(rtl:Bool)(ns:List ae)(ks:List (Int×Int)):List aw:=ks.map fun q=>J1 p (kst ns q.1) rtl (Ep b p.row q.1 ⟨3,q.2⟩ (Cw p (kst ns q.1) rtl q.2))
def JB(b:Bv)(p:Pl)(rtl:Bool)(ns:List ae):jH:=
 Ke p rtl ns (Ej b p rtl ns p.kids) (Gh b p rtl ns (p.kids.zip (tc p (Ej b p rtl ns p.kids))))
def HE(b:Bv)(ns:List ae)(rtl:Bool):Bv:=fun n w h=>
 if(nod ns n).measured then Cc (kst ns n) w h (wnt (nod ns n).table.rules (lw (inW (kst ns n) w)))
 else if flK ns n=[]then Cc (kst ns n) w h (0,0)else JB b (plO ns n w h) rtl ns
def vn(ns:List ae)(rtl:Bool):Nat->Bv
 |0=>fun _ _ _=>⟨0,0,0,[]⟩
 |f+1=>HE (vn ns rtl f) ns rtl
def Ee(bx:Bx)(b:Bv):Prop:=∀k w h st,(bx k w h st).1=b k w h
variable {b:Bv}
theorem BG{bx:Bx}(hf:Ee bx b)(row:Bool)(kid:Int)(al ac:aK)(st:St):(vr bx row kid al ac st).1=Ep b row kid al ac:=by
 unfold vr Ep
 split<;>exact hf ..
theorem FP{bx:Bx}(hf:Ee bx b)(p:Pl)(rtl:Bool)(ns:List ae)(kid:Int)(st:St):(yz bx p rtl ns kid st).1=FQ b p rtl ns kid:=by
 unfold yz FQ
 split
 ·rfl
 ·dsimp only;rw [BG hf]
theorem Bb{bx:Bx}{b:Bv}(hf:Ee bx b)(p:Pl)(rtl:Bool)(ns:List ae):∀(ks:List Int)(st:St),(mV bx p rtl ns ks st).1=Ej b p rtl ns ks
 | [],_=>rfl
 |k::r,st=>by
  simp only [mV,Ej,zqA]
  rw [FP hf,Bb hf p rtl ns r];rfl
theorem Ax{bx:Bx}{b:Bv}(hf:Ee bx b)(p:Pl)(rtl:Bool)(ns:List ae):∀(ks:List (Int×Int))(st:St),(vU bx p rtl ns ks st).1=Gh b p rtl ns ks
 | [],_=>rfl
 |(k,z)::r,st=>by
  simp only [vU,Gh,zqA]
  rw [BG hf,Ax hf p rtl ns r];rfl
theorem Fq{bx:Bx}(hf:Ee bx b)(p:Pl)(rtl:Bool)(ns:List ae)(st:St):(Fr bx p rtl ns st).1=JB b p rtl ns:=by
 simp only [Fr,JB]
 rw [Bb hf,Ax hf]
theorem E6{bx:Bx}(hf:Ee bx b)(ns:List ae)(rtl:Bool):Ee (zj bx ns rtl) (HE b ns rtl):=fun k w h st=>by
 unfold zj HE
 split
 ·rfl
 ·split
  ·rfl
  ·exact Fq hf ..
theorem oX(ns:List ae)(rtl:Bool):∀f:Nat,Ee (vo false ns rtl f) (vn ns rtl f)
 |0=>fun _ _ _ _=>rfl
 |f+1=>fun k w h st=>by
  have:=E6 (oX ns rtl f) ns rtl k w h st
  simpa [vo,vn,kpF]using this
variable {α:Type}
theorem yH{f:FuncId}{args:List AT}{t k:Nat}{c:α->Array Value}{xs:List α}(hc:bS prog f args fun res ha=>res= .o 0/\ha=[⟨t,k,vw c xs⟩])(hk:∀x,(c x).size=k):PC0 f args (.t (.c (.view (vw c xs)))):=
 fZ hc (xj hk) jc
theorem de(l:List Int)(hl:l.length<=1048576)(i:Int):PC0 188 [.c (.view (vw ak l)),ai i] (.i (elZ l i)):=by
 obtain⟨V,hV⟩:=nmE (vw ak l)
 have hb:=lmV hV
 have ha:aN V=(l.length:Int):=by rw [hV,aU]
 have hy:¬i<0->¬(l.length:Int)<=i->V[i.toNat]? =some [.J (elZ l i)]:=fun h0 h1=>by rw [hV];exact aZ (lq (by omega) (by omega))
 have ho:i<0\/(l.length:Int)<=i->elZ l i=0:=DR
 obtain⟨e,he⟩:=nmE (elZ l i)
 rw [<-hV,<-he]
 rw [<-he]at hy ho
 refine aV func188 fun g F hg hF=> ?_
 have t1:g .q .lss i 0=decide (i<0):=ba hg _ _
 have t2:g .q .geq i (g .ln V)=decide ((l.length:Int)<=i):=by rw [i6 hg,bz hg,ha]
 by_cases h0:i<0
 ·rw [zqu h0]at t1
  cbv
  rw [t1]
  cbv
  exact aO hF (ho (.inl h0)).symm
 ·rw [zqt h0]at t1
  by_cases h1:(l.length:Int)<=i
  ·rw [zqu h1]at t2
   cbv
   rw [t1]
   cbv
   rw [t2]
   cbv
   exact aO hF (ho (.inr h1)).symm
  ·rw [zqt h1]at t2
   cbv
   rw [t1]
   cbv
   rw [t2]
   cbv
   refine goX hg _ (by omega) (hy h0 h1) rfl ?_
   cbv
   exact aO hF rfl
theorem lM(l:List Int)(hl:l.length<=1048576):PC0 301 [.c (.view (vw ak l))] (.i (elZ l 0)):=by
 obtain⟨V,hV⟩:=nmE (vw ak l)
 have hb:=lmV hV
 have ha:aN V=(l.length:Int):=by rw [hV,aU]
 have hy:¬(l.length:Int)=0->V[(0:Int).toNat]? =some [.J (elZ l 0)]:=fun h1=>by rw [hV];exact aZ (lq (by omega) (by omega))
 have ho:(l.length:Int)=0->elZ l 0=0:=fun h=>DR (.inr (by omega))
 obtain⟨e,he⟩:=nmE (elZ l 0)
 rw [<-hV,<-he]
 rw [<-he]at hy ho
 refine aV func301 fun g F hg hF=> ?_
 have t1:g .q .eql (g .ln V) 0=decide ((l.length:Int)=0):=by rw [bj hg,bz hg,ha];exact zqn _ _
 by_cases h0:(l.length:Int)=0
 ·rw [zqu h0]at t1
  cbv
  rw [t1]
  cbv
  exact aO hF (ho h0).symm
 ·rw [zqt h0]at t1
  cbv
  rw [t1]
  cbv
  refine goX hg _ (by omega) (hy h0) rfl ?_
  cbv
  exact aO hF rfl
theorem vH(n many:Int):bS prog 300 [ai n,ai many] fun res ha=>res= .o 0/\ha=[⟨3,1,vw ak (evn n many)⟩]:=by
 have hm:evm many<=64:=qf many
 have c1:=nT n (List.replicate (evm many) 1) (by rw [zpw];omega)
 obtain⟨S,hS⟩:=nmE (vw ak (evn n many))
 have iS:=imV hS
 have pS:=pmV hS
 rw [show shr n (List.replicate (evm many) 1)=evn n many from rfl,<-hS]at c1
 rw [<-hS]
 refine aV func300 fun g F hg hF=> ?_
 cbv
 refine jP hg bq (by kernel_rfl) (fun s:Int×LLA=>[(0,.i (n)),(1,.i (many)),(5,.o 0),(6,.i (s.1))]) (fun s=>[.rw ⟨3,1,s.2⟩]) (fun s=>0<=s.1/\(s.1=0\/s.1<=many/\many<=64)/\s.2=vw ak (List.replicate s.1.toNat 1)) (fun s=>64-s.1.toNat)
  (0,[]) ⟨by simp,by simp,rfl⟩ (Wk.weak (wkG [some 0] zr4 ⟨wqE rfl rfl,zpt⟩ (by decide) aB)) (fun s B hs hB=> ?_)
 obtain⟨z,E⟩:=s
 obtain⟨h0,h1,hE⟩:=hs
 dsimp only at h0 h1 hE
 have hc:z.toNat<=64:=by omega
 have hb:E.length<=1048576:=by rw [hE,ar,zpw];omega
 have kE:=kmV (k:=1) hE fun _=>rfl
 have dE:=dmV hE
 have tz:g .q .lss z many=decide (z<many):=ba hg _ _
 have tm:g .q .leq many 64=decide (many<=64):=ja hg _ _
 have ez:g .w .add .i64 z 1=z+1:=by rw [aG hg];exact wr1 (by omega) (by omega)
 have aE:E++[[.J 1]]=vw ak (List.replicate (z+1).toNat 1):=by
  rw [show(z+1).toNat=z.toNat+1 by omega,List.replicate_succ',bk,hE];rfl
 have done:¬(z<many/\many<=64)->E=vw ak (List.replicate (evm many) 1):=fun h=>by
  have:z.toNat=evm many:=by unfold evm;split<;>omega
  rw [hE,this]
 by_cases hz:z<many
 ·by_cases hm64:many<=64
  ·have fin:0<=z+1/\(z+1=0\/z+1<=many/\many<=64)/\64-(z+1).toNat<64-z.toNat:=by omega
   cbv
   rw [tz,zqu hz]
   cbv
   rw [tm,zqu hm64]
   cbv
   refine dg hg rfl (by decide) hb ?_
   cbv
   rw [fI hg,ez]
   generalize E++_=E2 at aE⊢
   have aE:E2=_:=aE
   have hd:=pmV aE
   subst hB
   exact⟨(z+1,E2),⟨fin.1,fin.2.1,aE⟩,fin.2.2,Wk.weak (wkG [some 2] zr4 ⟨wqE rfl hd,zpt⟩ (by decide) aB)⟩
  ·rw [<-done (by omega)]at c1
   cbv
   rw [tz,zqu hz]
   cbv
   rw [tm,zqt hm64]
   cbv
   first|(refine bH hg c1 (aj (av rfl) (aj (aX (ab:=⟨_,_,E⟩) rfl kE dE) (az))) iS ?_;cbv)|(refine bU hg c1 (aj (av rfl) (aj (aX (ab:=⟨_,_,E⟩) rfl kE dE) (az))) iS ?_;cbv)
   exact bN hF rfl pS
 ·rw [<-done (by omega)]at c1
  cbv
  rw [tz,zqt hz]
  cbv
  first|(refine bH hg c1 (aj (av rfl) (aj (aX (ab:=⟨_,_,E⟩) rfl kE dE) (az))) iS ?_;cbv)|(refine bU hg c1 (aj (av rfl) (aj (aX (ab:=⟨_,_,E⟩) rfl kE dE) (az))) iS ?_;cbv)
  exact bN hF rfl pS
theorem wP(n many:Int):bS prog 289 [ai n,ai many] fun res ha=>res= .o 0/\ha=[⟨3,1,vw ak (evn n many)⟩]:=by
 have hm:evm many<=64:=qf many
 have c1:=oH n (List.replicate (evm many) 1) (by rw [zpw];omega)
 have c0:=eD many 0 64
 have hf:(decide (0<=many)&&decide (many<=64))=false->evn n many=[]\/evm many=0:=fun h=>by
  right
  simp only [Bool.and_eq_false_iff,zqo]at h
  unfold evm;split<;>omega
 have he:evm many=0->evn n many=[]:=fun h=>zqv (by rw [il,h])
 obtain⟨S,hS⟩:=nmE (vw ak (evn n many))
 have hc:evn n many=[]->S=[]:=fun h=>by rw [hS,h];rfl
 have iS:=imV hS
 have pS:=pmV hS
 rw [show shr n (List.replicate (evm many) 1)=evn n many from rfl,<-hS]at c1
 rw [<-hS]
 cases hq:(decide (0<=many)&&decide (many<=64))
 ·have e:S=[]:=hc ((hf hq).elim id he)
  rw [hq]at c0
  subst e
  refine aV func289 fun g F hg hF=> ?_
  cbv
  repeat'(refine ad hg c0 ?_;cbv)
  exact vf _ _ hF ⟨rfl,rfl⟩
 rw [hq]at c0
 simp only [zqs,zqp]at hq
 have hj:(evm many:Int)=many:=oT hq.1 hq.2
 refine aV func289 fun g F hg hF=> ?_
 cbv
 repeat'(refine ad hg c0 ?_;cbv)
 refine jP hg bq (by kernel_rfl) (fun s:Int×LLA=>[(0,.i (n)),(5,.o 0),(9,.i (many)),(10,.i (s.1))]) (fun s=>[.rw ⟨3,1,s.2⟩]) (fun s=>0<=s.1/\s.1<=many/\s.2=vw ak (List.replicate s.1.toNat 1)) (fun s=>64-s.1.toNat)
  (0,[]) ⟨by simp,hq.1,rfl⟩ (Wk.weak (wkG [none] zr4 ⟨⟨_,rfl,rfl⟩,zpt⟩ (by decide) aB)) (fun s B hs hB=> ?_)
 obtain⟨z,E⟩:=s
 obtain⟨h0,h1,hE⟩:=hs
 dsimp only at h0 h1 hE
 have hh:z.toNat<=64:=by omega
 have hb:E.length<=1048576:=by rw [hE,ar,zpw];omega
 have kE:=kmV (k:=1) hE fun _=>rfl
 have dE:=dmV hE
 have tz:g .q .lss z many=decide (z<many):=ba hg _ _
 have ez:g .w .add .i64 z 1=z+1:=by rw [aG hg];exact wr1 (by omega) (by omega)
 have aE:E++[[.J 1]]=vw ak (List.replicate (z+1).toNat 1):=by
  rw [show(z+1).toNat=z.toNat+1 by omega,List.replicate_succ',bk,hE];rfl
 have done:¬z<many->E=vw ak (List.replicate (evm many) 1):=fun h=>by
  have hd:(evm many:Int)=many:=oT hq.1 hq.2
  have:z.toNat=evm many:=by omega
  rw [hE,this]
 by_cases hz:z<many
 ·have fin:0<=z+1/\z+1<=many/\64-(z+1).toNat<64-z.toNat:=by omega
  cbv
  rw [tz,zqu hz]
  cbv
  refine dg hg rfl (by decide) hb ?_
  cbv
  rw [fI hg,ez]
  generalize E++_=E2 at aE⊢
  have aE:E2=_:=aE
  have hi:=pmV aE
  subst hB
  exact⟨(z+1,E2),⟨fin.1,fin.2.1,aE⟩,fin.2.2,Wk.weak (wkG [some 2] zr4 ⟨wqE rfl hi,zpt⟩ (by decide) aB)⟩
 ·rw [<-done hz]at c1
  cbv
  rw [tz,zqt hz]
  cbv
  first|(refine bH hg c1 (aj (av rfl) (aj (aX (ab:=⟨_,_,E⟩) rfl kE dE) (az))) iS ?_;cbv)|(refine bU hg c1 (aj (av rfl) (aj (aX (ab:=⟨_,_,E⟩) rfl kE dE) (az))) iS ?_;cbv)
  exact bN hF rfl pS
theorem ef(n many:Int):PC0 300 [ai n,ai many] (.t (.c (.view (vw ak (evn n many))))):=yH (vH n many) fun _=>rfl
theorem eo(n many:Int):PC0 289 [ai n,ai many] (.t (.c (.view (vw ak (evn n many))))):=yH (wP n many) fun _=>rfl
theorem oO(free many js:Int):PC0 249 [ai free,ai many,ai js] (.i (led free many js)):=by
 have c0:=eD many 1 12
 have cd:=bZ free 2
 have c5:=eo free (2*many)
 have c6:=eo free (many+1)
 change PC0 _ _ (.t (abl (rng many 1 12)))at c0
 have ha:rng many 1 12=true->(vw ak (evn free (2*many)))[(0:Int).toNat]? =some [.J (elZ (evn free (2*many)) 0)]:=fun h=>by
  simp only [rng,zqs,zqp]at h
  exact aZ (lq (by omega) (by rw [il,oT (by omega) (by omega)];omega))
 have hb:rng many 1 12=true->(vw ak (evn free (many+1)))[(0:Int).toNat]? =some [.J (elZ (evn free (many+1)) 0)]:=fun h=>by
  simp only [rng,zqs,zqp]at h
  exact aZ (lq (by omega) (by rw [il,oT (by omega) (by omega)];omega))
 have hi:rng many 1 12=true->wrap64 (2*many)=2*many/\wrap64 (many+1)=many+1:=fun h=>by
  simp only [rng,zqs,zqp]at h
  exact⟨aq _ (by omega),aq _ (by omega)⟩
 obtain⟨R,hR⟩:=nmE (led free many js)
 unfold led at hR
 obtain⟨v5,hf⟩:=nmE (elZ (evn free (2*many)) 0)
 obtain⟨v6,hh⟩:=nmE (elZ (evn free (many+1)) 0)
 obtain⟨d,hd⟩:=nmE (fdv free 2)
 obtain⟨Y5,hc⟩:=nmE (vw ak (evn free (2*many)))
 obtain⟨Y6,he⟩:=nmE (vw ak (evn free (many+1)))
 obtain⟨I,hI⟩:=nmE (rng many 1 12)
 rw [show PC0 _ _ _=PC0 _ _ (.i R) by rw [hR];unfold led;rfl]
 rw [<-hf,<-hh,<-hd,<-hI]at hR
 rw [<-hf,<-hc,<-hI]at ha
 rw [<-hh,<-he,<-hI]at hb
 rw [<-hI]at hi c0
 rw [<-hc]at c5
 rw [<-he]at c6
 rw [<-hd]at cd
 clear hf hh hd hc he hI
 refine aV func249 fun g F hg hF=> ?_
 have e5:I=true->g .w .mul .i64 2 many=2*many:=fun h=>by rw [gA hg,(hi h).1]
 have e6:I=true->g .w .add .i64 many 1=many+1:=fun h=>by rw [aG hg,(hi h).2]
 have q2:g .q .eql (js) (2)=decide ((js)=(2)):=by rw [bj hg];exact zqn _ _
 have q3:g .q .eql (js) (3)=decide ((js)=(3)):=by rw [bj hg];exact zqn _ _
 have q5:g .q .eql (js) (5)=decide ((js)=(5)):=by rw [bj hg];exact zqn _ _
 have q6:g .q .eql (js) (6)=decide ((js)=(6)):=by rw [bj hg];exact zqn _ _
 have q0:g .q .lss (free) (0)=decide ((free)<(0)):=ba hg _ _
 generalize 2*many=m2 at *
 generalize many+1=m1 at *
 cases I
 ·cbv
  repeat'(refine ad hg c0 ?_;cbv)
  exact aO hF (by rw [hR];rfl)
 replace e5:=e5 rfl
 replace e6:=e6 rfl
 replace ha:=ha rfl
 replace hb:=hb rfl
 by_cases j2:js=2<;>by_cases j3:js=3<;>by_cases j5:js=5<;>by_cases j6:js=6<;>by_cases f0:free<0
 all_goals first
  |(exfalso;omega)
  |((first|rw [zqu j2]at q2|rw [zqt j2]at q2|rw [zqu (Classical.not_not.2 j2)]at q2|rw [zqt (Classical.not_not.2 j2)]at q2);(first|rw [zqu j3]at q3|rw [zqt j3]at q3|rw [zqu (Classical.not_not.2 j3)]at q3|rw [zqt (Classical.not_not.2 j3)]at q3);(first|rw [zqu j5]at q5|rw [zqt j5]at q5|rw [zqu (Classical.not_not.2 j5)]at q5|rw [zqt (Classical.not_not.2 j5)]at q5);(first|rw [zqu j6]at q6|rw [zqt j6]at q6|rw [zqu (Classical.not_not.2 j6)]at q6|rw [zqt (Classical.not_not.2 j6)]at q6);(first|rw [zqu f0]at q0|rw [zqt f0]at q0|rw [zqu (Classical.not_not.2 f0)]at q0|rw [zqt (Classical.not_not.2 f0)]at q0);cbv;(repeat'((first|rw [q2]|rw [q3]|rw [q5]|rw [q6]|rw [q0]|rw [e5]|rw [e6]|refine ad hg c0 ?_|refine ad hg cd ?_|refine ad hg c5 ?_|refine ad hg c6 ?_|refine goX hg _ (by omega) ha rfl ?_|refine goX hg _ (by omega) hb rfl ?_);cbv));exact aO hF (by rw [hR];simp [j2,j3,j5,j6,f0]))
theorem nY(free many js:Int):PC0 273 [ai free,ai many,ai js] (.i (led free many js)):=by
 have c0:=db many 1 12
 have cd:=bW free 2
 have c5:=ef free (2*many)
 have c6:=ef free (many+1)
 have x5:=lM (evn free (2*many)) (by rw [il];have:=qf (2*many);omega)
 have x6:=lM (evn free (many+1)) (by rw [il];have:=qf (many+1);omega)
 change PC0 _ _ (.t (abl (rng many 1 12)))at c0
 have ha:rng many 1 12=true->wrap64 (2*many)=2*many/\wrap64 (many+1)=many+1:=fun h=>by
  simp only [rng,zqs,zqp]at h
  exact⟨aq _ (by omega),aq _ (by omega)⟩
 obtain⟨R,hR⟩:=nmE (led free many js)
 rw [<-hR]
 unfold led at hR
 generalize hv5:elZ (evn free (2*many)) 0=v5 at hR x5
 generalize hv6:elZ (evn free (many+1)) 0=v6 at hR x6
 generalize hd:fdv free 2=d at hR cd
 generalize hY5:vw ak (evn free (2*many))=Y5 at c5 x5
 generalize hY6:vw ak (evn free (many+1))=Y6 at c6 x6
 generalize hI:rng many 1 12=I at hR ha c0
 clear hv5 hv6 hd hY5 hY6 hI
 refine aV func273 fun g F hg hF=> ?_
 have e5:I=true->g .w .mul .i64 2 many=2*many:=fun h=>by rw [gA hg,(ha h).1]
 have e6:I=true->g .w .add .i64 many 1=many+1:=fun h=>by rw [aG hg,(ha h).2]
 have q2:g .q .eql (js) (2)=decide ((js)=(2)):=by rw [bj hg];exact zqn _ _
 have q3:g .q .eql (js) (3)=decide ((js)=(3)):=by rw [bj hg];exact zqn _ _
 have q5:g .q .eql (js) (5)=decide ((js)=(5)):=by rw [bj hg];exact zqn _ _
 have q6:g .q .eql (js) (6)=decide ((js)=(6)):=by rw [bj hg];exact zqn _ _
 have q0:g .q .lss (free) (0)=decide ((free)<(0)):=ba hg _ _
 generalize 2*many=m2 at *
 generalize many+1=m1 at *
 cases I
 ·cbv
  repeat'(refine ad hg c0 ?_;cbv)
  exact aO hF (by rw [hR];rfl)
 replace e5:=e5 rfl
 replace e6:=e6 rfl
 by_cases j2:js=2<;>by_cases j3:js=3<;>by_cases j5:js=5<;>by_cases j6:js=6<;>by_cases f0:free<0
 all_goals first
  |(exfalso;omega)
  |((first|rw [zqu j2]at q2|rw [zqt j2]at q2|rw [zqu (Classical.not_not.2 j2)]at q2|rw [zqt (Classical.not_not.2 j2)]at q2);(first|rw [zqu j3]at q3|rw [zqt j3]at q3|rw [zqu (Classical.not_not.2 j3)]at q3|rw [zqt (Classical.not_not.2 j3)]at q3);(first|rw [zqu j5]at q5|rw [zqt j5]at q5|rw [zqu (Classical.not_not.2 j5)]at q5|rw [zqt (Classical.not_not.2 j5)]at q5);(first|rw [zqu j6]at q6|rw [zqt j6]at q6|rw [zqu (Classical.not_not.2 j6)]at q6|rw [zqt (Classical.not_not.2 j6)]at q6);(first|rw [zqu f0]at q0|rw [zqt f0]at q0|rw [zqu (Classical.not_not.2 f0)]at q0|rw [zqt (Classical.not_not.2 f0)]at q0);cbv;(repeat'((first|rw [q2]|rw [q3]|rw [q5]|rw [q6]|rw [q0]|rw [e5]|rw [e6]|refine ad hg c0 ?_|refine ad hg cd ?_|refine ad hg c5 ?_|refine ad hg c6 ?_|refine ad hg x5 ?_|refine ad hg x6 ?_);cbv));exact aO hF (by rw [hR];simp [j2,j3,j5,j6,f0]))
theorem li(free many js i:Int)(hm0:0<=many)(hm1:many<=12)(hi0:0<=i)(hi1:i<=12):PC0 250 [ai free,ai many,ai js,ai i] (.i (btw free many js i)):=by
 have hl:∀m:Int,(evn free m).length<=1048576:=fun m=>by rw [il];have:=qf m;omega
 have c4:=eo free (many-1)
 have x4:=de (evn free (many-1)) (hl _) i
 have c5:=eo free (2*many)
 have x5:=de (evn free (2*many)) (hl _) (2*i+1)
 have y5:=de (evn free (2*many)) (hl _) (2*i+2)
 have c6:=eo free (many+1)
 have x6:=de (evn free (many+1)) (hl _) (i+1)
 have w1:=wr1 (a:=many-1) (by omega) (by omega)
 have w2:=wr1 (a:=2*many) (by omega) (by omega)
 have w3:=wr1 (a:=many+1) (by omega) (by omega)
 have w4:=wr1 (a:=i+1) (by omega) (by omega)
 have w5:=wr1 (a:=2*i) (by omega) (by omega)
 have w6:=wr1 (a:=2*i+1) (by omega) (by omega)
 have w7:=wr1 (a:=2*i+2) (by omega) (by omega)
 clear hl
 obtain⟨R,hR⟩:=nmE (btw free many js i)
 rw [<-hR]
 unfold btw at hR
 generalize hv4:elZ (evn free (many-1)) i=v4 at hR x4
 generalize hv5:elZ (evn free (2*many)) (2*i+1)=v5 at hR x5
 generalize hu5:elZ (evn free (2*many)) (2*i+2)=u5 at hR y5
 generalize hv6:elZ (evn free (many+1)) (i+1)=v6 at hR x6
 generalize hY4:vw ak (evn free (many-1))=Y4 at c4 x4
 generalize hY5:vw ak (evn free (2*many))=Y5 at c5 x5 y5
 generalize hY6:vw ak (evn free (many+1))=Y6 at c6 x6
 clear hv4 hv5 hu5 hv6 hY4 hY5 hY6
 refine aV func250 fun g F hg hF=> ?_
 have e1:g .w .sub .i64 many 1=many-1:=by rw [cu hg,w1]
 have e2:g .w .mul .i64 2 many=2*many:=by rw [gA hg,w2]
 have e3:g .w .add .i64 many 1=many+1:=by rw [aG hg,w3]
 have e4:g .w .add .i64 i 1=i+1:=by rw [aG hg,w4]
 have e5:g .w .mul .i64 2 i=2*i:=by rw [gA hg,w5]
 have e6:g .w .add .i64 (2*i) 1=2*i+1:=by rw [aG hg,w6]
 have e7:g .w .add .i64 (2*i) 2=2*i+2:=by rw [aG hg,w7]
 have e8:g .w .add .i64 v5 u5=wrap64 (v5+u5):=aG hg _ _
 generalize hZ:wrap64 (v5+u5)=Z at hR e8
 have q4:g .q .eql (js) (4)=decide ((js)=(4)):=by rw [bj hg];exact zqn _ _
 have q5:g .q .eql (js) (5)=decide ((js)=(5)):=by rw [bj hg];exact zqn _ _
 have q6:g .q .eql (js) (6)=decide ((js)=(6)):=by rw [bj hg];exact zqn _ _
 have q0:g .q .lss (free) (0)=decide ((free)<(0)):=ba hg _ _
 clear hm0 hm1 hi0 hi1 w1 w2 w3 w4 w5 w6 w7 hZ
 generalize 2*i+1=k1 at *
 generalize 2*i+2=k2 at *
 generalize 2*i=k3 at *
 generalize i+1=k4 at *
 generalize 2*many=m2 at *
 generalize many+1=m1 at *
 generalize many-1=m3 at *
 by_cases f0:free<0
 ·(first|rw [zqu f0]at q0|rw [zqt f0]at q0|rw [zqu (Classical.not_not.2 f0)]at q0|rw [zqt (Classical.not_not.2 f0)]at q0)
  cbv
  (repeat'(rw [q0];cbv))
  exact aO hF (by rw [hR,if_pos f0])
 (first|rw [zqu f0]at q0|rw [zqt f0]at q0|rw [zqu (Classical.not_not.2 f0)]at q0|rw [zqt (Classical.not_not.2 f0)]at q0)
 by_cases j4:js=4<;>by_cases j5:js=5<;>by_cases j6:js=6
 all_goals first
  |(exfalso;omega)
  |((first|rw [zqu j4]at q4|rw [zqt j4]at q4|rw [zqu (Classical.not_not.2 j4)]at q4|rw [zqt (Classical.not_not.2 j4)]at q4);(first|rw [zqu j5]at q5|rw [zqt j5]at q5|rw [zqu (Classical.not_not.2 j5)]at q5|rw [zqt (Classical.not_not.2 j5)]at q5);(first|rw [zqu j6]at q6|rw [zqt j6]at q6|rw [zqu (Classical.not_not.2 j6)]at q6|rw [zqt (Classical.not_not.2 j6)]at q6);cbv;(repeat'((first|rw [q4]|rw [q5]|rw [q6]|rw [q0]|rw [e1]|rw [e2]|rw [e3]|rw [e4]|rw [e5]|rw [e6]|rw [e7]|rw [e8]|refine ad hg c4 ?_|refine ad hg c5 ?_|refine ad hg c6 ?_|refine ad hg x4 ?_|refine ad hg x5 ?_|refine ad hg y5 ?_|refine ad hg x6 ?_);cbv));exact aO hF (by rw [hR];simp [j4,j5,j6,f0]))
section
variable {P:Program}{n0 N:Nat}{g:Gd}
theorem mkI(hg:g=G0 P n0 N){n:Int}{by_:Nat}{q:Prop}(hb:by_<=65536)(h0:0<=n)(h1:n<=1048576)(hq:q):g .N (n=n/\0<=n/\(by_:Int)*n<=140737488355328/\n<=4611686018427387904) q:=by
 subst hg
 have h2:(by_:Int)*n<=65536*1048576:=Int.mul_le_mul (by omega) h1 h0 (by omega)
 exact⟨⟨rfl,h0,by omega,by omega⟩,hq⟩
end
theorem rk(c:α->Array Value)(n:Nat)(x:α):List.replicate n (lc (c x))=vw c (List.replicate n x):=by simp [vw]
theorem ny(c:α->Array Value)(xs:List α)(i:Nat)(x:α):(vw c xs).set i (lc (c x))=vw c (xs.set i x):=by simp [vw,List.map_set]
theorem qm(free many js:Int)(hm0:0<=many)(hm1:many<=12):bS prog 275 [ai free,ai many,ai js] fun res hj=>res= .o 0/\hj=[⟨3,1,vw ak (spc free many js)⟩]:=by
 have hi:=Hj free many js
 have hh:∀z:Int,0<=z->(z=0\/z<many)->¬z+1<many->spL (btw free many js) many.toNat z.toNat=spc free many js:=fun z a b c=>Hk free many js hm0 (by omega) (by omega)
 generalize hS:vw ak (spc free many js)=S;replace hS:=hS.symm
 refine aV func275 fun g F hg hF=> ?_
 cbv
 refine mkI hg (by decide) hm0 (by omega) ?_
 cbv
 generalize hE0:g .rp many _=E
 replace hE:E=vw ak (spL (btw free many js) many.toNat 0):=by rw [<-hE0,zy hg];exact rk ak _ 0
 clear hE0
 have pE:=pmV hE
 have q0:g .q .lss (free) (0)=decide ((free)<(0)):=ba hg _ _
 by_cases f0:free<0
 ·(first|rw [zqu f0]at q0|rw [zqt f0]at q0|rw [zqu (Classical.not_not.2 f0)]at q0|rw [zqt (Classical.not_not.2 f0)]at q0)
  (repeat'(rw [q0];cbv))
  obtain rfl:E=S:=by rw [hS,hi f0,hE];simp [spL,ixs]
  exact bN hF rfl pE
 (first|rw [zqu f0]at q0|rw [zqt f0]at q0|rw [zqu (Classical.not_not.2 f0)]at q0|rw [zqt (Classical.not_not.2 f0)]at q0)
 (repeat'(rw [q0];cbv))
 refine jP hg bq (by kernel_rfl) (fun s:Int×LLA=>[(0,.i (free)),(1,.i (many)),(2,.i (js)),(7,.o 0),(8,.i (s.1))]) (fun s=>[.rw ⟨3,1,s.2⟩]) (fun s=>0<=s.1/\(s.1=0\/s.1<many)/\s.2=vw ak (spL (btw free many js) many.toNat s.1.toNat)) (fun s=>12-s.1.toNat)
  (0,E) ⟨by simp,.inl rfl,hE⟩ (Wk.weak (wkG [some _] zr5 ⟨wqE rfl pE,zpt⟩ (by decide) aB)) (fun s B hs hB=> ?_)
 obtain⟨z,E⟩:=s
 obtain⟨h0,h1,hE⟩:=hs
 dsimp only at h0 h1 hE
 have pE:=pmV hE
 obtain⟨z1,hn⟩:=nmE (z+1)
 have ez:g .w .add .i64 z 1=z1:=by rw [aG hg,hn];exact wr1 (by omega) (by omega)
 have tz:g .q .lss z1 many=decide (z1<many):=ba hg _ _
 by_cases hz:z1<many
 rotate_left
 ·(first|rw [zqu hz]at tz|rw [zqt hz]at tz|rw [zqu (Classical.not_not.2 hz)]at tz|rw [zqt (Classical.not_not.2 hz)]at tz)
  cbv
  (repeat'((first|rw [ez]|rw [tz]);cbv))
  obtain rfl:E=S:=by rw [hS,hE,hh z h0 h1 (by omega)]
  exact bN hF rfl pE
 have hp:z<aN E:=by rw [hE,aU,Hm _ (by omega)];omega
 have he:∃e,E[z.toNat]? =some e/\e.length=1:=⟨_,by rw [hE];exact aZ (IM (btw free many js) (show z.toNat<many.toNat by omega)),rfl⟩
 obtain⟨b,hb⟩:=nmE (btw free many js z)
 have hc:E.set z.toNat [.J b]=vw ak (spL (btw free many js) many.toNat z1.toNat):=by
  rw [hE,hb,show z1.toNat=z.toNat+1 by omega,<-Hl (btw free many js) (show z.toNat<many.toNat by omega),<-ny,show((z.toNat:Nat):Int)=z by omega];rfl
 have hf:b=0->E=vw ak (spL (btw free many js) many.toNat z1.toNat):=fun h=>by
  rw [hE,show z1.toNat=z.toNat+1 by omega,<-Ey (btw free many js) (show z.toNat<many.toNat by omega)]
  rw [show((z.toNat:Nat):Int)=z by omega,<-hb,h]
 have hl:∀m:Int,0<=m->m<=64->((evn free m).length:Int)=m:=fun m a b=>by rw [il,oT a b]
 have c4:=ef free (many-1)
 have c5:=ef free (2*many)
 have c6:=ef free (many+1)
 have x4:(vw ak (evn free (many-1)))[z.toNat]? =some [.J (elZ (evn free (many-1)) z)]:=aZ (lq h0 (by rw [hl _ (by omega) (by omega)];omega))
 have x5:(vw ak (evn free (2*many)))[(2*z+1).toNat]? =some [.J (elZ (evn free (2*many)) (2*z+1))]:=aZ (lq (by omega) (by rw [hl _ (by omega) (by omega)];omega))
 have y5:(vw ak (evn free (2*many)))[(2*z+2).toNat]? =some [.J (elZ (evn free (2*many)) (2*z+2))]:=aZ (lq (by omega) (by rw [hl _ (by omega) (by omega)];omega))
 have x6:(vw ak (evn free (many+1)))[z1.toNat]? =some [.J (elZ (evn free (many+1)) (z+1))]:=by rw [hn];exact aZ (lq (by omega) (by rw [hl _ (by omega) (by omega)];omega))
 have ha:=hb
 unfold btw at ha
 rw [if_neg f0]at ha
 generalize hv4:elZ (evn free (many-1)) z=v4 at ha x4
 generalize hv5:elZ (evn free (2*many)) (2*z+1)=v5 at ha x5
 generalize hu5:elZ (evn free (2*many)) (2*z+2)=u5 at ha y5
 generalize hv6:elZ (evn free (many+1)) (z+1)=v6 at ha x6
 generalize hY4:vw ak (evn free (many-1))=Y4 at c4 x4
 generalize hY5:vw ak (evn free (2*many))=Y5 at c5 x5 y5
 generalize hY6:vw ak (evn free (many+1))=Y6 at c6 x6
 have e1:g .w .sub .i64 many 1=many-1:=by rw [cu hg,wr1 (by omega) (by omega)]
 have e2:g .w .mul .i64 2 many=2*many:=by rw [gA hg,wr1 (by omega) (by omega)]
 have e3:g .w .add .i64 many 1=many+1:=by rw [aG hg,wr1 (by omega) (by omega)]
 have e5:g .w .mul .i64 2 z=2*z:=by rw [gA hg,wr1 (by omega) (by omega)]
 have e6:g .w .add .i64 (2*z) 1=2*z+1:=by rw [aG hg,wr1 (by omega) (by omega)]
 have e7:g .w .add .i64 (2*z) 2=2*z+2:=by rw [aG hg,wr1 (by omega) (by omega)]
 have e8:g .w .add .i64 v5 u5=wrap64 (v5+u5):=aG hg _ _
 generalize hZ:wrap64 (v5+u5)=Z at ha e8
 have q4:g .q .eql (js) (4)=decide ((js)=(4)):=by rw [bj hg];exact zqn _ _
 have q5:g .q .eql (js) (5)=decide ((js)=(5)):=by rw [bj hg];exact zqn _ _
 have q6:g .q .eql (js) (6)=decide ((js)=(6)):=by rw [bj hg];exact zqn _ _
 have hd:12-z1.toNat<12-z.toNat:=by omega
 have n1:0<=z1/\(z1=0\/z1<many):=by omega
 have hq:0<=2*z+1:=by omega
 have hr:0<=2*z+2:=by omega
 clear hv4 hv5 hu5 hv6 hY4 hY5 hY6 hl hZ hb
 generalize 2*z+1=k1 at *
 generalize 2*z+2=k2 at *
 generalize 2*z=k3 at *
 generalize 2*many=m2 at *
 generalize many+1=mp at *
 generalize many-1=m3 at *
 have pS:ay (E.set z.toNat [.J b])=true:=by rw [hc];exact aD _ _
 obtain⟨E1,hk⟩:∃E1,E1=E.set z.toNat [.J b]:=⟨_,rfl⟩
 rw [<-hk]at hc pS
 (first|rw [zqu hz]at tz|rw [zqt hz]at tz|rw [zqu (Classical.not_not.2 hz)]at tz|rw [zqt (Classical.not_not.2 hz)]at tz)
 by_cases j4:js=4<;>by_cases j5:js=5<;>by_cases j6:js=6
 all_goals first
  |(exfalso;omega)
  |(
   (first|rw [zqu j4]at q4|rw [zqt j4]at q4|rw [zqu (Classical.not_not.2 j4)]at q4|rw [zqt (Classical.not_not.2 j4)]at q4);(first|rw [zqu j5]at q5|rw [zqt j5]at q5|rw [zqu (Classical.not_not.2 j5)]at q5|rw [zqt (Classical.not_not.2 j5)]at q5);(first|rw [zqu j6]at q6|rw [zqt j6]at q6|rw [zqu (Classical.not_not.2 j6)]at q6|rw [zqt (Classical.not_not.2 j6)]at q6)
   simp [j4,j5,j6]at ha
   cbv
   (repeat'((first|rw [ez]|rw [tz]|rw [q4]|rw [q5]|rw [q6]|rw [e1]|rw [e2]|rw [e3]|rw [e5]|rw [e6]|rw [e7]|rw [e8]|refine ad hg c4 ?_|refine ad hg c5 ?_|refine ad hg c6 ?_|refine goX hg _ (by omega) x4 rfl ?_|refine goX hg _ (by omega) x5 rfl ?_|refine goX hg _ (by omega) y5 rfl ?_|refine goX hg _ (by omega) x6 rfl ?_);cbv))
   first
    |(subst hB
      exact⟨(z1,E),⟨n1.1,n1.2,hf ha⟩,hd,Wk.weak (wkG [some _] zr5 ⟨wqE rfl pE,zpt⟩ (by decide) aB)⟩)
    |(refine goY hg h0 hp fun j2 hm ho=> ?_
      cbv
      refine goN hg (by rw [hm];exact he) ?_
      cbv
      rw [jC hg,hm,<-ha,ez]
      dsimp only [AT.cells]
      rw [<-hk]
      subst hB
      exact⟨(z1,E1),⟨n1.1,n1.2,hc⟩,hd,Wk.weak (wkG [some _] zr5 ⟨wqE rfl pS,zpt⟩ (by decide) aB)⟩))
theorem k6(free many js:Int)(hm0:0<=many)(hm1:many<=12):PC0 275 [ai free,ai many,ai js] (.t (.c (.view (vw ak (spc free many js))))):=yH (qm free many js hm0 hm1) fun _=>rfl
theorem uk(xs:List Int)(hl:xs.length<=1048576):PC0 246 [.c (.view (vw ak xs))] (.i (BR 0 xs)):=by
 obtain⟨V,hV⟩:=nmE (vw ak xs)
 have hb:=lmV hV
 obtain⟨R,hR⟩:=nmE (BR 0 xs)
 rw [<-hV,<-hR]
 refine aV func246 fun g F hg hF=> ?_
 cbv
 refine aQ hg bq (by kernel_rfl) V (fun x=>lc (ak x)) xs hV hl (fun z(s:Int)=>[(3,.i (s)),(6,.v V),(7,.i (g .ln V)),(8,.i (z))]) (fun z(s:Int)=>[]) (fun z(s:Int)=>True) (fun(s:Int) rest=>BR s rest) (R) (0:Int) hR.symm trivial (Wk.weak (wkG [] zr4 trivial (by decide) aB)) (fun z s B hz h0 hi he=> ?_) (fun z s x rest B z0 z1 z2 hx hy h0 hi hc e1 hB=> ?_)
 ·cbv;rw [he];cbv
  exact aO hF h0
 ·cbv;rw [hc];cbv;refine goX hg _ z0 hy rfl ?_;cbv
  (refine aY hg (da _) rfl (fun Q0 ha=> ?_));cbv
  rw [e1,aG hg,ha]
  exact hB (_) _ _ ⟨h0,zpt⟩ (Wk.weak (wkG [] zr4 trivial (by decide) aB))
theorem tD(xs:List Int)(hl:xs.length<=1048576):PC0 268 [.c (.view (vw ak xs))] (.i (BR 0 xs)):=by
 obtain⟨V,hV⟩:=nmE (vw ak xs)
 have hb:=lmV hV
 obtain⟨R,hR⟩:=nmE (BR 0 xs)
 rw [<-hV,<-hR]
 refine aV func268 fun g F hg hF=> ?_
 cbv
 refine aQ hg bq (by kernel_rfl) V (fun x=>lc (ak x)) xs hV hl (fun z(s:Int)=>[(0,.v V),(3,.i (s)),(4,.i (z))]) (fun z(s:Int)=>[]) (fun z(s:Int)=>True) (fun(s:Int) rest=>BR s rest) (R) (0:Int) hR.symm trivial (Wk.weak (wkG [] zr3 trivial (by decide) aB)) (fun z s B hz h0 hi he=> ?_) (fun z s x rest B z0 z1 z2 hx hy h0 hi hc e1 hB=> ?_)
 ·cbv;rw [he];cbv
  exact aO hF h0
 ·cbv;rw [hc];cbv;refine goX hg _ z0 hy rfl ?_;cbv
  (refine aY hg (cV _) rfl (fun Q0 ha=> ?_));cbv
  rw [e1,aG hg,ha]
  exact hB (_) _ _ ⟨h0,zpt⟩ (Wk.weak (wkG [] zr3 trivial (by decide) aB))
theorem gy(xs:List Int)(gap:Int)(hl:xs.length<=1048576):PC0 179 [.c (.view (vw ak xs)),ai gap] (.i (crt xs gap)):=by
 have cT:=uk xs hl
 have ha:xs=[]↔(xs.length:Int)=0:=by
  cases xs with
  |nil=>simp
  |cons x xs=>simp;omega
 obtain⟨R,hR⟩:=nmE (crt xs gap)
 rw [<-hR]
 unfold crt at hR
 simp only [ha]at hR
 generalize hT:BR 0 xs=T at cT hR
 obtain⟨V,hV⟩:=nmE (vw ak xs)
 have hd:=lmV hV
 have hb:aN V=(xs.length:Int):=by rw [hV,aU]
 rw [<-hV]at cT⊢
 have hc:0<=(xs.length:Int)/\(xs.length:Int)<=1048576:=by omega
 clear ha
 generalize hn:(xs.length:Int)=n at hb hc hR
 refine aV func179 fun g F hg hF=> ?_
 have t4:g .ln V=n:=by rw [bz hg,hb]
 have t1:g .q .eql (n) (0)=decide ((n)=(0)):=by rw [bj hg];exact zqn _ _
 have e1:g .w .sub .i64 n 1=n-1:=by rw [cu hg];exact wr1 (by omega) (by omega)
 have e2:g .w .mul .i64 gap (n-1)=wrap64 (gap*(n-1)):=gA hg _ _
 have e3:g .w .add .i64 T (wrap64 (gap*(n-1)))=wrap64 (T+wrap64 (gap*(n-1))):=aG hg _ _
 by_cases h:n=0
 ·rw [if_pos h]at hR
  (first|rw [zqu h]at t1|rw [zqt h]at t1|rw [zqu (Classical.not_not.2 h)]at t1|rw [zqt (Classical.not_not.2 h)]at t1)
  cbv
  (repeat'((first|rw [t4]|rw [t1]);cbv))
  exact aO hF hR.symm
 ·rw [if_neg h]at hR
  (first|rw [zqu h]at t1|rw [zqt h]at t1|rw [zqu (Classical.not_not.2 h)]at t1|rw [zqt (Classical.not_not.2 h)]at t1)
  rw [<-hR]at e3
  generalize wrap64 (gap*(n-1))=m2 at *
  generalize n-1=m1 at *
  cbv
  (repeat'((first|rw [t4]|rw [t1]|rw [e1]|rw [e2]|rw [e3]|refine ad hg cT ?_);cbv))
  exact aO hF rfl
theorem gp(xs:List Int)(gap:Int)(hl:xs.length<=1048576):PC0 215 [.c (.view (vw ak xs)),ai gap] (.i (crt xs gap)):=by
 have cT:=tD xs hl
 have ha:xs=[]↔(xs.length:Int)=0:=by
  cases xs with
  |nil=>simp
  |cons x xs=>simp;omega
 obtain⟨R,hR⟩:=nmE (crt xs gap)
 rw [<-hR]
 unfold crt at hR
 simp only [ha]at hR
 generalize hT:BR 0 xs=T at cT hR
 obtain⟨V,hV⟩:=nmE (vw ak xs)
 have hd:=lmV hV
 have hb:aN V=(xs.length:Int):=by rw [hV,aU]
 rw [<-hV]at cT⊢
 have hc:0<=(xs.length:Int)/\(xs.length:Int)<=1048576:=by omega
 clear ha
 generalize hn:(xs.length:Int)=n at hb hc hR
 refine aV func215 fun g F hg hF=> ?_
 have t4:g .ln V=n:=by rw [bz hg,hb]
 have t1:g .q .eql (n) (0)=decide ((n)=(0)):=by rw [bj hg];exact zqn _ _
 have e1:g .w .sub .i64 n 1=n-1:=by rw [cu hg];exact wr1 (by omega) (by omega)
 have e2:g .w .mul .i64 gap (n-1)=wrap64 (gap*(n-1)):=gA hg _ _
 have e3:g .w .add .i64 T (wrap64 (gap*(n-1)))=wrap64 (T+wrap64 (gap*(n-1))):=aG hg _ _
 by_cases h:n=0
 ·rw [if_pos h]at hR
  (first|rw [zqu h]at t1|rw [zqt h]at t1|rw [zqu (Classical.not_not.2 h)]at t1|rw [zqt (Classical.not_not.2 h)]at t1)
  cbv
  (repeat'((first|rw [t4]|rw [t1]);cbv))
  exact aO hF hR.symm
 ·rw [if_neg h]at hR
  (first|rw [zqu h]at t1|rw [zqt h]at t1|rw [zqu (Classical.not_not.2 h)]at t1|rw [zqt (Classical.not_not.2 h)]at t1)
  rw [<-hR]at e3
  generalize wrap64 (gap*(n-1))=m2 at *
  generalize n-1=m1 at *
  cbv
  (repeat'((first|rw [t4]|rw [t1]|rw [e1]|rw [e2]|rw [e3]|refine ad hg cT ?_);cbv))
  exact aO hF rfl
theorem my(xs:List Int)(gap inner:Int)(hl:xs.length<=1048576):PC0 247 [.c (.view (vw ak xs)),ai gap,ai inner] (.t (abl (acr xs gap inner))):=by
 have cg:=eD gap 0 1048576
 have ci:=eD inner 0 1048576
 change PC0 _ _ (.t (abl (rng gap 0 1048576)))at cg
 change PC0 _ _ (.t (abl (rng inner 0 1048576)))at ci
 obtain⟨R,hR⟩:=nmE (acr xs gap inner)
 rw [<-hR]
 unfold acr at hR
 generalize hG:rng gap 0 1048576=G at cg hR
 generalize hJ:rng inner 0 1048576=J at ci hR
 generalize hq:decide ((xs.length:Int)<=12)=q at hR;replace hq:=hq.symm
 obtain⟨T,hT⟩:=nmE ((q&&(G&&J)))
 rw [<-hT]at hR
 obtain⟨V,hV⟩:=nmE (vw ak xs)
 have hd:=lmV hV
 have hb:aN V=(xs.length:Int):=by rw [hV,aU]
 rw [<-hV]
 refine aV func247 fun g F hg hF=> ?_
 have t1:g .q .leq (g .ln V) 12=q:=by rw [ja hg,bz hg,hb,hq]
 cbv
 refine aQ hg bq (by kernel_rfl) V (fun x=>lc (ak x)) xs hV hl (fun z(s:Unit)=>[(0,.v V),(1,.i (gap)),(2,.i (inner)),(9,.v V),(10,.i (g .ln V)),(11,.i (z))]) (fun z(s:Unit)=>[]) (fun z(s:Unit)=>True) (fun(s:Unit) rest=>rest.all (fun c=>rng c 0 1048576)&&T) (R) () hR.symm trivial (Wk.weak (wkG [] zr6 trivial (by decide) aB)) (fun z s B hz h0 hi he=> ?_) (fun z s x rest B z0 z1 z2 hx hy h0 hi hc e1 hB=> ?_)
 rotate_left
 ·cbv;rw [hc];cbv;refine goX hg _ z0 hy rfl ?_;cbv
  (refine bA hg (eD x 0 1048576) rfl (fun R0 ha=> ?_));cbv
  cases R0<;>cbv
  ·exact bm hF (by rw [<-h0,zqD,show rng x 0 1048576=false from ha.symm];rfl)
  ·rw [e1]
   exact hB (()) _ _ ⟨by rw [<-h0,zqD,show rng x 0 1048576=true from ha.symm];rfl,zpt⟩ (Wk.weak (wkG [] zr6 trivial (by decide) aB))
 cbv;rw [he];cbv
 have h0:T=R:=h0
 clear hG hJ hq hR
 cases q<;>cases G<;>cases J
 all_goals((repeat'((first|rw [t1]|refine ad hg cg ?_|refine ad hg ci ?_);cbv));exact bm hF (by rw [<-h0,hT];rfl))
theorem lZ(xs:List Int)(gap inner:Int)(hl:xs.length<=1048576):PC0 272 [.c (.view (vw ak xs)),ai gap,ai inner] (.t (abl (acr xs gap inner))):=by
 have cg:=db gap 0 1048576
 have ci:=db inner 0 1048576
 change PC0 _ _ (.t (abl (rng gap 0 1048576)))at cg
 change PC0 _ _ (.t (abl (rng inner 0 1048576)))at ci
 obtain⟨R,hR⟩:=nmE (acr xs gap inner)
 rw [<-hR]
 unfold acr at hR
 generalize hG:rng gap 0 1048576=G at cg hR
 generalize hJ:rng inner 0 1048576=J at ci hR
 generalize hq:decide ((xs.length:Int)<=12)=q at hR;replace hq:=hq.symm
 obtain⟨T,hT⟩:=nmE ((q&&(G&&J)))
 rw [<-hT]at hR
 obtain⟨V,hV⟩:=nmE (vw ak xs)
 have hd:=lmV hV
 have hb:aN V=(xs.length:Int):=by rw [hV,aU]
 rw [<-hV]
 refine aV func272 fun g F hg hF=> ?_
 have t1:g .q .leq (g .ln V) 12=q:=by rw [ja hg,bz hg,hb,hq]
 cbv
 refine aQ hg bq (by kernel_rfl) V (fun x=>lc (ak x)) xs hV hl (fun z(s:Unit)=>[(0,.v V),(1,.i (gap)),(2,.i (inner)),(7,.i (z))]) (fun z(s:Unit)=>[]) (fun z(s:Unit)=>True) (fun(s:Unit) rest=>rest.all (fun c=>rng c 0 1048576)&&T) (R) () hR.symm trivial (Wk.weak (wkG [] zr4 trivial (by decide) aB)) (fun z s B hz h0 hi he=> ?_) (fun z s x rest B z0 z1 z2 hx hy h0 hi hc e1 hB=> ?_)
 rotate_left
 ·cbv;rw [hc];cbv;refine goX hg _ z0 hy rfl ?_;cbv
  (refine bA hg (db x 0 1048576) rfl (fun R0 ha=> ?_));cbv
  cases R0<;>cbv
  ·exact bm hF (by rw [<-h0,zqD,show rng x 0 1048576=false from ha.symm];rfl)
  ·rw [e1]
   exact hB (()) _ _ ⟨by rw [<-h0,zqD,show rng x 0 1048576=true from ha.symm];rfl,zpt⟩ (Wk.weak (wkG [] zr4 trivial (by decide) aB))
 cbv;rw [he];cbv
 have h0:T=R:=h0
 clear hG hJ hq hR
 cases q<;>cases G<;>cases J
 all_goals((repeat'((first|rw [t1]|refine ad hg cg ?_|refine ad hg ci ?_);cbv));exact bm hF (by rw [<-h0,hT];rfl))
variable {out cs:List α}
theorem vN{z:Nat}{v:α}(h:out.length=z)(hz:z<cs.length):(out++cs.drop z).set z v=(out++[v])++cs.drop (z+1):=by
 rw [List.set_append_right _ _ (by omega),h,Nat.sub_self,List.drop_eq_getElem_cons hz,List.set_cons_zero,zqC]
 rfl
theorem wT{z:Nat}(h:out.length=z):(out++cs.drop z)[z]? =cs[z]? :=by
 rw [zqg (by omega),h]
 simp
theorem nK(cs:List Int)(gap inner ct:Int)(hl:cs.length<=64):bS prog 245 [.c (.view (vw ak cs)),ai gap,ai inner,ai ct] fun res hp=>res= .o 0/\hp=[⟨3,1,vw ak (yE cs gap inner ct)⟩]:=by
 have cC:=iY cs (by omega)
 have cT:=gy cs gap (by omega)
 have cA:=my cs gap inner (by omega)
 have cE:=eo (wrap64 (inner-crt cs gap)) (cs.length:Int)
 have ha:(evn (wrap64 (inner-crt cs gap)) (cs.length:Int)).length=cs.length:=by rw [il];have:=oT (many:=(cs.length:Int)) (by omega) (by omega);omega
 obtain⟨R,hR⟩:=nmE (yE cs gap inner ct)
 rw [<-hR]
 unfold yE at hR
 generalize hT:crt cs gap=T at cT cE ha hR
 generalize hD:wrap64 (inner-T)=D at cE ha hR;replace hD:=hD.symm
 generalize hA:acr cs gap inner=A at cA hR
 generalize hev:evn D (cs.length:Int)=ev at cE ha hR
 obtain⟨V,hV⟩:=nmE (vw ak cs)
 have hI:=lmV hV
 have iV:=imV hV
 have hr:aN V=(cs.length:Int):=by rw [hV,aU]
 have pV:=pmV hV
 rw [<-hV]at cC cT cA
 rw [<-hV]
 generalize hn:(cs.length:Int)=n at hr cE
 have hd:ev.length=cs.length->(cs.zip ev).length=cs.length:=fun h=>by rw [zqB,h];omega
 replace hd:=hd ha
 have hm:(vw ak ev)=(cs.zip ev).map (fun t=>lc (ak t.2)):=by
  have:∀(a b:List Int),b.length=a.length->vw ak b=(a.zip b).map (fun t=>lc (ak t.2)):=by
   intro a
   induction a with
   |nil=>intro b h;rw [zqv h];rfl
   |cons x a ih=>
    intro b h
    cases b with
    |nil=>simp at h
    |cons y b=>rw [List.zip_cons_cons,zqA,<-ih b (by simpa using h)];rfl
  exact this _ _ ha
 have hu:∀{i:Nat}{t:Int×Int},(cs.zip ev)[i]? =some t->cs[i]? =some t.1:=fun{i t} h=>by
  have:=List.getElem?_zip_eq_some.1 h
  exact this.1
 generalize ho:cs.zip ev=zs at hd hm hR;replace ho:=ho.symm
 generalize hY:vw ak ev=Y at cE hm;replace hY:=hY.symm
 rw [<-ho]at hu
 have hK:0<=n/\n<=64:=by omega
 have hE:zs.length<=1048576:=by omega
 refine aV func245 fun g F hg hF=> ?_
 have t4:g .ln V=n:=by rw [bz hg,hr]
 have e1:g .w .sub .i64 inner T=D:=by rw [cu hg,hD]
 have q1:g .q .neq (ct) (1)=decide (¬(ct)=(1)):=by rw [bC hg];exact dQ _ _
 have q2:g .q .leq (D) (0)=decide ((D)<=(0)):=ja hg _ _
 have hh:R=cs->F [.c (.own 0)] [.rw ⟨3,1,V⟩]:=fun h=>by rw [h,<-hV]at hF;exact bN hF rfl pV
 cases hA2:A
 ·rw [hA2]at cA hR
  simp only [Bool.false_eq_true,false_and,if_false]at hR
  cbv
  refine bH hg cC (bn rfl) iV ?_
  cbv
  (repeat'((first|rw [e1]|refine ad hg cT ?_|refine ad hg cA ?_);cbv))
  exact hh hR
 rw [hA2]at cA hR
 by_cases h1:ct=1
 rotate_left
 ·rw [zqu h1]at q1
  simp only [h1,false_and,and_false,if_false]at hR
  cbv
  refine bH hg cC (bn rfl) iV ?_
  cbv
  (repeat'((first|rw [e1]|rw [q1]|refine ad hg cT ?_|refine ad hg cA ?_);cbv))
  exact hh hR
 rw [zqt (Classical.not_not.2 h1)]at q1
 by_cases h2:0<D
 rotate_left
 ·rw [zqu (show D<=0 by omega)]at q2
  simp only [h1,h2,and_false,if_false]at hR
  cbv
  refine bH hg cC (bn rfl) iV ?_
  cbv
  (repeat'((first|rw [e1]|rw [q1]|rw [q2]|refine ad hg cT ?_|refine ad hg cA ?_);cbv))
  exact hh hR
 rw [zqt (show¬D<=0 by omega)]at q2
 simp only [h1,h2,and_self,if_true]at hR
 replace hV:V=vw ak cs:=hV
 cbv
 refine bH hg cC (bn rfl) iV ?_
 cbv
 (repeat'((first|rw [e1]|rw [q1]|rw [q2]|rw [t4]|refine ad hg cT ?_|refine ad hg cA ?_|refine ad hg cE ?_);cbv))
 have hY:Y=zs.map (fun t=>lc (ak t.2)):=hm
 refine aQ hg bq (by kernel_rfl) Y (fun t=>lc (ak t.2)) zs hY hE (fun z(s:List Int×LLA)=>[(9,.o 0),(37,.v Y),(38,.i (g .ln Y)),(39,.i (z))]) (fun z(s:List Int×LLA)=>[.rw ⟨3,1,s.2⟩]) (fun z(s:List Int×LLA)=>s.2=vw ak (s.1++cs.drop z.toNat)/\s.1.length=z.toNat) (fun(s:List Int×LLA) rest=>s.1++rest.map (fun p=>wrap64 (p.1+p.2))) (R) ([],V) (by rw [hR];rfl) ⟨by rw [hV];rfl,rfl⟩ (Wk.weak (wkG [some 0] zr4 ⟨wqE rfl pV,zpt⟩ (by decide) aB)) (fun z s B hz h0 hi he=> ?_) (fun z s x rest B z0 z1 z2 hx hy h0 hi hc e1 hB=> ?_)
 ·obtain⟨hk,E⟩:=s
  obtain⟨i1,i2⟩:=hi
  dsimp only at i1 i2 h0
  have pE:=pmV i1
  have:cs.drop z.toNat=[]:=List.drop_eq_nil_of_le (by rw [<-hd,hz,hY,ao,zql];omega)
  obtain rfl:hk=R:=by simpa using h0
  rw [this,zpr]at i1
  rw [<-i1]at hF
  cbv;rw [he];cbv
  exact bN hF rfl pE
 ·obtain⟨hk,E⟩:=s
  obtain⟨x0,x1⟩:=x
  obtain⟨i1,i2⟩:=hi
  dsimp only at i1 i2 h0 hy
  have hs:=hu hx
  have hG:z.toNat<cs.length:=(zqb.1 hs).1
  have hv:z<aN E:=by rw [i1,aU];simp;omega
  have hf:E[z.toNat]? =some [.J x0]:=by rw [i1];exact aZ (by rw [wT i2];exact hs)
  have hb:E.set z.toNat [.J (wrap64 (x0+x1))]=vw ak ((hk++[wrap64 (x0+x1)])++cs.drop (z.toNat+1)):=by rw [i1,<-vN i2 hG,<-ny];rfl
  have e2:g .w .add .i64 x0 x1=wrap64 (x0+x1):=aG hg _ _
  have hw:(hk++[wrap64 (x0+x1)])++rest.map (fun p=>wrap64 (p.1+p.2))=R:=by rw [<-h0];simp
  have nl:(hk++[wrap64 (x0+x1)]).length=(z+1).toNat:=by simp;omega
  rw [show z.toNat+1=(z+1).toNat by omega]at hb
  generalize wrap64 (x0+x1)=Q at *
  obtain⟨E2,hq⟩:∃E2,E2=E.set z.toNat [.J Q]:=⟨_,rfl⟩
  rw [<-hq]at hb
  have hH:=pmV hb
  cbv;rw [hc];cbv;refine goX hg _ z0 hy rfl ?_;cbv
  refine goY hg z0 hv fun j hj hJ=> ?_
  cbv
  refine⟨_,by rw [hj];exact hf,?_⟩
  cbv
  rw [e2]
  refine goY hg z0 hv fun j2 ht hC=> ?_
  cbv
  refine goN hg ⟨_,by rw [ht];exact hf,rfl⟩ ?_
  cbv
  rw [jC hg,ht,e1]
  dsimp only [AT.cells]
  rw [<-hq]
  exact hB ((hk++[Q],E2)) _ _ ⟨hw,⟨hb,nl⟩⟩ (Wk.weak (wkG [some 0] zr4 ⟨wqE rfl hH,zpt⟩ (by decide) aB))
theorem pp(cs:List Int)(gap inner ct:Int)(hl:cs.length<=64):bS prog 180 [.c (.view (vw ak cs)),ai gap,ai inner,ai ct] fun res hh=>res= .o 0/\hh=[⟨3,1,vw ak (pll cs gap inner ct)⟩]:=by
 have cT:=gy cs gap (by omega)
 have cA:=my cs gap inner (by omega)
 have cJ:=qG ct
 have cS:=da (wrap64 (inner-crt cs gap))
 have cL:=oO (sg (wrap64 (inner-crt cs gap))) (cs.length:Int) (xm ct)
 have cB:=fun i(h:(cs.length:Int)<=12) h0 h1=>li (sg (wrap64 (inner-crt cs gap))) (cs.length:Int) (xm ct) i (by omega) h h0 h1
 have hb:acr cs gap inner=true->(cs.length:Int)<=12:=fun h=>by simp only [acr,zqs,zqp]at h;exact h.2.1
 obtain⟨R,hR⟩:=nmE (pll cs gap inner ct)
 rw [<-hR]
 unfold pll at hR
 obtain⟨BW,hm⟩:=nmE (btw (sg (wrap64 (inner-crt cs gap))) (cs.length:Int) (xm ct))
 rw [<-hm]at hR cB
 generalize hT:crt cs gap=T at cT cS cL cB hR
 generalize hLD:led (sg (wrap64 (inner-T))) (cs.length:Int) (xm ct)=LD at cL hR
 generalize hfr:sg (wrap64 (inner-T))=fr at cS cL cB
 generalize hD:wrap64 (inner-T)=D at cS;replace hD:=hD.symm
 generalize hjs:xm ct=js at cJ cL cB
 generalize hA:acr cs gap inner=A at cA hR hb
 obtain⟨V,hV⟩:=nmE (vw ak cs)
 have hs:=lmV hV
 have hf:aN V=(cs.length:Int):=by rw [hV,aU]
 rw [<-hV]at cT cA
 rw [<-hV]
 have hq:0<=(cs.length:Int):=by omega
 generalize hn:(cs.length:Int)=n at hf cL cB hb hq
 refine aV func180 fun g F hg hF=> ?_
 have t4:g .ln V=n:=by rw [bz hg,hf]
 have e0:g .w .sub .i64 inner T=D:=by rw [cu hg,hD]
 cases hA2:A
 ·rw [hA2]at cA hR
  cbv
  (repeat'(refine ad hg cA ?_;cbv))
  obtain rfl:R=[]:=hR
  exact vf _ _ hF ⟨rfl,rfl⟩
 rw [hA2]at cA hR
 replace hR:R=plG BW gap 0 LD cs:=hR
 replace hb:=hb hA2
 cbv
 (repeat'((first|rw [e0]|rw [t4]|refine ad hg cA ?_|refine ad hg cJ ?_|refine ad hg cT ?_|refine ad hg cS ?_|refine ad hg cL ?_);cbv))
 refine aQ hg bq (by kernel_rfl) V (fun x=>lc (ak x)) cs hV (by omega) (fun z(s:Int×List Int×LLA)=>[(1,.i (gap)),(9,.i (js)),(10,.i (n)),(11,.i (fr)),(12,.i (s.1)),(13,.o 0),(35,.v V),(36,.i (g .ln V)),(37,.i (z))]) (fun z(s:Int×List Int×LLA)=>[.rw ⟨3,1,s.2.2⟩]) (fun z(s:Int×List Int×LLA)=>s.2.2=vw ak s.2.1/\(s.2.1.length:Int)=z) (fun(s:Int×List Int×LLA) rest=>s.2.1++plG BW gap (s.2.1.length:Int) s.1 rest) (R) (LD,[],[]) (by rw [hR];rfl) ⟨rfl,rfl⟩ (Wk.weak (wkG [none] ⟨rfl,rfl,rfl,rfl,rfl,rfl,rfl,by rw [t4];rfl,rfl,zpt⟩ ⟨⟨_,rfl,rfl⟩,zpt⟩ (by decide) aB)) (fun z s B hz h0 hi he=> ?_) (fun z s x rest B z0 z1 z2 hx hy h0 hi hc e1 hB=> ?_)
 ·obtain⟨a,ha,E⟩:=s
  obtain⟨i1,i2⟩:=hi
  dsimp only at i1 i2 h0
  have pE:=pmV i1
  obtain rfl:ha=R:=by simpa [plG]using h0
  rw [<-i1]at hF
  cbv;rw [he];cbv
  exact bN hF rfl pE
 ·obtain⟨a,ha,E⟩:=s
  obtain⟨i1,i2⟩:=hi
  dsimp only at i1 i2 h0
  have ho:E.length<=1048576:=by rw [i1,ar];omega
  have hd:=cB z hb z0 (by rw [hf]at *;omega)
  have hj:(ha++[a])++plG BW gap ((ha++[a]).length:Int) (wrap64 (a+wrap64 (wrap64 (x+gap)+BW z))) rest=R:=by
   rw [<-h0,<-i2];simp [plG]
  have nl:((ha++[a]).length:Int)=z+1:=by simp;omega
  obtain⟨bw,hp⟩:=nmE (BW z)
  rw [<-hp]at hd hj
  have e2:g .w .add .i64 x gap=wrap64 (x+gap):=aG hg _ _
  have e3:g .w .add .i64 (wrap64 (x+gap)) bw=wrap64 (wrap64 (x+gap)+bw):=aG hg _ _
  have e4:g .w .add .i64 a (wrap64 (wrap64 (x+gap)+bw))=wrap64 (a+wrap64 (wrap64 (x+gap)+bw)):=aG hg _ _
  have aE:E++[[.J a]]=vw ak (ha++[a]):=by rw [i1,bk];rfl
  obtain⟨E2,hk⟩:∃E2,E2=E++[[.J a]]:=⟨_,rfl⟩
  rw [<-hk]at aE
  have hr:=pmV aE
  generalize wrap64 (a+wrap64 (wrap64 (x+gap)+bw))=Q1 at *
  generalize wrap64 (wrap64 (x+gap)+bw)=Q2 at *
  generalize wrap64 (x+gap)=Q3 at *
  cbv;rw [hc];cbv;refine goX hg _ z0 hy rfl ?_;cbv
  (repeat'((first|rw [e1]|rw [e2]|rw [e3]|rw [e4]|refine ad hg hd ?_|refine dg hg rfl (by decide) ho ?_;cbv;rw [fI hg,<-hk]);cbv))
  exact hB ((Q1,ha++[a],E2)) _ _ ⟨hj,⟨aE,nl⟩⟩ (Wk.weak (wkG [some 2] zr9 ⟨wqE rfl hr,zpt⟩ (by decide) aB))
theorem oQ(xs:List aw)(hl:xs.length<=1048576):PC0 185 [.c (.view (vw aw.c xs))] (.i (bas xs)):=by
 obtain⟨V,hV⟩:=nmE (vw aw.c xs)
 have ha:=lmV hV
 obtain⟨R,hR⟩:=nmE (bas xs)
 rw [<-hV,<-hR]
 refine aV func185 fun g F hg hF=> ?_
 cbv
 refine aQ hg bq (by kernel_rfl) V (fun x=>lc (aw.c x)) xs hV hl (fun z(s:Int×Bool)=>[(3,.i (s.1)),(4,.t (abl (s.2))),(8,.v V),(9,.i (g .ln V)),(10,.i (z))]) (fun z(s:Int×Bool)=>[]) (fun z(s:Int×Bool)=>True) (fun(s:Int×Bool) rest=>Eo s.1 s.2 rest) (R) ((0:Int),false) (by rw [hR];rfl) trivial (Wk.weak (wkG [] zr5 trivial (by decide) aB)) (fun z s B hz h0 hi he=> ?_) (fun z s x rest B z0 z1 z2 hx hy h0 hi hc e1 hB=> ?_)
 ·cbv;rw [he];cbv
  exact aO hF h0
 ·obtain⟨y0,y1,y2,y3,y4,y5,y6⟩:=x
  obtain⟨m,f⟩:=s
  have cB:=oM ⟨y0,y1,y2,y3,y4,y5,y6⟩
  simp only [Eo]at h0
  generalize ho:onB ⟨y0,y1,y2,y3,y4,y5,y6⟩=o at cB h0
  generalize hS:wrap64 (y1+y6)=S at h0;replace hS:=hS.symm
  have eS:g .w .add .i64 y1 y6=S:=by rw [aG hg,hS]
  have t0:g .q .gtr (S) (m)=decide ((m)<(S)):=dm hg _ _
  clear hS ho
  cbv;rw [hc];cbv;refine goX hg _ z0 hy rfl ?_;cbv
  (repeat'(rw [eS];cbv))
  by_cases hh:m<S
  all_goals
   (first|rw [zqu hh]at t0|rw [zqt hh]at t0|rw [zqu (Classical.not_not.2 hh)]at t0|rw [zqt (Classical.not_not.2 hh)]at t0)
   cases o<;>cases f
  all_goals
   ((repeat'((first|rw [t0]|rw [e1]|refine ad hg cB ?_);cbv)))
   first
    |(exact hB ((m,false)) _ _ ⟨(by simpa [hh]using h0),zpt⟩ (Wk.weak (wkG [] zr5 trivial (by decide) aB)))
    |(exact hB ((m,true)) _ _ ⟨(by simpa [hh]using h0),zpt⟩ (Wk.weak (wkG [] zr5 trivial (by decide) aB)))
    |(exact hB ((S,true)) _ _ ⟨(by simpa [hh]using h0),zpt⟩ (Wk.weak (wkG [] zr5 trivial (by decide) aB)))
theorem n5(xs:List aw)(hl:xs.length<=1048576):PC0 220 [.c (.view (vw aw.c xs))] (.i (bas xs)):=by
 obtain⟨V,hV⟩:=nmE (vw aw.c xs)
 have ha:=lmV hV
 obtain⟨R,hR⟩:=nmE (bas xs)
 rw [<-hV,<-hR]
 refine aV func220 fun g F hg hF=> ?_
 cbv
 refine aQ hg bq (by kernel_rfl) V (fun x=>lc (aw.c x)) xs hV hl (fun z(s:Int×Bool)=>[(0,.v V),(3,.i (s.1)),(4,.t (abl (s.2))),(5,.i (z))]) (fun z(s:Int×Bool)=>[]) (fun z(s:Int×Bool)=>True) (fun(s:Int×Bool) rest=>Eo s.1 s.2 rest) (R) ((0:Int),false) (by rw [hR];rfl) trivial (Wk.weak (wkG [] zr4 trivial (by decide) aB)) (fun z s B hz h0 hi he=> ?_) (fun z s x rest B z0 z1 z2 hx hy h0 hi hc e1 hB=> ?_)
 ·cbv;rw [he];cbv
  exact aO hF h0
 ·obtain⟨y0,y1,y2,y3,y4,y5,y6⟩:=x
  obtain⟨m,f⟩:=s
  have cB:=nX ⟨y0,y1,y2,y3,y4,y5,y6⟩
  simp only [Eo]at h0
  generalize ho:onB ⟨y0,y1,y2,y3,y4,y5,y6⟩=o at cB h0
  generalize hS:wrap64 (y1+y6)=S at h0;replace hS:=hS.symm
  have eS:g .w .add .i64 y1 y6=S:=by rw [aG hg,hS]
  have t0:g .q .gtr (S) (m)=decide ((m)<(S)):=dm hg _ _
  clear hS ho
  cbv;rw [hc];cbv;refine goX hg _ z0 hy rfl ?_;cbv
  by_cases hh:m<S
  all_goals
   (first|rw [zqu hh]at t0|rw [zqt hh]at t0|rw [zqu (Classical.not_not.2 hh)]at t0|rw [zqt (Classical.not_not.2 hh)]at t0)
   cases o<;>cases f
  all_goals
   ((repeat'((first|rw [eS]|rw [t0]|rw [e1]|refine aa hg cB ?_|refine goX hg _ (by omega) hy rfl ?_);cbv)))
   first
    |(exact hB ((m,false)) _ _ ⟨(by simpa [hh]using h0),zpt⟩ (Wk.weak (wkG [] zr4 trivial (by decide) aB)))
    |(exact hB ((m,true)) _ _ ⟨(by simpa [hh]using h0),zpt⟩ (Wk.weak (wkG [] zr4 trivial (by decide) aB)))
    |(exact hB ((S,true)) _ _ ⟨(by simpa [hh]using h0),zpt⟩ (Wk.weak (wkG [] zr4 trivial (by decide) aB)))
def Kj(xs:List aw)(p:Int×Int×Bool):Int:=if 12<(xs.length:Int)then 0 else cl (if p.2.2=true/\p.1<wrap64 (bas xs+p.2.1)then wrap64 (bas xs+p.2.1)else p.1)
theorem KL(xs:List aw):(if xs.all vM=true then Kj xs (cr2 0 0 false xs)else 0)=cro xs:=by
 unfold cro Kj
 rcases Bool.eq_false_or_eq_true (xs.all vM)with h|h
 ·rw [if_pos h,H9 h,h]
  by_cases hl:12<(xs.length:Int)
  ·rw [if_pos hl,if_pos (by rw [zqt (by omega)];rfl)]
  ·rw [if_neg hl,if_neg (by rw [zqu (by omega)];decide)]
 ·rw [if_neg (by rw [h];decide),if_pos (by rw [h];simp)]
theorem JL{xs:List aw}(h:12<(xs.length:Int)):cro xs=0:=by
 unfold cro;rw [zqt (by omega)];rfl
theorem JJ{xs:List aw}(h:¬12<(xs.length:Int)):cro xs=if xs.all vM=true then cl (GQ (bas xs) 0 xs)else 0:=by
 unfold cro;rw [zqu (by omega)]
 cases xs.all vM<;>rfl
theorem uy(xs:List aw)(hl:xs.length<=1048576):PC0 244 [.c (.view (vw aw.c xs))] (.i (cro xs)):=by
 have cB:=oQ xs hl
 have hb:= @JL xs
 have ha:= @JJ xs
 obtain⟨n,hn⟩:∃n:Int,n=(xs.length:Int):=⟨_,rfl⟩
 obtain⟨R,hR⟩:=nmE (cro xs)
 rw [<-hR,<-hn]at hb ha
 rw [<-hR]
 generalize hB0:bas xs=B0 at cB ha
 obtain⟨V,hV⟩:=nmE (vw aw.c xs)
 have hf:=lmV hV
 rw [<-hV]at cB
 rw [<-hV]
 have hd:aN V=n:=by rw [hV,aU,hn]
 refine aV func244 fun g F hg hF=> ?_
 have t4:g .ln V=n:=by rw [bz hg,hd]
 have t0:g .q .gtr (n) (12)=decide ((12)<(n)):=dm hg _ _
 cbv
 rw [t4]
 by_cases h0:12<n
 ·(first|rw [zqu h0]at t0|rw [zqt h0]at t0|rw [zqu (Classical.not_not.2 h0)]at t0|rw [zqt (Classical.not_not.2 h0)]at t0)
  (repeat'(rw [t0];cbv))
  exact aO hF (hb h0).symm
 ·have ha:=(ha h0).symm
  (first|rw [zqu h0]at t0|rw [zqt h0]at t0|rw [zqu (Classical.not_not.2 h0)]at t0|rw [zqt (Classical.not_not.2 h0)]at t0)
  (repeat'((first|rw [t0]|rw [t4]|refine ad hg cB ?_);cbv))
  clear hb
  obtain⟨nn,hh⟩:=nmE n
  rw [<-t4]
  refine aQ hg bq (by kernel_rfl) V (fun x=>lc (aw.c x)) xs hV hl (fun z(s:Int)=>[(3,.i (s)),(4,.i (B0)),(12,.v V),(13,.i (g .ln V)),(14,.i (z))]) (fun z(s:Int)=>[]) (fun z(s:Int)=>True) (fun(s:Int) rest=>if rest.all vM=true then cl (GQ B0 s rest)else 0) (R) (0:Int) ha trivial (Wk.weak (wkG [] zr5 trivial (by decide) aB)) (fun z s B hz h0 hi he=> ?_) (fun z s x rest B z0 z1 z2 hx hy h0 hi hc e1 hB=> ?_)
  ·have cC:=aM s
   have h0:cl s=R:=h0
   generalize hC:cl s=C at cC h0
   cbv;rw [he];cbv
   repeat'(refine ad hg cC ?_;cbv)
   exact aO hF h0
  ·obtain⟨y0,y1,y2,y3,y4,y5,y6⟩:=x
   have cO:=oM ⟨y0,y1,y2,y3,y4,y5,y6⟩
   have cS:=oG ⟨y0,y1,y2,y3,y4,y5,y6⟩
   rw [zqD]at h0
   simp only [GQ,KM]at h0
   generalize ho:onB ⟨y0,y1,y2,y3,y4,y5,y6⟩=o at cO h0
   generalize hk:vM ⟨y0,y1,y2,y3,y4,y5,y6⟩=k at cS h0
   generalize hS:wrap64 (wrap64 (wrap64 (B0+y0)+y2)-y6)=S at h0;replace hS:=hS.symm
   generalize hT:wrap64 (wrap64 (y0+y1)+y2)=T at h0;replace hT:=hT.symm
   have eS:g .w .sub .i64 (g .w .add .i64 (g .w .add .i64 B0 y0) y2) y6=S:=by rw [aG hg,aG hg,cu hg,hS]
   have eT:g .w .add .i64 (g .w .add .i64 y0 y1) y2=T:=by rw [aG hg,aG hg,hT]
   have mS:g .mx s S=mx2 s S:=by rw [GH hg];rfl
   have mT:g .mx s T=mx2 s T:=by rw [GH hg];rfl
   clear hS hT ho hk ha
   cbv;rw [hc];cbv;refine goX hg _ z0 hy rfl ?_;cbv
   cases k
   ·(repeat'(refine ad hg cS ?_;cbv))
    exact aO hF h0
   ·rw [Bool.true_and]at h0
    cases o
    ·(repeat'((first|rw [eT]|rw [mT]|rw [e1]|refine ad hg cS ?_|refine ad hg cO ?_);cbv))
     exact hB ((mx2 s T)) _ _ ⟨h0,zpt⟩ (Wk.weak (wkG [] zr5 trivial (by decide) aB))
    ·(repeat'((first|rw [eS]|rw [mS]|rw [e1]|refine ad hg cS ?_|refine ad hg cO ?_);cbv))
     exact hB ((mx2 s S)) _ _ ⟨h0,zpt⟩ (Wk.weak (wkG [] zr5 trivial (by decide) aB))
theorem tN(xs:List aw)(hl:xs.length<=1048576):PC0 266 [.c (.view (vw aw.c xs))] (.i (cro xs)):=by
 have cB:=n5 xs hl
 have hK:=KL xs
 obtain⟨n,hn⟩:∃n:Int,n=(xs.length:Int):=⟨_,rfl⟩
 obtain⟨R,hR⟩:=nmE (cro xs)
 have ha:∀p,Kj xs p=if 12<n then 0 else cl (if p.2.2=true/\p.1<wrap64 (bas xs+p.2.1)then wrap64 (bas xs+p.2.1)else p.1):=fun p=>by rw [hn];rfl
 rw [<-hR]at hK
 rw [<-hR]
 generalize hB0:bas xs=B0 at cB ha
 generalize hKK:Kj xs=KK at ha hK
 obtain⟨V,hV⟩:=nmE (vw aw.c xs)
 have hd:=lmV hV
 rw [<-hV]at cB
 rw [<-hV]
 have hb:aN V=n:=by rw [hV,aU,hn]
 refine aV func266 fun g F hg hF=> ?_
 have t4:g .ln V=n:=by rw [bz hg,hb]
 have t0:g .q .gtr (n) (12)=decide ((12)<(n)):=dm hg _ _
 cbv
 refine aQ hg bq (by kernel_rfl) V (fun x=>lc (aw.c x)) xs hV hl (fun z(s:Int×Int×Bool)=>[(0,.v V),(3,.i (s.1)),(4,.i (s.2.1)),(5,.t (abl (s.2.2))),(6,.i (z))]) (fun z(s:Int×Int×Bool)=>[]) (fun z(s:Int×Int×Bool)=>True) (fun(s:Int×Int×Bool) rest=>if rest.all vM=true then KK (cr2 s.1 s.2.1 s.2.2 rest)else 0) (R) ((0:Int),(0:Int),false) hK trivial (Wk.weak (wkG [] zr5 trivial (by decide) aB)) (fun z s B hz h0 hi he=> ?_) (fun z s x rest B z0 z1 z2 hx hy h0 hi hc e1 hB=> ?_)
 ·obtain⟨m,b,f⟩:=s
  change KK (m,b,f)=R at h0
  rw [ha]at h0
  dsimp only at h0
  generalize hS:wrap64 (B0+b)=S at h0;replace hS:=hS.symm
  have eS:g .w .add .i64 B0 b=S:=by rw [aG hg,hS]
  have t1:g .q .gtr (S) (m)=decide ((m)<(S)):=dm hg _ _
  obtain⟨Q,hQ⟩:∃Q,Q=if f=true/\m<S then S else m:=⟨_,rfl⟩
  rw [<-hQ]at h0
  have cC:=aI Q
  cbv;rw [he];cbv
  rw [t4]
  by_cases h1:12<n
  ·(first|rw [zqu h1]at t0|rw [zqt h1]at t0|rw [zqu (Classical.not_not.2 h1)]at t0|rw [zqt (Classical.not_not.2 h1)]at t0)
   rw [if_pos h1]at h0
   (repeat'(rw [t0];cbv))
   exact aO hF h0
  ·(first|rw [zqu h1]at t0|rw [zqt h1]at t0|rw [zqu (Classical.not_not.2 h1)]at t0|rw [zqt (Classical.not_not.2 h1)]at t0)
   rw [if_neg h1]at h0
   generalize hC:cl Q=C at cC h0
   (repeat'(rw [t0];cbv))
   by_cases hh:m<S
   all_goals
    (first|rw [zqu hh]at t1|rw [zqt hh]at t1|rw [zqu (Classical.not_not.2 hh)]at t1|rw [zqt (Classical.not_not.2 hh)]at t1)
    cases f
   all_goals
    simp only [hh,and_true,and_false,Bool.false_eq_true,if_false,if_true]at hQ
    subst hQ
    ((repeat'((first|rw [eS]|rw [t1]|refine ad hg cB ?_|refine ad hg cC ?_);cbv)))
    exact aO hF h0
 ·obtain⟨y0,y1,y2,y3,y4,y5,y6⟩:=x
  obtain⟨m,b,f⟩:=s
  have cO:=nX ⟨y0,y1,y2,y3,y4,y5,y6⟩
  have cS:=nS ⟨y0,y1,y2,y3,y4,y5,y6⟩
  rw [zqD]at h0
  simp only [cr2]at h0
  generalize ho:onB ⟨y0,y1,y2,y3,y4,y5,y6⟩=o at cO h0
  generalize hk:vM ⟨y0,y1,y2,y3,y4,y5,y6⟩=k at cS h0
  generalize hS:wrap64 (wrap64 (y0+y2)-y6)=S at h0;replace hS:=hS.symm
  generalize hT:wrap64 (wrap64 (y0+y1)+y2)=T at h0;replace hT:=hT.symm
  have eS:g .w .sub .i64 (g .w .add .i64 y0 y2) y6=S:=by rw [aG hg,cu hg,hS]
  have eT:g .w .add .i64 (g .w .add .i64 y0 y1) y2=T:=by rw [aG hg,aG hg,hT]
  have t1:g .q .gtr (S) (b)=decide ((b)<(S)):=dm hg _ _
  have t2:g .q .gtr (T) (m)=decide ((m)<(T)):=dm hg _ _
  clear hS hT ho hk hK ha
  cbv;rw [hc];cbv;refine goX hg _ z0 hy rfl ?_;cbv
  cases k
  ·(repeat'(refine ad hg cS ?_;cbv))
   exact aO hF h0
  ·rw [Bool.true_and]at h0
   cases o
   ·(repeat'((first|rw [eT]|refine ad hg cS ?_|refine ad hg cO ?_);cbv))
    by_cases hh:m<T
    ·(first|rw [zqu hh]at t2|rw [zqt hh]at t2|rw [zqu (Classical.not_not.2 hh)]at t2|rw [zqt (Classical.not_not.2 hh)]at t2)
     (repeat'((first|rw [eT]|rw [t2]|rw [e1]);cbv))
     exact hB ((T,b,f)) _ _ ⟨(by simpa [hh]using h0),zpt⟩ (Wk.weak (wkG [] zr5 trivial (by decide) aB))
    ·(first|rw [zqu hh]at t2|rw [zqt hh]at t2|rw [zqu (Classical.not_not.2 hh)]at t2|rw [zqt (Classical.not_not.2 hh)]at t2)
     (repeat'((first|rw [t2]|rw [e1]);cbv))
     exact hB ((m,b,f)) _ _ ⟨(by simpa [hh]using h0),zpt⟩ (Wk.weak (wkG [] zr5 trivial (by decide) aB))
   ·(repeat'((first|rw [eS]|refine ad hg cS ?_|refine ad hg cO ?_);cbv))
    by_cases hh:b<S
    all_goals
     (first|rw [zqu hh]at t1|rw [zqt hh]at t1|rw [zqu (Classical.not_not.2 hh)]at t1|rw [zqt (Classical.not_not.2 hh)]at t1)
     cases f
    all_goals
     try cbv
     ((repeat'((first|rw [t1]|rw [e1]);cbv)))
     first
      |(exact hB ((m,S,true)) _ _ ⟨(by simpa [hh]using h0),zpt⟩ (Wk.weak (wkG [] zr5 trivial (by decide) aB)))
      |(exact hB ((m,b,true)) _ _ ⟨(by simpa [hh]using h0),zpt⟩ (Wk.weak (wkG [] zr5 trivial (by decide) aB)))
def rK(room:Int):List aC->aC×Bool
 | []=>(⟨0,0,0⟩,false)
 |r::rs=>if room= -1\/r.room<=room then(r,true)else rK room rs
theorem yM(room:Int):∀rs:List aC,wnt rs room=(cl (rK room rs).1.wide,cl (rK room rs).1.high)
 | []=>rfl
 |r::rs=>by
  unfold wnt rK
  by_cases h:room= -1\/r.room<=room
  ·rw [if_pos h,List.find?_cons_of_pos (by simpa using h)]
  ·rw [if_neg h,List.find?_cons_of_neg (by simpa using h)]
   exact yM room rs
theorem Gj(room:Int):∀rs:List aC,(rK room rs).2=false->(rK room rs).1=⟨0,0,0⟩
 | [],_=>rfl
 |r::rs,h=>by
  unfold rK at h⊢
  by_cases h1:room= -1\/r.room<=room
  ·rw [if_pos h1]at h;cases h
  ·rw [if_neg h1]at h⊢;exact Gj room rs h
theorem ve{F:List AT->EH->Prop}{eh:EH}{a b c:Int}{q:Bool}{R:aC×Bool}(hF:F=lv 0 (fun res h'=>∃rows,h'=rows.map .live/\(res= .tup [.agg [.J R.1.room,.J R.1.wide,.J R.1.high],.c (.B R.2)]/\rows=[])))(h:(⟨⟨a,b,c⟩,q⟩:aC×Bool)=R):F [.agg [.J a,.J b,.J c],.c (.B q)] eh:=by
 subst h;exact gf hF rfl ⟨rfl,rfl⟩
theorem uq(rs:List aC)(room:Int)(hl:rs.length<=1048576):PC0 231 [.agg [.view (vw aC.c rs)],ai room] (.tup [.agg [.imm (.int .i64 (rK room rs).1.room),.imm (.int .i64 (rK room rs).1.wide),.imm (.int .i64 (rK room rs).1.high)],.c (.imm (.bool (rK room rs).2))]):=by
 obtain⟨V,hV⟩:=nmE (vw aC.c rs)
 have ha:=lmV hV
 obtain⟨R,hR⟩:=nmE (rK room rs)
 rw [<-hV,<-hR]
 refine aV func231 fun g F hg hF=> ?_
 have t0:g .q .eql (room) ((-1))=decide ((room)=((-1))):=by rw [bj hg];exact zqn _ _
 cbv
 refine aQ hg bq (by kernel_rfl) V (fun x=>lc (aC.c x)) rs hV hl (fun z(s:Unit)=>[(1,.i (room)),(4,.p 0),(9,.v V),(10,.i (g .ln V)),(11,.i (z))]) (fun z(s:Unit)=>[.bx 147 3 [.J 0,.J 0,.J 0]]) (fun z(s:Unit)=>True) (fun(s:Unit) rest=>rK room rest) (R) () hR.symm trivial (Wk.weak (wkG [some 1] zr5 ⟨wqE rfl rfl,zpt⟩ (by decide) aB)) (fun z s B hz h0 hi he=> ?_) (fun z s x rest B z0 z1 z2 hx hy h0 hi hc e1 hB=> ?_)
 ·cbv;rw [he];cbv
  exact ve hF h0
 ·obtain⟨y0,y1,y2⟩:=x
  simp only [rK]at h0
  have t1:g .q .leq (y0) (room)=decide ((y0)<=(room)):=ja hg _ _
  cbv;rw [hc];cbv;refine goX hg _ z0 hy rfl ?_;cbv
  by_cases h1:room= -1
  ·(first|rw [zqu h1]at t0|rw [zqt h1]at t0|rw [zqu (Classical.not_not.2 h1)]at t0|rw [zqt (Classical.not_not.2 h1)]at t0)
   (repeat'(rw [t0];cbv))
   exact ve hF (by simpa [h1]using h0)
  ·(first|rw [zqu h1]at t0|rw [zqt h1]at t0|rw [zqu (Classical.not_not.2 h1)]at t0|rw [zqt (Classical.not_not.2 h1)]at t0)
   by_cases h2:y0<=room
   ·(first|rw [zqu h2]at t1|rw [zqt h2]at t1|rw [zqu (Classical.not_not.2 h2)]at t1|rw [zqt (Classical.not_not.2 h2)]at t1)
    (repeat'((first|rw [t0]|rw [t1]);cbv))
    exact ve hF (by simpa [h1,h2]using h0)
   ·(first|rw [zqu h2]at t1|rw [zqt h2]at t1|rw [zqu (Classical.not_not.2 h2)]at t1|rw [zqt (Classical.not_not.2 h2)]at t1)
    (repeat'((first|rw [t0]|rw [t1]|rw [e1]);cbv))
    exact hB (()) _ _ ⟨(by simpa [h1,h2]using h0),zpt⟩ (Wk.weak (wkG [some _] zr5 ⟨wqE rfl rfl,zpt⟩ (by decide) aB))
theorem tG(rs:List aC)(room:Int)(hl:rs.length<=1048576):PC0 226 [.agg [.view (vw aC.c rs)],ai room] (.tup [.agg [.imm (.int .i64 (rK room rs).1.room),.imm (.int .i64 (rK room rs).1.wide),.imm (.int .i64 (rK room rs).1.high)],.c (.imm (.bool (rK room rs).2))]):=by
 obtain⟨V,hV⟩:=nmE (vw aC.c rs)
 have ha:=lmV hV
 obtain⟨R,hR⟩:=nmE (rK room rs)
 rw [<-hV,<-hR]
 refine aV func226 fun g F hg hF=> ?_
 have t0:g .q .eql (room) ((-1))=decide ((room)=((-1))):=by rw [bj hg];exact zqn _ _
 cbv
 refine aQ hg bq (by kernel_rfl) V (fun x=>lc (aC.c x)) rs hV hl (fun z(s:Unit)=>[(1,.i (room)),(2,.p 0),(4,.p 1),(6,.i (z))]) (fun z(s:Unit)=>[.bx 67 1 [.view V],.bx 147 3 [.J 0,.J 0,.J 0]]) (fun z(s:Unit)=>True) (fun(s:Unit) rest=>rK room rest) (R) () hR.symm trivial (Wk.weak (wkG [some _,some _] zr4 ⟨wqE rfl rfl,wqE rfl rfl,zpt⟩ (by decide) aB)) (fun z s B hz h0 hi he=> ?_) (fun z s x rest B z0 z1 z2 hx hy h0 hi hc e1 hB=> ?_)
 ·cbv;rw [he];cbv
  exact ve hF h0
 ·obtain⟨y0,y1,y2⟩:=x
  simp only [rK]at h0
  have t1:g .q .leq (y0) (room)=decide ((y0)<=(room)):=ja hg _ _
  cbv
  rw [hc]
  cbv
  by_cases h1:room= -1
  ·(first|rw [zqu h1]at t0|rw [zqt h1]at t0|rw [zqu (Classical.not_not.2 h1)]at t0|rw [zqt (Classical.not_not.2 h1)]at t0)
   (repeat'((first|rw [t0]|refine goX hg _ (by omega) hy rfl ?_);cbv))
   exact ve hF (by simpa [h1]using h0)
  ·(first|rw [zqu h1]at t0|rw [zqt h1]at t0|rw [zqu (Classical.not_not.2 h1)]at t0|rw [zqt (Classical.not_not.2 h1)]at t0)
   by_cases h2:y0<=room
   ·(first|rw [zqu h2]at t1|rw [zqt h2]at t1|rw [zqu (Classical.not_not.2 h2)]at t1|rw [zqt (Classical.not_not.2 h2)]at t1)
    (repeat'((first|rw [t0]|rw [t1]|refine goX hg _ (by omega) hy rfl ?_);cbv))
    exact ve hF (by simpa [h1,h2]using h0)
   ·(first|rw [zqu h2]at t1|rw [zqt h2]at t1|rw [zqu (Classical.not_not.2 h2)]at t1|rw [zqt (Classical.not_not.2 h2)]at t1)
    (repeat'((first|rw [t0]|rw [t1]|rw [e1]|refine goX hg _ (by omega) hy rfl ?_);cbv))
    exact hB (()) _ _ ⟨(by simpa [h1,h2]using h0),zpt⟩ (Wk.weak (wkG [some _,some _] zr4 ⟨wqE rfl rfl,wqE rfl rfl,zpt⟩ (by decide) aB))
theorem sG(rs:List aC)(room:Int)(hl:rs.length<=1048576):PC0 171 [.agg [.view (vw aC.c rs)],ai room] (.tup [ai (wnt rs room).1,ai (wnt rs room).2]):=by
 have cR:=uq rs room hl
 rw [yM]
 have ha:=Gj room rs
 obtain⟨V,hV⟩:=nmE (vw aC.c rs)
 have hb:=lmV hV
 rw [<-hV]at cR
 rw [<-hV]
 generalize hR:rK room rs=R at cR ha
 obtain⟨⟨a,b,c⟩,q⟩:=R
 dsimp only at *
 have c1:=aM b
 have c2:=aM c
 refine aV func171 fun g F hg hF=> ?_
 cbv
 repeat'(refine ad hg cR ?_;cbv)
 cases q
 ·have h:=ha rfl
  simp only [aC.mk.injEq]at h
  obtain⟨rfl,rfl,rfl⟩:=h
  try cbv
  exact sL hF ⟨rfl,rfl⟩
 ·generalize hB:cl b=B at c1 hF
  generalize hC:cl c=C at c2 hF
  try cbv
  repeat'((first|refine aa hg c1 ?_|refine aa hg c2 ?_);cbv)
  exact sL hF ⟨rfl,rfl⟩
theorem rB(rs:List aC)(room:Int)(hl:rs.length<=1048576):PC0 149 [.agg [.view (vw aC.c rs)],ai room] (.tup [ai (wnt rs room).1,ai (wnt rs room).2]):=by
 have cR:=tG rs room hl
 rw [yM]
 obtain⟨V,hV⟩:=nmE (vw aC.c rs)
 have ha:=lmV hV
 rw [<-hV]at cR
 rw [<-hV]
 generalize hR:rK room rs=R at cR
 obtain⟨⟨a,b,c⟩,q⟩:=R
 dsimp only at *
 have c1:=aI b
 have c2:=aI c
 generalize hB:cl b=B at c1
 generalize hC:cl c=C at c2
 refine aV func149 fun g F hg hF=> ?_
 cbv
 repeat'((first|refine ad hg cR ?_|refine aa hg c1 ?_|refine aa hg c2 ?_);cbv)
 exact sL hF ⟨rfl,rfl⟩
theorem nz(cs:List Int)(gap inner ct:Int)(hl:cs.length<=64):bS prog 267 [.c (.view (vw ak cs)),ai gap,ai inner,ai ct] fun res hp=>res= .o 0/\hp=[⟨3,1,vw ak (yE cs gap inner ct)⟩]:=by
 have cT:=gp cs gap (by omega)
 have cA:=lZ cs gap inner (by omega)
 have cE:=ef (wrap64 (inner-crt cs gap)) (cs.length:Int)
 have hb:(evn (wrap64 (inner-crt cs gap)) (cs.length:Int)).length=cs.length:=by rw [il];have:=oT (many:=(cs.length:Int)) (by omega) (by omega);omega
 obtain⟨R,hR⟩:=nmE (yE cs gap inner ct)
 rw [<-hR]
 unfold yE at hR
 generalize hT:crt cs gap=T at cT cE hb hR
 generalize hD:wrap64 (inner-T)=D at cE hb hR;replace hD:=hD.symm
 generalize hA:acr cs gap inner=A at cA hR
 generalize hev:evn D (cs.length:Int)=ev at cE hb hR
 obtain⟨V,hV⟩:=nmE (vw ak cs)
 have hC:=lmV hV
 have kV:=kmV (k:=1) hV fun _=>rfl
 have hr:aN V=(cs.length:Int):=by rw [hV,aU]
 have pV:=pmV hV
 rw [<-hV]at cT cA
 rw [<-hV]
 generalize hn:(cs.length:Int)=n at hr cE
 have kV:=kmV (k:=1) hV fun _=>rfl
 have ha:ev.length=cs.length->(cs.zip ev).length=cs.length:=fun h=>by rw [zqB,h];omega
 replace ha:=ha hb
 have hm:(vw ak ev)=(cs.zip ev).map (fun t=>lc (ak t.2)):=by
  have:∀(a b:List Int),b.length=a.length->vw ak b=(a.zip b).map (fun t=>lc (ak t.2)):=by
   intro a
   induction a with
   |nil=>intro b h;rw [zqv h];rfl
   |cons x a ih=>
    intro b h
    cases b with
    |nil=>simp at h
    |cons y b=>rw [List.zip_cons_cons,zqA,<-ih b (by simpa using h)];rfl
  exact this _ _ hb
 have hu:∀{i:Nat}{t:Int×Int},(cs.zip ev)[i]? =some t->cs[i]? =some t.1:=fun{i t} h=>by
  have:=List.getElem?_zip_eq_some.1 h
  exact this.1
 generalize ho:cs.zip ev=zs at ha hm hR;replace ho:=ho.symm
 generalize hY:vw ak ev=Y at cE hm;replace hY:=hY.symm
 rw [<-ho]at hu
 have hL:0<=n/\n<=64:=by omega
 have hH:zs.length<=1048576:=by omega
 refine aV func267 fun g F hg hF=> ?_
 have t4:g .ln V=n:=by rw [bz hg,hr]
 have e1:g .w .sub .i64 inner T=D:=by rw [cu hg,hD]
 have q1:g .q .neq (ct) (1)=decide (¬(ct)=(1)):=by rw [bC hg];exact dQ _ _
 have q2:g .q .leq (D) (0)=decide ((D)<=(0)):=ja hg _ _
 have hh:∀e0,R=cs->F [.c (.own 1)] [e0,.rw ⟨3,1,V⟩]:=fun e0 h=>by rw [h,<-hV]at hF;exact bN hF rfl pV
 have hE:V.length<=1048576:=by rw [hC];omega
 cases hA2:A
 ·rw [hA2]at cA hR
  simp only [Bool.false_eq_true,false_and,if_false]at hR
  cbv
  refine goN hg ⟨kV,(by show(0+V.length)*8<=_;omega),(by show 0+V.length<=_;omega)⟩ ?_
  cbv
  rw [fI hg]
  dsimp only [List.nil_append]
  cbv
  (repeat'(refine ad hg cA ?_;cbv))
  exact hh _ hR
 rw [hA2]at cA hR
 by_cases h1:ct=1
 rotate_left
 ·rw [zqu h1]at q1
  simp only [h1,false_and,and_false,if_false]at hR
  cbv
  refine goN hg ⟨kV,(by show(0+V.length)*8<=_;omega),(by show 0+V.length<=_;omega)⟩ ?_
  cbv
  rw [fI hg]
  dsimp only [List.nil_append]
  cbv
  (repeat'((first|rw [e1]|rw [q1]|refine ad hg cT ?_|refine ad hg cA ?_);cbv))
  exact hh _ hR
 rw [zqt (Classical.not_not.2 h1)]at q1
 by_cases h2:0<D
 rotate_left
 ·rw [zqu (show D<=0 by omega)]at q2
  simp only [h1,h2,and_false,if_false]at hR
  cbv
  refine goN hg ⟨kV,(by show(0+V.length)*8<=_;omega),(by show 0+V.length<=_;omega)⟩ ?_
  cbv
  rw [fI hg]
  dsimp only [List.nil_append]
  cbv
  (repeat'((first|rw [e1]|rw [q1]|rw [q2]|refine ad hg cT ?_|refine ad hg cA ?_);cbv))
  exact hh _ hR
 rw [zqt (show¬D<=0 by omega)]at q2
 simp only [h1,h2,and_self,if_true]at hR
 replace hV:V=vw ak cs:=hV
 cbv
 refine goN hg ⟨kV,(by show(0+V.length)*8<=_;omega),(by show 0+V.length<=_;omega)⟩ ?_
 cbv
 rw [fI hg]
 dsimp only [List.nil_append]
 cbv
 (repeat'((first|rw [e1]|rw [q1]|rw [q2]|rw [t4]|refine ad hg cT ?_|refine ad hg cA ?_|refine ad hg cE ?_);cbv))
 have hY:Y=zs.map (fun t=>lc (ak t.2)):=hm
 refine aQ hg bq (by kernel_rfl) Y (fun t=>lc (ak t.2)) zs hY hH (fun z(s:List Int×LLA)=>[(9,.o 0),(11,.v Y),(12,.i (z))]) (fun z(s:List Int×LLA)=>[.rw ⟨3,1,s.2⟩]) (fun z(s:List Int×LLA)=>s.2=vw ak (s.1++cs.drop z.toNat)/\s.1.length=z.toNat) (fun(s:List Int×LLA) rest=>s.1++rest.map (fun p=>wrap64 (p.1+p.2))) (R) ([],V) (by rw [hR];rfl) ⟨by rw [hV];rfl,rfl⟩ (Wk.weak (wkG [some 1] zr3 ⟨wqE rfl pV,zpt⟩ (by decide) aB)) (fun z s B hz h0 hi he=> ?_) (fun z s x rest B z0 z1 z2 hx hy h0 hi hc e1 hB=> ?_)
 ·obtain⟨hk,E⟩:=s
  obtain⟨i1,i2⟩:=hi
  dsimp only at i1 i2 h0
  have pE:=pmV i1
  have:cs.drop z.toNat=[]:=List.drop_eq_nil_of_le (by rw [<-ha,hz,hY,ao,zql];omega)
  have hM:z=(cs.length:Int):=by rw [hz,hY,ao,zql,ha]
  obtain rfl:hk=R:=by simpa using h0
  rw [this,zpr]at i1
  rw [<-i1]at hF
  have eE:g .ln E=g .ln Y:=by rw [bz hg,bz hg,i1,hY,aU,ao,zql,ha];omega
  cbv
  rw [eE,he]
  cbv
  exact bN hF rfl pE
 ·obtain⟨hk,E⟩:=s
  obtain⟨x0,x1⟩:=x
  obtain⟨i1,i2⟩:=hi
  dsimp only at i1 i2 h0 hy
  have hs:=hu hx
  have hI:z.toNat<cs.length:=(zqb.1 hs).1
  have hv:z<aN E:=by rw [i1,aU];simp;omega
  have hf:E[z.toNat]? =some [.J x0]:=by rw [i1];exact aZ (by rw [wT i2];exact hs)
  have hd:E.set z.toNat [.J (wrap64 (x0+x1))]=vw ak ((hk++[wrap64 (x0+x1)])++cs.drop (z.toNat+1)):=by rw [i1,<-vN i2 hI,<-ny];rfl
  have e2:g .w .add .i64 x0 x1=wrap64 (x0+x1):=aG hg _ _
  have hw:(hk++[wrap64 (x0+x1)])++rest.map (fun p=>wrap64 (p.1+p.2))=R:=by rw [<-h0];simp
  have nl:(hk++[wrap64 (x0+x1)]).length=(z+1).toNat:=by simp;omega
  rw [show z.toNat+1=(z+1).toNat by omega]at hd
  generalize wrap64 (x0+x1)=Q at *
  obtain⟨E2,hq⟩:∃E2,E2=E.set z.toNat [.J Q]:=⟨_,rfl⟩
  rw [<-hq]at hd
  have hJ:=pmV hd
  have eE:g .ln E=g .ln Y:=by rw [bz hg,bz hg,ao,ao,i1,hY,ar,zql];simp;omega
  cbv
  rw [eE,hc]
  cbv
  refine goY hg z0 hv fun j hj hK=> ?_
  cbv
  refine⟨_,by rw [hj];exact hf,?_⟩
  cbv
  refine goX hg _ z0 hy rfl ?_
  cbv
  rw [e2]
  refine goY hg z0 hv fun j2 ht hG=> ?_
  cbv
  refine goN hg ⟨_,by rw [ht];exact hf,rfl⟩ ?_
  cbv
  rw [jC hg,ht,e1]
  dsimp only [AT.cells]
  rw [<-hq]
  exact hB ((hk++[Q],E2)) _ _ ⟨hw,⟨hd,nl⟩⟩ (Wk.weak (wkG [some 0] zr3 ⟨wqE rfl hJ,zpt⟩ (by decide) aB))
def Dx(xs:List af)(i:Int):Option af:=if 0<=i then xs[i.toNat]? else none
theorem Dv(xs:List af)(ln:List Int):lit xs ln=ln.filterMap (Dx xs):=rfl
theorem Dw{xs:List af}{i:Int}{n:Int}(hn:n=(xs.length:Int)):(decide (0<=i)&&decide (i<=n-1))=true->∃x,xs[i.toNat]? =some x/\Dx xs i=some x/\0<=i:=fun h=>by
 simp only [zqs,zqp]at h
 have hx:=zqc (show i.toNat<xs.length by omega)
 exact⟨_,hx,by unfold Dx;rw [if_pos h.1,hx],h.1⟩
theorem Ba{xs:List af}{i:Int}{n:Int}(hn:n=(xs.length:Int)):(decide (0<=i)&&decide (i<=n-1))=false->Dx xs i=none:=fun h=>by
 simp only [Bool.and_eq_false_iff,zqo]at h
 unfold Dx
 split
 ·exact zqz (by omega)
 ·rfl
theorem lk(xs:List af)(ln:List Int)(hl:xs.length<=1048576)(hn:ln.length<=1048576):bS prog 184 [.c (.view (vw af.c xs)),.c (.view (vw ak ln))] fun res hf=>res= .o 0/\hf=[⟨237,9,vw af.c (lit xs ln)⟩]:=by
 obtain⟨R,hR⟩:=nmE (lit xs ln)
 rw [<-hR]
 rw [Dv]at hR
 have hj:=fun{i:Int}{x:af}(h:xs[i.toNat]? =some x)=>aZ (c:=af.c) h
 generalize hV:vw af.c xs=V at hj;replace hV:=hV.symm
 obtain⟨n,hd⟩:∃n:Int,n=(xs.length:Int):=⟨_,rfl⟩
 have hm:aN V=n:=by rw [hV,aU,hd]
 obtain⟨W,hW⟩:=nmE (vw ak ln)
 have ht:=lmV hW
 rw [<-hW]
 have cI:=fun i=>eD i 0 (n-1)
 refine aV func184 fun g F hg hF=> ?_
 have t4:g .ln V=n:=by rw [bz hg,hm]
 have e0:g .w .sub .i64 n 1=n-1:=by rw [cu hg];exact wr1 (by omega) (by omega)
 cbv
 refine aQ hg bq (by kernel_rfl) W (fun x=>lc (ak x)) ln hW hn (fun z(s:List af×LLA)=>[(0,.v V),(5,.o 0),(8,.v W),(9,.i (g .ln W)),(10,.i (z))]) (fun z(s:List af×LLA)=>[.rw ⟨237,9,s.2⟩]) (fun z(s:List af×LLA)=>s.2=vw af.c s.1/\(s.1.length:Int)<=z) (fun(s:List af×LLA) rest=>s.1++rest.filterMap (Dx xs)) (R) ([],[]) (by rw [hR];rfl) ⟨rfl,zpc 0⟩ (Wk.weak (wkG [none] zr5 ⟨⟨_,rfl,rfl⟩,zpt⟩ (by decide) aB)) (fun z s B hz h0 hi he=> ?_) (fun z s x rest B z0 z1 z2 hx hy h0 hi hc e1 hB=> ?_)
 ·obtain⟨ha,E⟩:=s
  obtain⟨i1,i2⟩:=hi
  dsimp only at i1 i2 h0
  have pE:=pmV i1
  obtain rfl:ha=R:=by simpa using h0
  rw [<-i1]at hF
  cbv;rw [he];cbv
  exact bN hF rfl pE
 ·obtain⟨ha,E⟩:=s
  obtain⟨i1,i2⟩:=hi
  dsimp only at i1 i2 h0
  have hk:E.length<=1048576:=by rw [i1,ar];omega
  have pE:=pmV i1
  have cx:=cI x
  have h1:= @Dw xs x n hd
  have h2:= @Ba xs x n hd
  obtain⟨b,hb⟩:=nmE ((decide (0<=x)&&decide (x<=n-1)))
  rw [<-hb]at h1 h2 cx
  clear hb
  generalize n-1=n1 at *
  cases b
  ·have h3:ha++rest.filterMap (Dx xs)=R:=by rw [<-h0,List.filterMap_cons,h2 rfl]
   cbv;rw [hc];cbv;refine goX hg _ z0 hy rfl ?_;cbv
   (repeat'((first|rw [t4]|rw [e0]|rw [e1]|refine ad hg cx ?_);cbv))
   exact hB ((ha,E)) _ _ ⟨h3,⟨i1,by dsimp only;omega⟩⟩ (Wk.weak (wkG [some _] zr5 ⟨wqE rfl pE,zpt⟩ (by decide) aB))
  ·obtain⟨⟨y0,y1,y2,y3,y4,y5,y6,y7,y8⟩,ho,hp,hq⟩:=h1 rfl
   have hr:=hj ho
   have h3:(ha++[⟨y0,y1,y2,y3,y4,y5,y6,y7,y8⟩])++rest.filterMap (Dx xs)=R:=by rw [<-h0,List.filterMap_cons,hp];simp
   have aE:E++[[.J y0,.J y1,.J y2,.J y3,.J y4,.J y5,.J y6,.B y7,.B y8]]=vw af.c (ha++[⟨y0,y1,y2,y3,y4,y5,y6,y7,y8⟩]):=by rw [i1,bk];rfl
   obtain⟨E2,hh⟩:∃E2,E2=E++[[.J y0,.J y1,.J y2,.J y3,.J y4,.J y5,.J y6,.B y7,.B y8]]:=⟨_,rfl⟩
   rw [<-hh]at aE
   have hs:=pmV aE
   have nl:((ha++[(⟨y0,y1,y2,y3,y4,y5,y6,y7,y8⟩:af)]).length:Int)<=z+1:=by simp;omega
   cbv;rw [hc];cbv;refine goX hg _ z0 hy rfl ?_;cbv
   (repeat'((first|rw [t4]|rw [e0]|rw [e1]|refine ad hg cx ?_|refine goX hg _ hq hr rfl ?_|refine dg hg rfl (by decide) hk ?_;cbv;rw [fI hg,<-hh]);cbv))
   exact hB ((ha++[⟨y0,y1,y2,y3,y4,y5,y6,y7,y8⟩],E2)) _ _ ⟨h3,⟨aE,nl⟩⟩ (Wk.weak (wkG [some 2] zr5 ⟨wqE rfl hs,zpt⟩ (by decide) aB))
theorem qu(xs:List af)(ln:List Int)(hl:xs.length<=1048576)(hn:ln.length<=1048576):bS prog 219 [.c (.view (vw af.c xs)),.c (.view (vw ak ln))] fun res hf=>res= .o 0/\hf=[⟨237,9,vw af.c (lit xs ln)⟩]:=by
 obtain⟨R,hR⟩:=nmE (lit xs ln)
 rw [<-hR]
 rw [Dv]at hR
 have hj:=fun{i:Int}{x:af}(h:xs[i.toNat]? =some x)=>aZ (c:=af.c) h
 generalize hV:vw af.c xs=V at hj;replace hV:=hV.symm
 obtain⟨n,hd⟩:∃n:Int,n=(xs.length:Int):=⟨_,rfl⟩
 have hm:aN V=n:=by rw [hV,aU,hd]
 obtain⟨W,hW⟩:=nmE (vw ak ln)
 have ht:=lmV hW
 rw [<-hW]
 have cI:=fun i=>db i 0 (n-1)
 refine aV func219 fun g F hg hF=> ?_
 have t4:g .ln V=n:=by rw [bz hg,hm]
 have e0:g .w .sub .i64 n 1=n-1:=by rw [cu hg];exact wr1 (by omega) (by omega)
 cbv
 refine aQ hg bq (by kernel_rfl) W (fun x=>lc (ak x)) ln hW hn (fun z(s:List af×LLA)=>[(0,.v V),(1,.v W),(5,.o 0),(6,.i (z))]) (fun z(s:List af×LLA)=>[.rw ⟨237,9,s.2⟩]) (fun z(s:List af×LLA)=>s.2=vw af.c s.1/\(s.1.length:Int)<=z) (fun(s:List af×LLA) rest=>s.1++rest.filterMap (Dx xs)) (R) ([],[]) (by rw [hR];rfl) ⟨rfl,zpc 0⟩ (Wk.weak (wkG [some 0] zr4 ⟨wqE rfl rfl,zpt⟩ (by decide) aB)) (fun z s B hz h0 hi he=> ?_) (fun z s x rest B z0 z1 z2 hx hy h0 hi hc e1 hB=> ?_)
 ·obtain⟨ha,E⟩:=s
  obtain⟨i1,i2⟩:=hi
  dsimp only at i1 i2 h0
  have pE:=pmV i1
  obtain rfl:ha=R:=by simpa using h0
  rw [<-i1]at hF
  cbv;rw [he];cbv
  exact bN hF rfl pE
 ·obtain⟨ha,E⟩:=s
  obtain⟨i1,i2⟩:=hi
  dsimp only at i1 i2 h0
  have hk:E.length<=1048576:=by rw [i1,ar];omega
  have pE:=pmV i1
  have cx:=cI x
  have h1:= @Dw xs x n hd
  have h2:= @Ba xs x n hd
  obtain⟨b,hb⟩:=nmE ((decide (0<=x)&&decide (x<=n-1)))
  rw [<-hb]at h1 h2 cx
  clear hb
  generalize n-1=n1 at *
  cases b
  ·have h3:ha++rest.filterMap (Dx xs)=R:=by rw [<-h0,List.filterMap_cons,h2 rfl]
   cbv;rw [hc];cbv;refine goX hg _ z0 hy rfl ?_;cbv
   (repeat'((first|rw [t4]|rw [e0]|rw [e1]|refine ad hg cx ?_);cbv))
   exact hB ((ha,E)) _ _ ⟨h3,⟨i1,by dsimp only;omega⟩⟩ (Wk.weak (wkG [some _] zr4 ⟨wqE rfl pE,zpt⟩ (by decide) aB))
  ·obtain⟨⟨y0,y1,y2,y3,y4,y5,y6,y7,y8⟩,ho,hp,hq⟩:=h1 rfl
   have hr:=hj ho
   have h3:(ha++[⟨y0,y1,y2,y3,y4,y5,y6,y7,y8⟩])++rest.filterMap (Dx xs)=R:=by rw [<-h0,List.filterMap_cons,hp];simp
   have aE:E++[[.J y0,.J y1,.J y2,.J y3,.J y4,.J y5,.J y6,.B y7,.B y8]]=vw af.c (ha++[⟨y0,y1,y2,y3,y4,y5,y6,y7,y8⟩]):=by rw [i1,bk];rfl
   obtain⟨E2,hh⟩:∃E2,E2=E++[[.J y0,.J y1,.J y2,.J y3,.J y4,.J y5,.J y6,.B y7,.B y8]]:=⟨_,rfl⟩
   rw [<-hh]at aE
   have hs:=pmV aE
   have nl:((ha++[(⟨y0,y1,y2,y3,y4,y5,y6,y7,y8⟩:af)]).length:Int)<=z+1:=by simp;omega
   cbv;rw [hc];cbv;refine goX hg _ z0 hy rfl ?_;cbv
   (repeat'((first|rw [t4]|rw [e0]|rw [e1]|refine ad hg cx ?_|refine goX hg _ (by omega) hy rfl ?_|refine goX hg _ hq hr rfl ?_|refine dg hg rfl (by decide) hk ?_;cbv;rw [fI hg,<-hh]);cbv))
   exact hB ((ha++[⟨y0,y1,y2,y3,y4,y5,y6,y7,y8⟩],E2)) _ _ ⟨h3,⟨aE,nl⟩⟩ (Wk.weak (wkG [some 2] zr4 ⟨wqE rfl hs,zpt⟩ (by decide) aB))
theorem ij(xs:List af)(ln:List Int)(hl:xs.length<=1048576)(hn:ln.length<=1048576):PC0 184 [.c (.view (vw af.c xs)),.c (.view (vw ak ln))] (.t (.c (.view (vw af.c (lit xs ln))))):=yH (lk xs ln hl hn) fun _=>rfl
theorem ic(xs:List af)(ln:List Int)(hl:xs.length<=1048576)(hn:ln.length<=1048576):PC0 219 [.c (.view (vw af.c xs)),.c (.view (vw ak ln))] (.t (.c (.view (vw af.c (lit xs ln))))):=yH (qu xs ln hl hn) fun _=>rfl
def lnA(l:List Int):List AC:=[.view (vw ak l)]
theorem Ji(ls:List (List Int)):∀y∈vwA lnA ls,y.length=1:=BQ (c:=lnA) (k:=1) fun _=>rfl
theorem Ds(ls:List (List Int)):∀y∈vwA lnA ls,y.all dat=true:=o3 (c:=lnA) fun _=>rfl
theorem jQ(ls:List (List Int)):ay (vwA lnA ls)=true:=lA (c:=lnA) (fun _=>rfl) ls
theorem o1(c:α->List AC)(xs:List α)(x:α):vwA c (xs++[x])=vwA c xs++[c x]:=by simp [vwA]
theorem Aw{E V:LLA}{q:Nat}(hp:ay E=true):E++[[AC.view V]]=(E++[[AC.own q]]).map (·.map (AC.seal (sl1 q V))):=by
 rw [List.map_append,<-(bJ hp).1]
 simp [AC.seal,sl1]
theorem Av{E V:LLA}{q j:Nat}(hp:ay E=true):E.set j [AC.view V]=(E.set j [AC.own q]).map (·.map (AC.seal (sl1 q V))):=by
 rw [List.map_set,<-(bJ hp).1]
 simp [AC.seal,sl1]
theorem Dr(xs:List af)(gap room:Int)(one:Bool)(i:Int):lnS xs gap room one [] i=[[i]]:=rfl
theorem AZ(xs:List af)(gap room:Int)(one:Bool)(o:List (List Int))(l:List Int)(i:Int):lnS xs gap room one (o++[l]) i=if one=true\/lou xs gap (l++[i])<=room then o++[l++[i]]else(o++[l])++[[i]]:=by
 unfold lnS
 rw [List.getLast?_append,List.getLast?_singleton]
 simp only [Option.some_or,List.dropLast_concat]
theorem Ar(o:List α)(x y:α):(o++[x]).set o.length y=o++[y]:=by simp
theorem ur(xs:List af)(gap room:Int)(wr:Bool)(hl:xs.length<=1048576):bS prog 237 [.c (.view (vw af.c xs)),ai gap,ai room,abl wr] fun res ht=>res= .o 0/\ht=[⟨24,1,vwA lnA (lns xs gap room wr)⟩]:=by
 have cO:=jB xs hl
 have cI:=fun ln hn=>lk xs ln hl hn
 have cH:=fun(ys:List af) hy=>iB ys hy
 have cU:=fun(ys:List af) hy=>fH ys (ys.map hyp) gap hy (by rw [zql];exact hy)
 have cC:=fun l hl=>iY l hl
 obtain⟨R,hR⟩:=nmE (lns xs gap room wr)
 rw [<-hR]
 unfold lns at hR
 generalize hI:er xs=I at cO hR
 generalize hS:vwA lnA R=S;replace hS:=hS.symm
 obtain⟨V,hV⟩:=nmE (vw af.c xs)
 have hZ:=lmV hV
 rw [<-hV]at cO cI
 rw [<-hV]
 obtain⟨n,hn⟩:∃n:Int,n=(xs.length:Int):=⟨_,rfl⟩
 have h2:aN V=n:=by rw [hV,aU,hn]
 obtain⟨one,hf⟩:=nmE ((!wr||(decide (room<0)|| !I)))
 rw [<-hf]at hR
 refine aV func237 fun g F hg hF=> ?_
 have q0:g .q .lss (room) (0)=decide ((room)<(0)):=ba hg _ _
 cases wr
 case' false=>
  have ha:one=true:=hf
  cbv
 case' true=>
  by_cases h0:room<0
  case' pos=>
   have ha:one=true:=by rw [hf,zqu h0];rfl
   (first|rw [zqu h0]at q0|rw [zqt h0]at q0|rw [zqu (Classical.not_not.2 h0)]at q0|rw [zqt (Classical.not_not.2 h0)]at q0)
   cbv
   (repeat'(rw [q0];cbv))
  case' neg=>
   (first|rw [zqu h0]at q0|rw [zqt h0]at q0|rw [zqu (Classical.not_not.2 h0)]at q0|rw [zqt (Classical.not_not.2 h0)]at q0)
   cases I
   case' false=>
    have ha:one=true:=by rw [hf];simp
    cbv
    (repeat'((first|rw [q0]|refine ad hg cO ?_);cbv))
   case' true=>
    have ha:one=false:=by rw [hf,zqt h0];rfl
    cbv
    (repeat'((first|rw [q0]|refine ad hg cO ?_);cbv))
 all_goals
  refine aQ hg bq (by kernel_rfl) V (fun x=>lc (af.c x)) xs hV hl (fun z(s:List (List Int)×LLA)=>[(0,.v V),(1,.i (gap)),(2,.i (room)),(9,.o 0),(10,.t (abl (one))),(26,.v V),(27,.i (g .ln V)),(28,.i (z))]) (fun z(s:List (List Int)×LLA)=>[.rw ⟨24,1,s.2⟩]) (fun z(s:List (List Int)×LLA)=>s.2=vwA lnA s.1/\(s.1.flatten.length:Int)=z/\∀l∈s.1,l≠[]) (fun(s:List (List Int)×LLA) rest=>lnG xs gap room one s.1 (s.1.flatten.length:Int) rest) (R) ([],[]) (by rw [hR];rfl) ⟨rfl,rfl,by simp⟩ (Wk.weak (wkG [none] ⟨rfl,rfl,rfl,rfl,by rw [ha];rfl,rfl,rfl,rfl,zpt⟩ ⟨⟨_,rfl,rfl⟩,zpt⟩ (by decide) aB)) (fun z s B hz h0 hi he=> ?_) (fun z s x rest B z0 z1 z2 hx hy h0 hi hc e1 hB=> ?_)
  ·obtain⟨hh,E⟩:=s
   obtain⟨i1,i2,i3⟩:=hi
   dsimp only at i1 i2 i3 h0
   have pE:ay E=true:=by rw [i1];exact jQ _
   obtain rfl:hh=R:=h0
   rw [hS,<-i1]at hF
   cbv;rw [he];cbv
   exact bN hF rfl pE
  ·obtain⟨hh,E⟩:=s
   obtain⟨i1,i2,i3⟩:=hi
   dsimp only at i1 i2 i3 h0
   have pE:ay E=true:=by rw [i1];exact jQ _
   have hd:=wm xs gap room one hh z
   have h1:lnG xs gap room one (lnS xs gap room one hh z) ((lnS xs gap room one hh z).flatten.length:Int) rest=R:=by
    rw [<-h0,i2]
    simp only [lnG]
    rw [hd.1,zqe,zqm]
    congr 1
    omega
   have n1:((lnS xs gap room one hh z).flatten.length:Int)=z+1:=by rw [hd.1,zqe,zqm];omega
   have n2:=hd.2 i3
   have hJ:hh.length<=1048576:=by have:=kF hh i3;omega
   have hQ:E.length<=1048576:=by rw [i1,bu];exact hJ
   have hC:aN E=(hh.length:Int):=by rw [ao,i1,bu]
   clear hd h0
   rcases List.eq_nil_or_concat hh with rfl|⟨o,l,rfl⟩
   ·have hE:E=[]:=i1
    subst hE
    rw [Dr]at h1 n1 n2
    have eL:g .ln ([]:LLA)=0:=by rw [bz hg];rfl
    have eK:g .w .sub .i64 0 1= -1:=by rw [cu hg];exact wr1 (by omega) (by omega)
    have tK:g .q .geq (-1) 0=false:=by rw [i6 hg];rfl
    cbv
    rw [hc]
    cbv
    (repeat'((first|rw [eL]|rw [eK]|rw [tK]);cbv))
    refine dg hg rfl (by decide) (by decide) ?_
    cbv
    rw [fI hg,e1]
    exact hB (([[z]],[[.view [[.J z]]]])) _ _ ⟨h1,⟨rfl,n1,n2⟩⟩ (bK (sl1 1 [[.J z]]) (jL rfl (by intro x hx;simp only [zpa]at hx;subst hx;rfl) (by intro x hx;simp only [zpa]at hx;subst hx;rfl)) (Wk.weak (wkG [some 3] zr8 ⟨wqE rfl rfl,zpt⟩ (by decide) aB)))
   ·rw [List.concat_eq_append]at *
    have eL:g .ln E=(o.length:Int)+1:=by rw [bz hg,hC];simp
    have eK:g .w .sub .i64 ((o.length:Int)+1) 1=(o.length:Int):=by rw [cu hg,show(o.length:Int)+1-1=o.length by omega];exact wr1 (by omega) (by simp at hJ;omega)
    have tK:g .q .geq (o.length:Int) 0=true:=by rw [i6 hg];exact zqu (by omega)
    have hs:(o.length:Int)<aN E:=by rw [hC,zqe,zqm];omega
    have hr:0<=(o.length:Int):=by omega
    have hb:E[(o.length:Int).toNat]? =some [.view (vw ak l)]:=by rw [i1,Int.toNat_natCast];exact iq (c:=lnA) (by simp)
    generalize (o.length:Int)+1=k1 at eL eK
    obtain⟨k,hk⟩:∃k:Int,k=(o.length:Int):=⟨_,rfl⟩
    rw [<-hk]at eK tK hs hr hb
    have hW:l.length+1<=1048576:=by have:=nI (ls:=o++[l]) (l:=l) (by simp);omega
    have hu:=cC l (by omega)
    have hG:(l++[z]).length<=1048576:=by rw [zqe,zqm];exact hW
    have hq:=cI (l++[z]) hG
    have hD:(lit xs (l++[z])).length<=1048576:=zpb sm hG
    have hp:=cH _ hD
    have hm:=cU _ hD
    have hK:lou xs gap (l++[z])=wrap64 (iz (lit xs (l++[z])) ((lit xs (l++[z])).map hyp) gap):=rfl
    rw [AZ,hK]at h1 n1 n2
    obtain⟨L,hL⟩:=nmE (vw ak l)
    have iL:=imV hL
    rw [<-hL]at hu hb
    have hT:L.length<=1048576:=by rw [hL,ar];omega
    have aL:L++[[.J z]]=vw ak (l++[z]):=by rw [hL,bk];rfl
    obtain⟨L2,hw⟩:∃L2,L2=L++[[.J z]]:=⟨_,rfl⟩
    rw [<-hw]at aL
    rw [<-aL]at hq
    have hN:=kmV (k:=1) aL fun _=>rfl
    have hv:=dmV aL
    generalize hOU:wrap64 (iz (lit xs (l++[z])) ((lit xs (l++[z])).map hyp) gap)=OU at hm h1 n1 n2
    obtain⟨H,hH⟩:=nmE (vw ak ((lit xs (l++[z])).map hyp))
    have hX:H.length=((lit xs (l++[z])).map hyp).length:=by rw [hH,ar]
    have iH:=imV hH
    have kH:=kmV (k:=1) hH fun _=>rfl
    have dH:=dmV hH
    rw [<-hH]at hp hm
    obtain⟨M,hM⟩:=nmE (vw af.c (lit xs (l++[z])))
    have hY:M.length=(lit xs (l++[z])).length:=by rw [hM,ar]
    have iM:=imV hM
    have kM:=kmV (k:=9) hM fun _=>rfl
    have dM:=dmV hM
    rw [<-hM]at hq hp hm
    have aS:E.set k.toNat [.view L2]=vwA lnA (o++[l++[z]]):=by
     rw [i1,hk,Int.toNat_natCast,o1,o1]
     have:=Ar (vwA lnA o) (lnA l) (lnA (l++[z]))
     rw [bu]at this
     rw [<-this,aL];rfl
    have aA:E++[[.view [[.J z]]]]=vwA lnA ((o++[l])++[[z]]):=by rw [i1,o1 lnA (o++[l])];rfl
    have tO:g .q .leq OU room=decide (OU<=room):=ja hg _ _
    have sS:=fun q=>Av (V:=L2) (q:=q) (j:=k.toNat) pE
    have sA:=fun q=>Aw (V:=[[.J z]]) (q:=q) pE
    have pS:ay (E.set k.toNat [.view L2])=true:=ep pE rfl
    obtain⟨ES,hP⟩:∃ES,ES=E.set k.toNat [.view L2]:=⟨_,rfl⟩
    obtain⟨EA,hO⟩:∃EA,EA=E++[[.view [[.J z]]]]:=⟨_,rfl⟩
    rw [<-hP]at aS sS pS
    rw [<-hO]at aA sA
    have pA:ay EA=true:=by rw [aA];exact jQ _
    clear hL hK
    cbv
    rw [hc]
    cbv
    (repeat'((first|rw [eL]|rw [eK]|rw [tK]|refine goY hg hr hs fun j hj h3=> ?_;cbv;refine⟨_,by rw [hj];exact hb,?_⟩|refine bH hg hu (bn rfl) iL ?_|refine dg hg rfl (by decide) hT ?_;cbv;rw [fI hg,<-hw]);cbv))
    repeat'(refine bH hg hq (aj (av rfl) (aj (aX (ab:=⟨_,_,L2⟩) rfl hN hv) az)) iM ?_;cbv)
    by_cases hcnd:one=true\/OU<=room
    ·rw [if_pos hcnd]at h1 n1 n2
     by_cases ho:OU<=room
     all_goals
      first|rw [zqu ho]at tO|rw [zqt ho]at tO
      (try exact absurd (show true=false from((hcnd.resolve_right (by assumption)).symm.trans (by assumption))) Bool.noConfusion)
      all_goals(subst ha;try cbv)
      all_goals(repeat'((first|refine bH hg hp (aj (aX (ab:=⟨_,_,M⟩) rfl kM dM) az) iH ?_|refine gC hg hm (aj (aX (ab:=⟨_,_,M⟩) rfl kM dM) (aj (aX (ab:=⟨_,_,H⟩) rfl kH dH) (aj (av rfl) (az)))) rfl ?_|rw [tO]|rw [e1]|refine goY hg hr hs fun j2 hA hU=> ?_;cbv;refine goN hg ⟨_,by rw [hA];exact hb,rfl⟩ ?_;cbv;rw [jC hg,hA];dsimp only [AT.cells]);cbv))
      all_goals exact hB ((o++[l++[z]],ES)) _ _ ⟨h1,⟨aS,n1,n2⟩⟩ (bK (sl1 3 L2) (jL rfl hN hv) (Wk.weak (wkG [some 0] zr8 ⟨⟨_,_,rfl,rfl,rfl,rfl,.inl ⟨sS 3,by rw [sS 3]at pS;exact pS⟩⟩,zpt⟩ (by decide) aB)))
    ·rw [if_neg hcnd]at h1 n1 n2
     have ho:¬OU<=room:=fun h=>hcnd (.inr h)
     rw [zqt ho]at tO
     (try exact(hcnd (.inl (by assumption))).elim)
     all_goals(subst ha;try cbv)
     all_goals(repeat'((first|refine bH hg hp (aj (aX (ab:=⟨_,_,M⟩) rfl kM dM) az) iH ?_|refine gC hg hm (aj (aX (ab:=⟨_,_,M⟩) rfl kM dM) (aj (aX (ab:=⟨_,_,H⟩) rfl kH dH) (aj (av rfl) (az)))) rfl ?_|rw [tO]|rw [e1]|refine dg hg rfl (by decide) hQ ?_;cbv;rw [fI hg]);cbv))
     all_goals exact hB (((o++[l])++[[z]],EA)) _ _ ⟨h1,⟨aA,n1,n2⟩⟩ (bK (sl1 6 [[.J z]]) (jL rfl (by intro x hx;simp only [zpa]at hx;subst hx;rfl) (by intro x hx;simp only [zpa]at hx;subst hx;rfl)) (Wk.weak (wkG [some 8] zr8 ⟨⟨_,_,rfl,rfl,rfl,rfl,.inl ⟨sA 6,by rw [sA 6]at pA;exact pA⟩⟩,zpt⟩ (by decide) aB)))
theorem jz(xs:List af)(gap room:Int)(wr:Bool)(hl:xs.length<=1048576):PC0 237 [.c (.view (vw af.c xs)),ai gap,ai room,abl wr] (.t (.c (.view (vwA lnA (lns xs gap room wr))))):=fZ (ur xs gap room wr hl) (Ji _) (Ds _)
theorem wK(xs:List af)(hl:xs.length<=1048576):PC0 285 [.c (.view (vw af.c xs))] (.t (.c (.view (vw ak (xs.map hyp))))):=yH (iB xs hl) fun _=>rfl
theorem tA(xs:List af)(hl:xs.length<=1048576):PC0 299 [.c (.view (vw af.c xs))] (.t (.c (.view (vw ak (xs.map hyp))))):=yH (jn xs hl) fun _=>rfl
theorem sH(xs:List af)(gap inner:Int)(hl:xs.length<=1048576):PC0 288 [.c (.view (vw af.c xs)),ai gap,ai inner] (.t (.c (.view (vw ak (flx xs gap inner))))):=yH (sI xs gap inner hl) fun _=>rfl
theorem rD(xs:List af)(gap inner:Int)(hl:xs.length<=1048576):PC0 296 [.c (.view (vw af.c xs)),ai gap,ai inner] (.t (.c (.view (vw ak (flx xs gap inner))))):=yH (rE xs gap inner hl) fun _=>rfl
theorem lN(xs:List af)(ln:List Int)(gap:Int)(hl:xs.length<=1048576)(hn:ln.length<=1048576):PC0 260 [.c (.view (vw af.c xs)),.c (.view (vw ak ln)),ai gap] (.i (lou xs gap ln)):=by
 have hm:(lit xs ln).length<=1048576:=zpb sm hn
 have c1:=ic xs ln hl hn
 have c2:=tA (lit xs ln) hm
 have c3:=gH (lit xs ln) ((lit xs ln).map hyp) gap hm (by simpa using hm)
 have hR:lou xs gap ln=wrap64 (iz (lit xs ln) ((lit xs ln).map hyp) gap):=rfl
 rw [hR]
 clear hR
 obtain⟨V,hV⟩:=nmE (vw af.c xs)
 have ha:=lmV hV
 obtain⟨W,hW⟩:=nmE (vw ak ln)
 have hb:=lmV hW
 rw [<-hV,<-hW]at c1
 rw [<-hV,<-hW]
 generalize hM:vw af.c (lit xs ln)=M at c1 c2 c3
 generalize hH:vw ak ((lit xs ln).map hyp)=H at c2 c3
 generalize hOU:wrap64 (iz (lit xs ln) ((lit xs ln).map hyp) gap)=OU at c3
 refine aV func260 fun g F hg hF=> ?_
 cbv
 repeat'((first|refine ad hg c1 ?_|refine ad hg c2 ?_|refine ad hg c3 ?_);cbv)
 exact aO hF rfl
theorem tH(xs:List af)(gap room:Int)(wr:Bool)(hl:xs.length<=1048576):bS prog 212 [.c (.view (vw af.c xs)),ai gap,ai room,abl wr] fun res ht=>res= .o 0/\ht=[⟨24,1,vwA lnA (lns xs gap room wr)⟩]:=by
 have cO:=jq xs hl
 have cI:=fun ln hn=>lN xs ln gap hl hn
 obtain⟨R,hR⟩:=nmE (lns xs gap room wr)
 rw [<-hR]
 unfold lns at hR
 generalize hI:er xs=I at cO hR
 generalize hS:vwA lnA R=S;replace hS:=hS.symm
 obtain⟨V,hV⟩:=nmE (vw af.c xs)
 have hN:=lmV hV
 rw [<-hV]at cO cI
 rw [<-hV]
 obtain⟨n,hn⟩:∃n:Int,n=(xs.length:Int):=⟨_,rfl⟩
 have hO:aN V=n:=by rw [hV,aU,hn]
 obtain⟨one,hh⟩:=nmE ((!wr||(decide (room<0)|| !I)))
 rw [<-hh]at hR
 refine aV func212 fun g F hg hF=> ?_
 have q0:g .q .lss (room) (0)=decide ((room)<(0)):=ba hg _ _
 cbv
 refine aQ hg bq (by kernel_rfl) V (fun x=>lc (af.c x)) xs hV hl (fun z(s:List (List Int)×LLA)=>[(0,.v V),(1,.i (gap)),(2,.i (room)),(3,.t (abl (wr))),(9,.o 0),(10,.i (z))]) (fun z(s:List (List Int)×LLA)=>[.rw ⟨24,1,s.2⟩]) (fun z(s:List (List Int)×LLA)=>s.2=vwA lnA s.1/\(s.1.flatten.length:Int)=z/\∀l∈s.1,l≠[]) (fun(s:List (List Int)×LLA) rest=>lnG xs gap room one s.1 (s.1.flatten.length:Int) rest) (R) ([],[]) (by rw [hR];rfl) ⟨rfl,rfl,by simp⟩ (Wk.weak (wkG [some 0] zr6 ⟨wqE rfl rfl,zpt⟩ (by decide) aB)) (fun z s B hz h0 hi he=> ?_) (fun z s x rest B z0 z1 z2 hx hy h0 hi hc e1 hB=> ?_)
 ·obtain⟨hd,E⟩:=s
  obtain⟨i1,i2,i3⟩:=hi
  dsimp only at i1 i2 i3 h0
  have pE:ay E=true:=by rw [i1];exact jQ _
  obtain rfl:hd=R:=h0
  rw [hS,<-i1]at hF
  cbv;rw [he];cbv
  exact bN hF rfl pE
 ·obtain⟨hd,E⟩:=s
  obtain⟨i1,i2,i3⟩:=hi
  dsimp only at i1 i2 i3 h0
  have pE:ay E=true:=by rw [i1];exact jQ _
  have hb:=wm xs gap room one hd z
  have h1:lnG xs gap room one (lnS xs gap room one hd z) ((lnS xs gap room one hd z).flatten.length:Int) rest=R:=by
   rw [<-h0,i2]
   simp only [lnG]
   rw [hb.1,zqe,zqm]
   congr 1
   omega
  have n1:((lnS xs gap room one hd z).flatten.length:Int)=z+1:=by rw [hb.1,zqe,zqm];omega
  have n2:=hb.2 i3
  have hA:hd.length<=1048576:=by have:=kF hd i3;omega
  have hG:E.length<=1048576:=by rw [i1,bu];exact hA
  have hw:aN E=(hd.length:Int):=by rw [ao,i1,bu]
  clear hb h0
  rcases List.eq_nil_or_concat hd with rfl|⟨o,l,rfl⟩
  ·have hE:E=[]:=i1
   subst hE
   rw [Dr]at h1 n1 n2
   have eL:g .ln ([]:LLA)=0:=by rw [bz hg];rfl
   have eK:g .w .sub .i64 0 1= -1:=by rw [cu hg];exact wr1 (by omega) (by omega)
   have tK:g .q .geq (-1) 0=false:=by rw [i6 hg];rfl
   cbv
   rw [hc]
   cbv
   (repeat'((first|rw [eL]|rw [eK]|rw [tK]);cbv))
   refine dg hg rfl (by decide) (by decide) ?_
   cbv
   (repeat'((first|rw [e1]|rw [fI hg]);cbv))
   exact hB (([[z]],[[.view [[.J z]]]])) _ _ ⟨h1,⟨rfl,n1,n2⟩⟩ (bK (sl1 1 [[.J z]]) (jL rfl (by intro x hx;simp only [zpa]at hx;subst hx;rfl) (by intro x hx;simp only [zpa]at hx;subst hx;rfl)) (Wk.weak (wkG [some 3] zr6 ⟨wqE rfl rfl,zpt⟩ (by decide) aB)))
  ·rw [List.concat_eq_append]at *
   have eL:g .ln E=(o.length:Int)+1:=by rw [bz hg,hw];simp
   have eK:g .w .sub .i64 ((o.length:Int)+1) 1=(o.length:Int):=by rw [cu hg,show(o.length:Int)+1-1=o.length by omega];exact wr1 (by omega) (by simp at hA;omega)
   have tK:g .q .geq (o.length:Int) 0=true:=by rw [i6 hg];exact zqu (by omega)
   have hs:(o.length:Int)<aN E:=by rw [hw,zqe,zqm];omega
   have hr:0<=(o.length:Int):=by omega
   have ha:E[(o.length:Int).toNat]? =some [.view (vw ak l)]:=by rw [i1,Int.toNat_natCast];exact iq (c:=lnA) (by simp)
   generalize (o.length:Int)+1=k1 at eL eK
   obtain⟨k,hk⟩:∃k:Int,k=(o.length:Int):=⟨_,rfl⟩
   rw [<-hk]at eK tK hs hr ha
   have hK:l.length+1<=1048576:=by have:=nI (ls:=o++[l]) (l:=l) (by simp);omega
   have hM:(l++[z]).length<=1048576:=by rw [zqe,zqm];exact hK
   have hm:=cI (l++[z]) hM
   rw [AZ]at h1 n1 n2
   obtain⟨L,hL⟩:=nmE (vw ak l)
   rw [<-hL]at ha
   have hH:L.length<=1048576:=by rw [hL,ar];omega
   have kL:=kmV (k:=1) hL fun _=>rfl
   have aL:L++[[.J z]]=vw ak (l++[z]):=by rw [hL,bk];rfl
   obtain⟨L2,hu⟩:∃L2,L2=L++[[.J z]]:=⟨_,rfl⟩
   rw [<-hu]at aL
   rw [<-aL]at hm
   have hq:=kmV (k:=1) aL fun _=>rfl
   have hp:=dmV aL
   generalize hOU:lou xs gap (l++[z])=OU at hm h1 n1 n2
   have aS:E.set k.toNat [.view L2]=vwA lnA (o++[l++[z]]):=by
    rw [i1,hk,Int.toNat_natCast,o1,o1]
    have:=Ar (vwA lnA o) (lnA l) (lnA (l++[z]))
    rw [bu]at this
    rw [<-this,aL];rfl
   have aA:E++[[.view [[.J z]]]]=vwA lnA ((o++[l])++[[z]]):=by rw [i1,o1 lnA (o++[l])];rfl
   have tO:g .q .leq OU room=decide (OU<=room):=ja hg _ _
   have sS:=fun q=>Av (V:=L2) (q:=q) (j:=k.toNat) pE
   have sA:=fun q=>Aw (V:=[[.J z]]) (q:=q) pE
   have pS:ay (E.set k.toNat [.view L2])=true:=ep pE rfl
   obtain⟨ES,hD⟩:∃ES,ES=E.set k.toNat [.view L2]:=⟨_,rfl⟩
   obtain⟨EA,hC⟩:∃EA,EA=E++[[.view [[.J z]]]]:=⟨_,rfl⟩
   rw [<-hD]at aS sS pS
   rw [<-hC]at aA sA
   have pA:ay EA=true:=by rw [aA];exact jQ _
   clear hL hOU
   cbv
   rw [hc]
   cbv
   (repeat'((first|rw [eL]|rw [eK]|rw [tK]|refine goY hg hr hs fun j hj hP=> ?_;cbv;refine⟨_,by rw [hj];exact ha,?_⟩|refine goN hg ⟨kL,(by show(0+L.length)*8<=_;omega),(by show 0+L.length<=_;omega)⟩ ?_;cbv;rw [fI hg];dsimp only [List.nil_append]|refine dg (t:=0) hg rfl (by decide) hH ?_;cbv;rw [fI hg,<-hu]);cbv))
   by_cases hcnd:one=true\/OU<=room
   ·rw [if_pos hcnd]at h1 n1 n2
    cases wr
    case' true=>
     by_cases h0:room<0
     case' neg=>
      cases I
      case' true=>
       have hf:OU<=room:=hcnd.resolve_left (by rw [hh,zqt h0];decide)
       rw [zqu hf]at tO
    all_goals
     (try first|rw [zqu (by assumption)]at q0|rw [zqt (by assumption)]at q0)
     cbv
     (repeat'((first|refine gC hg hm (aj (av rfl) (aj (aX (ab:=⟨_,_,L2⟩) rfl hq hp) (aj (av rfl) (az)))) rfl ?_|rw [tO]|rw [q0]|rw [e1]|refine ad hg cO ?_|refine goY hg hr hs fun j2 hv hJ=> ?_;cbv;refine goN hg ⟨_,by rw [hv];exact ha,rfl⟩ ?_;cbv;rw [jC hg,hv];dsimp only [AT.cells]);cbv))
     exact hB ((o++[l++[z]],ES)) _ _ ⟨h1,⟨aS,n1,n2⟩⟩ (bK (sl1 4 L2) (jL rfl hq hp) (Wk.weak (wkG [some 0] zr6 ⟨⟨_,_,rfl,rfl,rfl,rfl,.inl ⟨sS 4,by rw [sS 4]at pS;exact pS⟩⟩,zpt⟩ (by decide) aB)))
   ·rw [if_neg hcnd]at h1 n1 n2
    have hf:¬OU<=room:=fun h=>hcnd (.inr h)
    rw [zqt hf]at tO
    have ho:one=false:=by cases one<;>simp_all
    rw [hh]at ho
    simp only [Bool.or_eq_false_iff,Bool.not_eq_false',zqo]at ho
    obtain⟨w1,w2,w3⟩:=ho
    subst w1 w3
    rw [zqt w2]at q0
    cbv
    (repeat'((first|refine gC hg hm (aj (av rfl) (aj (aX (ab:=⟨_,_,L2⟩) rfl hq hp) (aj (av rfl) (az)))) rfl ?_|rw [tO]|rw [q0]|rw [e1]|refine ad hg cO ?_|refine dg hg rfl (by decide) hG ?_;cbv;rw [fI hg]);cbv))
    exact hB (((o++[l])++[[z]],EA)) _ _ ⟨h1,⟨aA,n1,n2⟩⟩ (bK (sl1 5 [[.J z]]) (jL rfl (by intro x hx;simp only [zpa]at hx;subst hx;rfl) (by intro x hx;simp only [zpa]at hx;subst hx;rfl)) (Wk.weak (wkG [some 7] zr6 ⟨⟨_,_,rfl,rfl,rfl,rfl,.inl ⟨sA 5,by rw [sA 5]at pA;exact pA⟩⟩,zpt⟩ (by decide) aB)))
theorem jo(xs:List af)(gap room:Int)(wr:Bool)(hl:xs.length<=1048576):PC0 212 [.c (.view (vw af.c xs)),ai gap,ai room,abl wr] (.t (.c (.view (vwA lnA (lns xs gap room wr))))):=fZ (tH xs gap room wr hl) (Ji _) (Ds _)
theorem qI(xs:List af)(gap room:Int)(wr:Bool)(hl:xs.length<=1048576):PC0 236 [.c (.view (vw af.c xs)),ai gap,ai room,abl wr] (.i (lng xs gap room wr)):=by
 have cL:=jz xs gap room wr hl
 have ha:=fun l hn=>ij xs l hl hn
 have hb:=fun l hl=>kl (xs:=xs) (gap:=gap) (room:=room) (wr:=wr) (l:=l) hl
 have hf:=mf xs gap room wr
 obtain⟨R,hR⟩:=nmE (lng xs gap room wr)
 rw [<-hR]
 unfold lng at hR
 obtain⟨ls,hd⟩:=nmE (lns xs gap room wr)
 rw [<-hd]at cL hR hb hf
 obtain⟨V,hV⟩:=nmE (vw af.c xs)
 have ho:=lmV hV
 rw [<-hV]at cL ha
 rw [<-hV]
 generalize hW:vwA lnA ls=W at cL;replace hW:=hW.symm
 refine aV func236 fun g F hg hF=> ?_
 cbv
 repeat'(refine ad hg cL ?_;cbv)
 refine aQ hg bq (by kernel_rfl) W (lnA) ls hW (by omega) (fun z(s:Int)=>[(0,.v V),(1,.i (gap)),(9,.i (s)),(17,.v W),(18,.i (g .ln W)),(19,.i (z))]) (fun z(s:Int)=>[]) (fun z(s:Int)=>True) (fun(s:Int) rest=>rest.foldl (fun m l=>mx2 m (lou xs gap l)) s) (R) (0:Int) hR.symm trivial (Wk.weak (wkG [] zr6 trivial (by decide) aB)) (fun z s B hz h0 hi he=> ?_) (fun z s x rest B z0 z1 z2 hx hy h0 hi hc e1 hB=> ?_)
 ·cbv;rw [he];cbv
  exact aO hF h0
 ·have hj:x∈ls:=zqd hx
  have hp:=hb x hj
  have cI:=ha x (by omega)
  have hm:(lit xs x).length<=1048576:=zpb sm (by omega)
  have cH:=wK (lit xs x) hm
  have cO:=fH (lit xs x) ((lit xs x).map hyp) gap hm (by rw [zql];exact hm)
  have hh:lou xs gap x=wrap64 (iz (lit xs x) ((lit xs x).map hyp) gap):=rfl
  rw [List.foldl_cons]at h0
  rw [<-hh]at cO
  generalize hOU:lou xs gap x=OU at cO h0
  generalize hM:vw af.c (lit xs x)=M at cI cH cO
  generalize hH:vw ak ((lit xs x).map hyp)=H at cH cO
  obtain⟨L,hL⟩:=nmE (vw ak x)
  rw [<-hL]at cI
  have hk:W[z.toNat]? =some [.view L]:=by rw [hL];exact hy
  have eM:g .mx s OU=mx2 s OU:=by rw [GH hg];rfl
  cbv
  rw [hc]
  cbv
  refine goX hg _ z0 hk rfl ?_
  cbv
  (repeat'((first|rw [eM]|rw [e1]|refine ad hg cI ?_|refine ad hg cH ?_|refine ad hg cO ?_);cbv))
  exact hB ((mx2 s OU)) _ _ ⟨h0,zpt⟩ (Wk.weak (wkG [] zr6 trivial (by decide) aB))
theorem qq(xs:List af)(gap room:Int)(wr:Bool)(hl:xs.length<=1048576):PC0 258 [.c (.view (vw af.c xs)),ai gap,ai room,abl wr] (.i (lng xs gap room wr)):=by
 have cL:=jo xs gap room wr hl
 have ha:=fun l hn=>lN xs l gap hl hn
 have hb:=fun l hl=>kl (xs:=xs) (gap:=gap) (room:=room) (wr:=wr) (l:=l) hl
 have hj:=mf xs gap room wr
 obtain⟨R,hR⟩:=nmE (lng xs gap room wr)
 rw [<-hR]
 unfold lng at hR
 obtain⟨ls,hd⟩:=nmE (lns xs gap room wr)
 rw [<-hd]at cL hR hb hj
 obtain⟨V,hV⟩:=nmE (vw af.c xs)
 have ho:=lmV hV
 rw [<-hV]at cL ha
 rw [<-hV]
 generalize hW:vwA lnA ls=W at cL;replace hW:=hW.symm
 refine aV func258 fun g F hg hF=> ?_
 cbv
 repeat'(refine ad hg cL ?_;cbv)
 refine aQ hg bq (by kernel_rfl) W (lnA) ls hW (by omega) (fun z(s:Int)=>[(0,.v V),(1,.i (gap)),(9,.i (s)),(10,.v W),(11,.i (z))]) (fun z(s:Int)=>[]) (fun z(s:Int)=>True) (fun(s:Int) rest=>rest.foldl (fun m l=>mx2 m (lou xs gap l)) s) (R) (0:Int) hR.symm trivial (Wk.weak (wkG [] zr5 trivial (by decide) aB)) (fun z s B hz h0 hi he=> ?_) (fun z s x rest B z0 z1 z2 hx hy h0 hi hc e1 hB=> ?_)
 ·cbv;rw [he];cbv
  exact aO hF h0
 ·have hk:x∈ls:=zqd hx
  have hp:=hb x hk
  have cI:=ha x (by omega)
  rw [List.foldl_cons]at h0
  generalize hOU:lou xs gap x=OU at cI h0
  obtain⟨L,hL⟩:=nmE (vw ak x)
  rw [<-hL]at cI
  have hm:W[z.toNat]? =some [.view L]:=by rw [hL];exact hy
  have hf:mx2 s OU=if s<OU then OU else s:=rfl
  rw [hf]at h0
  have t0:g .q .gtr (OU) (s)=decide ((s)<(OU)):=dm hg _ _
  cbv
  rw [hc]
  cbv
  refine goX hg _ z0 hm rfl ?_
  cbv
  by_cases hh:s<OU
  ·rw [if_pos hh]at h0
   (first|rw [zqu hh]at t0|rw [zqt hh]at t0|rw [zqu (Classical.not_not.2 hh)]at t0|rw [zqt (Classical.not_not.2 hh)]at t0)
   (repeat'((first|rw [t0]|rw [e1]|refine ad hg cI ?_);cbv))
   exact hB (OU) _ _ ⟨h0,zpt⟩ (Wk.weak (wkG [] zr5 trivial (by decide) aB))
  ·rw [if_neg hh]at h0
   (first|rw [zqu hh]at t0|rw [zqt hh]at t0|rw [zqu (Classical.not_not.2 hh)]at t0|rw [zqt (Classical.not_not.2 hh)]at t0)
   (repeat'((first|rw [t0]|rw [e1]|refine ad hg cI ?_);cbv))
   exact hB (s) _ _ ⟨h0,zpt⟩ (Wk.weak (wkG [] zr5 trivial (by decide) aB))
theorem qK(xs:List af)(gap room:Int)(wr:Bool)(inner:Int)(hl:xs.length<=1048576):bS prog 238 [.c (.view (vw af.c xs)),ai gap,ai room,abl wr,ai inner] fun res hd=>res= .o 0/\hd=[⟨3,1,vw ak (lsz xs gap room wr inner)⟩]:=by
 have cL:=jz xs gap room wr hl
 have hh:=fun l hn=>ij xs l hl hn
 have hj:=fun l hl=>kl (xs:=xs) (gap:=gap) (room:=room) (wr:=wr) (l:=l) hl
 have hp:=mf xs gap room wr
 have hk:=zl xs gap room wr inner
 obtain⟨R,hR⟩:=nmE (lsz xs gap room wr inner)
 rw [<-hR]at hk⊢
 unfold lsz at hR
 obtain⟨ls,ho⟩:=nmE (lns xs gap room wr)
 rw [<-ho]at cL hR hj hp
 obtain⟨V,hV⟩:=nmE (vw af.c xs)
 have hu:=lmV hV
 rw [<-hV]at cL hh
 rw [<-hV]
 generalize hW:vwA lnA ls=W at cL;replace hW:=hW.symm
 generalize hS:vw ak R=S;replace hS:=hS.symm
 refine aV func238 fun g F hg hF=> ?_
 cbv
 repeat'(refine ad hg cL ?_;cbv)
 refine aQ hg bq (by kernel_rfl) W (lnA) ls hW (by omega) (fun z(s:List Int×LLA)=>[(0,.v V),(1,.i (gap)),(4,.i (inner)),(11,.o 0),(18,.v W),(19,.i (g .ln W)),(20,.i (z))]) (fun z(s:List Int×LLA)=>[.rw ⟨3,1,s.2⟩]) (fun z(s:List Int×LLA)=>s.2=vw ak s.1) (fun(s:List Int×LLA) rest=>s.1++rest.flatMap (fun l=>flx (lit xs l) gap inner)) (R) ([],[]) (by rw [hR];rfl) rfl (Wk.weak (wkG [none] zr7 ⟨⟨_,rfl,rfl⟩,zpt⟩ (by decide) aB)) (fun z s B hz h0 hi he=> ?_) (fun z s x rest B z0 z1 z2 hx hy h0 hi hc e1 hB=> ?_)
 ·obtain⟨ha,E⟩:=s
  dsimp only at hi h0
  have pE:=pmV hi
  obtain rfl:ha=R:=by simpa using h0
  rw [hS,<-hi]at hF
  cbv;rw [he];cbv
  exact bN hF rfl pE
 ·obtain⟨ha,E⟩:=s
  dsimp only at hi h0
  have hq:x∈ls:=zqd hx
  have hv:=hj x hq
  have cI:=hh x (by omega)
  have hm:(lit xs x).length<=1048576:=zpb sm (by omega)
  have cX:=sH (lit xs x) gap inner hm
  have h1:(ha++flx (lit xs x) gap inner)++rest.flatMap (fun l=>flx (lit xs l) gap inner)=R:=by rw [<-h0,List.flatMap_cons,zqC]
  have hb:ha.length+(flx (lit xs x) gap inner).length<=1048576:=by
   have:=congrArg List.length h1
   rw [zqe,zqe]at this
   omega
  generalize hM:vw af.c (lit xs x)=M at cI cX
  generalize hX:vw ak (flx (lit xs x) gap inner)=X at cX;replace hX:=hX.symm
  have kX:=kmV (k:=1) hX fun _=>rfl
  have ht:E.length+X.length<=1048576:=by rw [hi,hX,ar,ar];exact hb
  obtain⟨L,hL⟩:=nmE (vw ak x)
  rw [<-hL]at cI
  have hr:W[z.toNat]? =some [.view L]:=by rw [hL];exact hy
  obtain⟨E2,hf⟩:=nmE (E++X)
  have aE:E2=vw ak (ha++flx (lit xs x) gap inner):=by rw [hf,hi,hX];simp [vw]
  have hs:=pmV aE
  cbv
  rw [hc]
  cbv
  refine goX hg _ z0 hr rfl ?_
  cbv
  (repeat'((first|rw [e1]|refine ad hg cI ?_|refine ad hg cX ?_|refine goN hg ⟨kX,(by show(E.length+X.length)*8<=_;omega),(by show E.length+X.length<=_;omega)⟩ ?_;cbv;rw [fI hg];dsimp only;rw [<-hf]);cbv))
  exact hB ((ha++flx (lit xs x) gap inner,E2)) _ _ ⟨h1,aE⟩ (Wk.weak (wkG [some 1] zr7 ⟨wqE rfl hs,zpt⟩ (by decide) aB))
theorem qt(xs:List af)(gap room:Int)(wr:Bool)(inner:Int)(hl:xs.length<=1048576):bS prog 257 [.c (.view (vw af.c xs)),ai gap,ai room,abl wr,ai inner] fun res hd=>res= .o 0/\hd=[⟨3,1,vw ak (lsz xs gap room wr inner)⟩]:=by
 have cL:=jo xs gap room wr hl
 have hh:=fun l hn=>ic xs l hl hn
 have hj:=fun l hl=>kl (xs:=xs) (gap:=gap) (room:=room) (wr:=wr) (l:=l) hl
 have hp:=mf xs gap room wr
 have hk:=zl xs gap room wr inner
 obtain⟨R,hR⟩:=nmE (lsz xs gap room wr inner)
 rw [<-hR]at hk⊢
 unfold lsz at hR
 obtain⟨ls,ho⟩:=nmE (lns xs gap room wr)
 rw [<-ho]at cL hR hj hp
 obtain⟨V,hV⟩:=nmE (vw af.c xs)
 have hu:=lmV hV
 rw [<-hV]at cL hh
 rw [<-hV]
 generalize hW:vwA lnA ls=W at cL;replace hW:=hW.symm
 generalize hS:vw ak R=S;replace hS:=hS.symm
 refine aV func257 fun g F hg hF=> ?_
 cbv
 repeat'(refine ad hg cL ?_;cbv)
 refine aQ hg bq (by kernel_rfl) W (lnA) ls hW (by omega) (fun z(s:List Int×LLA)=>[(0,.v V),(1,.i (gap)),(4,.i (inner)),(11,.o 0),(12,.v W),(13,.i (z))]) (fun z(s:List Int×LLA)=>[.rw ⟨3,1,s.2⟩]) (fun z(s:List Int×LLA)=>s.2=vw ak s.1) (fun(s:List Int×LLA) rest=>s.1++rest.flatMap (fun l=>flx (lit xs l) gap inner)) (R) ([],[]) (by rw [hR];rfl) rfl (Wk.weak (wkG [some 0] zr6 ⟨wqE rfl rfl,zpt⟩ (by decide) aB)) (fun z s B hz h0 hi he=> ?_) (fun z s x rest B z0 z1 z2 hx hy h0 hi hc e1 hB=> ?_)
 ·obtain⟨ha,E⟩:=s
  dsimp only at hi h0
  have pE:=pmV hi
  obtain rfl:ha=R:=by simpa using h0
  rw [hS,<-hi]at hF
  cbv;rw [he];cbv
  exact bN hF rfl pE
 ·obtain⟨ha,E⟩:=s
  dsimp only at hi h0
  have hq:x∈ls:=zqd hx
  have hv:=hj x hq
  have cI:=hh x (by omega)
  have hm:(lit xs x).length<=1048576:=zpb sm (by omega)
  have cX:=rD (lit xs x) gap inner hm
  have h1:(ha++flx (lit xs x) gap inner)++rest.flatMap (fun l=>flx (lit xs l) gap inner)=R:=by rw [<-h0,List.flatMap_cons,zqC]
  have hb:ha.length+(flx (lit xs x) gap inner).length<=1048576:=by
   have:=congrArg List.length h1
   rw [zqe,zqe]at this
   omega
  generalize hM:vw af.c (lit xs x)=M at cI cX
  generalize hX:vw ak (flx (lit xs x) gap inner)=X at cX;replace hX:=hX.symm
  have kX:=kmV (k:=1) hX fun _=>rfl
  have ht:E.length+X.length<=1048576:=by rw [hi,hX,ar,ar];exact hb
  obtain⟨L,hL⟩:=nmE (vw ak x)
  rw [<-hL]at cI
  have hr:W[z.toNat]? =some [.view L]:=by rw [hL];exact hy
  obtain⟨E2,hf⟩:=nmE (E++X)
  have aE:E2=vw ak (ha++flx (lit xs x) gap inner):=by rw [hf,hi,hX];simp [vw]
  have hs:=pmV aE
  cbv
  rw [hc]
  cbv
  refine goX hg _ z0 hr rfl ?_
  cbv
  (repeat'((first|rw [e1]|refine ad hg cI ?_|refine ad hg cX ?_|refine goN hg ⟨kX,(by show(E.length+X.length)*8<=_;omega),(by show E.length+X.length<=_;omega)⟩ ?_;cbv;rw [fI hg];dsimp only;rw [<-hf]);cbv))
  exact hB ((ha++flx (lit xs x) gap inner,E2)) _ _ ⟨h1,aE⟩ (Wk.weak (wkG [some 1] zr6 ⟨wqE rfl hs,zpt⟩ (by decide) aB))
theorem qJ(xs:List af)(gap room:Int)(wr:Bool)(inner:Int)(hl:xs.length<=1048576):PC0 238 [.c (.view (vw af.c xs)),ai gap,ai room,abl wr,ai inner] (.t (.c (.view (vw ak (lsz xs gap room wr inner))))):=yH (qK xs gap room wr inner hl) fun _=>rfl
theorem qr(xs:List af)(gap room:Int)(wr:Bool)(inner:Int)(hl:xs.length<=1048576):PC0 257 [.c (.view (vw af.c xs)),ai gap,ai room,abl wr,ai inner] (.t (.c (.view (vw ak (lsz xs gap room wr inner))))):=yH (qt xs gap room wr inner hl) fun _=>rfl
theorem AO{sides:List aw}{i:Int}{r:List Int}{x:aw}(h0:0<=i)(hx:sides[i.toNat]? =some x):pck sides (i::r)=x::pck sides r:=by
 simp only [pck,List.filterMap_cons,if_pos h0,hx]
def qY(i:Int):Int->List (List Int)->Int
 |_,[]=> -1
 |k,l::r=>if 0<cnt l i then k else qY i (k+1) r
theorem qF(xs:List aw)(ln:List Int)(hl:xs.length<=1048576)(hn:ln.length<=1048576)(hb:∀i∈ln,0<=i/\i<(xs.length:Int)):bS prog 186 [.c (.view (vw aw.c xs)),.c (.view (vw ak ln))] fun res hf=>res= .o 0/\hf=[⟨210,7,vw aw.c (pck xs ln)⟩]:=by
 obtain⟨R,hR⟩:=nmE (pck xs ln)
 rw [<-hR]
 have ho:∀i∈ln,0<=i/\∃y,xs[i.toNat]? =some y:=fun i hi=>⟨(hb i hi).1,⟨_,zqc (by have:=hb i hi;omega)⟩⟩
 have hj:=fun{i:Int}{x:aw}(h:xs[i.toNat]? =some x)=>aZ (c:=aw.c) h
 generalize hV:vw aw.c xs=V at hj
 generalize hS:vw aw.c R=S;replace hS:=hS.symm
 obtain⟨W,hW⟩:=nmE (vw ak ln)
 have ht:=lmV hW
 rw [<-hW]
 refine aV func186 fun g F hg hF=> ?_
 cbv
 refine aQ hg bq (by kernel_rfl) W (fun x=>lc (ak x)) ln hW hn (fun z(s:List aw×LLA)=>[(0,.v V),(5,.o 0),(8,.v W),(9,.i (g .ln W)),(10,.i (z))]) (fun z(s:List aw×LLA)=>[.rw ⟨210,7,s.2⟩]) (fun z(s:List aw×LLA)=>s.2=vw aw.c s.1/\(s.1.length:Int)<=z) (fun(s:List aw×LLA) rest=>s.1++pck xs rest) (R) ([],[]) (by rw [hR];rfl) ⟨rfl,zpc 0⟩ (Wk.weak (wkG [none] zr5 ⟨⟨_,rfl,rfl⟩,zpt⟩ (by decide) aB)) (fun z s B hz h0 hi he=> ?_) (fun z s x rest B z0 z1 z2 hx hy h0 hi hc e1 hB=> ?_)
 ·obtain⟨ha,E⟩:=s
  obtain⟨i1,i2⟩:=hi
  dsimp only at i1 i2 h0
  have pE:=pmV i1
  obtain rfl:ha=R:=by simpa [pck]using h0
  rw [hS,<-i1]at hF
  cbv;rw [he];cbv
  exact bN hF rfl pE
 ·obtain⟨ha,E⟩:=s
  obtain⟨i1,i2⟩:=hi
  dsimp only at i1 i2 h0
  have hm:E.length<=1048576:=by rw [i1,ar];omega
  have hd:=ho x (zqd hx)
  obtain⟨y,hk⟩:=hd.2
  have hr:=hj hk
  have h3:(ha++[y])++pck xs rest=R:=by rw [<-h0,AO hd.1 hk];simp
  have nl:((ha++[y]).length:Int)<=z+1:=by simp;omega
  have aE:E++[lc (aw.c y)]=vw aw.c (ha++[y]):=by rw [i1,bk]
  obtain⟨y0,y1,y2,y3,y4,y5,y6⟩:=y
  have hq:V[x.toNat]? =some [.J y0,.J y1,.J y2,.B y3,.B y4,.J y5,.J y6]:=hr
  replace aE:E++[[.J y0,.J y1,.J y2,.B y3,.B y4,.J y5,.J y6]]=vw aw.c (ha++[⟨y0,y1,y2,y3,y4,y5,y6⟩]):=aE
  obtain⟨E2,hh⟩:∃E2,E2=E++[[.J y0,.J y1,.J y2,.B y3,.B y4,.J y5,.J y6]]:=⟨_,rfl⟩
  rw [<-hh]at aE
  have hs:=pmV aE
  have hp:=hd.1
  cbv;rw [hc];cbv;refine goX hg _ z0 hy rfl ?_;cbv
  (repeat'((first|rw [e1]|refine goX hg _ hp hq rfl ?_|refine dg hg rfl (by decide) hm ?_;cbv;rw [fI hg,<-hh]);cbv))
  exact hB ((ha++[⟨y0,y1,y2,y3,y4,y5,y6⟩],E2)) _ _ ⟨h3,⟨aE,nl⟩⟩ (Wk.weak (wkG [some 2] zr5 ⟨wqE rfl hs,zpt⟩ (by decide) aB))
theorem lh(xs:List aw)(ln:List Int)(hl:xs.length<=1048576)(hn:ln.length<=1048576)(hb:∀i∈ln,0<=i/\i<(xs.length:Int)):PC0 186 [.c (.view (vw aw.c xs)),.c (.view (vw ak ln))] (.t (.c (.view (vw aw.c (pck xs ln))))):=yH (qF xs ln hl hn hb) fun _=>rfl
theorem xC(xs:List aw)(ln:List Int)(hl:xs.length<=1048576)(hn:ln.length<=1048576)(hb:∀i∈ln,0<=i/\i<(xs.length:Int)):bS prog 221 [.c (.view (vw aw.c xs)),.c (.view (vw ak ln))] fun res hf=>res= .o 0/\hf=[⟨210,7,vw aw.c (pck xs ln)⟩]:=by
 obtain⟨R,hR⟩:=nmE (pck xs ln)
 rw [<-hR]
 have ho:∀i∈ln,0<=i/\∃y,xs[i.toNat]? =some y:=fun i hi=>⟨(hb i hi).1,⟨_,zqc (by have:=hb i hi;omega)⟩⟩
 have hj:=fun{i:Int}{x:aw}(h:xs[i.toNat]? =some x)=>aZ (c:=aw.c) h
 generalize hV:vw aw.c xs=V at hj
 generalize hS:vw aw.c R=S;replace hS:=hS.symm
 obtain⟨W,hW⟩:=nmE (vw ak ln)
 have ht:=lmV hW
 rw [<-hW]
 refine aV func221 fun g F hg hF=> ?_
 cbv
 refine aQ hg bq (by kernel_rfl) W (fun x=>lc (ak x)) ln hW hn (fun z(s:List aw×LLA)=>[(0,.v V),(1,.v W),(5,.o 0),(6,.i (z))]) (fun z(s:List aw×LLA)=>[.rw ⟨210,7,s.2⟩]) (fun z(s:List aw×LLA)=>s.2=vw aw.c s.1/\(s.1.length:Int)<=z) (fun(s:List aw×LLA) rest=>s.1++pck xs rest) (R) ([],[]) (by rw [hR];rfl) ⟨rfl,zpc 0⟩ (Wk.weak (wkG [some 0] zr4 ⟨wqE rfl rfl,zpt⟩ (by decide) aB)) (fun z s B hz h0 hi he=> ?_) (fun z s x rest B z0 z1 z2 hx hy h0 hi hc e1 hB=> ?_)
 ·obtain⟨ha,E⟩:=s
  obtain⟨i1,i2⟩:=hi
  dsimp only at i1 i2 h0
  have pE:=pmV i1
  obtain rfl:ha=R:=by simpa [pck]using h0
  rw [hS,<-i1]at hF
  cbv;rw [he];cbv
  exact bN hF rfl pE
 ·obtain⟨ha,E⟩:=s
  obtain⟨i1,i2⟩:=hi
  dsimp only at i1 i2 h0
  have hm:E.length<=1048576:=by rw [i1,ar];omega
  have hd:=ho x (zqd hx)
  obtain⟨y,hk⟩:=hd.2
  have hr:=hj hk
  have h3:(ha++[y])++pck xs rest=R:=by rw [<-h0,AO hd.1 hk];simp
  have nl:((ha++[y]).length:Int)<=z+1:=by simp;omega
  have aE:E++[lc (aw.c y)]=vw aw.c (ha++[y]):=by rw [i1,bk]
  obtain⟨y0,y1,y2,y3,y4,y5,y6⟩:=y
  have hq:V[x.toNat]? =some [.J y0,.J y1,.J y2,.B y3,.B y4,.J y5,.J y6]:=hr
  replace aE:E++[[.J y0,.J y1,.J y2,.B y3,.B y4,.J y5,.J y6]]=vw aw.c (ha++[⟨y0,y1,y2,y3,y4,y5,y6⟩]):=aE
  obtain⟨E2,hh⟩:∃E2,E2=E++[[.J y0,.J y1,.J y2,.B y3,.B y4,.J y5,.J y6]]:=⟨_,rfl⟩
  rw [<-hh]at aE
  have hs:=pmV aE
  have hp:=hd.1
  cbv
  rw [hc]
  cbv
  (repeat'((first|rw [e1]|refine goX hg _ (by omega) hy rfl ?_|refine goX hg _ hp hq rfl ?_|refine dg hg rfl (by decide) hm ?_;cbv;rw [fI hg,<-hh]);cbv))
  exact hB ((ha++[⟨y0,y1,y2,y3,y4,y5,y6⟩],E2)) _ _ ⟨h3,⟨aE,nl⟩⟩ (Wk.weak (wkG [some 2] zr4 ⟨wqE rfl hs,zpt⟩ (by decide) aB))
theorem pQ(xs:List aw)(ln:List Int)(hl:xs.length<=1048576)(hn:ln.length<=1048576)(hb:∀i∈ln,0<=i/\i<(xs.length:Int)):PC0 221 [.c (.view (vw aw.c xs)),.c (.view (vw ak ln))] (.t (.c (.view (vw aw.c (pck xs ln))))):=yH (xC xs ln hl hn hb) fun _=>rfl
theorem pc(ls:List (List Int))(i:Int)(hl:ls.length<=1048576)(hb:∀l∈ls,l.length<=1048576):PC0 270 [.c (.view (vwA lnA ls)),ai i] (.i (qY i 0 ls)):=by
 obtain⟨R,hR⟩:=nmE (qY i 0 ls)
 rw [<-hR]
 generalize hW:vwA lnA ls=W;replace hW:=hW.symm
 refine aV func270 fun g F hg hF=> ?_
 cbv
 refine aQ hg bq (by kernel_rfl) W (lnA) ls hW hl (fun z(s:Int)=>[(0,.v W),(1,.i (i)),(5,.i (z))]) (fun z(s:Int)=>[]) (fun z(s:Int)=>s=z) (fun(s:Int) rest=>qY i s rest) (R) (0:Int) hR.symm rfl (Wk.weak (wkG [] zr3 trivial (by decide) aB)) (fun z s B hz h0 hi he=> ?_) (fun z s x rest B z0 z1 z2 hx hy h0 hi hc e1 hB=> ?_)
 ·cbv;rw [he];cbv
  exact aO hF h0
 ·subst hi
  have cH:=nR x i (hb x (zqd hx))
  simp only [qY]at h0
  generalize hC:cnt x i=C at cH h0
  obtain⟨L,hL⟩:=nmE (vw ak x)
  rw [<-hL]at cH
  have ha:W[s.toNat]? =some [.view L]:=by rw [hL];exact hy
  have t1:g .q .gtr (C) (0)=decide ((0)<(C)):=dm hg _ _
  cbv
  rw [hc]
  cbv
  refine goX hg _ z0 ha rfl ?_
  cbv
  by_cases h1:0<C
  ·(first|rw [zqu h1]at t1|rw [zqt h1]at t1|rw [zqu (Classical.not_not.2 h1)]at t1|rw [zqt (Classical.not_not.2 h1)]at t1)
   (repeat'((first|rw [t1]|refine ad hg cH ?_);cbv))
   exact aO hF (by simpa [h1]using h0)
  ·(first|rw [zqu h1]at t1|rw [zqt h1]at t1|rw [zqu (Classical.not_not.2 h1)]at t1|rw [zqt (Classical.not_not.2 h1)]at t1)
   (repeat'((first|rw [t1]|rw [e1]|refine ad hg cH ?_);cbv))
   exact hB ((s+1)) _ _ ⟨(by simpa [h1]using h0),rfl⟩ (Wk.weak (wkG [] zr3 trivial (by decide) aB))
end Go.Proofs.YtckchgoblpgpbaaGreat
