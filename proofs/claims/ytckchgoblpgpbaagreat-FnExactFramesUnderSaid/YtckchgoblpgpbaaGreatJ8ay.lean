/- Lines stretched and placed: the reference. -/
import Derived.Test.YtckchgoblpgpbaaGreatJ8ax
set_option linter.unusedVariables false
set_option linter.unusedSimpArgs false
set_option maxHeartbeats 16000000
namespace Go.Proofs.YtckchgoblpgpbaaGreat
open Go.ChangeShapes Go.WideShapes Go.ChangeAt Go.RowKit Am Go.Proofs.Tryz
set_option maxRecDepth 100000
def Cu(s:ah)(ac:aK)(xs:List aw)(ln:List Int):Int:=if s.wrap=1/\ac.mode=3 then ac.n else cro (pck xs ln)
def FJ(s:ah)(row:Bool)(ac:aK)(ls:List (List Int))(xs:List aw):List Int:=
 if¬s.wrap=1/\ac.mode=3 then yE (ls.map (Cu s ac xs)) (jG s (!row)) ac.n s.content else ls.map (Cu s ac xs)
theorem we(xs:List aw)(ln:List Int):(pck xs ln).length<=ln.length:=List.length_filterMap_le _ _
theorem pk(n:Int)(sy:ah)(wd hgh:aK)(row:Bool)(iw ih al ac:aK)(K:LLA)(ls:List (List Int))(xs:List aw)(hl:xs.length<=1048576)(hn:ls.length<=64)(hb:∀l∈ls,l.length<=1048576/\∀i∈l,0<=i/\i<(xs.length:Int)):bS prog 176 [.agg (plL n sy wd hgh row iw ih al ac (.view K)),.c (.view (vwA lnA ls)),.c (.view (vw aw.c xs))] fun res hk=>res= .o 0/\hk=[⟨3,1,vw ak (FJ sy row ac ls xs)⟩]:=by
 obtain⟨am,an⟩:=ac
 have cG:=jh sy (!row)
 have hp:=fun l(h:l∈ls)=>lh xs l hl (hb l h).1 (hb l h).2
 have ht:=fun l(h:l∈ls)=>uy (pck xs l) (zpb (we xs l) (hb l h).1)
 have cS:=nK (ls.map (Cu sy ⟨am,an⟩ xs)) (jG sy (!row)) an sy.content (by rw [zql];exact hn)
 obtain⟨R,hR⟩:=nmE (FJ sy row ⟨am,an⟩ ls xs)
 obtain⟨Q,hQ⟩:=nmE (ls.map (Cu sy ⟨am,an⟩ xs))
 have hA:Q.length<=64:=by rw [hQ,zql];exact hn
 rw [<-hR]
 unfold FJ at hR
 rw [<-hQ]at cS hR
 generalize hG:jG sy (!row)=G at cG cS hR
 obtain⟨wr,hd⟩:=nmE (decide (sy.wrap=1))
 obtain⟨ex,hj⟩:=nmE (decide (am=3))
 have hm:R=if(!wr&&ex)=true then yE Q G an sy.content else Q:=by rw [hR,hd,hj];simp
 have ho:∀l,Cu sy ⟨am,an⟩ xs l=if(wr&&ex)=true then an else cro (pck xs l):=fun l=>by rw [hd,hj];simp [Cu]
 clear hR
 obtain⟨c1,ha⟩:=nmE (Cu sy ⟨am,an⟩ xs)
 rw [<-ha]at ho hQ
 generalize hV:vw aw.c xs=V at hp
 generalize hS:vw ak R=S;replace hS:=hS.symm
 generalize hU:vw ak Q=U at cS;replace hU:=hU.symm
 generalize hX:vw ak (yE Q G an sy.content)=X at cS;replace hX:=hX.symm
 have iX:=imV hX
 have kU:=kmV (k:=1) hU fun _=>rfl
 have dU:=dmV hU
 generalize hW:vwA lnA ls=W;replace hW:=hW.symm
 have t0:∀g:Gd,g=G0 prog 0 f176.ntmps->g .q .neq sy.wrap 1= !wr:=fun g hg=>by rw [bC hg,hd];exact(dQ _ _).trans (by simp)
 have t1:∀g:Gd,g=G0 prog 0 f176.ntmps->g .q .eql sy.wrap 1=wr:=fun g hg=>by rw [bj hg,hd];exact zqn _ _
 have t2:∀g:Gd,g=G0 prog 0 f176.ntmps->g .q .eql am 3=ex:=fun g hg=>by rw [bj hg,hj];exact zqn _ _
 clear hd hj ha hG
 have hu:ls.length<=1048576:=by omega
 refine aV func176 fun g F hg hF=> ?_
 have t0:=t0 g hg
 have t1:=t1 g hg
 have t2:=t2 g hg
 cbv
 refine aQ hg bq (by kernel_rfl) W (lnA) ls hW hu (fun z(s:List Int×LLA)=>[(2,.v V),(3,.p 0),(7,.o 1),(11,.v W),(12,.i (g .ln W)),(13,.i (z))]) (fun z(s:List Int×LLA)=>[.bx 196 75 (plL n sy wd hgh row iw ih al ⟨am,an⟩ (.view K)),.rw ⟨3,1,s.2⟩]) (fun z(s:List Int×LLA)=>s.2=vw ak s.1) (fun(s:List Int×LLA) rest=>s.1++rest.map c1) (Q) ([],[]) (by rw [hQ];rfl) rfl (Wk.weak (wkG [some _,none] zr6 ⟨wqE rfl rfl,⟨_,rfl,rfl⟩,zpt⟩ (by decide) aB)) (fun z s B hz h0 hi he=> ?_) (fun z s x rest B z0 z1 z2 hx hy h0 hi hc e1 hB=> ?_)
 ·obtain⟨hf,E⟩:=s
  dsimp only at hi h0
  have pE:=pmV hi
  obtain rfl:hf=Q:=by simpa using h0
  rw [<-hU]at hi
  replace hi:=hi.symm
  subst hi
  cbv;rw [he];cbv
  cases wr<;>cases ex
  all_goals
   (try cbv)
   ((repeat'((first|rw [t0]|rw [t2]|refine aa hg cG ?_);cbv)))
  all_goals first
   |exact bN (by rw [hF,hS,hm,hU];rfl) rfl pE
   |((refine bU hg cS (aj (aX (ab:=⟨_,_,U⟩) rfl kU dU) (aj (av rfl) (aj (av rfl) (aj (av rfl) (az))))) iX ?_;cbv);exact bN (by rw [hF,hS,hm,hX];rfl) rfl (by rw [hX];exact aD _ _))
 ·obtain⟨hf,E⟩:=s
  dsimp only at hi h0
  have hr:x∈ls:=zqd hx
  have cP:=hp x hr
  have cC:=ht x hr
  have hq:=ho x
  generalize hC:cro (pck xs x)=C at cC hq
  generalize hM:vw aw.c (pck xs x)=M at cP cC
  have hs:E.length<=1048576:=by
   have:=congrArg List.length h0
   rw [zqe]at this
   rw [hi,ar];omega
  obtain⟨L,hL⟩:=nmE (vw ak x)
  rw [<-hL]at cP
  have hv:W[z.toNat]? =some [.view L]:=by rw [hL];exact hy
  have h3:(hf++[c1 x])++rest.map c1=Q:=by rw [<-h0];simp
  have aE:E++[[.J (c1 x)]]=vw ak (hf++[c1 x]):=by rw [hi,bk];rfl
  obtain⟨E2,hh⟩:∃E2,E2=E++[[.J (c1 x)]]:=⟨_,rfl⟩
  rw [<-hh]at aE
  have hw:=pmV aE
  rw [hq]at hh
  cbv
  rw [hc]
  cbv
  refine goX hg _ z0 hv rfl ?_
  cbv
  cases wr<;>cases ex
  all_goals
   simp only [Bool.and_self,Bool.and_true,Bool.and_false,Bool.false_eq_true,if_false,if_true]at hh
   (try cbv)
   ((repeat'((first|rw [t1]|rw [t2]|rw [e1]|refine ad hg cP ?_|refine ad hg cC ?_|refine dg hg rfl (by decide) hs ?_;cbv;rw [fI hg,<-hh]);cbv)))
   exact hB ((hf++[c1 x],E2)) _ _ ⟨h3,aE⟩ (Wk.weak (wkG [some _,some 3] zr6 ⟨wqE rfl rfl,wqE rfl hw,zpt⟩ (by decide) aB))
theorem o6(n:Int)(sy:ah)(row:Bool)(al ac:aK)(kn:Int)(K:LLA)(ls:List (List Int))(xs:List aw)(hl:xs.length<=1048576)(hn:ls.length<=64)(hb:∀l∈ls,l.length<=1048576/\∀i∈l,0<=i/\i<(xs.length:Int)):bS prog 214 [.agg (nwL n sy row al ac kn (.view K)),.c (.view (vwA lnA ls)),.c (.view (vw aw.c xs))] fun res hk=>res= .o 0/\hk=[⟨3,1,vw ak (FJ sy row ac ls xs)⟩]:=by
 obtain⟨am,an⟩:=ac
 have cG:=gY sy (!row)
 have hp:=fun l(h:l∈ls)=>pQ xs l hl (hb l h).1 (hb l h).2
 have ht:=fun l(h:l∈ls)=>tN (pck xs l) (zpb (we xs l) (hb l h).1)
 have cS:=nz (ls.map (Cu sy ⟨am,an⟩ xs)) (jG sy (!row)) an sy.content (by rw [zql];exact hn)
 obtain⟨R,hR⟩:=nmE (FJ sy row ⟨am,an⟩ ls xs)
 obtain⟨Q,hQ⟩:=nmE (ls.map (Cu sy ⟨am,an⟩ xs))
 have hA:Q.length<=64:=by rw [hQ,zql];exact hn
 rw [<-hR]
 unfold FJ at hR
 rw [<-hQ]at cS hR
 generalize hG:jG sy (!row)=G at cG cS hR
 obtain⟨wr,hd⟩:=nmE (decide (sy.wrap=1))
 obtain⟨ex,hj⟩:=nmE (decide (am=3))
 have hm:R=if(!wr&&ex)=true then yE Q G an sy.content else Q:=by rw [hR,hd,hj];simp
 have ho:∀l,Cu sy ⟨am,an⟩ xs l=if(wr&&ex)=true then an else cro (pck xs l):=fun l=>by rw [hd,hj];simp [Cu]
 clear hR
 obtain⟨c1,ha⟩:=nmE (Cu sy ⟨am,an⟩ xs)
 rw [<-ha]at ho hQ
 generalize hV:vw aw.c xs=V at hp
 generalize hS:vw ak R=S;replace hS:=hS.symm
 generalize hU:vw ak Q=U at cS;replace hU:=hU.symm
 generalize hX:vw ak (yE Q G an sy.content)=X at cS;replace hX:=hX.symm
 have iX:=imV hX
 have kU:=kmV (k:=1) hU fun _=>rfl
 have dU:=dmV hU
 generalize hW:vwA lnA ls=W;replace hW:=hW.symm
 have t0:∀g:Gd,g=G0 prog 0 f214.ntmps->g .q .neq sy.wrap 1= !wr:=fun g hg=>by rw [bC hg,hd];exact(dQ _ _).trans (by simp)
 have t1:∀g:Gd,g=G0 prog 0 f214.ntmps->g .q .eql sy.wrap 1=wr:=fun g hg=>by rw [bj hg,hd];exact zqn _ _
 have t2:∀g:Gd,g=G0 prog 0 f214.ntmps->g .q .eql am 3=ex:=fun g hg=>by rw [bj hg,hj];exact zqn _ _
 clear hd hj ha hG
 have hu:ls.length<=1048576:=by omega
 refine aV func214 fun g F hg hF=> ?_
 have t0:=t0 g hg
 have t1:=t1 g hg
 have t2:=t2 g hg
 cbv
 rw [t2]
 cbv
 refine aQ hg bq (by kernel_rfl) W (lnA) ls hW hu (fun z(s:List Int×LLA)=>[(1,.v W),(2,.v V),(3,.p 0),(7,.o 1),(8,.t (abl (ex))),(9,.i (z))]) (fun z(s:List Int×LLA)=>[.bx 180 68 (nwL n sy row al ⟨am,an⟩ kn (.view K)),.rw ⟨3,1,s.2⟩]) (fun z(s:List Int×LLA)=>s.2=vw ak s.1) (fun(s:List Int×LLA) rest=>s.1++rest.map c1) (Q) ([],[]) (by rw [hQ];rfl) rfl (Wk.weak (wkG [some _,some _] zr6 ⟨wqE rfl rfl,wqE rfl rfl,zpt⟩ (by decide) aB)) (fun z s B hz h0 hi he=> ?_) (fun z s x rest B z0 z1 z2 hx hy h0 hi hc e1 hB=> ?_)
 ·obtain⟨hf,E⟩:=s
  dsimp only at hi h0
  have pE:=pmV hi
  obtain rfl:hf=Q:=by simpa using h0
  rw [<-hU]at hi
  replace hi:=hi.symm
  subst hi
  cbv;rw [he];cbv
  cases wr<;>cases ex
  all_goals
   (try cbv)
   ((repeat'((first|rw [t0]|refine aa hg cG ?_);cbv)))
  all_goals first
   |exact bN (by rw [hF,hS,hm,hU];rfl) rfl pE
   |((refine bU hg cS (aj (aX (ab:=⟨_,_,U⟩) rfl kU dU) (aj (av rfl) (aj (av rfl) (aj (av rfl) (az))))) iX ?_;cbv);exact bN (by rw [hF,hS,hm,hX];rfl) rfl (by rw [hX];exact aD _ _))
 ·obtain⟨hf,E⟩:=s
  dsimp only at hi h0
  have hr:x∈ls:=zqd hx
  have cP:=hp x hr
  have cC:=ht x hr
  have hq:=ho x
  generalize hC:cro (pck xs x)=C at cC hq
  generalize hM:vw aw.c (pck xs x)=M at cP cC
  have hs:E.length<=1048576:=by
   have:=congrArg List.length h0
   rw [zqe]at this
   rw [hi,ar];omega
  obtain⟨L,hL⟩:=nmE (vw ak x)
  rw [<-hL]at cP
  have hv:W[z.toNat]? =some [.view L]:=by rw [hL];exact hy
  have h3:(hf++[c1 x])++rest.map c1=Q:=by rw [<-h0];simp
  have aE:E++[[.J (c1 x)]]=vw ak (hf++[c1 x]):=by rw [hi,bk];rfl
  obtain⟨E2,hh⟩:∃E2,E2=E++[[.J (c1 x)]]:=⟨_,rfl⟩
  rw [<-hh]at aE
  have hw:=pmV aE
  rw [hq]at hh
  cbv
  rw [hc]
  cbv
  refine goX hg _ z0 hv rfl ?_
  cbv
  cases wr<;>cases ex
  all_goals
   simp only [Bool.and_self,Bool.and_true,Bool.and_false,Bool.false_eq_true,if_false,if_true]at hh
   (try cbv)
   ((repeat'((first|rw [t1]|rw [e1]|refine ad hg cP ?_|refine ad hg cC ?_|refine dg hg rfl (by decide) hs ?_;cbv;rw [fI hg,<-hh]);cbv)))
   exact hB ((hf++[c1 x],E2)) _ _ ⟨h3,aE⟩ (Wk.weak (wkG [some _,some 3] zr6 ⟨wqE rfl rfl,wqE rfl hw,zpt⟩ (by decide) aB))
theorem o5(n:Int)(sy:ah)(row:Bool)(al ac:aK)(kn:Int)(K:LLA)(ls:List (List Int))(xs:List aw)(hl:xs.length<=1048576)(hn:ls.length<=64)(hb:∀l∈ls,l.length<=1048576/\∀i∈l,0<=i/\i<(xs.length:Int)):PC0 214 [.agg (nwL n sy row al ac kn (.view K)),.c (.view (vwA lnA ls)),.c (.view (vw aw.c xs))] (.t (.c (.view (vw ak (FJ sy row ac ls xs))))):=yH (o6 n sy row al ac kn K ls xs hl hn hb) fun _=>rfl
variable {w h b:Int}
theorem De{P:Program}{f:FuncId}{args:List AT}{t k:Nat}{V:LLA}(hc:bS P f args fun res ha=>res= .t (.agg [.J w,.J h,.J b,.own 0])/\ha=[⟨t,k,V⟩])(hk:∀x∈V,x.length=k)(hd:∀x∈V,x.all dat=true):
  bS P f args fun res ha=>res= .t (.agg [.J w,.J h,.J b,.view V])/\ha=[]:=
 xQ hc fun res ha⟨e1,e2⟩=>by
  subst e1 e2
  exact⟨.t (.agg [.J w,.J h,.J b,.view V]),[],bK (sl1 0 V) (jL rfl hk hd) (Wk.weak (wkG [] ⟨.inl ⟨rfl,rfl⟩,zpt⟩ trivial (by decide) aB)),rfl,rfl⟩
theorem Fw{F:List AT->EH->Prop}{t k:Nat}{eh:EH}(hF:F=lv 0 (fun res h'=>∃rows,h'=rows.map .live/\(res= .t (.agg [.J w,.J h,.J b,.own 0])/\rows=[⟨t,k,[]⟩]))):F [.agg [.J w,.J h,.J b,.N]] eh:=by
 subst hF
 refine .inl ⟨.t (.agg [.J w,.J h,.J b,.own 0]),[.live ⟨t,k,[]⟩],[none],⟨zpn _,fun i hi=>absurd hi (zpq _),by simp,?_,?_⟩,[⟨t,k,[]⟩],rfl,rfl,rfl⟩
 ·simp only [rnH,zqw]
  exact⟨fun h=>absurd h (zpq _),rfl,zpt⟩
 ·exact⟨.inr zr4,zpt⟩
theorem xP(n:Int)(s:ah)(wd hgh:aK)(row:Bool)(iw ih al ac:aK)(K:LLA)(a b:Int):bS prog 170 [.agg (plL n s wd hgh row iw ih al ac (.view K)),ai a,ai b] fun res hc=>res= .t (.agg [.imm (.int .i64 (Cc s wd hgh (a,b)).wide),.imm (.int .i64 (Cc s wd hgh (a,b)).high),.imm (.int .i64 (Cc s wd hgh (a,b)).base),.own 0])/\hc=[⟨45,5,vw ag.c (Cc s wd hgh (a,b)).frames⟩]:=by
 have cF:=e9 s
 obtain⟨w0,w1⟩:=wd
 obtain⟨h0,h1⟩:=hgh
 obtain⟨f,hf⟩:=nmE (mz s)
 have hd:Cc s ⟨w0,w1⟩ ⟨h0,h1⟩ (a,b)=⟨tak ⟨w0,w1⟩ (wrap64 (a+adE f.left f.right)),tak ⟨h0,h1⟩ (wrap64 (b+adE f.top f.bottom)),tak ⟨h0,h1⟩ (wrap64 (b+adE f.top f.bottom)),[]⟩:=by rw [hf];rfl
 rw [hd]
 rw [<-hf]at cF
 clear hf hd
 obtain⟨f0,f1,f2,f3⟩:=f
 have cW:=ei f0 f1 f2 f3
 have cH:=ek f0 f1 f2 f3
 dsimp only
 generalize hA1:adE f0 f2=A1 at cW
 generalize hA2:adE f1 f3=A2 at cH
 have cT:=fQ w0 w1 (wrap64 (a+A1))
 have cU:=fQ h0 h1 (wrap64 (b+A2))
 obtain⟨E1,ha⟩:=nmE (wrap64 (a+A1))
 obtain⟨E2,hb⟩:=nmE (wrap64 (b+A2))
 rw [<-ha]at cT⊢
 rw [<-hb]at cU⊢
 generalize hT1:tak ⟨w0,w1⟩ E1=T1 at cT
 generalize hT2:tak ⟨h0,h1⟩ E2=T2 at cU
 have t1:∀g:Gd,g=G0 prog 0 f170.ntmps->g .w .add .i64 a A1=E1:=fun g hg=>by rw [aG hg,ha]
 have t2:∀g:Gd,g=G0 prog 0 f170.ntmps->g .w .add .i64 b A2=E2:=fun g hg=>by rw [aG hg,hb]
 clear hA1 hA2 ha hb hT1 hT2
 rw [show vw ag.c ([]:List ag)=[]from rfl]
 refine aV func170 fun g F hg hF=> ?_
 have t1:=t1 g hg
 have t2:=t2 g hg
 cbv
 (repeat'((first|rw [t1]|rw [t2]|refine ad hg cF ?_|refine aa hg cW ?_|refine aa hg cH ?_|refine aa hg cT ?_|refine aa hg cU ?_);cbv))
 exact Fw hF
variable {ns:List ae}
theorem gj{k:Int}{y:ae}(h:ns[(k-1).toNat]? =some y):kst ns k=y.style:=by
 unfold kst;rw [h]
def lx(V:LLA)(rtl:Bool):List AC:=[.view V,.B rtl,.imm (.pointer none)]
def uE(V:LLA)(rtl:Bool)(b:Bv)(kid:Int):Prop:=∀w0 w1 h0 h1:Int,PC0 83 [.agg (lx V rtl),ai kid,agP ⟨w0,w1⟩,agP ⟨h0,h1⟩] (.t (.agg (jH.ac (b kid ⟨w0,w1⟩ ⟨h0,h1⟩))))
theorem lg(row:Bool)(b:jH):PC0 242 [abl row,.agg (jH.ac b)] (.i (alB row b)):=by
 obtain⟨w,h,bs,fr⟩:=b
 have e:jH.ac ⟨w,h,bs,fr⟩=[.J w,.J h,.J bs,.view (vw ag.c fr)]:=rfl
 rw [e]
 generalize hV:vw ag.c fr=V
 cases row
 all_goals
  refine aV func242 fun g F hg hF=> ?_
  cbv
  exact aO hF rfl
theorem oz(V:LLA)(rtl:Bool)(b:Bv)(kid:Int)(hbx:uE V rtl b kid)(n:Int)(s:ah)(wd hgh:aK)(row:Bool)(iw ih al ac:aK)(K:LLA)(a0 a1 c0 c1:Int):PC0 241 [.agg (lx V rtl),.agg (plL n s wd hgh row iw ih al ac (.view K)),ai kid,agP ⟨a0,a1⟩,agP ⟨c0,c1⟩] (.t (.agg (jH.ac (Ep b row kid ⟨a0,a1⟩ ⟨c0,c1⟩)))):=by
 unfold Ep
 have ha:=hbx a0 a1 c0 c1
 have hb:=hbx c0 c1 a0 a1
 obtain⟨b1,hc⟩:=nmE (b kid ⟨a0,a1⟩ ⟨c0,c1⟩)
 obtain⟨b2,hd⟩:=nmE (b kid ⟨c0,c1⟩ ⟨a0,a1⟩)
 rw [<-hc]at ha
 rw [<-hd]at hb
 rw [<-hc,<-hd]
 clear hc hd hbx
 have e:∀q:jH,jH.ac q=[.J q.wide,.J q.high,.J q.base,.view (vw ag.c q.frames)]:=fun q=>rfl
 rw [e]at ha hb
 cases row
 ·simp only [Bool.false_eq_true,if_false]
  rw [e]
  generalize hF2:vw ag.c b2.frames=F2 at hb
  refine aV func241 fun g F hg hF=> ?_
  cbv
  repeat'(refine fV hg hb rfl rfl ?_;cbv)
  exact gf hF rfl ⟨rfl,rfl⟩
 ·simp only [if_true]
  rw [e]
  generalize hF1:vw ag.c b1.frames=F1 at ha
  refine aV func241 fun g F hg hF=> ?_
  cbv
  repeat'(refine fV hg ha rfl rfl ?_;cbv)
  exact gf hF rfl ⟨rfl,rfl⟩
theorem sq(ns:List ae)(hl:ns.length<=1048576)(kid:Int)(y:ae)(h1:isN ns kid=true)(hy:ns[(kid-1).toNat]? =some y)(rtl:Bool)(b:Bv)(hbx:uE (vwA ae.ac ns) rtl b kid)(n:Int)(p:Pl)(K:LLA):PC0 233 [.agg (lx (vwA ae.ac ns) rtl),.agg (plL n p.s p.w p.h p.row p.wide p.high p.al p.ac (.view K)),ai kid] (.i (FQ b p rtl ns kid)):=by
 obtain⟨s,row,w,h,iw,ih,al,ac,kids⟩:=p
 obtain⟨Ky,hq⟩:=nmE (vw ak y.kids)
 obtain⟨Ry,hs⟩:=nmE (vw aC.c y.table.rules)
 have b2:=bd h1
 obtain⟨R,hR⟩:=nmE (FQ b ⟨s,row,w,h,iw,ih,al,ac,kids⟩ rtl ns kid)
 rw [<-hR]
 unfold FQ at hR
 rw [gj hy]at hR
 unfold FS at hR
 dsimp only at hR⊢
 have cX:=ld ns hl kid y h1 hy rtl n s w h row iw ih al ac K
 change PC0 _ _ (.t (agP (kcX ⟨s,row,w,h,iw,ih,al,ac,kids⟩ y.style rtl)))at cX
 obtain⟨V,hV⟩:=nmE (vwA ae.ac ns)
 have cy:=bO ns kid y b2.1 (by have:=b2.2.1;omega) hy V Ky Ry hV hq hs
 rw [<-hV]at hbx cX⊢
 obtain⟨⟨k0,k1⟩,hk⟩:∃q,q=kcX ⟨s,row,w,h,iw,ih,al,ac,kids⟩ y.style rtl:=⟨_,rfl⟩
 rw [<-hk]at cX hR
 obtain⟨⟨g0,g1⟩,hc⟩:∃q,q=Il ⟨s,row,w,h,iw,ih,al,ac,kids⟩ y.style rtl:=⟨_,rfl⟩
 rw [<-hc]at hR
 have cZ:=oz V rtl b kid hbx n s w h row iw ih al ac K g0 g1 k0 k1
 obtain⟨bb,hp⟩:=nmE (Ep b row kid ⟨g0,g1⟩ ⟨k0,k1⟩)
 rw [<-hp]at cZ hR
 have cQ:=lg row bb
 generalize hSA:alB row bb=SA at cQ hR
 obtain⟨am,an⟩:=al
 have ck:=eX am an
 generalize hKN:knS ⟨am,an⟩=KN at ck hR
 have cs:=ej y.style.basis.kind y.style.basis.n KN
 change PC0 _ _ (.i (uI y.style.basis KN))at cs
 have cf:=fc y.style row KN
 have cr:=gR y.style row k1
 generalize hSZ:uI y.style.basis KN=SZ at cs hR
 generalize hFX:qL y.style row KN=FX at cf hR
 generalize hRT:rQ y.style row k1=RT at cr hR
 have e:jH.ac bb=[.J bb.wide,.J bb.high,.J bb.base,.view (vw ag.c bb.frames)]:=rfl
 rw [e]at cZ cQ
 generalize hFR:vw ag.c bb.frames=FR at cZ cQ
 obtain⟨b0,hm⟩:=nmE bb.wide
 obtain⟨b1,hn⟩:=nmE bb.high
 obtain⟨b3,ho⟩:=nmE bb.base
 rw [<-hm,<-hn,<-ho]at cZ cQ
 clear hm hn ho e hp hSA hSZ hFX hRT hKN hk
 have cM:=lj s rtl
 obtain⟨m1,hi⟩:=nmE (sd1 (kf s) (mc s rtl))
 obtain⟨m2,hj⟩:=nmE (sd2 (kf s) (mc s rtl))
 rw [<-hi,<-hj]at cM
 have cm:=gc V rtl n s y.style w h row iw ih ⟨am,an⟩ ac K m1 m2
 simp only [Il,Ay,sdB,sdM,if_true]at hc
 rw [<-hi,<-hj]at hc
 obtain⟨M1,hf⟩:=nmE (jv y.style.margin m1 rtl (knS iw))
 obtain⟨M2,hh⟩:=nmE (jv y.style.margin m2 rtl (knS iw))
 rw [<-hf,<-hh]at cm
 have ha:(⟨g0,g1⟩:aK)=if row=true then E7 (qE ⟨am,an⟩ (wrap64 (M1+M2)))else⟨1,0⟩:=by rw [hc,hf,hh]
 clear hc hf hh hi hj
 obtain⟨BB,he⟩:=nmE (wrap64 (M1+M2))
 rw [<-he]at ha
 have cI:=eY am an BB
 obtain⟨⟨i0,i1⟩,hI⟩:∃q,q=qE ⟨am,an⟩ BB:=⟨_,rfl⟩
 rw [<-hI]at cI ha
 have cL:=mu i0 i1
 have t4:∀g:Gd,g=G0 prog 0 f233.ntmps->g .w .add .i64 M1 M2=BB:=fun g hg=>by rw [aG hg,he]
 clear hI he hFR
 have hd:R=if¬SZ= -1 then SZ else if¬FX= -1 then FX else if k0=3/\¬RT= -1 then RT else SA:=by
  rw [hR]
  by_cases q1:SZ= -1<;>by_cases q2:FX= -1<;>by_cases q3:k0=3<;>by_cases q4:RT= -1<;>simp [q1,q2,q3,q4]
 clear hR
 refine aV func233 fun g F hg hF=> ?_
 have t0:g .q .neq (SZ) ((-1))=decide (¬(SZ)=((-1))):=by rw [bC hg];exact dQ _ _
 have t1:g .q .neq (FX) ((-1))=decide (¬(FX)=((-1))):=by rw [bC hg];exact dQ _ _
 have t2:g .q .eql (k0) (3)=decide ((k0)=(3)):=by rw [bj hg];exact zqn _ _
 have t3:g .q .neq (RT) ((-1))=decide (¬(RT)=((-1))):=by rw [bC hg];exact dQ _ _
 have t4:=t4 g hg
 cbv
 by_cases q1:SZ= -1
 case neg=>
  (first|rw [zqu q1]at t0|rw [zqt q1]at t0|rw [zqu (Classical.not_not.2 q1)]at t0|rw [zqt (Classical.not_not.2 q1)]at t0)
  (repeat'((first|rw [t0]|refine ad hg cy ?_|refine ad hg ck ?_|refine ad hg cs ?_);cbv))
  exact aO hF (by rw [hd,if_pos q1])
 by_cases q2:FX= -1
 case neg=>
  (first|rw [zqu q1]at t0|rw [zqt q1]at t0|rw [zqu (Classical.not_not.2 q1)]at t0|rw [zqt (Classical.not_not.2 q1)]at t0)
  (first|rw [zqu q2]at t1|rw [zqt q2]at t1|rw [zqu (Classical.not_not.2 q2)]at t1|rw [zqt (Classical.not_not.2 q2)]at t1)
  (repeat'((first|rw [t0]|rw [t1]|refine ad hg cy ?_|refine ad hg ck ?_|refine ad hg cs ?_|refine ad hg cf ?_);cbv))
  exact aO hF (by rw [hd,if_neg (fun x=>x q1),if_pos q2])
 have hb:R=if k0=3/\¬RT= -1 then RT else SA:=by rw [hd,if_neg (fun x=>x q1),if_neg (fun x=>x q2)]
 (first|rw [zqu q1]at t0|rw [zqt q1]at t0|rw [zqu (Classical.not_not.2 q1)]at t0|rw [zqt (Classical.not_not.2 q1)]at t0)
 (first|rw [zqu q2]at t1|rw [zqt q2]at t1|rw [zqu (Classical.not_not.2 q2)]at t1|rw [zqt (Classical.not_not.2 q2)]at t1)
 (repeat'((first|rw [t0]|rw [t1]|refine ad hg cy ?_|refine ad hg ck ?_|refine ad hg cs ?_|refine ad hg cf ?_|refine ad hg cX ?_);cbv))
 clear hd
 have fin:SA=R->(row=true->PC0 283 [.agg [.J i0,.J i1]] (.t (agP ⟨g0,g1⟩))):=fun _ hr=>by rw [ha,if_pos hr];exact cL
 by_cases q3:k0=3
 case pos=>
  by_cases q4:RT= -1
  case neg=>
   rw [if_pos ⟨q3,q4⟩]at hb
   (first|rw [zqu q3]at t2|rw [zqt q3]at t2|rw [zqu (Classical.not_not.2 q3)]at t2|rw [zqt (Classical.not_not.2 q3)]at t2)
   (first|rw [zqu q4]at t3|rw [zqt q4]at t3|rw [zqu (Classical.not_not.2 q4)]at t3|rw [zqt (Classical.not_not.2 q4)]at t3)
   (repeat'((first|rw [t2]|rw [t3]|refine ad hg cr ?_);cbv))
   exact aO hF hb.symm
  rw [if_neg (fun x=>x.2 q4)]at hb
  have fin:=fin hb.symm
  (first|rw [zqu q3]at t2|rw [zqt q3]at t2|rw [zqu (Classical.not_not.2 q3)]at t2|rw [zqt (Classical.not_not.2 q3)]at t2)
  (first|rw [zqu q4]at t3|rw [zqt q4]at t3|rw [zqu (Classical.not_not.2 q4)]at t3|rw [zqt (Classical.not_not.2 q4)]at t3)
  (repeat'((first|rw [t2]|rw [t3]|refine ad hg cr ?_);cbv))
  cases row
  ·rw [if_neg (by decide)]at ha
   simp only [aK.mk.injEq]at ha
   obtain⟨rfl,rfl⟩:=ha
   try cbv
   (repeat'((first|refine aa hg cZ ?_|refine aa hg cQ ?_);cbv))
   exact aO hF hb.symm
  ·have cL:=fin rfl
   try cbv
   (repeat'((first|rw [t4]|refine ad hg cM ?_|refine ad hg cm ?_|refine ad hg cI ?_|refine ad hg cL ?_|refine aa hg cZ ?_|refine aa hg cQ ?_);cbv))
   exact aO hF hb.symm
 case neg=>
  rw [if_neg (fun x=>q3 x.1)]at hb
  have fin:=fin hb.symm
  (first|rw [zqu q3]at t2|rw [zqt q3]at t2|rw [zqu (Classical.not_not.2 q3)]at t2|rw [zqt (Classical.not_not.2 q3)]at t2)
  (repeat'(rw [t2];cbv))
  cases row
  ·rw [if_neg (by decide)]at ha
   simp only [aK.mk.injEq]at ha
   obtain⟨rfl,rfl⟩:=ha
   try cbv
   (repeat'((first|refine aa hg cZ ?_|refine aa hg cQ ?_);cbv))
   exact aO hF hb.symm
  ·have cL:=fin rfl
   try cbv
   (repeat'((first|rw [t4]|refine ad hg cM ?_|refine ad hg cm ?_|refine ad hg cI ?_|refine ad hg cL ?_|refine aa hg cZ ?_|refine aa hg cQ ?_);cbv))
   exact aO hF hb.symm
theorem qy(ns:List ae)(hl:ns.length<=1048576)(rtl:Bool)(b:Bv)(n:Int)(p:Pl)(hkl:p.kids.length<=1048576)(hk:∀ha∈p.kids,isN ns ha=true)(hbx:∀ha∈p.kids,uE (vwA ae.ac ns) rtl b ha):bS prog 173 [.agg (lx (vwA ae.ac ns) rtl),.agg (plL n p.s p.w p.h p.row p.wide p.high p.al p.ac (.view (vw ak p.kids)))] fun res hu=>res= .o 0/\hu=[⟨237,9,vw af.c (Ej b p rtl ns p.kids)⟩]:=by
 obtain⟨R,hR⟩:=nmE (Ej b p rtl ns p.kids)
 rw [<-hR]
 unfold Ej at hR
 obtain⟨f,hf⟩:∃f,f=fun k=>Jo p (kst ns k) rtl (FQ b p rtl ns k):=⟨_,rfl⟩
 rw [<-hf]at hR
 have hL:R.length<=1048576:=by rw [hR,zql];exact hkl
 have cB:=fun ha(h:ha∈p.kids) y hy=>sq ns hl ha y (hk ha h) hy rtl b (hbx ha h) n p (vw ak p.kids)
 have hG:∀ha∈p.kids,∃y,ns[(ha-1).toNat]? =some y:=fun ha h=>(bd (hk ha h)).2.2
 have hA:=fun ha(h:ha∈p.kids) y hy Ky Ry=>bO ns ha y (bd (hk ha h)).1 (by have:=(bd (hk ha h)).2.1;omega) hy (vwA ae.ac ns) Ky Ry rfl
 obtain⟨s0,row,w,h,iw,ih,al,ac,kids⟩:=p
 dsimp only at *
 obtain⟨V,hV⟩:=nmE (vwA ae.ac ns)
 rw [<-hV]at cB hA
 rw [<-hV]
 obtain⟨K,hK⟩:=nmE (vw ak kids)
 have hJ:=lmV hK
 rw [<-hK]at cB
 rw [<-hK]
 generalize hS:vw af.c R=S;replace hS:=hS.symm
 obtain⟨am,an⟩:=al
 have ck:=eX am an
 obtain⟨KN,hp⟩:=nmE (knS ⟨am,an⟩)
 change PC0 _ _ (.i (knS ⟨am,an⟩))at ck
 rw [<-hp]at ck
 have cM:=lj s0 rtl
 obtain⟨m1,hq⟩:=nmE (sd1 (kf s0) (mc s0 rtl))
 obtain⟨m2,hr⟩:=nmE (sd2 (kf s0) (mc s0 rtl))
 rw [<-hq,<-hr]at cM
 have hH:∀k y,ns[(k-1).toNat]? =some y->f k=⟨FQ b ⟨s0,row,w,h,iw,ih,⟨am,an⟩,ac,kids⟩ rtl ns k,Dm y.style row KN,Ei y.style row KN,y.style.grow,y.style.shrink,jv y.style.margin m1 rtl (knS iw),jv y.style.margin m2 rtl (knS iw),xn y.style.margin m1 rtl,xn y.style.margin m2 rtl⟩:=fun k y hy=>by
  rw [hf,hp,hq,hr]
  dsimp only
  rw [gj hy]
  rfl
 have cm:=fun k=>gc V rtl n s0 k w h row iw ih ⟨am,an⟩ ac K m1 m2
 clear hf hp hq hr
 refine aV func173 fun g F hg hF=> ?_
 cbv
 (repeat'((first|refine ad hg ck ?_|refine ad hg cM ?_);cbv))
 refine aQ hg bq (by kernel_rfl) K (fun x=>lc (ak x)) kids hK hkl (fun z(s:List af×LLA)=>[(2,.p 0),(3,.p 1),(5,.i (KN)),(6,.i (m1)),(7,.i (m2)),(8,.o 2),(25,.v K),(26,.i (g .ln K)),(27,.i (z))]) (fun z(s:List af×LLA)=>[.bx 76 3 (lx V rtl),.bx 196 75 (plL n s0 w h row iw ih ⟨am,an⟩ ac (.view K)),.rw ⟨237,9,s.2⟩]) (fun z(s:List af×LLA)=>s.2=vw af.c s.1) (fun(s:List af×LLA) rest=>s.1++rest.map f) (R) ([],[]) (by rw [hR];rfl) rfl (Wk.weak (wkG [some _,some _,none] zr9 ⟨wqE rfl rfl,wqE rfl rfl,⟨_,rfl,rfl⟩,zpt⟩ (by decide) aB)) (fun z s B hz h0 hi he=> ?_) (fun z s x rest B z0 z1 z2 hx hy h0 hi hc e1 hB=> ?_)
 ·obtain⟨hh,E⟩:=s
  dsimp only at hi h0
  have pE:=pmV hi
  obtain rfl:hh=R:=by simpa using h0
  rw [hS,<-hi]at hF
  cbv;rw [he];cbv
  exact bN hF rfl pE
 ·obtain⟨hh,E⟩:=s
  dsimp only at hi h0
  have hs:x∈kids:=zqd hx
  obtain⟨y,ht⟩:=hG x hs
  have hb:=hH x y ht
  have cB:=cB x hs y ht
  have cy:=hA x hs y ht _ _ rfl rfl
  obtain⟨Ky,hD⟩:=nmE (vw ak y.kids)
  obtain⟨Ry,hE⟩:=nmE (vw aC.c y.table.rules)
  rw [<-hD,<-hE]at cy
  have cm:=cm y.style
  have hn:=jA y.style row KN
  have ho:=kB y.style row KN
  have hj:=dP y.style.margin m1 rtl
  have hm:=dP y.style.margin m2 rtl
  obtain⟨f0,hw⟩:=nmE (FQ b ⟨s0,row,w,h,iw,ih,⟨am,an⟩,ac,kids⟩ rtl ns x)
  rw [<-hw]at cB hb
  generalize hf1:Dm y.style row KN=f1 at hn hb
  generalize hf2:Ei y.style row KN=f2 at ho hb
  generalize hf5:jv y.style.margin m1 rtl (knS iw)=f5 at cm hb
  generalize hf6:jv y.style.margin m2 rtl (knS iw)=f6 at cm hb
  generalize hf7:xn y.style.margin m1 rtl=f7 at hj hb
  generalize hf8:xn y.style.margin m2 rtl=f8 at hm hb
  have hd:=congrArg List.length h0
  rw [zqe]at hd
  have hC:E.length<=1048576:=by rw [hi,ar];omega
  have h3:(hh++[f x])++rest.map f=R:=by rw [<-h0];simp
  have aE:E++[[.J f0,.J f1,.J f2,.J y.style.grow,.J y.style.shrink,.J f5,.J f6,.B f7,.B f8]]=vw af.c (hh++[f x]):=by rw [hi,bk,hb];rfl
  obtain⟨E2,hv⟩:∃E2,E2=E++[[.J f0,.J f1,.J f2,.J y.style.grow,.J y.style.shrink,.J f5,.J f6,.B f7,.B f8]]:=⟨_,rfl⟩
  rw [<-hv]at aE
  have hI:=pmV aE
  clear hw hf1 hf2 hf5 hf6 hf7 hf8 hd hb
  cbv;rw [hc];cbv;refine goX hg _ z0 hy rfl ?_;cbv
  (repeat'((first|rw [e1]|refine ad hg cy ?_|refine aa hg cB ?_|refine aa hg hn ?_|refine aa hg ho ?_|refine ad hg cm ?_|refine aa hg hj ?_|refine aa hg hm ?_|refine dg hg rfl (by decide) hC ?_;cbv;rw [fI hg,<-hv]);cbv))
  exact hB ((hh++[f x],E2)) _ _ ⟨h3,aE⟩ (Wk.weak (wkG [some _,some _,some 6] zr9 ⟨wqE rfl rfl,wqE rfl rfl,wqE rfl hI,zpt⟩ (by decide) aB))
theorem yK:∀{a b:List Int},b.length=a.length->vw ak a=(a.zip b).map (fun t=>lc (ak t.1))
 | [],b,h=>rfl
 |x::a,[],h=>by simp at h
 |x::a,y::b,h=>by rw [List.zip_cons_cons,zqA,<-yK (a:=a) (b:=b) (by simpa using h)];rfl
theorem Cx{a b:List Int}{i:Nat}{t:Int×Int}(h:(a.zip b)[i]? =some t):a[i]? =some t.1/\b[i]? =some t.2:=List.getElem?_zip_eq_some.1 h
theorem qx(ns:List ae)(hl:ns.length<=1048576)(rtl:Bool)(b:Bv)(n:Int)(p:Pl)(zs:List Int)(hkl:p.kids.length<=1048576)(hzs:zs.length=p.kids.length)(hk:∀hb∈p.kids,isN ns hb=true)(ho:∀hb∈p.kids,uE (vwA ae.ac ns) rtl b hb):bS prog 175 [.agg (lx (vwA ae.ac ns) rtl),.agg (plL n p.s p.w p.h p.row p.wide p.high p.al p.ac (.view (vw ak p.kids))),.c (.view (vw ak zs))] fun res hI=>res= .o 0/\hI=[⟨210,7,vw aw.c (Gh b p rtl ns (p.kids.zip zs))⟩]:=by
 obtain⟨R,hR⟩:=nmE (Gh b p rtl ns (p.kids.zip zs))
 rw [<-hR]
 unfold Gh at hR
 obtain⟨f,hf⟩:∃f,f=fun q:Int×Int=>J1 p (kst ns q.1) rtl (Ep b p.row q.1 ⟨3,q.2⟩ (Cw p (kst ns q.1) rtl q.2)):=⟨_,rfl⟩
 rw [<-hf]at hR
 have hG:(p.kids.zip zs).length<=1048576:=by rw [zqB];omega
 have xb:R.length<=1048576:=by rw [hR,zql];exact hG
 have hE:=yK hzs
 have hU:=fun{i t} h=>Cx (a:=p.kids) (b:=zs) (i:=i) (t:=t) h
 have h6:∀hb∈p.kids,∃y,ns[(hb-1).toNat]? =some y:=fun hb h=>(bd (hk hb h)).2.2
 have hT:=fun hb(h:hb∈p.kids) y hy Ky Ry=>bO ns hb y (bd (hk hb h)).1 (by have:=(bd (hk hb h)).2.1;omega) hy (vwA ae.ac ns) Ky Ry rfl
 obtain⟨s0,row,w,h,iw,ih,al,ac,kids⟩:=p
 dsimp only at *
 have cX:=fun hb(hh:hb∈kids) y hy=>ld ns hl hb y (hk hb hh) hy rtl n s0 w h row iw ih al ac (vw ak kids)
 change∀hb(hh:hb∈kids) y,ns[(hb-1).toNat]? =some y->PC0 _ _ (.t (agP (kcX ⟨s0,row,w,h,iw,ih,al,ac,kids⟩ y.style rtl)))at cX
 obtain⟨V,hV⟩:=nmE (vwA ae.ac ns)
 rw [<-hV]at ho hT cX
 rw [<-hV]
 obtain⟨Z,hZ⟩:=nmE (vw ak zs)
 have xc:=lmV hZ
 obtain⟨K,hK⟩:=nmE (vw ak kids)
 have xa:=lmV hK
 rw [<-hK]at cX hE
 have h4:∀{i:Nat}{v:Int},zs[i]? =some v->Z[i]? =some [.J v]:=fun h=>by rw [hZ];exact aZ h
 rw [<-hK,<-hZ]
 generalize hS:vw aw.c R=S;replace hS:=hS.symm
 obtain⟨am,an⟩:=ac
 have ck:=eX am an
 obtain⟨KN,hv⟩:=nmE (knS ⟨am,an⟩)
 change PC0 _ _ (.i (knS ⟨am,an⟩))at ck
 rw [<-hv]at ck
 have cM:=jS s0 rtl
 obtain⟨m1,hC⟩:=nmE (sd1 (!kf s0) (mE s0 rtl))
 obtain⟨m2,hD⟩:=nmE (sd2 (!kf s0) (mE s0 rtl))
 rw [<-hC,<-hD]at cM
 have hQ:∀(q:Int×Int) y,ns[(q.1-1).toNat]? =some y->∀kc,kc=kcX ⟨s0,row,w,h,iw,ih,al,⟨am,an⟩,kids⟩ y.style rtl->∀ax,ax=(if kc.mode≠3/\qL y.style (!row) KN= -1/\rQ y.style (!row) q.2≠ -1 then⟨3,mG y.style (!row) KN (rQ y.style (!row) q.2)⟩else kc)->∀bb,bb=Ep b row q.1 ⟨3,q.2⟩ ax->
   f q=⟨mG y.style (!row) KN (alB (!row) bb),jv y.style.margin m1 rtl (knS iw),jv y.style.margin m2 rtl (knS iw),xn y.style.margin m1 rtl,xn y.style.margin m2 rtl,Cv s0 y.style,tV bb.base (mG y.style (!row) KN (alB (!row) bb))⟩:=fun q y hy kc h8 ax h7 bb hn=>by
  rw [hf,hn,h7,h8,hv,hC,hD]
  dsimp only
  rw [gj hy]
  rfl
 have cm:=fun k=>gc V rtl n s0 k w h row iw ih al ⟨am,an⟩ K m1 m2
 clear hf hv hC hD
 obtain⟨wide,hW⟩:=nmE (!row)
 generalize hqs:kids.zip zs=qs at hE hU hG hR
 refine aV func175 fun g F hg hF=> ?_
 cbv
 (repeat'((first|refine ad hg ck ?_|refine ad hg cM ?_);cbv))
 replace hK:=hE
 refine aQ hg bq (by kernel_rfl) K (fun t=>lc (ak t.1)) qs hK hG (fun z(s:List aw×LLA)=>[(2,.v Z),(3,.p 0),(4,.p 1),(7,.i (KN)),(8,.t (abl ((!row)))),(9,.i (m1)),(10,.i (m2)),(11,.o 2),(34,.v K),(35,.i (g .ln K)),(36,.i (z))]) (fun z(s:List aw×LLA)=>[.bx 76 3 (lx V rtl),.bx 196 75 (plL n s0 w h row iw ih al ⟨am,an⟩ (.view K)),.rw ⟨210,7,s.2⟩]) (fun z(s:List aw×LLA)=>s.2=vw aw.c s.1) (fun(s:List aw×LLA) rest=>s.1++rest.map f) (R) ([],[]) (by rw [hR];rfl) rfl (Wk.weak (wkG [some _,some _,none] G6 ⟨wqE rfl rfl,wqE rfl rfl,⟨_,rfl,rfl⟩,zpt⟩ (by decide) aB)) (fun z s B hz h0 hi he=> ?_) (fun z s x rest B z0 z1 z2 hx hy h0 hi hc e1 hB=> ?_)
 ·obtain⟨hm,E⟩:=s
  dsimp only at hi h0
  have pE:=pmV hi
  obtain rfl:hm=R:=by simpa using h0
  rw [hS,<-hi]at hF
  cbv;rw [he];cbv
  exact bN hF rfl pE
 ·obtain⟨hm,E⟩:=s
  obtain⟨x0,x1⟩:=x
  dsimp only at hi h0 hy
  have hX:=hU hx
  have hp:x0∈kids:=zqd hX.1
  have h5:=h4 hX.2
  obtain⟨y,hH⟩:=h6 x0 hp
  have ha:=hQ (x0,x1) y hH _ rfl _ rfl _ rfl
  dsimp only at ha
  have cX:=cX x0 hp y hH
  have cy:=hT x0 hp y hH _ _ rfl rfl
  have ho:=ho x0 hp
  obtain⟨Ky,h1⟩:=nmE (vw ak y.kids)
  obtain⟨Ry,h2⟩:=nmE (vw aC.c y.table.rules)
  rw [<-h1,<-h2]at cy
  have cm:=cm y.style
  have hq:=dP y.style.margin m1 rtl
  have hr:=dP y.style.margin m2 rtl
  have hs:=nw s0 y.style
  have cf:=fc y.style (!row) KN
  have cr:=gR y.style (!row) x1
  have hJ:=dD x1
  obtain⟨⟨k0,k1⟩,hN⟩:∃q,q=kcX ⟨s0,row,w,h,iw,ih,al,⟨am,an⟩,kids⟩ y.style rtl:=⟨_,rfl⟩
  rw [<-hN]at cX ha
  dsimp only at ha
  generalize hFX:qL y.style (!row) KN=FX at cf ha
  generalize hRT:rQ y.style (!row) x1=RT at cr ha
  have ht:=dF y.style (!row) KN RT
  generalize hB1:mG y.style (!row) KN RT=B1 at ht ha
  have hL:=dD B1
  obtain⟨⟨j0,j1⟩,hd⟩:∃q,q=(if k0≠3/\FX= -1/\RT≠ -1 then(⟨3,B1⟩:aK)else⟨k0,k1⟩):=⟨_,rfl⟩
  rw [<-hd]at ha
  have cZ:=oz V rtl b x0 ho n s0 w h row iw ih al ⟨am,an⟩ K 3 x1 j0 j1
  obtain⟨bb,hn⟩:=nmE (Ep b row x0 ⟨3,x1⟩ ⟨j0,j1⟩)
  rw [<-hn]at cZ ha
  have cQ:=lg (!row) bb
  generalize hSA:alB (!row) bb=SA at cQ ha
  have hu:=dF y.style (!row) KN SA
  generalize hf0:mG y.style (!row) KN SA=f0 at hu ha
  generalize hf1:jv y.style.margin m1 rtl (knS iw)=f1 at cm ha
  generalize hf2:jv y.style.margin m2 rtl (knS iw)=f2 at cm ha
  generalize hf3:xn y.style.margin m1 rtl=f3 at hq ha
  generalize hf4:xn y.style.margin m2 rtl=f4 at hr ha
  generalize hf5:Cv s0 y.style=f5 at hs ha
  have e:jH.ac bb=[.J bb.wide,.J bb.high,.J bb.base,.view (vw ag.c bb.frames)]:=rfl
  rw [e]at cZ cQ
  generalize hFR:vw ag.c bb.frames=FR at cZ cQ
  obtain⟨b0,hO⟩:=nmE bb.wide
  obtain⟨b1,hP⟩:=nmE bb.high
  obtain⟨b3,hw⟩:=nmE bb.base
  rw [<-hO,<-hP,<-hw]at cZ cQ
  rw [<-hw]at ha
  obtain⟨f6,hA⟩:=nmE (tV b3 f0)
  rw [<-hA]at ha
  have tm:g .mn b3 f0=f6:=by rw [Kd hg,hA];rfl
  have t0:g .q .neq (k0) (3)=decide (¬(k0)=(3)):=by rw [bC hg];exact dQ _ _
  have t1:g .q .eql (FX) ((-1))=decide ((FX)=((-1))):=by rw [bj hg];exact zqn _ _
  have t2:g .q .neq (RT) ((-1))=decide (¬(RT)=((-1))):=by rw [bC hg];exact dQ _ _
  have hj:=congrArg List.length h0
  rw [zqe]at hj
  have hY:E.length<=1048576:=by rw [hi,ar];omega
  have h3:(hm++[f (x0,x1)])++rest.map f=R:=by rw [<-h0];simp
  have aE:E++[[.J f0,.J f1,.J f2,.B f3,.B f4,.J f5,.J f6]]=vw aw.c (hm++[f (x0,x1)]):=by rw [hi,bk,ha];rfl
  obtain⟨E2,hM⟩:∃E2,E2=E++[[.J f0,.J f1,.J f2,.B f3,.B f4,.J f5,.J f6]]:=⟨_,rfl⟩
  rw [<-hM]at aE
  have h9:=pmV aE
  clear hf0 hf1 hf2 hf3 hf4 hf5 hA hj ha e hO hP hw hFR hSA hn hFX hRT hB1 hN hQ
  cbv;rw [hc];cbv;refine goX hg _ z0 hy rfl ?_;cbv
  by_cases q0:k0=3
  case' neg=>
   by_cases q1:FX= -1
   case' pos=>
    by_cases q2:RT= -1
  all_goals
   first
    |rw [if_pos ⟨by assumption,by assumption,by assumption⟩]at hd
    |rw [if_neg (fun hh=>by first|exact hh.1 (by assumption)|exact absurd hh.2.1 (by assumption)|exact hh.2.2 (by assumption))]at hd
   simp only [aK.mk.injEq]at hd
   obtain⟨rfl,rfl⟩:=hd
   ((first|rw [zqu q0]at t0|rw [zqt q0]at t0|rw [zqu (Classical.not_not.2 q0)]at t0|rw [zqt (Classical.not_not.2 q0)]at t0))
   (try((first|rw [zqu q1]at t1|rw [zqt q1]at t1|rw [zqu (Classical.not_not.2 q1)]at t1|rw [zqt (Classical.not_not.2 q1)]at t1)))
   (try((first|rw [zqu q2]at t2|rw [zqt q2]at t2|rw [zqu (Classical.not_not.2 q2)]at t2|rw [zqt (Classical.not_not.2 q2)]at t2)))
   ((repeat'((first|rw [t0]|rw [t1]|rw [t2]|rw [tm]|rw [e1]|refine ad hg cy ?_|refine ad hg cX ?_|refine aa hg cr ?_|refine ad hg cf ?_|refine ad hg ht ?_|refine ad hg hL ?_|refine aa hg hJ ?_|refine aa hg cZ ?_|refine aa hg cQ ?_|refine aa hg hu ?_|refine aa hg hs ?_|refine ad hg cm ?_|refine aa hg hq ?_|refine aa hg hr ?_|refine goX hg _ z0 h5 rfl ?_|refine dg hg rfl (by decide) hY ?_;cbv;rw [fI hg,<-hM]);cbv)))
   exact hB ((hm++[f (x0,x1)],E2)) _ _ ⟨h3,aE⟩ (Wk.weak (wkG [some _,some _,some 8] G6 ⟨wqE rfl rfl,wqE rfl rfl,wqE rfl h9,zpt⟩ (by decide) aB))
section
variable {P:Program}{n0 N:Nat}{g:Gd}
theorem BE{β:BP}(hg:g=G0 P n0 N){h:EH}{n:Nat}{f:FuncId}{args args':List AT}{K:AV->EH->Prop}{a b c:Int}{ab:AB}(hc:bS P f args' fun res hb=>res= .t (.agg [.J a,.J b,.J c,.own 0])/\hb=[ab])(hd:dwA args args')(hp:ay ab.es=true)
  (hK:K (.t (.agg [.J a,.J b,.J c,.own n])) [.rw ab]):g .PC f h n args K:=by
 subst hg
 refine⟨.t (.agg [.J a,.J b,.J c,.own n]),[ab],⟨args',_,hc,.inl ⟨hd,fun res hb ha=> ?_⟩⟩,[.rw ab],rfl,hK⟩
 obtain⟨rfl,rfl⟩:=ha
 exact⟨rfl,by simp only [zqA,List.map_nil,fY hp]⟩
end
def F5(q:jH)(res:AV)(rows:List AB):Prop:=res= .t (.agg [.J q.wide,.J q.high,.J q.base,.own 0])/\rows=[⟨45,5,vw ag.c q.frames⟩]
def G5(V:LLA)(rtl:Bool)(b:Bv)(kid:Int):Prop:=∀w0 w1 h0 h1:Int,bS prog 125 [.agg (lx V rtl),ai kid,agP ⟨w0,w1⟩,agP ⟨h0,h1⟩] (F5 (b kid ⟨w0,w1⟩ ⟨h0,h1⟩))
def Ir(V:LLA)(rtl:Bool)(b:Bv)(kid:Int):Prop:=∀w0 w1 h0 h1:Int,bS prog 83 [.agg (lx V rtl),ai kid,agP ⟨w0,w1⟩,agP ⟨h0,h1⟩] (F5 (b kid ⟨w0,w1⟩ ⟨h0,h1⟩))
theorem zp(V:LLA)(rtl:Bool)(b:Bv)(kid:Int)(hla:G5 V rtl b kid):Ir V rtl b kid:=by
 intro w0 w1 h0 h1
 have cL:=hla w0 w1 h0 h1
 unfold F5 at cL⊢
 obtain⟨bb,hb⟩:=nmE (b kid ⟨w0,w1⟩ ⟨h0,h1⟩)
 rw [<-hb]at cL⊢
 have ha:ay (vw ag.c bb.frames)=true:=aD _ _
 generalize hFR:vw ag.c bb.frames=FR at cL ha
 refine rU [(1,.hand),(3,.hand),(7,.hand),(9,.hand)] func83 fun g hh hd F hc he hg hF=> ?_
 cbv
 refine Fi hg he bq 2 (by kernel_rfl) fun mk hf=> ?_
 cbv
 rw [hf]
 refine⟨_,_,_,_,_,Tryz.underlying74,rfl,rfl,rfl,rfl,?_⟩
 cbv
 refine xd hg cL rfl ha ?_
 cbv
 exact wW hF rfl ha
theorem sr(V:LLA)(rtl:Bool)(b:Bv)(kid:Int)(hla:Ir V rtl b kid):uE V rtl b kid:=fun w0 w1 h0 h1=>
 De (hla w0 w1 h0 h1) (xj (c:=ag.c) (k:=5) fun _=>rfl) jc
theorem ov(n:Int)(s:ah)(wd hgh:aK)(row:Bool)(iw ih al ac:aK)(K:LLA)(xs:List af)(hl:xs.length<=1048576):PC0 174 [.agg (plL n s wd hgh row iw ih al ac (.view K)),.c (.view (vw af.c xs))] (.tup [.c (.view (vwA lnA (lns xs (jG s row) (lw al) (!decide (s.wrap=1))))),ai (tak al (lng xs (jG s row) (lw al) (!decide (s.wrap=1)))),.c (.view (vw ak (lsz xs (jG s row) (lw al) (!decide (s.wrap=1)) (tak al (lng xs (jG s row) (lw al) (!decide (s.wrap=1)))))))]):=by
 obtain⟨am,an⟩:=al
 have cG:=jh s row
 have cR:=oI am an
 generalize hG:jG s row=G at cG
 generalize hM:lw ⟨am,an⟩=M at cR
 obtain⟨wr,ha⟩:=nmE ((!decide (s.wrap=1)))
 rw [<-ha]
 have cL:=qI xs G M wr hl
 generalize hLG:lng xs G M wr=LG at cL
 have cT:=fQ am an LG
 generalize hT:tak ⟨am,an⟩ LG=T at cT
 have cN:=jz xs G M wr hl
 have cS:=qJ xs G M wr T hl
 generalize hLN:vwA lnA (lns xs G M wr)=LN at cN
 generalize hZ:vw ak (lsz xs G M wr T)=Z at cS
 generalize hV:vw af.c xs=V at cL cN cS
 have t0:∀g:Gd,g=G0 prog 0 f174.ntmps->g .q .neq s.wrap 1=wr:=fun g hg=>by rw [bC hg,ha];exact(dQ _ _).trans (by simp)
 clear ha hLN hZ hV hT hLG hG hM
 refine aV func174 fun g F hg hF=> ?_
 have t0:=t0 g hg
 cbv
 (repeat'((first|rw [t0]|refine aa hg cG ?_|refine aa hg cR ?_|refine aa hg cL ?_|refine aa hg cT ?_|refine ad hg cN ?_|refine ad hg cS ?_);cbv))
 exact gf hF rfl ⟨rfl,rfl⟩
theorem lJ(n:Int)(s:ah)(row:Bool)(al ac:aK)(kn:Int)(K:LLA)(xs:List af)(hl:xs.length<=1048576):PC0 210 [.agg (nwL n s row al ac kn (.view K)),.c (.view (vw af.c xs))] (.i (tak al (lng xs (jG s row) (lw al) (!decide (s.wrap=1))))):=by
 obtain⟨am,an⟩:=al
 have cG:=gY s row
 have cR:=iv am an
 generalize hG:jG s row=G at cG
 generalize hM:lw ⟨am,an⟩=M at cR
 obtain⟨wr,ha⟩:=nmE ((!decide (s.wrap=1)))
 rw [<-ha]
 have cL:=qq xs G M wr hl
 generalize hLG:lng xs G M wr=LG at cL
 have cT:=dT am an LG
 generalize hT:tak ⟨am,an⟩ LG=T at cT
 generalize hV:vw af.c xs=V at cL
 have t0:∀g:Gd,g=G0 prog 0 f210.ntmps->g .q .neq s.wrap 1=wr:=fun g hg=>by rw [bC hg,ha];exact(dQ _ _).trans (by simp)
 clear ha hV hT hLG hG hM
 refine aV func210 fun g F hg hF=> ?_
 have t0:=t0 g hg
 cbv
 (repeat'((first|rw [t0]|refine aa hg cG ?_|refine aa hg cR ?_|refine aa hg cL ?_|refine aa hg cT ?_);cbv))
 exact aO hF rfl
theorem ry(n:Int)(s:ah)(row:Bool)(al ac:aK)(kn:Int)(K:LLA)(xs:List af)(hl:xs.length<=1048576):PC0 209 [.agg (nwL n s row al ac kn (.view K)),.c (.view (vw af.c xs))] (.t (.c (.view (vw ak (lsz xs (jG s row) (lw al) (!decide (s.wrap=1)) (tak al (lng xs (jG s row) (lw al) (!decide (s.wrap=1))))))))):=by
 have cI:=lJ n s row al ac kn K xs hl
 generalize hT:tak al (lng xs (jG s row) (lw al) (!decide (s.wrap=1)))=T at cI
 obtain⟨am,an⟩:=al
 have cG:=gY s row
 have cR:=iv am an
 generalize hG:jG s row=G at cG
 generalize hM:lw ⟨am,an⟩=M at cR
 obtain⟨wr,ha⟩:=nmE ((!decide (s.wrap=1)))
 rw [<-ha]
 have cS:=qr xs G M wr T hl
 generalize hZ:vw ak (lsz xs G M wr T)=Z at cS
 generalize hV:vw af.c xs=V at cI cS
 have t0:∀g:Gd,g=G0 prog 0 f209.ntmps->g .q .neq s.wrap 1=wr:=fun g hg=>by rw [bC hg,ha];exact(dQ _ _).trans (by simp)
 clear ha hV hZ hT hG hM
 refine aV func209 fun g F hg hF=> ?_
 have t0:=t0 g hg
 cbv
 (repeat'((first|rw [t0]|refine aa hg cG ?_|refine aa hg cR ?_|refine aa hg cI ?_|refine aa hg cS ?_);cbv))
 exact gf hF rfl ⟨rfl,rfl⟩
theorem oD{l r:List Int}{m:Int}{n:Nat}(h:l++r=ixs m n):l.length<=n/\l=ixs m l.length/\r=ixs (m+l.length) (n-l.length):=by
 have ha:=congrArg List.length h
 rw [zqe,bX]at ha
 have hb:l.length<=n:=by omega
 have e:ixs m n=ixs m l.length++ixs (m+l.length) (n-l.length):=by rw [<-kv,show l.length+(n-l.length)=n by omega]
 rw [e]at h
 have:=List.append_inj h (by rw [bX])
 exact⟨hb,this.1,this.2⟩
theorem mR{l:List Int}{ls:List (List Int)}{m:Int}{n:Nat}(h:(l::ls).flatten=ixs m n):l.length<=n/\l=ixs m l.length/\ls.flatten=ixs (m+l.length) (n-l.length):=by
 rw [List.flatten_cons]at h
 exact oD h
theorem Bp(p:Pl)(ns:List ae)(sides:List aw)(sizes:List Int):∀(ls:List (List Int×Int)),(DN p ns sides sizes ls).length=(ls.map (·.1)).flatten.length
 | []=>rfl
 |q::r=>by
  have:=Bp p ns sides sizes r
  simp only [DN,List.flatMap_cons,zqe,zql,zqA,List.flatten_cons]at this⊢
  omega
theorem mW(p:Pl)(rtl:Bool)(inner across:Int)(sizes:List Int)(sides:List aw)(st c lb:Int)(ps:List Int):∀(ln:List Int)(j:Int),(ta p rtl inner across sizes sides st c lb ps j ln).length=ln.length
 | [],_=>rfl
 |i::r,j=>by simp only [ta,zqx,mW p rtl inner across sizes sides st c lb ps r]
theorem re(p:Pl)(rtl:Bool)(items:List af)(inner across:Int)(sizes:List Int)(sides:List aw)(sts:List Int):∀(ls:List (List Int×Int))(k:Int),(yh p rtl items inner across sizes sides sts k ls).length=(ls.map (·.1)).flatten.length
 | [],_=>rfl
 |(l,c)::r,k=>by simp only [yh,zqe,mW,zqA,List.flatten_cons,re p rtl items inner across sizes sides sts r]
theorem Ex(cs:List Int)(gap inner ct:Int)(hl:cs.length<=64):(yE cs gap inner ct).length=cs.length:=by
 unfold yE
 split
 ·have ha:(evn (wrap64 (inner-crt cs gap)) (cs.length:Int)).length=cs.length:=by rw [il];have:=oT (many:=(cs.length:Int)) (by omega) (by omega);omega
  rw [zql,zqB,ha];omega
 ·rfl
theorem rh(p:Pl)(ls:List (List Int))(sides:List aw)(hl:ls.length<=64):(zK p ls sides).length=ls.length:=by
 unfold zK
 split
 ·rw [Ex _ _ _ _ (by rw [zql];exact hl),zql]
 ·rw [zql]
theorem Bc(b:Bv)(p:Pl)(rtl:Bool)(ns:List ae)(ks:List Int):(Ej b p rtl ns ks).length=ks.length:=zql ..
theorem vB(p:Pl)(xs:List af):(tc p xs).length=xs.length:=zl ..
theorem EJ(b:Bv)(p:Pl)(rtl:Bool)(ns:List ae)(ks:List (Int×Int)):(Gh b p rtl ns ks).length=ks.length:=zql ..
theorem qQ{α:Type}{c:α->List AC}:∀{a:List α}{b:List Int},b.length=a.length->vwA c a=(a.zip b).map (fun t=>c t.1)
 | [],b,h=>rfl
 |x::a,[],h=>by simp at h
 |x::a,y::b,h=>by
  have:=qQ (c:=c) (a:=a) (b:=b) (by simpa using h)
  simp only [vwA]at this⊢
  rw [List.zip_cons_cons,zqA,zqA,<-this]
theorem fj{α:Type}:∀{a:List α}{b:List Int},b.length=a.length->(a.zip b).map (·.1)=a
 | [],b,h=>rfl
 |x::a,[],h=>by simp at h
 |x::a,y::b,h=>by rw [List.zip_cons_cons,zqA,fj (by simpa using h)]
theorem yJ{α β:Type}{a:List α}{b:List β}{i:Nat}{t:α×β}(h:(a.zip b)[i]? =some t):a[i]? =some t.1/\b[i]? =some t.2:=List.getElem?_zip_eq_some.1 h
theorem xK{sides:List aw}{i:Int}{y:aw}(h0:0<=i)(h:sides[i.toNat]? =some y):sdZ sides i=y:=by
 unfold sdZ;rw [if_pos h0,h];rfl
theorem xI{α:Type}{H:List α}{q:Nat}{y:α}(h:H[q]? =some y):H.set q y=H:=by
 refine List.ext_getElem? fun j=> ?_
 rw [List.getElem?_set]
 split
 ·rename_i hj;subst hj
  rw [if_pos (zqb.1 h).1,h]
 ·rfl
theorem DM{p:Pl}{S:List aw}{Z:List Int}{c i kd z:Int}{y:ae}{sd:aw}(h0:0<=i)(hS:S[i.toNat]? =some sd)(hK:p.kids[i.toNat]? =some kd)(hZ:Z[i.toNat]? =some z)(hy:ns[(kd-1).toNat]? =some y):
  zG p ns S Z c i=if Bq sd=true/\qL y.style (!p.row) (knS p.ac)= -1/\rQ y.style (!p.row) z= -1 then DL sd (mG y.style (!p.row) (knS p.ac) (wrap64 (c-wrap64 (sd.before+sd.behind))))else sd:=by
 have e1:elZ p.kids i=kd:=by have:=oV hK;rwa [Int.toNat_of_nonneg h0]at this
 have e2:elZ Z i=z:=by have:=oV hZ;rwa [Int.toNat_of_nonneg h0]at this
 unfold zG
 rw [xK h0 hS,e1,e2,gj hy]
variable {Q:Exit->List (Nat×AV)->EH->Prop}{g:Gd}
theorem Ff(hg:g= @G0 bp0 prog 0 f125.ntmps)(ns:List ae)(hl:ns.length<=1048576)(V:LLA)(hV:V=vwA ae.ac ns)(rtl:Bool)(n:Int)(s0:ah)(row:Bool)(iw ih al ac:aK)(w0 w1 h0' h1':Int)(kids:List Int)(K:LLA)(hK:K=vw ak kids)(hk:∀hd∈kids,isN ns hd=true)
  (IN AC' KB:Int) (hKB:KB=knS ac) (vI vL vZ vC vT:LLA) (ZZ CC:List Int) (hvZ:vZ=vw ak ZZ) (hvC:vC=vw ak CC) (S0:List aw) (hzl:ZZ.length=kids.length) (hsl:S0.length=kids.length)
  (zo c:Int) (hz0:0<=zo) (hcc:CC[zo.toNat]? =some c) (l:List Int) (L:LLA) (hL:L=vw ak l) (hll:l.length<=1048576) (done:List aw) (E0:LLA) (hE0:E0=vw aw.c (done++S0.drop done.length)) (hld:l=ixs done.length l.length) (hle:done.length+l.length<=kids.length)
  (hQ:∀(z:Int)(E:LLA),E=vw aw.c ((done++l.map (zG ⟨s0,row,⟨w0,w1⟩,⟨h0',h1'⟩,iw,ih,al,ac,kids⟩ ns S0 ZZ c))++S0.drop (done.length+l.length))->Q (.exit 2) [(126,.t (abl (false))),(4,.p 0),(6,.p 1),(7,.p 2),(8,.p 3),(9,.p 4),(11,.v vI),(12,.v vL),(13,.i (IN)),(14,.v vZ),(15,.o 5),(16,.v vC),(18,.i (AC')),(20,.v vT),(21,.i (KB)),(22,.i (zo)),(116,.v vL),(117,.i (g .ln vL)),(118,.i (zo)),(123,.v L),(124,.i (g .ln L)),(125,.i (z))] [.bx 76 3 (lx V rtl),.bx 122 2 [.J w0,.J w1],.bx 122 2 [.J h0',.J h1'],.bx 127 4 [.J 0,.J 0,.J 0,.N],.bx 196 75 (plL n s0 ⟨w0,w1⟩ ⟨h0',h1'⟩ row iw ih al ac (.view K)),.rw ⟨210,7,E⟩]):
  g .L (mZ (jD f125) 1) Q [(4,.p 0),(6,.p 1),(7,.p 2),(8,.p 3),(9,.p 4),(11,.v vI),(12,.v vL),(13,.i (IN)),(14,.v vZ),(15,.o 5),(16,.v vC),(18,.i (AC')),(20,.v vT),(21,.i (KB)),(22,.i (zo)),(116,.v vL),(117,.i (g .ln vL)),(118,.i (zo)),(123,.v L),(124,.i (g .ln L)),(125,.i (0))] [.bx 76 3 (lx V rtl),.bx 122 2 [.J w0,.J w1],.bx 122 2 [.J h0',.J h1'],.bx 127 4 [.J 0,.J 0,.J 0,.N],.bx 196 75 (plL n s0 ⟨w0,w1⟩ ⟨h0',h1'⟩ row iw ih al ac (.view K)),.rw ⟨210,7,E0⟩]:=by
 obtain⟨fx,hO⟩:=nmE (zG ⟨s0,row,⟨w0,w1⟩,⟨h0',h1'⟩,iw,ih,al,ac,kids⟩ ns S0 ZZ c)
 rw [<-hO]at hQ
 obtain⟨D1,ht⟩:=nmE (done++l.map fx)
 rw [<-ht]at hQ
 have hF:D1.length=done.length+l.length:=by rw [ht,zqe,zql]
 have pE:=pmV hE0
 have hM:∀hd∈kids,∃y,ns[(hd-1).toNat]? =some y:=fun hd h=>(bd (hk hd h)).2.2
 have hR:=fun hd(h:hd∈kids) y hy Ky Ry=>bO ns hd y (bd (hk hd h)).1 (by have:=(bd (hk hd h)).2.1;omega) hy V Ky Ry hV
 have hU:(done++l.map fx,ixs 0 done.length++l)=(D1,ixs 0 D1.length):=Prod.ext ht.symm (by show ixs 0 done.length++l=ixs 0 D1.length;rw [hF,kv,Int.zero_add,<-hld])
 have hW:vC[zo.toNat]? =some [.J c]:=by rw [hvC];exact aZ hcc
 clear hld
 refine aQ hg bq (by kernel_rfl) L (fun x=>lc (ak x)) l hL hll (fun z(s:List aw×LLA)=>[(4,.p 0),(6,.p 1),(7,.p 2),(8,.p 3),(9,.p 4),(11,.v vI),(12,.v vL),(13,.i (IN)),(14,.v vZ),(15,.o 5),(16,.v vC),(18,.i (AC')),(20,.v vT),(21,.i (KB)),(22,.i (zo)),(116,.v vL),(117,.i (g .ln vL)),(118,.i (zo)),(123,.v L),(124,.i (g .ln L)),(125,.i (z))]) (fun z(s:List aw×LLA)=>[.bx 76 3 (lx V rtl),.bx 122 2 [.J w0,.J w1],.bx 122 2 [.J h0',.J h1'],.bx 127 4 [.J 0,.J 0,.J 0,.N],.bx 196 75 (plL n s0 ⟨w0,w1⟩ ⟨h0',h1'⟩ row iw ih al ac (.view K)),.rw ⟨210,7,s.2⟩]) (fun z(s:List aw×LLA)=>s.2=vw aw.c (s.1++S0.drop s.1.length)) (fun(s:List aw×LLA) rest=>(s.1++rest.map fx,ixs 0 s.1.length++rest)) ((D1,ixs 0 D1.length)) (done,E0) hU hE0 (Wk.weak (wkG [some _,some _,some _,some _,some _,some 5] ⟨rfl,rfl,rfl,rfl,rfl,rfl,rfl,rfl,rfl,rfl,rfl,rfl,rfl,rfl,rfl,rfl,rfl,rfl,rfl,rfl,rfl,zpt⟩ ⟨wqE rfl rfl,wqE rfl rfl,wqE rfl rfl,wqE rfl rfl,wqE rfl rfl,wqE rfl pE,zpt⟩ (by decide) aB)) (fun z s B hz h0 hi he=> ?_) (fun z s x rest B z0 z1 z2 hx hy h0 hi hc e1 hB=> ?_)
 ·obtain⟨D,E⟩:=s
  obtain⟨hh,hm⟩:=Prod.mk.inj h0
  obtain rfl:D=D1:=by simpa using hh
  dsimp only at hi
  have hQ:=hQ z E (by rw [hi,hF])
  cbv;rw [he];cbv
  exact hQ
 ·obtain⟨D,E⟩:=s
  obtain⟨hh,hm⟩:=Prod.mk.inj h0
  dsimp only at hi hh hm hy
  have hS:x=(D.length:Int):=by
   have e:=congrArg (fun l=>l[D.length]?) hm
   have h1:D.length<D1.length:=by have:=congrArg List.length hh;simp at this;omega
   simp only [zqg (show(ixs 0 D.length).length<=D.length by rw [bX];exact zpk _),bX,Nat.sub_self,zqw]at e
   rw [yd _ _ _ h1]at e
   simpa using e
  have hu:D.length<D1.length:=by have:=congrArg List.length hh;simp at this;omega
  have hn:0<=x:=by omega
  have hq:x.toNat=D.length:=by omega
  have hI:D.length<S0.length:=by omega
  obtain⟨sd,hC⟩:∃sd,S0[x.toNat]? =some sd:=⟨_,zqc (by omega)⟩
  obtain⟨kd,hp⟩:∃kd,kids[x.toNat]? =some kd:=⟨_,zqc (by omega)⟩
  obtain⟨zz,hD⟩:∃zz,ZZ[x.toNat]? =some zz:=⟨_,zqc (by omega)⟩
  have hP:kd∈kids:=zqd hp
  obtain⟨y,hT⟩:=hM kd hP
  have ha:=DM (p:=⟨s0,row,⟨w0,w1⟩,⟨h0',h1'⟩,iw,ih,al,ac,kids⟩) (c:=c) hn hC hp hD hT
  rw [<-hO]at ha
  dsimp only at ha
  rw [<-hKB]at ha
  have hY:K[x.toNat]? =some [.J kd]:=by rw [hK];exact aZ hp
  have hJ:vZ[x.toNat]? =some [.J zz]:=by rw [hvZ];exact aZ hD
  have ho:E[x.toNat]? =some (lc (aw.c sd)):=by rw [hi];exact aZ (by rw [hq,wT rfl,<-hq];exact hC)
  have h2:x<aN E:=by rw [hi,aU];simp;omega
  have hf:∀v,E.set x.toNat (lc (aw.c v))=vw aw.c ((D++[v])++S0.drop (D++[v]).length):=fun v=>by
   rw [hi,hq,ny,vN rfl hI];simp
  have h3:((D++[fx x])++rest.map fx,ixs 0 (D++[fx x]).length++rest)=(D1,ixs 0 D1.length):=Prod.ext (by rw [<-hh];simp) (by
   show ixs 0 (D++[fx x]).length++rest=ixs 0 D1.length
   rw [<-hm,zqe,zqm,oE,Int.zero_add,<-hS];simp)
  have cy:=hR kd hP y hT _ _ rfl rfl
  obtain⟨Ky,hG⟩:=nmE (vw ak y.kids)
  obtain⟨Ry,hH⟩:=nmE (vw aC.c y.table.rules)
  rw [<-hG,<-hH]at cy
  obtain⟨y0,y1,y2,y3,y4,y5,y6⟩:=sd
  have cI:=yg ⟨y0,y1,y2,y3,y4,y5,y6⟩
  obtain⟨fb,hN⟩:=nmE (Bq ⟨y0,y1,y2,y3,y4,y5,y6⟩)
  rw [<-hN]at cI ha
  dsimp only at ha
  have cF:=fc y.style (!row) KB
  have cR:=gR y.style (!row) zz
  generalize hFX:qL y.style (!row) KB=FX at cF ha
  generalize hRT:rQ y.style (!row) zz=RT at cR ha
  obtain⟨BB,hr⟩:=nmE (wrap64 (y1+y2))
  rw [<-hr]at ha
  obtain⟨CB,hs⟩:=nmE (wrap64 (c-BB))
  rw [<-hs]at ha
  have cN:=dF y.style (!row) KB CB
  generalize hf0:mG y.style (!row) KB CB=f0 at cN ha
  simp only [DL]at ha
  obtain⟨f6,hw⟩:=nmE (tV y6 f0)
  rw [<-hw]at ha
  have t1:g .w .add .i64 y1 y2=BB:=by rw [aG hg,hr]
  have t2:g .w .sub .i64 c BB=CB:=by rw [cu hg,hs]
  have t3:g .mn y6 f0=f6:=by rw [Kd hg,hw];rfl
  have t4:g .q .eql (FX) ((-1))=decide ((FX)=((-1))):=by rw [bj hg];exact zqn _ _
  have t5:g .q .eql (RT) ((-1))=decide ((RT)=((-1))):=by rw [bj hg];exact zqn _ _
  clear hS hu hq hI hm hr hs hw hFX hRT hf0 hN hD hp hC hR hM hvZ hK hV hvC hcc hKB hG hH
  cbv
  rw [hc]
  cbv
  refine goX hg _ z0 hy rfl ?_
  cbv
  refine goX hg _ hn hY rfl ?_
  cbv
  (repeat'(refine aa hg cy ?_;cbv))
  refine goY hg hn h2 fun j hj hZ=> ?_
  cbv
  rw [<-hj]at hf ho
  refine⟨_,ho,?_⟩
  cbv
  (repeat'(refine aa hg cI ?_;cbv))
  have hb:fx x=⟨y0,y1,y2,y3,y4,y5,y6⟩->E=vw aw.c ((D++[fx x])++S0.drop (D++[fx x]).length):=fun h=>by rw [h,<-hf,xI ho]
  have hE:=pmV hi
  cases fb
  case false=>
   simp only [Bool.false_eq_true,false_and,if_false]at ha
   cbv
   (repeat'(rw [e1];cbv))
   exact hB ((D++[fx x],E)) _ _ ⟨h3,(hb ha)⟩ (Wk.weak (wkG [some _,some _,some _,some _,some _,some 5] ⟨rfl,rfl,rfl,rfl,rfl,rfl,rfl,rfl,rfl,rfl,rfl,rfl,rfl,rfl,rfl,rfl,rfl,rfl,rfl,rfl,rfl,zpt⟩ ⟨wqE rfl rfl,wqE rfl rfl,wqE rfl rfl,wqE rfl rfl,wqE rfl rfl,wqE rfl hE,zpt⟩ (by decide) aB))
  by_cases q4:FX= -1
  case neg=>
   rw [if_neg (fun h=>q4 h.2.1)]at ha
   (first|rw [zqu q4]at t4|rw [zqt q4]at t4|rw [zqu (Classical.not_not.2 q4)]at t4|rw [zqt (Classical.not_not.2 q4)]at t4)
   cbv
   (repeat'((first|rw [t4]|rw [e1]|refine aa hg cF ?_);cbv))
   exact hB ((D++[fx x],E)) _ _ ⟨h3,(hb ha)⟩ (Wk.weak (wkG [some _,some _,some _,some _,some _,some 5] ⟨rfl,rfl,rfl,rfl,rfl,rfl,rfl,rfl,rfl,rfl,rfl,rfl,rfl,rfl,rfl,rfl,rfl,rfl,rfl,rfl,rfl,zpt⟩ ⟨wqE rfl rfl,wqE rfl rfl,wqE rfl rfl,wqE rfl rfl,wqE rfl rfl,wqE rfl hE,zpt⟩ (by decide) aB))
  by_cases q5:RT= -1
  case neg=>
   rw [if_neg (fun h=>q5 h.2.2)]at ha
   (first|rw [zqu q4]at t4|rw [zqt q4]at t4|rw [zqu (Classical.not_not.2 q4)]at t4|rw [zqt (Classical.not_not.2 q4)]at t4)
   (first|rw [zqu q5]at t5|rw [zqt q5]at t5|rw [zqu (Classical.not_not.2 q5)]at t5|rw [zqt (Classical.not_not.2 q5)]at t5)
   cbv
   (repeat'((first|rw [t4]|rw [t5]|rw [e1]|refine aa hg cF ?_|refine aa hg cR ?_|refine goX hg _ hn hJ rfl ?_);cbv))
   exact hB ((D++[fx x],E)) _ _ ⟨h3,(hb ha)⟩ (Wk.weak (wkG [some _,some _,some _,some _,some _,some 5] ⟨rfl,rfl,rfl,rfl,rfl,rfl,rfl,rfl,rfl,rfl,rfl,rfl,rfl,rfl,rfl,rfl,rfl,rfl,rfl,rfl,rfl,zpt⟩ ⟨wqE rfl rfl,wqE rfl rfl,wqE rfl rfl,wqE rfl rfl,wqE rfl rfl,wqE rfl hE,zpt⟩ (by decide) aB))
  rw [if_pos ⟨rfl,q4,q5⟩]at ha
  have hv:E[j]? =some [.J y0,.J y1,.J y2,.B y3,.B y4,.J y5,.J y6]:=ho
  have hA:(g .st E j [.J f0,.J y1,.J y2,.B y3,.B y4,.J y5,.J y6])[j]? =some [.J f0,.J y1,.J y2,.B y3,.B y4,.J y5,.J y6]:=by rw [jC hg];exact zpm hZ
  (first|rw [zqu q4]at t4|rw [zqt q4]at t4|rw [zqu (Classical.not_not.2 q4)]at t4|rw [zqt (Classical.not_not.2 q4)]at t4)
  (first|rw [zqu q5]at t5|rw [zqt q5]at t5|rw [zqu (Classical.not_not.2 q5)]at t5|rw [zqt (Classical.not_not.2 q5)]at t5)
  cbv
  (repeat'((first|rw [t4]|rw [t5]|rw [t1]|rw [t2]|rw [t3]|rw [e1]|refine aa hg cF ?_|refine aa hg cR ?_|refine aa hg cN ?_|refine goX hg _ hn hJ rfl ?_|refine goX hg _ hz0 hW rfl ?_|refine⟨_,hv,?_⟩|refine⟨_,hA,?_⟩);cbv))
  generalize hG1:g .st _ j _=E2
  have hX:E2=g .st (g .st E j [.J f0,.J y1,.J y2,.B y3,.B y4,.J y5,.J y6]) j [.J f0,.J y1,.J y2,.B y3,.B y4,.J y5,.J f6]:=hG1.symm
  have aE:E2=vw aw.c ((D++[fx x])++S0.drop (D++[fx x]).length):=by
   rw [ha,<-hf,hX,jC hg,jC hg,List.set_set];rfl
  have h4:=pmV aE
  exact hB ((D++[fx x],E2)) _ _ ⟨h3,aE⟩ (Wk.weak (wkG [some _,some _,some _,some _,some _,some 5] ⟨rfl,rfl,rfl,rfl,rfl,rfl,rfl,rfl,rfl,rfl,rfl,rfl,rfl,rfl,rfl,rfl,rfl,rfl,rfl,rfl,rfl,zpt⟩ ⟨wqE rfl rfl,wqE rfl rfl,wqE rfl rfl,wqE rfl rfl,wqE rfl rfl,wqE rfl h4,zpt⟩ (by decide) aB))
theorem Dz(hg:g= @G0 bp0 prog 0 f125.ntmps)(ns:List ae)(hl:ns.length<=1048576)(V:LLA)(hV:V=vwA ae.ac ns)(rtl:Bool)(n:Int)(s0:ah)(row:Bool)(iw ih al ac:aK)(w0 w1 h0' h1':Int)(kids:List Int)(K:LLA)(hK:K=vw ak kids)(hkl:kids.length<=1048576)(hk:∀kid∈kids,isN ns kid=true)
  (IN AC' KB:Int) (hKB:KB=knS ac) (vI vL vZ vC vT:LLA) (ZZ CC:List Int) (hvZ:vZ=vw ak ZZ) (hvC:vC=vw ak CC) (S0:List aw) (hzl:ZZ.length=kids.length) (hsl:S0.length=kids.length)
  (LL:List (List Int)) (ho:vL=vwA lnA LL) (hLl:LL.length<=1048576) (hcl:CC.length=LL.length) (hfl:LL.flatten=ixs 0 kids.length)
  (hQ:∀(z:Int)(E:LLA),E=vw aw.c (DN ⟨s0,row,⟨w0,w1⟩,⟨h0',h1'⟩,iw,ih,al,ac,kids⟩ ns S0 ZZ (LL.zip CC))->Q (.exit 0) [(119,.t (abl (false))),(4,.p 0),(6,.p 1),(7,.p 2),(8,.p 3),(9,.p 4),(11,.v vI),(12,.v vL),(13,.i (IN)),(14,.v vZ),(15,.o 5),(16,.v vC),(18,.i (AC')),(20,.v vT),(21,.i (KB)),(116,.v vL),(117,.i (g .ln vL)),(118,.i (z))] [.bx 76 3 (lx V rtl),.bx 122 2 [.J w0,.J w1],.bx 122 2 [.J h0',.J h1'],.bx 127 4 [.J 0,.J 0,.J 0,.N],.bx 196 75 (plL n s0 ⟨w0,w1⟩ ⟨h0',h1'⟩ row iw ih al ac (.view K)),.rw ⟨210,7,E⟩]):
  g .L (mZ (jD f125) 0) Q [(4,.p 0),(6,.p 1),(7,.p 2),(8,.p 3),(9,.p 4),(11,.v vI),(12,.v vL),(13,.i (IN)),(14,.v vZ),(15,.o 5),(16,.v vC),(18,.i (AC')),(20,.v vT),(21,.i (KB)),(116,.v vL),(117,.i (g .ln vL)),(118,.i (0))] [.bx 76 3 (lx V rtl),.bx 122 2 [.J w0,.J w1],.bx 122 2 [.J h0',.J h1'],.bx 127 4 [.J 0,.J 0,.J 0,.N],.bx 196 75 (plL n s0 ⟨w0,w1⟩ ⟨h0',h1'⟩ row iw ih al ac (.view K)),.rw ⟨210,7,vw aw.c S0⟩]:=by
 obtain⟨vS,hp⟩:=nmE (vw aw.c S0)
 have pS:=pmV hp
 rw [<-hp]
 have hr:vL=(LL.zip CC).map (fun t=>lnA t.1):=by rw [ho];exact qQ hcl
 have hs:(LL.zip CC).map (·.1)=LL:=fj hcl
 have hh:(LL.zip CC).length<=1048576:=by rw [zqB];exact zpb (Nat.min_le_left ..) hLl
 have ht:=fun{i t} h=>yJ (a:=LL) (b:=CC) (i:=i) (t:=t) h
 obtain⟨qs,hm⟩:=nmE (LL.zip CC)
 rw [<-hm]at hr hs hh hQ
 simp only [<-hm]at ht
 have hA:(qs.map (·.1)).flatten=ixs 0 kids.length:=by rw [hs];exact hfl
 obtain⟨q,hq⟩:∃q:Pl,q=⟨s0,row,⟨w0,w1⟩,⟨h0',h1'⟩,iw,ih,al,ac,kids⟩:=⟨_,rfl⟩
 rw [<-hq]at hQ
 obtain⟨S1,hw⟩:=nmE (DN q ns S0 ZZ qs)
 rw [<-hw]at hQ
 have hb:=fun(zo c:Int)(h1:0<=zo)(h2:CC[zo.toNat]? =some c) l L h3 h4 done E0 h5 h6 h7 Q' hQ'=>Ff hg (Q:=Q') ns hl V hV rtl n s0 row iw ih al ac w0 w1 h0' h1' kids K hK hk IN AC' KB hKB vI vL vZ vC vT ZZ CC hvZ hvC S0 hzl hsl zo c h1 h2 l L h3 h4 done E0 h5 h6 h7 hQ'
 simp only [<-hq]at hb
 replace ho:=hr
 refine aQ hg bq (by kernel_rfl) vL (fun t=>lnA t.1) qs ho hh (fun z(s:List aw×LLA)=>[(4,.p 0),(6,.p 1),(7,.p 2),(8,.p 3),(9,.p 4),(11,.v vI),(12,.v vL),(13,.i (IN)),(14,.v vZ),(15,.o 5),(16,.v vC),(18,.i (AC')),(20,.v vT),(21,.i (KB)),(116,.v vL),(117,.i (g .ln vL)),(118,.i (z))]) (fun z(s:List aw×LLA)=>[.bx 76 3 (lx V rtl),.bx 122 2 [.J w0,.J w1],.bx 122 2 [.J h0',.J h1'],.bx 127 4 [.J 0,.J 0,.J 0,.N],.bx 196 75 (plL n s0 ⟨w0,w1⟩ ⟨h0',h1'⟩ row iw ih al ac (.view K)),.rw ⟨210,7,s.2⟩]) (fun z(s:List aw×LLA)=>s.2=vw aw.c (s.1++S0.drop s.1.length)) (fun(s:List aw×LLA) rest=>(s.1++DN q ns S0 ZZ rest,ixs 0 s.1.length++(rest.map (·.1)).flatten)) ((S1,ixs 0 kids.length)) ([],vS) (by rw [hw];exact Prod.ext rfl hA) hp (Wk.weak (wkG [some _,some _,some _,some _,some _,some 5] ⟨rfl,rfl,rfl,rfl,rfl,rfl,rfl,rfl,rfl,rfl,rfl,rfl,rfl,rfl,rfl,rfl,rfl,zpt⟩ ⟨wqE rfl rfl,wqE rfl rfl,wqE rfl rfl,wqE rfl rfl,wqE rfl rfl,wqE rfl pS,zpt⟩ (by decide) aB)) (fun z s B hz h0 hi he=> ?_) (fun z s x rest B z0 z1 z2 hx hy h0 hi hc e1 hB=> ?_)
 ·obtain⟨D,E⟩:=s
  obtain⟨hj,ha⟩:=Prod.mk.inj h0
  dsimp only at hi
  obtain rfl:D=S1:=by simpa [DN]using hj
  have hD:D.length=kids.length:=by
   have:=congrArg List.length ha
   simpa [bX]using this
  have hQ:=hQ z E (by rw [hi,hD,<-hsl,List.drop_length,zpr])
  cbv;rw [he];cbv
  exact hQ
 ·obtain⟨done,E⟩:=s
  obtain⟨l,c⟩:=x
  obtain⟨hj,ha⟩:=Prod.mk.inj h0
  dsimp only at hi hy hj ha
  obtain⟨L,hL⟩:=nmE (vw ak l)
  have hF:vL[z.toNat]? =some [.view L]:=by rw [hL];exact hy
  have hn:=oD ha
  rw [bX]at hn
  have hf:=mR (l:=l) (ls:=rest.map (fun t:List Int×Int=>t.1)) hn.2.2
  have hE:l.length<=1048576:=zpb hf.1 (zpb (Nat.sub_le ..) hkl)
  have pE:=pmV hi
  have hC:done.length+l.length<=kids.length:=by have:=hf.1;omega
  have hb:=hb z c z0 (ht hx).2 l L hL hE done E hi (by simpa using hf.2.1) hC
  have h3:((done++l.map (zG q ns S0 ZZ c))++DN q ns S0 ZZ rest,ixs 0 (done++l.map (zG q ns S0 ZZ c)).length++(rest.map (·.1)).flatten)=(S1,ixs 0 kids.length):=Prod.ext (by rw [<-hj];simp [DN]) (by
   show ixs 0 (done++l.map (zG q ns S0 ZZ c)).length++(rest.map (·.1)).flatten=ixs 0 kids.length
   rw [<-ha,zqe,zql,kv,zqC]
   congr 1
   rw [zqA,List.flatten_cons]
   congr 1
   exact hf.2.1.symm)
  obtain⟨D2,hu⟩:=nmE (done++l.map (zG q ns S0 ZZ c))
  have hd:D2.length=done.length+l.length:=by rw [hu,zqe,zql]
  rw [<-hu]at h3 hb
  rw [<-hd]at hb
  clear hn hf hC hd ha hA hs ht hr hq hm
  cbv
  rw [hc]
  cbv
  refine goX hg _ z0 hF rfl ?_
  cbv
  refine me hg (mZ (jD f125) 1) (by kernel_rfl) [(4,.p 0),(6,.p 1),(7,.p 2),(8,.p 3),(9,.p 4),(11,.v vI),(12,.v vL),(13,.i (IN)),(14,.v vZ),(15,.o 5),(16,.v vC),(18,.i (AC')),(20,.v vT),(21,.i (KB)),(22,.i (z)),(116,.v vL),(117,.i (g .ln vL)),(118,.i (z)),(123,.v L),(124,.i (g .ln L)),(125,.i (0))] [.bx 76 3 (lx V rtl),.bx 122 2 [.J w0,.J w1],.bx 122 2 [.J h0',.J h1'],.bx 127 4 [.J 0,.J 0,.J 0,.N],.bx 196 75 (plL n s0 ⟨w0,w1⟩ ⟨h0',h1'⟩ row iw ih al ac (.view K)),.rw ⟨210,7,E⟩] (Wk.weak (wkG [some _,some _,some _,some _,some _,some 5] ⟨rfl,rfl,rfl,rfl,rfl,rfl,rfl,rfl,rfl,rfl,rfl,rfl,rfl,rfl,rfl,rfl,rfl,rfl,rfl,rfl,rfl,zpt⟩ ⟨wqE rfl rfl,wqE rfl rfl,wqE rfl rfl,wqE rfl rfl,wqE rfl rfl,wqE rfl pE,zpt⟩ (by decide) aB)) ?_
  refine hb _ fun z2 E2 hv=> ?_
  have hG:=pmV hv
  cbv
  (repeat'(rw [e1];cbv))
  skip
  exact hB ((D2,E2)) _ _ ⟨h3,hv⟩ (Wk.weak (wkG [some _,some _,some _,some _,some _,some 5] ⟨rfl,rfl,rfl,rfl,rfl,rfl,rfl,rfl,rfl,rfl,rfl,rfl,rfl,rfl,rfl,rfl,rfl,zpt⟩ ⟨wqE rfl rfl,wqE rfl rfl,wqE rfl rfl,wqE rfl rfl,wqE rfl rfl,wqE rfl hG,zpt⟩ (by decide) aB))
theorem tP(xs:List af)(hl:xs.length<=1048576):PC0 304 [.c (.view (vw af.c xs))] (.i (auN xs)):=by
 obtain⟨V,hV⟩:=nmE (vw af.c xs)
 have hd:=lmV hV
 obtain⟨R,hR⟩:=nmE (auN xs)
 rw [<-hV,<-hR]
 refine aV func304 fun g F hg hF=> ?_
 cbv
 refine aQ hg bq (by kernel_rfl) V (fun x=>lc (af.c x)) xs hV hl (fun z(s:Int)=>[(0,.v V),(3,.i (s)),(4,.i (z))]) (fun z(s:Int)=>[]) (fun z(s:Int)=>0<=s/\s<=2*z) (fun(s:Int) rest=>s+auN rest) (R) (0:Int) (by rw [hR];exact Int.zero_add _) ⟨by decide,by decide⟩ (Wk.weak (wkG [] zr3 trivial (by decide) aB)) (fun z s B hz h0 hi he=> ?_) (fun z s x rest B z0 z1 z2 hx hy h0 hi hc e1 hB=> ?_)
 ·cbv;rw [he];cbv
  exact aO hF (by rw [<-h0];simp [auN])
 ·obtain⟨y0,y1,y2,y3,y4,y5,y6,y7,y8⟩:=x
  have es:∀t:Int,0<=t->t<=2*z+2->g .w .add .i64 t 1=t+1:=fun t k0 k1=>by rw [aG hg];exact wr1 (by omega) (by omega)
  obtain⟨s1,k1⟩:=nmE (s+1)
  obtain⟨s2,k2⟩:=nmE (s1+1)
  have ha:=es s hi.1 (by omega)
  have hb:=es s1 (by omega) (by omega)
  rw [<-k1]at ha
  rw [<-k2]at hb
  cases y7<;>cases y8
  all_goals
   cbv;rw [hc];cbv;refine goX hg _ z0 hy rfl ?_;cbv
   (repeat'((first|rw [ha]|rw [hb]|refine goX hg _ (by omega) hy rfl ?_);cbv))
   rw [e1]
   first
    |(exact hB (s) _ _ ⟨(by rw [<-h0];simp [auN]),⟨by omega,by omega⟩⟩ (Wk.weak (wkG [] zr3 trivial (by decide) aB)))
    |(exact hB (s1) _ _ ⟨(by rw [<-h0];simp [auN];omega),⟨by omega,by omega⟩⟩ (Wk.weak (wkG [] zr3 trivial (by decide) aB)))
    |(exact hB (s2) _ _ ⟨(by rw [<-h0];simp [auN];omega),⟨by omega,by omega⟩⟩ (Wk.weak (wkG [] zr3 trivial (by decide) aB)))
theorem uz(xs:List af)(hl:xs.length<=1048576):PC0 290 [.c (.view (vw af.c xs))] (.i (auN xs)):=by
 obtain⟨V,hV⟩:=nmE (vw af.c xs)
 have hd:=lmV hV
 obtain⟨R,hR⟩:=nmE (auN xs)
 rw [<-hV,<-hR]
 refine aV func290 fun g F hg hF=> ?_
 cbv
 refine aQ hg bq (by kernel_rfl) V (fun x=>lc (af.c x)) xs hV hl (fun z(s:Int)=>[(3,.i (s)),(6,.v V),(7,.i (g .ln V)),(8,.i (z))]) (fun z(s:Int)=>[]) (fun z(s:Int)=>0<=s/\s<=2*z) (fun(s:Int) rest=>s+auN rest) (R) (0:Int) (by rw [hR];exact Int.zero_add _) ⟨by decide,by decide⟩ (Wk.weak (wkG [] zr4 trivial (by decide) aB)) (fun z s B hz h0 hi he=> ?_) (fun z s x rest B z0 z1 z2 hx hy h0 hi hc e1 hB=> ?_)
 ·cbv;rw [he];cbv
  exact aO hF (by rw [<-h0];simp [auN])
 ·obtain⟨y0,y1,y2,y3,y4,y5,y6,y7,y8⟩:=x
  have es:∀t:Int,0<=t->t<=2*z+2->g .w .add .i64 t 1=t+1:=fun t k0 k1=>by rw [aG hg];exact wr1 (by omega) (by omega)
  obtain⟨s1,k1⟩:=nmE (s+1)
  obtain⟨s2,k2⟩:=nmE (s1+1)
  have ha:=es s hi.1 (by omega)
  have hb:=es s1 (by omega) (by omega)
  rw [<-k1]at ha
  rw [<-k2]at hb
  cases y7<;>cases y8
  all_goals
   cbv;rw [hc];cbv;refine goX hg _ z0 hy rfl ?_;cbv
   (repeat'((first|rw [ha]|rw [hb]);cbv))
   rw [e1]
   first
    |(exact hB (s) _ _ ⟨(by rw [<-h0];simp [auN]),⟨by omega,by omega⟩⟩ (Wk.weak (wkG [] zr4 trivial (by decide) aB)))
    |(exact hB (s1) _ _ ⟨(by rw [<-h0];simp [auN];omega),⟨by omega,by omega⟩⟩ (Wk.weak (wkG [] zr4 trivial (by decide) aB)))
    |(exact hB (s2) _ _ ⟨(by rw [<-h0];simp [auN];omega),⟨by omega,by omega⟩⟩ (Wk.weak (wkG [] zr4 trivial (by decide) aB)))
theorem xD(xs:List af)(ys:List Int)(gap inner:Int)(hx:xs.length<=1048576)(hy:ys.length<=1048576):PC0 302 [.c (.view (vw af.c xs)),.c (.view (vw ak ys)),ai gap,ai inner] (.t (abl (al5 xs ys gap inner))):=by
 have cI:=jq xs hx
 have cg:=db gap 0 1048576
 have ci:=db inner 0 1048576
 change PC0 _ _ (.t (abl (rng gap 0 1048576)))at cg
 change PC0 _ _ (.t (abl (rng inner 0 1048576)))at ci
 obtain⟨R,hR⟩:=nmE (al5 xs ys gap inner)
 rw [<-hR]
 unfold al5 at hR
 generalize hI:er xs=I at cI hR
 generalize hG:rng gap 0 1048576=G at cg hR
 generalize hJ:rng inner 0 1048576=J at ci hR
 obtain⟨V,hV⟩:=nmE (vw af.c xs)
 have hb:=lmV hV
 obtain⟨W,hW⟩:=nmE (vw ak ys)
 have hd:=lmV hW
 rw [<-hV]at cI
 rw [<-hV,<-hW]
 generalize hq:decide (ys.length=xs.length)=q at hR;replace hq:=hq.symm
 obtain⟨T,hT⟩:=nmE ((I&&(q&&(G&&J))))
 rw [<-hT]at hR
 refine aV func302 fun g F hg hF=> ?_
 have tl:g .q .eql (g .ln W) (g .ln V)=q:=by
  rw [bj hg,bz hg,bz hg,ao,ao,hb,hd,hq]
  by_cases h:ys.length=xs.length
  ·simp [h]
  ·simp [h];omega
 cbv
 refine aQ hg bq (by kernel_rfl) W (fun x=>lc (ak x)) ys hW hy (fun z(s:Unit)=>[(0,.v V),(1,.v W),(2,.i (gap)),(3,.i (inner)),(9,.i (z))]) (fun z(s:Unit)=>[]) (fun z(s:Unit)=>True) (fun(s:Unit) rest=>rest.all (fun s=>rng s 0 1048576)&&T) (R) () hR.symm trivial (Wk.weak (wkG [] zr5 trivial (by decide) aB)) (fun z s B hz h0 hi he=> ?_) (fun z s x rest B z0 z1 z2 hx hy h0 hi hc e1 hB=> ?_)
 rotate_left
 ·cbv;rw [hc];cbv;refine goX hg _ z0 hy rfl ?_;cbv
  (refine bA hg (db x 0 1048576) rfl (fun R0 ha=> ?_));cbv
  cases R0<;>cbv
  ·exact bm hF (by rw [<-h0,zqD,show rng x 0 1048576=false from ha.symm];rfl)
  ·rw [e1]
   exact hB (()) _ _ ⟨by rw [<-h0,zqD,show rng x 0 1048576=true from ha.symm];rfl,zpt⟩ (Wk.weak (wkG [] zr5 trivial (by decide) aB))
 cbv;rw [he];cbv
 have h0:T=R:=h0
 clear hI hG hJ hq hR
 cases I<;>cases q<;>cases G<;>cases J
 all_goals((repeat'((first|rw [tl]|refine ad hg cI ?_|refine ad hg cg ?_|refine ad hg ci ?_);cbv));exact bm hF (by rw [<-h0,hT];rfl))
theorem BH(ex:List Int)(C:AC)(hd:dat C=true)(cE:∀i:Int,PC0 188 [.c C,ai i] (.i (elZ ex i)))(k:Int)(hk0:0<=k)(hk1:k<=1048576)(b:Bool):
  Con prog 291 (toH [.bx 3 1 [.J k],.bx 24 1 [C]]) [abl b,.c (.ptr 0 0 0),.c (.ptr 1 0 0)] fun res h'=>∃eh,toH eh=h'/\res= .i (auT ex k b)/\eh=[.bx 3 1 [.J (auK k b)],.bx 24 1 [C]]:=by
 replace cE:=cE k
 obtain⟨R,hR⟩:=nmE (auT ex k b)
 obtain⟨K,hK⟩:=nmE (auK k b)
 rw [<-hR,<-hK]
 unfold auT at hR
 unfold auK at hK
 generalize he:elZ ex k=e at cE hR
 refine w9 [] [] (c:=jD f291) bq func291 (by kernel_rfl) (by kernel_rfl) (bl (by rfl)) (by kernel_rfl) fun g hb hd F ha hc hg hF=> ?_
 have e1:g .w .add .i64 k 1=k+1:=by rw [aG hg];exact wr1 (by omega) (by omega)
 have e2:g .w .sub .i64 (k+1) 1=k:=by rw [cu hg,show k+1-1=k by omega];exact wr1 (by omega) (by omega)
 generalize k+1=k1 at *
 have pC:dx C=true:=by cases C<;>first|rfl|cases hd
 cases b
 ·cbv
  obtain rfl:R=0:=hR
  obtain rfl:K=k:=hK
  exact K0 hF (.i 0) [.bx 3 1 [.J K],.bx 24 1 [C]] _ (wkM [some 0,some 1] zr1 ⟨.inr (wqE rfl rfl),.inr ⟨_,_,rfl,rfl,rfl,rfl,.inl ⟨rfl,by simp [ay,pC]⟩⟩,zpt⟩ (by decide) ⟨.inr rfl,.inr rfl,zpt⟩ ⟨.inr ⟨_,rfl⟩,.inr ⟨_,rfl⟩,zpt⟩) ⟨_,rfl,rfl,rfl⟩
 ·cbv
  rw [e1,e2]
  refine fV hg cE (by cases C<;>first|rfl|cases hd) rfl ?_
  cbv
  obtain rfl:R=e:=hR
  obtain rfl:K=k1:=hK
  exact K0 hF (.i R) [.bx 3 1 [.J K],.bx 24 1 [C]] _ (wkM [some 0,some 1] zr1 ⟨.inr (wqE rfl rfl),.inr ⟨_,_,rfl,rfl,rfl,rfl,.inl ⟨rfl,by simp [ay,pC]⟩⟩,zpt⟩ (by decide) ⟨.inr rfl,.inr rfl,zpt⟩ ⟨.inr ⟨_,rfl⟩,.inr ⟨_,rfl⟩,zpt⟩) ⟨_,rfl,rfl,rfl⟩
theorem GY{n0 N:Nat}(hg:g=G0 prog n0 N){H:EH}{r0 r1:Nat}{C:AC}(pC:dx C=true){k k2 v:Int}{b:Bool}{K:AV->EH->Prop}
  (hc:Con prog 291 (toH [.bx 3 1 [.J k],.bx 24 1 [C]]) [abl b,.c (.ptr 0 0 0),.c (.ptr 1 0 0)] fun res h'=>∃eh,toH eh=h'/\res= .i v/\eh=[.bx 3 1 [.J k2],.bx 24 1 [C]])
  (h1:nth H r1=some (.bx 3 1 [.J k])) (h0:nth H r0=some (.bx 24 1 [C])) (hne:Nat.beq r1 r0=false) (hK:K (.i v) (H.set r1 (.bx 3 1 [.J k2]))):
  g .C 291 H [abl b,.c (.ptr r1 0 0),.c (.ptr r0 0 0)] K:=by
 have ha:r1≠r0:=fun e=>by rw [e,show Nat.beq r0 r0=true from Nat.beq_refl r0]at hne;cases hne
 have hb:∀{r:Nat}{e:EE},nth H r=some e->r<H.length:=fun{r e} h=>by
  rw [fF]at h;exact(zqb.1 h).1
 refine D0 hg (h:=[.bx 3 1 [.J k],.bx 24 1 [C]]) [r1,r0] hc (by simp [ha]) (fun r hr=> ?_) ?_ zr3 fun res eh hp=> ?_
 ·simp only [zph,List.not_mem_nil,or_false]at hr
  rcases hr with rfl|rfl
  ·exact hb h1
  ·exact hb h0
 ·exact⟨⟨_,⟨_,_,_⟩,rfl,by rw [h1];rfl,rfl,rfl,.inl ⟨rfl,rfl⟩⟩,⟨_,⟨_,_,_⟩,rfl,by rw [h0];rfl,rfl,rfl,.inl ⟨rfl,by simp [pC]⟩⟩,zpt⟩
 ·obtain⟨rfl,rfl⟩:=hp
  have e:dp (plc [r1,r0] H.length) [r1,r0] H [.bx 3 1 [.J k2],.bx 24 1 [C]]=H.set r1 (.bx 3 1 [.J k2]):=by
   simp only [dp,EE.mv,zqA,List.map_nil,ot (c:= .J k2) rfl,ot pC,zpr]
   apply List.ext_getElem?
   intro i
   by_cases hi:i=r0
   ·subst hi
    have hl:=hb h0
    rw [fF]at h0
    rw [zpm (by simpa using hl),List.getElem?_set_ne ha,h0]
   ·rw [List.getElem?_set_ne (Ne.symm hi)]
  rw [e]
  exact hK
theorem J0{α β γ:Type}{c:α->γ}:∀{xs:List α}{ys:List β},xs.length=ys.length->(xs.zip ys).map (fun t=>c t.1)=xs.map c
 | [],[],_=>rfl
 |x::xs,y::ys,h=>by simp only [List.zip_cons_cons,zqA];rw [J0 (by simpa using h)]
theorem G7{α β:Type}:∀{xs:List α}{ys:List β}{i:Nat}{t:α×β},(xs.zip ys)[i]? =some t->ys[i]? =some t.2
 | [],_,i,t,h=>by simp at h
 |_::_,[],i,t,h=>by simp at h
 |x::xs,y::ys,0,t,h=>by simp at h;subst h;rfl
 |x::xs,y::ys,i+1,t,h=>by simp only [List.zip_cons_cons,List.getElem?_cons_succ]at h⊢;exact G7 h
theorem oU(i:Int):PC0 188 [.c (.N),ai i] (.i (elZ [] i)):=by
 have he:elZ [] i=0:=DS i
 rw [he]
 refine aV func188 fun g F hg hF=> ?_
 have q1:g .q .lss (i) (0)=decide ((i)<(0)):=ba hg _ _
 have q2:g .q .geq i 0=decide (0<=i):=i6 hg _ _
 by_cases h:i<0
 ·(first|rw [zqu h]at q1|rw [zqt h]at q1|rw [zqu (Classical.not_not.2 h)]at q1|rw [zqt (Classical.not_not.2 h)]at q1)
  cbv
  (repeat'(rw [q1];cbv))
  exact aO hF rfl
 ·rw [zqu (show 0<=i by omega)]at q2
  (first|rw [zqu h]at q1|rw [zqt h]at q1|rw [zqu (Classical.not_not.2 h)]at q1|rw [zqt (Classical.not_not.2 h)]at q1)
  cbv
  (repeat'((first|rw [q1]|rw [q2]);cbv))
  exact aO hF rfl
theorem ye(xs:List af)(ss:List Int)(gap inner js:Int)(hl:xs.length<=1048576)(hs:ss.length<=1048576):bS prog 251 [.c (.view (vw af.c xs)),.c (.view (vw ak ss)),ai gap,ai inner,ai js] fun res hT=>∃(e:Int)(b:Bool),res= .tup [.c (.own 0),ai e,abl b]/\hT=[⟨3,1,vw ak (alg xs ss gap inner js)⟩]:=by
 have cI:=jB xs hl
 have cg:=eD gap 0 1048576
 have ci:=eD inner 0 1048576
 change PC0 _ _ (.t (abl (rng gap 0 1048576)))at cg
 change PC0 _ _ (.t (abl (rng inner 0 1048576)))at ci
 have cO:=fH xs ss gap hl hs
 have cS:=da (wrap64 (inner-wrap64 (iz xs ss gap)))
 have cA:=uz xs hl
 have cE:=eo (alF xs ss gap inner) (auN xs)
 have cL:=oO (alF xs ss gap inner) (xs.length:Int) js
 have cB:=fun i(h:(xs.length:Int)<=12) h0 h1=>li (alF xs ss gap inner) (xs.length:Int) js i (by omega) h h0 h1
 change PC0 _ _ (.i (alF xs ss gap inner))at cS
 have hh:al5 xs ss gap inner=false->alg xs ss gap inner js=[]:=fun h=>by rw [alg,if_pos h]
 have hb:al5 xs ss gap inner=true->alg xs ss gap inner js=yI (alE xs ss gap inner) (alS xs (alF xs ss gap inner) js) gap (xs.length:Int) 0 (al0 xs (alF xs ss gap inner) js) 0 (xs.zip ss):=fun h=>by rw [alg,h];rfl
 have xk:=BF xs
 have ho:er xs=true->(xs.length:Int)<=12:=fun h=>by simp only [er,zqs,zqp]at h;exact h.2
 unfold al5 at hh hb
 obtain⟨AL,h6⟩:=nmE (alg xs ss gap inner js)
 rw [<-h6]at hh hb⊢
 have hm:alE xs ss gap inner=if 0<auN xs/\0<alF xs ss gap inner then evn (alF xs ss gap inner) (auN xs)else []:=rfl
 have hM:∀i,alS xs (alF xs ss gap inner) js i=if auN xs=0 then btw (alF xs ss gap inner) (xs.length:Int) js i else 0:=fun _=>rfl
 have hk:al0 xs (alF xs ss gap inner) js=if auN xs=0 then led (alF xs ss gap inner) (xs.length:Int) js else 0:=rfl
 generalize hD:wrap64 (inner-wrap64 (iz xs ss gap))=D at cS;replace hD:=hD.symm
 generalize hOU:wrap64 (iz xs ss gap)=OU at cO hD
 generalize hEX:alE xs ss gap inner=EX at hm hb
 obtain⟨SP,h9⟩:=nmE (alS xs (alF xs ss gap inner) js)
 obtain⟨A0,h4⟩:=nmE (al0 xs (alF xs ss gap inner) js)
 rw [<-h9]at hM hb
 rw [<-h4]at hk hb
 generalize hLD:led (alF xs ss gap inner) (xs.length:Int) js=LD at cL hk
 obtain⟨BW,h7⟩:=nmE (btw (alF xs ss gap inner) (xs.length:Int) js)
 rw [<-h7]at hM cB
 generalize hfr:alF xs ss gap inner=fr at cE cL cB hm hk cS
 generalize hau:auN xs=au at cA cE hm hM hk xk
 generalize hn:(xs.length:Int)=n at cL cB hb ho;replace hn:=hn.symm
 have xd:(xs.zip ss).length<=1048576:=by rw [zqB];omega
 have xc:= @G7 _ _ xs ss
 have xp:=J0 (c:=fun x=>lc (af.c x)) (xs:=xs) (ys:=ss)
 generalize hS:xs.zip ss=zs at hb xd xc;replace hS:=hS.symm
 obtain⟨V,hV⟩:=nmE (vw af.c xs)
 have xi:=lmV hV
 obtain⟨W,hW⟩:=nmE (vw ak ss)
 have xj:=lmV hW
 rw [<-hV]at cI cO cA
 rw [<-hW]at cO
 rw [<-hV,<-hW]
 have xa:aN V=n:=by rw [hV,aU,hn]
 obtain⟨q,hq⟩:=nmE (decide (ss.length=xs.length))
 obtain⟨Z,hZ⟩:=nmE (ss.all (fun s=>rng s 0 1048576))
 generalize hI:er xs=I at cI ho hh hb
 generalize hG:rng gap 0 1048576=G at cg hh hb
 generalize hJ:rng inner 0 1048576=J at ci hh hb
 rw [<-hq]at hh hb
 rw [<-hZ]at hh hb
 clear hOU hEX h9 h4 hLD h7 hfr hI hG hJ hau h6
 refine rU [(23,.hand),(25,.hand)] func251 fun g xr hd F ht hK hg hF=> ?_
 have tl:g .q .neq (g .ln W) (g .ln V)= !q:=by
  rw [bC hg,bz hg,bz hg,ao,ao,xi,xj,hq]
  by_cases h:ss.length=xs.length
  ·simp [h]
  ·simp [h];omega
 have gf:AL=[]->F [.c (.N),.c (.J 0),.c (.B false)] []:=fun h=>
  Fv hF (.tup [.c (.own 0),ai 0,abl false]) [⟨3,1,[]⟩] _ (wkG [none] ⟨zr3,zpt⟩ ⟨⟨_,rfl,rfl⟩,zpt⟩ (by decide) aB) ⟨0,false,rfl,by rw [h];rfl⟩
 by_cases hc4:(I&&(q&&(G&&J)))=true
 rotate_left
 ·have hA:AL=[]:=hh (by rw [Bool.and_eq_false_iff];exact .inr (Bool.eq_false_iff.2 hc4))
  cases I<;>cases q<;>cases G<;>cases J
  all_goals first
   |exact absurd rfl hc4
   |(cbv;(repeat'((first|rw [tl]|refine ad hg cI ?_|refine ad hg cg ?_|refine ad hg ci ?_);cbv));exact gf hA)
 rw [hc4,Bool.and_true]at hh hb
 simp only [zqs]at hc4
 obtain⟨rfl,rfl,rfl,rfl⟩:=hc4
 have xm:=ho rfl
 have xn:ss.length=xs.length:=of_decide_eq_true hq.symm
 replace hV:V=zs.map (fun t=>lc (af.c t.1)):=by rw [hS,xp xn.symm,hV];rfl
 cbv
 (repeat'((first|rw [tl]|refine ad hg cI ?_|refine ad hg cg ?_|refine ad hg ci ?_);cbv))
 refine iA ([(23,.hand),(25,.hand)]) ([]) ht hK hg bq (by kernel_rfl) W (fun x=>lc (ak x)) ss hW hs (fun z(s:Unit)=>[(0,.v V),(1,.v W),(2,.i (gap)),(3,.i (inner)),(4,.i (js)),(44,.v W),(45,.i (g .ln W)),(46,.i (z))]) (fun z(s:Unit)=>[]) (fun z(s:Unit)=>True) (fun(s:Unit) rest=>rest.all (fun s=>rng s 0 1048576)) (Z) () hZ.symm trivial (Wk.weak (wkG [] zr8 trivial (by decide) aB)) (fun z s B hz h0 hi he=> ?_) (fun z s x rest B z0 z1 z2 hx hy h0 hi hc e1 hB=> ?_)
 rotate_left
 ·cbv;rw [hc];cbv;refine goX hg _ z0 hy rfl ?_;cbv
  (refine bA hg (eD x 0 1048576) rfl (fun R0 h8=> ?_));cbv
  cases R0<;>cbv
  ·exact gf (hh (by rw [<-h0,zqD,show rng x 0 1048576=false from h8.symm];rfl))
  ·rw [e1]
   exact hB (()) _ _ ⟨by rw [<-h0,zqD,show rng x 0 1048576=true from h8.symm];rfl,zpt⟩ (Wk.weak (wkG [] zr8 trivial (by decide) aB))
 cbv;rw [he];cbv
 obtain rfl:Z=true:=h0.symm
 replace hb:=hb rfl
 clear hh h0
 have eS:g .w .sub .i64 inner OU=D:=by rw [cu hg,hD]
 have t1:g .q .gtr au 0=decide (0<au):=dm hg _ _
 have t2:g .q .gtr fr 0=decide (0<fr):=dm hg _ _
 have t3:g .q .eql au 0=decide (au=0):=by rw [bj hg];exact zqn _ _
 have t4:g .ln V=n:=by rw [bz hg,xa]
 rw [<-t4]at cL
 have xq:∃(C:AC)(a0:Int),dat C=true/\(∀i:Int,PC0 188 [.c C,ai i] (.i (elZ EX i)))/\a0=A0/\((au=0/\C= .N)\/(¬au=0/\C= .N/\¬0<fr/\a0=0)\/(¬au=0/\0<fr/\C= .view (vw ak EX)/\EX=evn fr au/\a0=0)):=by
  by_cases ha:au=0
  ·have:EX=[]:=by rw [hm,if_neg (by omega)]
   exact⟨_,A0,rfl,fun i=>by rw [this];exact oU i,rfl,.inl ⟨ha,rfl⟩⟩
  ·rw [if_neg ha]at hk
   by_cases hf:0<fr
   ·have:EX=evn fr au:=by rw [hm,if_pos (by omega)]
    refine⟨.view (vw ak EX),A0,rfl,fun i=>de EX (by rw [this,il];have:=qf au;omega) i,rfl,.inr (.inr ⟨ha,hf,rfl,this,hk⟩)⟩
   ·have:EX=[]:=by rw [hm,if_neg (by omega)]
    exact⟨_,A0,rfl,fun i=>by rw [this];exact oU i,rfl,.inr (.inl ⟨ha,rfl,hf,hk⟩)⟩
 obtain⟨C,a0,dC,cC,ha,hC⟩:=xq
 have pC:dx C=true:=by cases C<;>first|rfl|cases dC
 (repeat'((first|rw [eS]|refine ad hg cO ?_|refine ad hg cS ?_|refine ad hg cA ?_);cbv))
 rcases hC with⟨ha1,hC⟩|⟨ha1,hC,hf,ha2⟩|⟨ha1,hf,hC,hEv,ha2⟩
 case' inl=>
  rw [zqu ha1]at t3
  rw [zqt (show¬0<au by omega)]at t1
  rw [if_pos ha1,<-ha]at hk
  rw [<-hk]at cL
  (repeat'((first|rw [t1]|rw [t3]|refine ad hg cL ?_);cbv))
 case' inr.inl=>
  rw [zqt ha1]at t3
  rw [zqu (show 0<au by omega)]at t1
  rw [zqt hf]at t2
  (repeat'((first|rw [t1]|rw [t2]|rw [t3]);cbv))
 case' inr.inr=>
  rw [zqt ha1]at t3
  rw [zqu (show 0<au by omega)]at t1
  rw [zqu hf]at t2
  rw [<-hEv]at cE
  generalize hY:vw ak EX=Y at cE hC
  (repeat'((first|rw [t1]|rw [t2]|rw [t3]|refine ad hg cE ?_);cbv))
 all_goals
  refine iA ([(23,.hand),(25,.hand)]) ([]) ht hK hg bq (by kernel_rfl) V (fun t=>lc (af.c t.1)) zs hV xd (fun z(s:Int×Int×List Int×LLA)=>[(0,.v V),(1,.v W),(2,.i (gap)),(4,.i (js)),(15,.i (fr)),(16,.i (au)),(17,.p 0),(18,.p 1),(19,.t (.c (.clo 291 (1::0::[])))),(20,.i (s.1)),(21,.o 2),(80,.v V),(81,.i (g .ln V)),(82,.i (z))]) (fun z(s:Int×Int×List Int×LLA)=>[.bx 24 1 [C],.bx 3 1 [.J s.2.1],.rw ⟨3,1,s.2.2.2⟩]) (fun z(s:Int×Int×List Int×LLA)=>s.2.2.2=vw ak s.2.2.1/\(s.2.2.1.length:Int)=z/\0<=s.2.1/\s.2.1<=2*z) (fun(s:Int×Int×List Int×LLA) rest=>s.2.2.1++yI EX SP gap n (s.2.2.1.length:Int) s.1 s.2.1 rest) (AL) (a0,0,[],[]) (by rw [hb,<-ha];rfl) ⟨rfl,rfl,zpc 0,zpc 0⟩ (Wk.weak (wkG [some 0,some 1,none] ⟨rfl,rfl,rfl,rfl,rfl,rfl,rfl,rfl,zr3,by first|rfl|(rw [ha2];rfl),rfl,rfl,rfl,rfl,zpt⟩ ⟨⟨_,_,rfl,rfl,rfl,rfl,.inl ⟨by rw [hC],rfl⟩⟩,wqE rfl rfl,⟨_,rfl,rfl⟩,zpt⟩ (by decide) aB)) (fun z s B hz h0 hi he=> ?_) (fun z s x rest B z0 z1 z2 hx hy h0 hi hc e1 hB=> ?_)
  ·obtain⟨a,k,hj,E⟩:=s
   obtain⟨i1,i2,i3,i4⟩:=hi
   dsimp only at i1 i2 i3 i4 h0
   have pE:=pmV i1
   obtain rfl:hj=AL:=by simpa [yI]using h0
   cbv;rw [he];cbv
   exact Fv hF (.tup [.c (.own 0),ai a,abl true]) [⟨3,1,E⟩] _ (wkG [some 2] ⟨zr3,zpt⟩ ⟨wqE rfl pE,zpt⟩ (by decide) aB) ⟨a,true,rfl,by rw [i1]⟩
  ·obtain⟨a,k,hj,E⟩:=s
   obtain⟨⟨x0,x1,x2,x3,x4,x5,x6,x7,x8⟩,sz⟩:=x
   obtain⟨i1,i2,i3,i4⟩:=hi
   dsimp only at i1 i2 i3 i4 h0 hy
   have xo:W[z.toNat]? =some [.J sz]:=by rw [hW];exact aZ (xc hx)
   have hO:=BH EX C dC cC k i3 (by omega) x7
   have hE:=BH EX C dC cC (auK k x7) (by unfold auK;split<;>omega) (by unfold auK;split<;>omega) x8
   have xh:E.length<=1048576:=by rw [i1,ar];omega
   generalize hr:Kl EX a k ⟨x0,x1,x2,x3,x4,x5,x6,x7,x8⟩=P1 at h0;replace hr:=hr.symm
   generalize hQ:auT EX k x7=v1 at hO;replace hQ:=hQ.symm
   generalize hu:auK k x7=k1 at hO hE;replace hu:=hu.symm
   generalize hR:auT EX k1 x8=v2 at hE;replace hR:=hR.symm
   generalize hL:auK k1 x8=k2 at hE;replace hL:=hL.symm
   have hU:g .w .add .i64 x5 v1=wrap64 (x5+v1):=aG hg _ _
   have hX:g .w .add .i64 a (wrap64 (x5+v1))=P1:=by rw [aG hg,hr,hQ];rfl
   have xe:g .w .add .i64 sz x6=wrap64 (sz+x6):=aG hg _ _
   have xf:g .w .add .i64 (wrap64 (sz+x6)) v2=wrap64 (wrap64 (sz+x6)+v2):=aG hg _ _
   have xg:g .w .add .i64 P1 (wrap64 (wrap64 (sz+x6)+v2))=wrap64 (P1+wrap64 (wrap64 (sz+x6)+v2)):=aG hg _ _
   have eQ:KR EX SP gap n z a k ⟨x0,x1,x2,x3,x4,x5,x6,x7,x8⟩ sz=(if z+1<n then wrap64 (wrap64 (wrap64 (P1+wrap64 (wrap64 (sz+x6)+v2))+gap)+SP z)else wrap64 (P1+wrap64 (wrap64 (sz+x6)+v2))):=by
    rw [hr,hR,hu];rfl
   generalize wrap64 (x5+v1)=u1 at hU hX
   generalize wrap64 (P1+wrap64 (wrap64 (sz+x6)+v2))=Q at *
   generalize wrap64 (wrap64 (sz+x6)+v2)=u3 at *
   generalize wrap64 (sz+x6)=u2 at *
   have h2:g .w .add .i64 Q gap=wrap64 (Q+gap):=aG hg _ _
   have h3:g .w .add .i64 (wrap64 (Q+gap)) (BW z)=wrap64 (wrap64 (Q+gap)+BW z):=aG hg _ _
   have hv:=hM z
   have t5:g .q .lss (z+1) (g .ln V)=decide (z+1<n):=by rw [ba hg,t4]
   have hH:=cB z (ho rfl) z0 (by rw [<-xa]at ho;have:=ho rfl;omega)
   rw [<-t4]at hH
   obtain⟨bw,xl⟩:=nmE (BW z)
   rw [<-xl]at h3 hv hH
   obtain⟨z3,hp⟩:=nmE (z+1)
   rw [<-hp]at e1 t5 eQ
   have nb:0<=k2/\k2<=2*(z+1):=by rw [hL,hu];unfold auK;split<;>split<;>omega
   have nl:((hj++[P1]).length:Int)=z+1:=by simp;omega
   have xb:hj++yI EX SP gap n (hj.length:Int) a k ((⟨x0,x1,x2,x3,x4,x5,x6,x7,x8⟩,sz)::rest)=(hj++[P1])++yI EX SP gap n (z+1) (KR EX SP gap n z a k ⟨x0,x1,x2,x3,x4,x5,x6,x7,x8⟩ sz) k2 rest:=by
    rw [i2,hL,hu,hr,zqC];rfl
   rw [xb,<-hp,eQ]at h0
   rw [<-hp]at nl nb
   clear xb eQ
   have hw:ay [[C]]=true:=by simp [ay,pC]
   have pE:=pmV i1
   cbv
   rw [hc]
   cbv
   refine goX hg _ z0 hy rfl ?_
   cbv
   refine bP hg hK bq [1,2,3,4,5] (.op 0 [] (.op 6 [7,8] (.op 9 [] .done .none) .none) (.op 6 [7] (.op 0 [8] (.op 9 [] .done .none) .none) .none)) (by kernel_rfl) (by kernel_rfl) (S:=Unit) (fun _=>True) (fun _=>[(0,.v V),(1,.v W),(2,.i (gap)),(4,.i (js)),(15,.i (fr)),(16,.i (au)),(17,.p 0),(18,.p 1),(19,.t (.c (.clo 291 (1::0::[])))),(20,.i (P1)),(21,.o 2),(80,.v V),(81,.i (g .ln V)),(82,.i (z)),(22,.i (z)),(23,.p 3)]) (fun _=>[.bx 24 1 [C],.bx 3 1 [.J k1],.rw ⟨3,1,E⟩,.bx 237 9 [.J x0,.J x1,.J x2,.J x3,.J x4,.J x5,.J x6,.B x7,.B x8]]) (fun BL hP=> ?_) (fun _ _=> ?_)
   ·cbv
    (repeat'(first|exact trivial|exact rfl|((first|refine GY hg pC hO rfl rfl rfl ?_|rw [hU]|rw [hX]);cbv)|exact hP () trivial _ _ (Wk.weak (wkG [some 0,some 1,some 2,some 3] ⟨rfl,rfl,rfl,rfl,rfl,rfl,rfl,rfl,zr3,rfl,rfl,rfl,rfl,rfl,rfl,rfl,zpt⟩ ⟨wqE rfl hw,wqE rfl rfl,wqE rfl pE,wqE rfl rfl,zpt⟩ (by decide) aB))|refine And.intro ?_ ?_))
   cbv
   refine dg hg rfl (by decide) xh ?_
   cbv
   rw [fI hg]
   have aE:E++[[.J P1]]=vw ak (hj++[P1]):=by rw [i1,bk];rfl
   generalize E++_=E2 at aE⊢
   replace aE:E2=vw ak (hj++[P1]):=aE
   have hN:=pmV aE
   refine bP hg hK bq [1,2,3,4,5,6,7,8,9,10] (.op 0 [] (.op 11 [12,13] (.op 14 [] .done .none) .none) (.op 11 [12] (.op 0 [13] (.op 14 [] .done .none) .none) .none)) (by kernel_rfl) (by kernel_rfl) (S:=Unit) (fun _=>True) (fun _=>[(0,.v V),(1,.v W),(2,.i (gap)),(4,.i (js)),(15,.i (fr)),(16,.i (au)),(17,.p 0),(18,.p 1),(19,.t (.c (.clo 291 (1::0::[])))),(20,.i (Q)),(21,.o 2),(80,.v V),(81,.i (g .ln V)),(82,.i (z)),(22,.i (z)),(23,.p 3)]) (fun _=>[.bx 24 1 [C],.bx 3 1 [.J k2],.rw ⟨3,1,E2⟩,.bx 237 9 [.J x0,.J x1,.J x2,.J x3,.J x4,.J x5,.J x6,.B x7,.B x8]]) (fun BL hP=> ?_) (fun _ _=> ?_)
   ·cbv
    (repeat'(first|exact trivial|exact rfl|((first|refine GY hg pC hE rfl rfl rfl ?_|refine goX hg _ z0 xo rfl ?_|rw [xe]|rw [xf]|rw [xg]);cbv)|exact hP () trivial _ _ (Wk.weak (wkG [some 0,some 1,some 5,some 3] ⟨rfl,rfl,rfl,rfl,rfl,rfl,rfl,rfl,zr3,rfl,rfl,rfl,rfl,rfl,rfl,rfl,zpt⟩ ⟨wqE rfl hw,wqE rfl rfl,wqE rfl hN,wqE rfl rfl,zpt⟩ (by decide) aB))|refine And.intro ?_ ?_))
   cbv
   skip
   by_cases h5:z3<n
   ·rw [zqu h5]at t5
    rw [if_pos h5]at h0
    by_cases hau0:au=0
    all_goals first
     |exact absurd hau0 ha1
     |exact absurd ha1 hau0
     |(
      rw [if_pos hau0]at hv
      rw [hv]at h0
      generalize wrap64 (Q+gap)=Q2 at *
      generalize wrap64 (Q2+bw)=Q3 at *
      (repeat'((first|rw [e1]|rw [t5]|rw [h2]|rw [h3]|rw [t3]|refine ad hg hH ?_);cbv))
      subst hp
      exact hB ((Q3,k2,hj++[P1],E2)) _ _ ⟨(by dsimp only;rw [nl];exact h0),⟨aE,nl,nb.1,nb.2⟩⟩ (Wk.weak (wkG [some 0,some 1,some 2] ⟨rfl,rfl,rfl,rfl,rfl,rfl,rfl,rfl,zr3,rfl,rfl,rfl,rfl,rfl,zpt⟩ ⟨wqE rfl hw,wqE rfl rfl,wqE rfl hN,zpt⟩ (by decide) aB)))
     |(
      rw [if_neg hau0]at hv
      rw [hv,Int.add_zero,xt]at h0
      generalize wrap64 (Q+gap)=Q2 at *
      (repeat'((first|rw [e1]|rw [t5]|rw [h2]|rw [t3]);cbv))
      subst hp
      exact hB ((Q2,k2,hj++[P1],E2)) _ _ ⟨(by dsimp only;rw [nl];exact h0),⟨aE,nl,nb.1,nb.2⟩⟩ (Wk.weak (wkG [some 0,some 1,some 2] ⟨rfl,rfl,rfl,rfl,rfl,rfl,rfl,rfl,zr3,rfl,rfl,rfl,rfl,rfl,zpt⟩ ⟨wqE rfl hw,wqE rfl rfl,wqE rfl hN,zpt⟩ (by decide) aB)))
   ·rw [zqt h5]at t5
    rw [if_neg h5]at h0
    (repeat'((first|rw [e1]|rw [t5]);cbv))
    subst hp
    exact hB ((Q,k2,hj++[P1],E2)) _ _ ⟨(by dsimp only;rw [nl];exact h0),⟨aE,nl,nb.1,nb.2⟩⟩ (Wk.weak (wkG [some 0,some 1,some 2] ⟨rfl,rfl,rfl,rfl,rfl,rfl,rfl,rfl,zr3,rfl,rfl,rfl,rfl,rfl,zpt⟩ ⟨wqE rfl hw,wqE rfl rfl,wqE rfl hN,zpt⟩ (by decide) aB))
theorem oJ(xs:List af)(ss:List Int)(gap inner js:Int)(hl:xs.length<=1048576)(hs:ss.length<=1048576):bS prog 183 [.c (.view (vw af.c xs)),.c (.view (vw ak ss)),ai gap,ai inner,ai js] fun res ha=>res= .o 0/\ha=[⟨3,1,vw ak (alg xs ss gap inner js)⟩]:=by
 have cP:=ye xs ss gap inner js hl hs
 generalize hV:vw af.c xs=V at cP
 generalize hW:vw ak ss=W at cP
 generalize hE:vw ak (alg xs ss gap inner js)=E at cP;replace hE:=hE.symm
 have pE:=pmV hE
 refine aV func183 fun g F hg hF=> ?_
 cbv
 refine sT hg (fO cP rfl fun res ha hq=> ?_)
 obtain⟨e,b,rfl,rfl⟩:=hq
 refine⟨[.rw ⟨3,1,E⟩],by simp only [zqA,List.map_nil];rw [show AB.shift _ ⟨3,1,E⟩=(⟨3,1,E⟩:AB)from congrArg (AB.mk _ _) (je pE)];rfl,?_⟩
 cbv
 exact bN hF rfl pE
theorem xh(ex:List Int)(sp:Int->Int)(gap many:Int):∀(ps:List (af×Int))(i a k:Int),(yI ex sp gap many i a k ps).length=ps.length
 | [],_,_,_=>rfl
 |(x,s)::r,i,a,k=>by simp only [yI,zqx,xh ex sp gap many r]
theorem Im(xs:List af)(ss:List Int)(gap inner js:Int):(alg xs ss gap inner js).length<=ss.length:=by
 unfold alg
 split
 ·exact zpn _
 ·rw [xh,zqB];exact Nat.min_le_right ..
theorem Fe(hg:g= @G0 bp0 prog 0 f125.ntmps)(V:LLA)(rtl:Bool)(n:Int)(s0:ah)(row:Bool)(iw ih al ac:aK)(w0 w1 h0' h1':Int)(K:LLA)(IN AC':Int)(vI vL vZ vS vC vT:LLA)(fl ft fr fb:Int)(zo:Int)(E:LLA)(pE:ay E=true)(ZZ:List Int)(hvZ:vZ=vw ak ZZ)(l:List Int)(L:LLA)(hL:L=vw ak l)(hll:l.length<=1048576)(hlb:∀i∈l,0<=i/\i<(ZZ.length:Int))
  (hQ:∀(z:Int)(E2:LLA),E2=vw ak (l.map (elZ ZZ))->Q (.exit 6) [(220,.t (abl (false))),(4,.p 0),(6,.p 1),(7,.p 2),(8,.p 3),(9,.p 4),(11,.v vI),(12,.v vL),(13,.i (IN)),(14,.v vZ),(15,.v vS),(16,.v vC),(18,.i (AC')),(20,.v vT),(28,.p 5),(29,.o 6),(210,.v vL),(211,.i (g .ln vL)),(212,.i (zo)),(30,.i (zo)),(31,.v L),(32,.o 7),(217,.v L),(218,.i (g .ln L)),(219,.i (z))] [.bx 76 3 (lx V rtl),.bx 122 2 [.J w0,.J w1],.bx 122 2 [.J h0',.J h1'],.bx 127 4 [.J 0,.J 0,.J 0,.N],.bx 196 75 (plL n s0 ⟨w0,w1⟩ ⟨h0',h1'⟩ row iw ih al ac (.view K)),.bx 34 4 [.J fl,.J ft,.J fr,.J fb],.rw ⟨45,5,E⟩,.rw ⟨3,1,E2⟩]):
  g .L (mZ (jD f125) 3) Q [(4,.p 0),(6,.p 1),(7,.p 2),(8,.p 3),(9,.p 4),(11,.v vI),(12,.v vL),(13,.i (IN)),(14,.v vZ),(15,.v vS),(16,.v vC),(18,.i (AC')),(20,.v vT),(28,.p 5),(29,.o 6),(210,.v vL),(211,.i (g .ln vL)),(212,.i (zo)),(30,.i (zo)),(31,.v L),(32,.o 7),(217,.v L),(218,.i (g .ln L)),(219,.i (0))] [.bx 76 3 (lx V rtl),.bx 122 2 [.J w0,.J w1],.bx 122 2 [.J h0',.J h1'],.bx 127 4 [.J 0,.J 0,.J 0,.N],.bx 196 75 (plL n s0 ⟨w0,w1⟩ ⟨h0',h1'⟩ row iw ih al ac (.view K)),.bx 34 4 [.J fl,.J ft,.J fr,.J fb],.rw ⟨45,5,E⟩,.rw ⟨3,1,[]⟩]:=by
 obtain⟨R,hR⟩:=nmE (l.map (elZ ZZ))
 rw [<-hR]at hQ
 have hm:R.length<=1048576:=by rw [hR,zql];exact hll
 refine aQ hg bq (by kernel_rfl) L (fun x=>lc (ak x)) l hL hll (fun z(s:List Int×LLA)=>[(4,.p 0),(6,.p 1),(7,.p 2),(8,.p 3),(9,.p 4),(11,.v vI),(12,.v vL),(13,.i (IN)),(14,.v vZ),(15,.v vS),(16,.v vC),(18,.i (AC')),(20,.v vT),(28,.p 5),(29,.o 6),(210,.v vL),(211,.i (g .ln vL)),(212,.i (zo)),(30,.i (zo)),(31,.v L),(32,.o 7),(217,.v L),(218,.i (g .ln L)),(219,.i (z))]) (fun z(s:List Int×LLA)=>[.bx 76 3 (lx V rtl),.bx 122 2 [.J w0,.J w1],.bx 122 2 [.J h0',.J h1'],.bx 127 4 [.J 0,.J 0,.J 0,.N],.bx 196 75 (plL n s0 ⟨w0,w1⟩ ⟨h0',h1'⟩ row iw ih al ac (.view K)),.bx 34 4 [.J fl,.J ft,.J fr,.J fb],.rw ⟨45,5,E⟩,.rw ⟨3,1,s.2⟩]) (fun z(s:List Int×LLA)=>s.2=vw ak s.1) (fun(s:List Int×LLA) rest=>s.1++rest.map (elZ ZZ)) (R) ([],[]) (by rw [hR];rfl) rfl (Wk.weak (wkG [some _,some _,some _,some _,some _,some _,some 6,some 7] ⟨rfl,rfl,rfl,rfl,rfl,rfl,rfl,rfl,rfl,rfl,rfl,rfl,rfl,rfl,rfl,rfl,rfl,rfl,rfl,rfl,rfl,rfl,rfl,rfl,zpt⟩ ⟨wqE rfl rfl,wqE rfl rfl,wqE rfl rfl,wqE rfl rfl,wqE rfl rfl,wqE rfl rfl,wqE rfl pE,wqE rfl rfl,zpt⟩ (by decide) aB)) (fun z s B hz h0 hi he=> ?_) (fun z s x rest B z0 z1 z2 hx hy h0 hi hc e1 hB=> ?_)
 ·obtain⟨hb,E1⟩:=s
  dsimp only at hi h0
  obtain rfl:hb=R:=by simpa using h0
  have hQ:=hQ z E1 hi
  cbv;rw [he];cbv
  exact hQ
 ·obtain⟨hb,E1⟩:=s
  dsimp only at hi h0
  have hd:=hlb x (zqd hx)
  have hh:=hd.1
  obtain⟨v,hv⟩:=nmE (elZ ZZ x)
  have hk:vZ[x.toNat]? =some [.J v]:=by rw [hvZ,hv];exact aZ (lq hh hd.2)
  have ha:=congrArg List.length h0
  rw [zqe]at ha
  have hj:E1.length<=1048576:=by rw [hi,ar];omega
  have h3:(hb++[v])++rest.map (elZ ZZ)=R:=by rw [<-h0,hv];simp
  have aE:E1++[[.J v]]=vw ak (hb++[v]):=by rw [hi,bk];rfl
  obtain⟨E2,hf⟩:∃E2,E2=E1++[[.J v]]:=⟨_,rfl⟩
  rw [<-hf]at aE
  have hl:=pmV aE
  clear ha hv hd hR
  cbv;rw [hc];cbv;refine goX hg _ z0 hy rfl ?_;cbv
  (repeat'((first|rw [e1]|refine goX hg _ hh hk rfl ?_|refine dg hg rfl (by decide) hj ?_;cbv;rw [fI hg,<-hf]);cbv))
  exact hB ((hb++[v],E2)) _ _ ⟨h3,aE⟩ (Wk.weak (wkG [some _,some _,some _,some _,some _,some _,some 6,some 9] ⟨rfl,rfl,rfl,rfl,rfl,rfl,rfl,rfl,rfl,rfl,rfl,rfl,rfl,rfl,rfl,rfl,rfl,rfl,rfl,rfl,rfl,rfl,rfl,rfl,zpt⟩ ⟨wqE rfl rfl,wqE rfl rfl,wqE rfl rfl,wqE rfl rfl,wqE rfl rfl,wqE rfl rfl,wqE rfl pE,wqE rfl hl,zpt⟩ (by decide) aB))
theorem Fd(hg:g= @G0 bp0 prog 0 f125.ntmps)(V:LLA)(rtl:Bool)(n:Int)(s0:ah)(row:Bool)(iw ih al ac:aK)(w0 w1 h0' h1':Int)(K:LLA)(IN AC':Int)(vI vL vZ vS vC vT:LLA)(fl ft fr fb:Int)(zo:Int)(kids:List Int)(hK:K=vw ak kids)(I:List af)(ZZ CC ST PS:List Int)(S1:List aw)(hvZ:vZ=vw ak ZZ)(hvC:vC=vw ak CC)(hvT:vT=vw ak ST)(hvS:vS=vw aw.c S1)(vP:LLA)(hvP:vP=vw ak PS)(hPl:PS.length<=1048576)(hTl:ST.length<=1048576)
  (hzl:ZZ.length=kids.length) (hsl:S1.length=kids.length) (hf:mz s0=⟨fl,ft,fr,fb⟩) (z0':0<=zo) (c:Int) (hcc:CC[zo.toNat]? =some c) (lb:Int) (l:List Int) (L:LLA) (hL:L=vw ak l) (hll:l.length<=1048576) (done:List ag) (hld:l=ixs done.length l.length) (hle:done.length+l.length<=kids.length)
  (E:LLA) (hE:E=vw ag.c (done++List.replicate (kids.length-done.length) ⟨0,0,0,0,0⟩))
  (hQ:∀(z:Int)(E:LLA)(D:List ag),D=done++ta ⟨s0,row,⟨w0,w1⟩,⟨h0',h1'⟩,iw,ih,al,ac,kids⟩ rtl IN AC' ZZ S1 (elZ ST zo) c lb PS 0 l->E=vw ag.c (D++List.replicate (kids.length-D.length) ⟨0,0,0,0,0⟩)->Q (.exit 8) [(252,.t (abl (false))),(4,.p 0),(6,.p 1),(7,.p 2),(8,.p 3),(9,.p 4),(11,.v vI),(12,.v vL),(13,.i (IN)),(14,.v vZ),(15,.v vS),(16,.v vC),(18,.i (AC')),(20,.v vT),(28,.p 5),(29,.o 6),(210,.v vL),(211,.i (g .ln vL)),(212,.i (zo)),(30,.i (zo)),(31,.v L),(35,.v vP),(36,.i (lb)),(249,.v L),(250,.i (g .ln L)),(251,.i (z))] [.bx 76 3 (lx V rtl),.bx 122 2 [.J w0,.J w1],.bx 122 2 [.J h0',.J h1'],.bx 127 4 [.J 0,.J 0,.J 0,.N],.bx 196 75 (plL n s0 ⟨w0,w1⟩ ⟨h0',h1'⟩ row iw ih al ac (.view K)),.bx 34 4 [.J fl,.J ft,.J fr,.J fb],.rw ⟨45,5,E⟩]):
  g .L (mZ (jD f125) 4) Q [(4,.p 0),(6,.p 1),(7,.p 2),(8,.p 3),(9,.p 4),(11,.v vI),(12,.v vL),(13,.i (IN)),(14,.v vZ),(15,.v vS),(16,.v vC),(18,.i (AC')),(20,.v vT),(28,.p 5),(29,.o 6),(210,.v vL),(211,.i (g .ln vL)),(212,.i (zo)),(30,.i (zo)),(31,.v L),(35,.v vP),(36,.i (lb)),(249,.v L),(250,.i (g .ln L)),(251,.i (0))] [.bx 76 3 (lx V rtl),.bx 122 2 [.J w0,.J w1],.bx 122 2 [.J h0',.J h1'],.bx 127 4 [.J 0,.J 0,.J 0,.N],.bx 196 75 (plL n s0 ⟨w0,w1⟩ ⟨h0',h1'⟩ row iw ih al ac (.view K)),.bx 34 4 [.J fl,.J ft,.J fr,.J fb],.rw ⟨45,5,E⟩]:=by
 obtain⟨q,hq⟩:∃q:Pl,q=⟨s0,row,⟨w0,w1⟩,⟨h0',h1'⟩,iw,ih,al,ac,kids⟩:=⟨_,rfl⟩
 rw [<-hq]at hQ
 obtain⟨D1,hs⟩:=nmE (done++ta q rtl IN AC' ZZ S1 (elZ ST zo) c lb PS 0 l)
 have h2:D1.length=done.length+l.length:=by rw [hs,zqe,mW]
 have hQ:=fun z E=>hQ z E D1 hs
 have hH:(done++ta q rtl IN AC' ZZ S1 (elZ ST zo) c lb PS 0 l,ixs 0 done.length++l)=(D1,ixs 0 D1.length):=Prod.ext hs.symm (by show ixs 0 done.length++l=ixs 0 D1.length;rw [h2,kv,Int.zero_add,<-hld])
 have h1:vC[zo.toNat]? =some [.J c]:=by rw [hvC];exact aZ hcc
 have xb:=pmV hE
 have hp:=de ST hTl zo
 rw [<-hvT]at hp
 obtain⟨st,hY⟩:=nmE (elZ ST zo)
 rw [<-hY]at hp hH
 have hj:=fun z=>de PS hPl z
 rw [<-hvP]at hj
 have hG:=mt s0 rtl
 have hD:=lp s0 rtl
 generalize hw:mc s0 rtl=mb at hG;replace hw:=hw.symm
 generalize hv:mE s0 rtl=cb at hD;replace hv:=hv.symm
 clear hld hcc hs
 refine aQ hg bq (by kernel_rfl) L (fun x=>lc (ak x)) l hL hll (fun z(s:Int×List ag×LLA)=>[(4,.p 0),(6,.p 1),(7,.p 2),(8,.p 3),(9,.p 4),(11,.v vI),(12,.v vL),(13,.i (IN)),(14,.v vZ),(15,.v vS),(16,.v vC),(18,.i (AC')),(20,.v vT),(28,.p 5),(29,.o 6),(210,.v vL),(211,.i (g .ln vL)),(212,.i (zo)),(30,.i (zo)),(31,.v L),(35,.v vP),(36,.i (lb)),(249,.v L),(250,.i (g .ln L)),(251,.i (z))]) (fun z(s:Int×List ag×LLA)=>[.bx 76 3 (lx V rtl),.bx 122 2 [.J w0,.J w1],.bx 122 2 [.J h0',.J h1'],.bx 127 4 [.J 0,.J 0,.J 0,.N],.bx 196 75 (plL n s0 ⟨w0,w1⟩ ⟨h0',h1'⟩ row iw ih al ac (.view K)),.bx 34 4 [.J fl,.J ft,.J fr,.J fb],.rw ⟨45,5,s.2.2⟩]) (fun z(s:Int×List ag×LLA)=>s.1=z/\s.2.2=vw ag.c (s.2.1++List.replicate (kids.length-s.2.1.length) ⟨0,0,0,0,0⟩)) (fun(s:Int×List ag×LLA) rest=>(s.2.1++ta q rtl IN AC' ZZ S1 st c lb PS s.1 rest,ixs 0 s.2.1.length++rest)) ((D1,ixs 0 D1.length)) (0,done,E) hH ⟨rfl,hE⟩ (Wk.weak (wkG [some _,some _,some _,some _,some _,some _,some 6] ⟨rfl,rfl,rfl,rfl,rfl,rfl,rfl,rfl,rfl,rfl,rfl,rfl,rfl,rfl,rfl,rfl,rfl,rfl,rfl,rfl,rfl,rfl,rfl,rfl,rfl,zpt⟩ ⟨wqE rfl rfl,wqE rfl rfl,wqE rfl rfl,wqE rfl rfl,wqE rfl rfl,wqE rfl rfl,wqE rfl xb,zpt⟩ (by decide) aB)) (fun z s B hz h0 hi he=> ?_) (fun z s x rest B z0 z1 z2 hx hy h0 hi hc e1 hB=> ?_)
 ·obtain⟨j,D,E1⟩:=s
  obtain⟨i1,i2⟩:=hi
  obtain⟨hh,hk⟩:=Prod.mk.inj h0
  dsimp only at i1 i2
  obtain rfl:D=D1:=by simpa [ta]using hh
  have hQ:=hQ z E1 i2
  cbv;rw [he];cbv
  exact hQ
 ·obtain⟨j,D,E1⟩:=s
  obtain⟨i1,i2⟩:=hi
  obtain⟨hh,hk⟩:=Prod.mk.inj h0
  dsimp only at i1 i2 hh hk hy
  subst i1
  have hl:D.length<D1.length:=by have:=congrArg List.length hh;simp [ta]at this;omega
  have hZ:x=(D.length:Int):=by
   have e:=congrArg (fun l=>l[D.length]?) hk
   simp only [zqg (show(ixs 0 D.length).length<=D.length by rw [bX];exact zpk _),bX,Nat.sub_self,zqw]at e
   rw [yd _ _ _ hl]at e
   simpa using e
  have hd:0<=x:=by omega
  have hV:x.toNat=D.length:=by omega
  have h5:D.length<S1.length:=by omega
  obtain⟨sd,hT⟩:∃sd,S1[x.toNat]? =some sd:=⟨_,zqc (by omega)⟩
  obtain⟨kd,hR⟩:∃kd,kids[x.toNat]? =some kd:=⟨_,zqc (by omega)⟩
  obtain⟨zz,hW⟩:∃zz,ZZ[x.toNat]? =some zz:=⟨_,zqc (by omega)⟩
  have h4:K[x.toNat]? =some [.J kd]:=by rw [hK];exact aZ hR
  have h7:vZ[x.toNat]? =some [.J zz]:=by rw [hvZ];exact aZ hW
  have h6:vS[x.toNat]? =some (lc (aw.c sd)):=by rw [hvS];exact aZ hT
  have hS:List.replicate (kids.length-D.length) (⟨0,0,0,0,0⟩:ag)=⟨0,0,0,0,0⟩::List.replicate (kids.length-(D.length+1)) ⟨0,0,0,0,0⟩:=by
   rw [show kids.length-D.length=(kids.length-(D.length+1))+1 by omega,List.replicate_succ]
  have xa:x<aN E1:=by rw [i2,aU];simp;omega
  have hm:E1[x.toNat]? =some (lc (ag.c ⟨0,0,0,0,0⟩)):=by rw [i2];exact aZ (by rw [zqg (by omega),hV,Nat.sub_self,hS];rfl)
  have ha:∀v,E1.set x.toNat (lc (ag.c v))=vw ag.c ((D++[v])++List.replicate (kids.length-(D++[v]).length) ⟨0,0,0,0,0⟩):=fun v=>by
   rw [i2,hV,ny,List.set_append_right _ _ (zpk _),Nat.sub_self,hS,List.set_cons_zero,zqe,zqm,zqC];rfl
  have hj:=hj j
  generalize hC:elZ PS j=pj at hj hh;replace hC:=hC.symm
  have e2:elZ kids x=kd:=by have:=oV hR;rwa [Int.toNat_of_nonneg hd]at this
  have e3:elZ ZZ x=zz:=by have:=oV hW;rwa [Int.toNat_of_nonneg hd]at this
  have hF:=mr IN pj zz mb
  generalize ht:Gs IN pj zz mb=a1 at hF;replace ht:=ht.symm
  have cP:=oK sd c lb
  generalize hA:Hy sd c lb=pa at cP;replace hA:=hA.symm
  obtain⟨sp,hU⟩:=nmE (wrap64 (st+pa))
  have hr:=mr AC' sp sd.size cb
  generalize hu:Gs AC' sp sd.size cb=b1 at hr;replace hu:=hu.symm
  obtain⟨X1,hM⟩:=nmE (wrap64 (b1+fl))
  obtain⟨X2,hN⟩:=nmE (wrap64 (a1+ft))
  obtain⟨X3,hO⟩:=nmE (wrap64 (a1+fl))
  obtain⟨X4,hP⟩:=nmE (wrap64 (b1+ft))
  have ho:HR q rtl IN AC' ZZ S1 st c lb pj x=if row then⟨kd,X3,X4,zz,sd.size⟩else⟨kd,X1,X2,sd.size,zz⟩:=by
   rw [hM,hN,hO,hP,hu,hU,hA,ht,hw,hv,hq]
   unfold HR
   dsimp only
   rw [xK hd hT,e2,e3,hf]
  obtain⟨fm,hb⟩:=nmE (HR q rtl IN AC' ZZ S1 st c lb pj x)
  rw [<-hb]at ho
  have h3:((D++[fm])++ta q rtl IN AC' ZZ S1 st c lb PS (j+1) rest,ixs 0 (D++[fm]).length++rest)=(D1,ixs 0 D1.length):=Prod.ext (by rw [<-hh,hb,hC];simp [ta]) (by
   show ixs 0 (D++[fm]).length++rest=ixs 0 D1.length
   rw [<-hk,zqe,zqm,oE,Int.zero_add,<-hZ];simp)
  obtain⟨E2,hI⟩:=nmE (E1.set x.toNat (lc (ag.c fm)))
  have ha:=ha fm
  rw [<-hI]at ha
  have xc:=pmV ha
  have t1:g .w .add .i64 st pa=sp:=by rw [aG hg,hU]
  have t2:g .w .add .i64 b1 fl=X1:=by rw [aG hg,hM]
  have t3:g .w .add .i64 a1 ft=X2:=by rw [aG hg,hN]
  have t4:g .w .add .i64 a1 fl=X3:=by rw [aG hg,hO]
  have t5:g .w .add .i64 b1 ft=X4:=by rw [aG hg,hP]
  obtain⟨y0,y1,y2,y3,y4,y5,y6⟩:=sd
  dsimp only at ho hr
  clear hZ hl hV h5 hk hb hM hN hO hP hu hU hA ht hw hv hq hf e2 e3 hT hR hW hS i2 hvZ hvC hvT hvS hvP hK hC hY hH
  have hJ:vS[x.toNat]? =some [.J y0,.J y1,.J y2,.B y3,.B y4,.J y5,.J y6]:=h6
  have hn:∃e,E1[x.toNat]? =some e/\e.length=5:=⟨_,hm,rfl⟩
  clear hm
  cases row
  all_goals
   (try simp only [Bool.false_eq_true,if_false]at ho)
   (try simp only [if_true]at ho)
   subst ho
   cbv
   rw [hc]
   cbv
   refine goX hg _ z0 hy rfl ?_
   cbv
   ((repeat'((first|rw [t1]|rw [t2]|rw [t3]|rw [t4]|rw [t5]|refine mD hg hj rfl rfl ?_|refine aa hg hG ?_|refine aa hg hD ?_|refine aa hg hF ?_|refine aa hg hr ?_|refine aa hg cP ?_|refine aa hg hp ?_|refine goX hg _ hd h7 rfl ?_|refine goX hg _ hd h4 rfl ?_|refine goX hg _ hd hJ rfl ?_|refine goX hg _ z0' h1 rfl ?_);cbv)))
   refine goY hg hd xa fun j2 hX h9=> ?_
   cbv
   obtain⟨e,he,h8⟩:=hn
   refine goN hg ⟨_,by rw [hX];exact he,h8⟩ ?_
   cbv
   rw [jC hg,hX,e1]
   dsimp only [AT.cells]
   first
    |rw [show E1.set x.toNat [.imm (.int .i64 kd),.imm (.int .i64 X3),.imm (.int .i64 X4),.imm (.int .i64 zz),.imm (.int .i64 y0)]=E2 from hI.symm]
    |rw [show E1.set x.toNat [.imm (.int .i64 kd),.imm (.int .i64 X1),.imm (.int .i64 X2),.imm (.int .i64 y0),.imm (.int .i64 zz)]=E2 from hI.symm]
   exact hB ((j+1,_,E2)) _ _ ⟨h3,⟨rfl,ha⟩⟩ (Wk.weak (wkG [some _,some _,some _,some _,some _,some _,some 6] ⟨rfl,rfl,rfl,rfl,rfl,rfl,rfl,rfl,rfl,rfl,rfl,rfl,rfl,rfl,rfl,rfl,rfl,rfl,rfl,rfl,rfl,rfl,rfl,rfl,rfl,zpt⟩ ⟨wqE rfl rfl,wqE rfl rfl,wqE rfl rfl,wqE rfl rfl,wqE rfl rfl,wqE rfl rfl,wqE rfl xc,zpt⟩ (by decide) aB))
theorem Dy(hg:g= @G0 bp0 prog 0 f125.ntmps)(V:LLA)(rtl:Bool)(n:Int)(s0:ah)(row:Bool)(iw ih al ac:aK)(w0 w1 h0' h1':Int)(K:LLA)(IN AC':Int)(vI vL vZ vS vC vT:LLA)(fl ft fr fb:Int)(kids:List Int)(hK:K=vw ak kids)(hkl:kids.length<=1048576)(I:List af)(hvI:vI=vw af.c I)(hIl:I.length=kids.length)(ZZ CC ST:List Int)(S1:List aw)(hvZ:vZ=vw ak ZZ)(hvC:vC=vw ak CC)(hvT:vT=vw ak ST)(hvS:vS=vw aw.c S1)(hTl:ST.length<=1048576)
  (hzl:ZZ.length=kids.length) (hsl:S1.length=kids.length) (hf:mz s0=⟨fl,ft,fr,fb⟩) (LL:List (List Int)) (hH:vL=vwA lnA LL) (hLl:LL.length<=1048576) (hcl:CC.length=LL.length) (hfl:LL.flatten=ixs 0 kids.length)
  (E:LLA) (hE:E=vw ag.c (List.replicate kids.length ⟨0,0,0,0,0⟩))
  (hQ:∀(z:Int)(E:LLA),E=vw ag.c (yh ⟨s0,row,⟨w0,w1⟩,⟨h0',h1'⟩,iw,ih,al,ac,kids⟩ rtl I IN AC' ZZ S1 ST 0 (LL.zip CC))->Q (.exit 4) [(213,.t (abl (false))),(4,.p 0),(6,.p 1),(7,.p 2),(8,.p 3),(9,.p 4),(11,.v vI),(12,.v vL),(13,.i (IN)),(14,.v vZ),(15,.v vS),(16,.v vC),(18,.i (AC')),(20,.v vT),(28,.p 5),(29,.o 6),(210,.v vL),(211,.i (g .ln vL)),(212,.i (z))] [.bx 76 3 (lx V rtl),.bx 122 2 [.J w0,.J w1],.bx 122 2 [.J h0',.J h1'],.bx 127 4 [.J 0,.J 0,.J 0,.N],.bx 196 75 (plL n s0 ⟨w0,w1⟩ ⟨h0',h1'⟩ row iw ih al ac (.view K)),.bx 34 4 [.J fl,.J ft,.J fr,.J fb],.rw ⟨45,5,E⟩]):
  g .L (mZ (jD f125) 2) Q [(4,.p 0),(6,.p 1),(7,.p 2),(8,.p 3),(9,.p 4),(11,.v vI),(12,.v vL),(13,.i (IN)),(14,.v vZ),(15,.v vS),(16,.v vC),(18,.i (AC')),(20,.v vT),(28,.p 5),(29,.o 6),(210,.v vL),(211,.i (g .ln vL)),(212,.i (0))] [.bx 76 3 (lx V rtl),.bx 122 2 [.J w0,.J w1],.bx 122 2 [.J h0',.J h1'],.bx 127 4 [.J 0,.J 0,.J 0,.N],.bx 196 75 (plL n s0 ⟨w0,w1⟩ ⟨h0',h1'⟩ row iw ih al ac (.view K)),.bx 34 4 [.J fl,.J ft,.J fr,.J fb],.rw ⟨45,5,E⟩]:=by
 have hI:vL=(LL.zip CC).map (fun t=>lnA t.1):=by rw [hH];exact qQ hcl
 have hJ:(LL.zip CC).map (·.1)=LL:=fj hcl
 have ho:(LL.zip CC).length<=1048576:=by rw [zqB];exact zpb (Nat.min_le_left ..) hLl
 have hu:=fun{i t} h=>yJ (a:=LL) (b:=CC) (i:=i) (t:=t) h
 have hS:∀l∈LL,∀i∈l,0<=i/\i<(kids.length:Int):=fun l hl i hi=>by
  have:i∈LL.flatten:=List.mem_flatten.2 ⟨l,hl,hi⟩
  rw [hfl,mj]at this
  omega
 obtain⟨qs,hC⟩:=nmE (LL.zip CC)
 rw [<-hC]at hI hJ ho hQ
 simp only [<-hC]at hu
 have hP:(qs.map (·.1)).flatten=ixs 0 kids.length:=by rw [hJ];exact hfl
 obtain⟨q,hq⟩:∃q:Pl,q=⟨s0,row,⟨w0,w1⟩,⟨h0',h1'⟩,iw,ih,al,ac,kids⟩:=⟨_,rfl⟩
 rw [<-hq]at hQ
 obtain⟨D1,hN⟩:=nmE (yh q rtl I IN AC' ZZ S1 ST 0 qs)
 rw [<-hN]at hQ
 have hZ:I.length<=1048576:=by omega
 have cG:=jh s0 row
 have hR:El q=jG s0 row:=by rw [hq];rfl
 have xb:q.s.justify=s0.justify:=by rw [hq]
 have ht:=fun(zo c lb:Int)(h1:0<=zo)(h2:CC[zo.toNat]? =some c) PS vP h3 h4 l L h5 h6 done h7 h8 E h9 Q' hQ'=>Fd hg (Q:=Q') V rtl n s0 row iw ih al ac w0 w1 h0' h1' K IN AC' vI vL vZ vS vC vT fl ft fr fb zo kids hK I ZZ CC ST PS S1 hvZ hvC hvT hvS vP h3 h4 hTl hzl hsl hf h1 c h2 lb l L h5 h6 done h7 h8 E h9 hQ'
 simp only [<-hq]at ht
 generalize hG:jG s0 row=G at cG hR
 replace hH:=hI
 have pE:=pmV hE
 refine aQ hg bq (by kernel_rfl) vL (fun t=>lnA t.1) qs hH ho (fun z(s:Int×List ag×LLA)=>[(4,.p 0),(6,.p 1),(7,.p 2),(8,.p 3),(9,.p 4),(11,.v vI),(12,.v vL),(13,.i (IN)),(14,.v vZ),(15,.v vS),(16,.v vC),(18,.i (AC')),(20,.v vT),(28,.p 5),(29,.o 6),(210,.v vL),(211,.i (g .ln vL)),(212,.i (z))]) (fun z(s:Int×List ag×LLA)=>[.bx 76 3 (lx V rtl),.bx 122 2 [.J w0,.J w1],.bx 122 2 [.J h0',.J h1'],.bx 127 4 [.J 0,.J 0,.J 0,.N],.bx 196 75 (plL n s0 ⟨w0,w1⟩ ⟨h0',h1'⟩ row iw ih al ac (.view K)),.bx 34 4 [.J fl,.J ft,.J fr,.J fb],.rw ⟨45,5,s.2.2⟩]) (fun z(s:Int×List ag×LLA)=>s.1=z/\s.2.2=vw ag.c (s.2.1++List.replicate (kids.length-s.2.1.length) ⟨0,0,0,0,0⟩)) (fun(s:Int×List ag×LLA) rest=>(s.2.1++yh q rtl I IN AC' ZZ S1 ST s.1 rest,ixs 0 s.2.1.length++(rest.map (·.1)).flatten)) ((D1,ixs 0 kids.length)) (0,[],E) (by rw [hN];exact Prod.ext rfl hP) ⟨rfl,hE⟩ (Wk.weak (wkG [some _,some _,some _,some _,some _,some _,some 6] ⟨rfl,rfl,rfl,rfl,rfl,rfl,rfl,rfl,rfl,rfl,rfl,rfl,rfl,rfl,rfl,rfl,rfl,rfl,zpt⟩ ⟨wqE rfl rfl,wqE rfl rfl,wqE rfl rfl,wqE rfl rfl,wqE rfl rfl,wqE rfl rfl,wqE rfl pE,zpt⟩ (by decide) aB)) (fun z s B hz h0 hi he=> ?_) (fun z s x rest B z0 z1 z2 hx hy h0 hi hc e1 hB=> ?_)
 ·obtain⟨k,D,E1⟩:=s
  obtain⟨i1,i2⟩:=hi
  obtain⟨hs,hk⟩:=Prod.mk.inj h0
  dsimp only at i1 i2
  obtain rfl:D=D1:=by simpa [yh]using hs
  have hX:D.length=kids.length:=by
   have:=congrArg List.length hk
   simpa [bX]using this
  have hQ:=hQ z E1 (by rw [i2,hX,Nat.sub_self,List.replicate_zero,zpr])
  cbv;rw [he];cbv
  exact hQ
 ·obtain⟨k,done,E1⟩:=s
  obtain⟨l,c⟩:=x
  obtain⟨i1,i2⟩:=hi
  obtain⟨hs,hk⟩:=Prod.mk.inj h0
  dsimp only at i1 i2 hy hs hk
  subst i1
  obtain⟨L,hL⟩:=nmE (vw ak l)
  have xe:vL[k.toNat]? =some [.view L]:=by rw [hL];exact hy
  have hF:=oD hk
  rw [bX]at hF
  have hn:=mR (l:=l) (ls:=rest.map (fun t:List Int×Int=>t.1)) hF.2.2
  have hd:l.length<=1048576:=zpb hn.1 (zpb (Nat.sub_le ..) hkl)
  have hA:=hS l (zqd (hu hx).1)
  have hM:=pmV i2
  have hT:done.length+l.length<=kids.length:=by have:=hn.1;omega
  have hp:=ij I l hZ hd
  have hr:=lh S1 l (by omega) hd (fun i hi=>by have:=hA i hi;omega)
  have hv:=oQ (pck S1 l) (zpb (we S1 l) hd)
  have hh:(l.map (elZ ZZ)).length<=1048576:=by rw [zql];exact hd
  have hj:=oJ (lit I l) (l.map (elZ ZZ)) G IN s0.justify (zpb sm hd) hh
  obtain⟨PS,hw⟩:=nmE (I7 q I IN ZZ l)
  have ha:alg (lit I l) (l.map (elZ ZZ)) G IN s0.justify=PS:=by rw [hw];unfold I7;rw [hR,xb]
  rw [ha]at hj
  have xa:PS.length<=1048576:=by
   rw [<-ha]
   exact zpb (Im _ _ _ _ _) hh
  obtain⟨lb,hb⟩:=nmE (bas (pck S1 l))
  rw [<-hb]at hv
  generalize hLI:vw af.c (lit I l)=LI at hp hj
  generalize hPK:vw aw.c (pck S1 l)=PK at hr hv
  rw [<-hvI,<-hL]at hp
  rw [<-hvS,<-hL]at hr
  obtain⟨W,hW⟩:=nmE (vw ak (l.map (elZ ZZ)))
  have xh:W.length=(l.map (elZ ZZ)).length:=by rw [hW,ar]
  have kW:=kmV (k:=1) hW fun _=>rfl
  have dW:=dmV hW
  rw [<-hW]at hj
  obtain⟨vP,hm⟩:=nmE (vw ak PS)
  have xd:=lmV hm
  have hU:=imV hm
  have xf:=kmV (k:=1) hm fun _=>rfl
  have hV:=dmV hm
  rw [<-hm]at hj
  have xc:∀i∈l,0<=i/\i<(ZZ.length:Int):=fun i hi=>by have:=hA i hi;omega
  have ht:=ht k c lb z0 (hu hx).2 PS vP hm xa l L hL hd done (by simpa using hn.2.1) hT E1 i2
  have h3:∀D,D=done++ta q rtl IN AC' ZZ S1 (elZ ST k) c lb PS 0 l->(D++yh q rtl I IN AC' ZZ S1 ST (k+1) rest,ixs 0 D.length++(rest.map (·.1)).flatten)=(D1,ixs 0 kids.length):=fun D hD=>Prod.ext (by
   rw [<-hs,hD,hb,hw,zqC];rfl) (by
   show ixs 0 D.length++(rest.map (·.1)).flatten=ixs 0 kids.length
   rw [<-hk,hD,zqe,mW,kv,zqC]
   congr 1
   rw [zqA,List.flatten_cons]
   congr 1
   exact hn.2.1.symm)
  clear hF hn hT hk hP hJ hu hI hq hC hA hS ha hw hb hvI hvS hh
  cbv
  rw [hc]
  cbv
  refine goX hg _ z0 xe rfl ?_
  cbv
  refine me hg (mZ (jD f125) 3) (by kernel_rfl) [(4,.p 0),(6,.p 1),(7,.p 2),(8,.p 3),(9,.p 4),(11,.v vI),(12,.v vL),(13,.i (IN)),(14,.v vZ),(15,.v vS),(16,.v vC),(18,.i (AC')),(20,.v vT),(28,.p 5),(29,.o 6),(210,.v vL),(211,.i (g .ln vL)),(212,.i (k)),(30,.i (k)),(31,.v L),(32,.o 7),(217,.v L),(218,.i (g .ln L)),(219,.i (0))] [.bx 76 3 (lx V rtl),.bx 122 2 [.J w0,.J w1],.bx 122 2 [.J h0',.J h1'],.bx 127 4 [.J 0,.J 0,.J 0,.N],.bx 196 75 (plL n s0 ⟨w0,w1⟩ ⟨h0',h1'⟩ row iw ih al ac (.view K)),.bx 34 4 [.J fl,.J ft,.J fr,.J fb],.rw ⟨45,5,E1⟩,.rw ⟨3,1,[]⟩] (Wk.weak (wkG [some _,some _,some _,some _,some _,some _,some _,none] ⟨rfl,rfl,rfl,rfl,rfl,rfl,rfl,rfl,rfl,rfl,rfl,rfl,rfl,rfl,rfl,rfl,rfl,rfl,rfl,rfl,rfl,rfl,rfl,rfl,zpt⟩ ⟨wqE rfl rfl,wqE rfl rfl,wqE rfl rfl,wqE rfl rfl,wqE rfl rfl,wqE rfl rfl,wqE rfl hM,⟨_,rfl,rfl⟩,zpt⟩ (by decide) aB)) ?_
  refine Fe hg V rtl n s0 row iw ih al ac w0 w1 h0' h1' K IN AC' vI vL vZ vS vC vT fl ft fr fb k E1 hM ZZ hvZ l L hL hd xc fun z2 E2 hY=> ?_
  obtain rfl:W=E2:=by rw [hY,hW]
  cbv
  (repeat'((first|refine aa hg cG ?_|refine aa hg hp ?_|refine ad hg hr ?_|refine ad hg hv ?_|refine bU hg hj (aj (av rfl) (aj (aX (ab:=⟨_,_,W⟩) rfl kW dW) (aj (av rfl) (aj (av rfl) (aj (av rfl) (az)))))) hU ?_);cbv))
  refine me hg (mZ (jD f125) 4) (by kernel_rfl) [(4,.p 0),(6,.p 1),(7,.p 2),(8,.p 3),(9,.p 4),(11,.v vI),(12,.v vL),(13,.i (IN)),(14,.v vZ),(15,.v vS),(16,.v vC),(18,.i (AC')),(20,.v vT),(28,.p 5),(29,.o 6),(210,.v vL),(211,.i (g .ln vL)),(212,.i (k)),(30,.i (k)),(31,.v L),(35,.v vP),(36,.i (lb)),(249,.v L),(250,.i (g .ln L)),(251,.i (0))] [.bx 76 3 (lx V rtl),.bx 122 2 [.J w0,.J w1],.bx 122 2 [.J h0',.J h1'],.bx 127 4 [.J 0,.J 0,.J 0,.N],.bx 196 75 (plL n s0 ⟨w0,w1⟩ ⟨h0',h1'⟩ row iw ih al ac (.view K)),.bx 34 4 [.J fl,.J ft,.J fr,.J fb],.rw ⟨45,5,E1⟩] (bK (sl1 8 vP) (jL rfl xf hV) (Wk.weak (wkG [some _,some _,some _,some _,some _,some _,some 6] ⟨rfl,rfl,rfl,rfl,rfl,rfl,rfl,rfl,rfl,rfl,rfl,rfl,rfl,rfl,rfl,rfl,rfl,rfl,rfl,rfl,rfl,rfl,rfl,rfl,rfl,zpt⟩ ⟨wqE rfl rfl,wqE rfl rfl,wqE rfl rfl,wqE rfl rfl,wqE rfl rfl,wqE rfl rfl,⟨_,_,rfl,rfl,rfl,rfl,.inl (bJ hM)⟩,zpt⟩ (by decide) aB))) ?_
  refine ht _ fun z3 E3 D hD hO=> ?_
  have xg:=pmV hO
  cbv
  (repeat'(rw [e1];cbv))
  skip
  exact hB ((k+1,D,E3)) _ _ ⟨h3 D hD,⟨rfl,hO⟩⟩ (Wk.weak (wkG [some _,some _,some _,some _,some _,some _,some 6] ⟨rfl,rfl,rfl,rfl,rfl,rfl,rfl,rfl,rfl,rfl,rfl,rfl,rfl,rfl,rfl,rfl,rfl,rfl,zpt⟩ ⟨wqE rfl rfl,wqE rfl rfl,wqE rfl rfl,wqE rfl rfl,wqE rfl rfl,wqE rfl rfl,wqE rfl xg,zpt⟩ (by decide) aB))
theorem o9(cs:List Int)(gap inner ct:Int)(hl:cs.length<=64):bS prog 217 [.c (.view (vw ak cs)),ai gap,ai inner,ai ct] fun res hj=>res= .o 0/\hj=[⟨3,1,vw ak (pll cs gap inner ct)⟩]:=by
 have cT:=gp cs gap (by omega)
 have cA:=lZ cs gap inner (by omega)
 have cJ:=o7 ct
 have cS:=cV (wrap64 (inner-crt cs gap))
 have cL:=nY (sg (wrap64 (inner-crt cs gap))) (cs.length:Int) (xm ct)
 have cB:=fun(h:(cs.length:Int)<=12)=>k6 (sg (wrap64 (inner-crt cs gap))) (cs.length:Int) (xm ct) (by omega) h
 have ha:=fun i(h0:0<=i)(h1:i<(cs.length:Int))=>Gf (sg (wrap64 (inner-crt cs gap))) (cs.length:Int) (xm ct) h0 h1
 have hd:acr cs gap inner=true->(cs.length:Int)<=12:=fun h=>by simp only [acr,zqs,zqp]at h;exact h.2.1
 obtain⟨R,hR⟩:=nmE (pll cs gap inner ct)
 rw [<-hR]
 unfold pll at hR
 obtain⟨BW,hm⟩:=nmE (btw (sg (wrap64 (inner-crt cs gap))) (cs.length:Int) (xm ct))
 rw [<-hm]at hR ha
 obtain⟨SC,hp⟩:=nmE (spc (sg (wrap64 (inner-crt cs gap))) (cs.length:Int) (xm ct))
 rw [<-hp]at cB ha
 generalize hT:crt cs gap=T at cT cS cL cB hR
 generalize hLD:led (sg (wrap64 (inner-T))) (cs.length:Int) (xm ct)=LD at cL hR
 generalize hfr:sg (wrap64 (inner-T))=fr at cS cL cB
 generalize hD:wrap64 (inner-T)=D at cS;replace hD:=hD.symm
 generalize hjs:xm ct=js at cJ cL cB
 generalize hA:acr cs gap inner=A at cA hR hd
 obtain⟨V,hV⟩:=nmE (vw ak cs)
 have hE:=lmV hV
 have hf:aN V=(cs.length:Int):=by rw [hV,aU]
 rw [<-hV]at cT cA
 rw [<-hV]
 have hw:0<=(cs.length:Int):=by omega
 generalize hn:(cs.length:Int)=n at hf cL cB hd hw ha;replace hn:=hn.symm
 have hq:∀i:Int,0<=i->i<n->(vw ak SC)[i.toNat]? =some [.J (if i+1<n then BW i else 0)]:=fun i i0 i1=>aZ (ha i i0 i1)
 generalize hY:vw ak SC=Y at cB hq
 clear ha hp hm
 refine aV func217 fun g F hg hF=> ?_
 have t4:g .ln V=n:=by rw [bz hg,hf]
 have e0:g .w .sub .i64 inner T=D:=by rw [cu hg,hD]
 cases hA2:A
 ·rw [hA2]at cA hR
  cbv
  (repeat'(refine ad hg cA ?_;cbv))
  obtain rfl:R=[]:=hR
  exact bN hF rfl rfl
 rw [hA2]at cA hR
 replace hR:R=plG BW gap 0 LD cs:=hR
 replace hd:=hd hA2
 replace cB:=cB hd
 cbv
 (repeat'((first|rw [e0]|rw [t4]|refine ad hg cA ?_|refine ad hg cJ ?_|refine ad hg cT ?_|refine ad hg cS ?_|refine ad hg cL ?_|refine ad hg cB ?_);cbv))
 refine aQ hg bq (by kernel_rfl) V (fun x=>lc (ak x)) cs hV (by omega) (fun z(s:Int×List Int×LLA)=>[(0,.v V),(1,.i (gap)),(9,.o 0),(11,.i (s.1)),(12,.v Y),(13,.i (z))]) (fun z(s:Int×List Int×LLA)=>[.rw ⟨3,1,s.2.2⟩]) (fun z(s:Int×List Int×LLA)=>s.2.2=vw ak s.2.1/\(s.2.1.length:Int)=z) (fun(s:Int×List Int×LLA) rest=>(s.2.1++plG BW gap (s.2.1.length:Int) s.1 rest,(s.2.1.length:Int)+rest.length)) ((R,n)) (LD,[],[]) (by rw [hR,hn];simp) ⟨rfl,rfl⟩ (Wk.weak (wkG [some 0] zr6 ⟨wqE rfl rfl,zpt⟩ (by decide) aB)) (fun z s B hz h0 hi he=> ?_) (fun z s x rest B z0 z1 z2 hx hy h0 hi hc e1 hB=> ?_)
 ·obtain⟨a,hb,E⟩:=s
  obtain⟨i1,i2⟩:=hi
  dsimp only at i1 i2 h0
  have pE:=pmV i1
  obtain rfl:hb=R:=by simpa [plG]using congrArg Prod.fst h0
  rw [<-i1]at hF
  cbv;rw [he];cbv
  exact bN hF rfl pE
 ·obtain⟨a,hb,E⟩:=s
  obtain⟨i1,i2⟩:=hi
  dsimp only at i1 i2 h0
  have hk:hb++plG BW gap (hb.length:Int) a (x::rest)=R:=congrArg Prod.fst h0
  have hs:(hb.length:Int)+((rest.length+1:Nat):Int)=n:=congrArg Prod.snd h0
  clear h0
  have hv:E.length<=1048576:=by rw [i1,ar];omega
  have zn:z<n:=by rw [hf]at z1;exact z1
  have hr:=hq z z0 zn
  obtain⟨bw,hh⟩:∃b,b=if z+1<n then BW z else 0:=⟨_,rfl⟩
  rw [<-hh]at hr
  have nl:((hb++[a]).length:Int)=z+1:=by simp;omega
  have ht:(hb++[a])++plG BW gap ((hb++[a]).length:Int) (wrap64 (wrap64 (wrap64 (a+x)+gap)+bw)) rest=R:=by
   rw [<-hk,i2]
   cases rest with
   |nil=>simp [plG]
   |cons y rest=>
    simp only [zqx]at hs
    rw [hh,if_pos (by omega),nl]
    simp only [plG,zqC,List.singleton_append]
    rw [show wrap64 (wrap64 (wrap64 (a+x)+gap)+BW z)=wrap64 (a+wrap64 (wrap64 (x+gap)+BW z)) by simp only [nN,uF];rw [show a+x+gap+BW z=a+(x+gap+BW z) by omega]]
  have hu:((hb++[a]).length:Int)+rest.length=n:=by rw [nl];omega
  have e2:g .w .add .i64 a x=wrap64 (a+x):=aG hg _ _
  have e3:g .w .add .i64 (wrap64 (a+x)) gap=wrap64 (wrap64 (a+x)+gap):=aG hg _ _
  have e4:g .w .add .i64 (wrap64 (wrap64 (a+x)+gap)) bw=wrap64 (wrap64 (wrap64 (a+x)+gap)+bw):=aG hg _ _
  have aE:E++[[.J a]]=vw ak (hb++[a]):=by rw [i1,bk];rfl
  obtain⟨E2,ho⟩:∃E2,E2=E++[[.J a]]:=⟨_,rfl⟩
  rw [<-ho]at aE
  have hC:=pmV aE
  clear hk hh
  generalize wrap64 (wrap64 (wrap64 (a+x)+gap)+bw)=Q1 at *
  generalize wrap64 (wrap64 (a+x)+gap)=Q2 at *
  generalize wrap64 (a+x)=Q3 at *
  cbv
  rw [hc]
  cbv
  (repeat'((first|rw [e1]|rw [e2]|rw [e3]|rw [e4]|refine goX hg _ (by omega) hy rfl ?_|refine goX hg _ (by omega) hr rfl ?_|refine dg hg rfl (by decide) hv ?_;cbv;rw [fI hg,<-ho]);cbv))
  exact hB ((Q1,hb++[a],E2)) _ _ ⟨Prod.ext ht hu,⟨aE,nl⟩⟩ (Wk.weak (wkG [some 2] zr6 ⟨wqE rfl hC,zpt⟩ (by decide) aB))
theorem o8(cs:List Int)(gap inner ct:Int)(hl:cs.length<=64):PC0 217 [.c (.view (vw ak cs)),ai gap,ai inner,ai ct] (.t (.c (.view (vw ak (pll cs gap inner ct))))):=yH (o9 cs gap inner ct hl) fun _=>rfl
end Go.Proofs.YtckchgoblpgpbaaGreat
