/- A child's space across: both programs' answers, and the law. -/
import Derived.Test.YtkicjdeddpihaaaGreatS4bb
set_option linter.unusedVariables false
set_option linter.unusedSimpArgs false
set_option maxHeartbeats 16000000
namespace Go.Proofs.YtkicjdeddpihaaaGreat
open Go.ChangeShapes Go.WideShapes Go.ChangeAt Go.RowKit Am Go.Proofs.Tryz
set_option maxRecDepth 100000
def nwL(n:Int)(s:ao)(row:Bool)(al ac:az)(kn:Int)(K:AC):List AC:= .J n::(lc (ao.c s)++[.B row,.J al.mode,.J al.n,.J ac.mode,.J ac.n,.J kn,K])
def plL(n:Int)(s:ao)(wd hg:az)(row:Bool)(iw ih al ac:az)(K:AC):List AC:= .J n::(lc (ao.c s)++[.J wd.mode,.J wd.n,.J hg.mode,.J hg.n,.B row,.J iw.mode,.J iw.n,.J ih.mode,.J ih.n,.J al.mode,.J al.n,.J ac.mode,.J ac.n,K])
def inW(s:ao)(w:az):az:=qu w (ui s true)
def inH(s:ao)(h:az):az:=qu h (ui s false)
def sdM(s:ao)(rtl main:Bool):Int×Int:=if main then(sd1 (jO s) (lv s rtl),sd2 (jO s) (lv s rtl))else(sd1 (!jO s) (lN s rtl),sd2 (!jO s) (lN s rtl))
def sdB(s k:ao)(rtl main:Bool)(base:Int):av:=⟨0,o9 k.margin (sdM s rtl main).1 rtl base,o9 k.margin (sdM s rtl main).2 rtl base,wj k.margin (sdM s rtl main).1 rtl,wj k.margin (sdM s rtl main).2 rtl,0,0⟩
def Dj(ns:List ag)(n:Int)(wd hg:az):Bool:=fc ns&&(rng n 1 (ns.length:Int)&&(Dh wd&&Dh hg))
theorem wy(ns:List ag)(hl:ns.length<=1048576)(hs:∀y∈ns,ag.small y)(n a b c d:Int):PC0 33 [.agg [.view (vwA ag.ac ns)],ai n,agP ⟨a,b⟩,agP ⟨c,d⟩] (.t (abl (Dj ns n ⟨a,b⟩ ⟨c,d⟩))):=by
 have cT:=nj ns hl hs
 obtain⟨V,hV⟩:=nmE (vwA ag.ac ns)
 have ha:aN V=(ns.length:Int):=by rw [ah,hV,bB]
 have cI:=gP V n
 have cw:=mz a b
 have ch:=mz c d
 rw [<-hV]at cT⊢
 unfold Dj
 rw [<-ha]
 clear ha hV hs hl
 obtain⟨T,hT⟩:=nmE (fc ns)
 obtain⟨I,hI⟩:=nmE (rng n 1 (aN V))
 obtain⟨W,hW⟩:=nmE (Dh ⟨a,b⟩)
 obtain⟨H,hH⟩:=nmE (Dh ⟨c,d⟩)
 rw [<-hT]at cT
 rw [<-hI]at cI
 rw [<-hW]at cw
 rw [<-hH]at ch
 rw [<-hT,<-hI,<-hW,<-hH]
 clear hT hI hW hH
 cases T<;>cases I<;>cases W<;>cases H<;>(
  refine ad (aM f33) ay func33 fun g F hg hF=> ?_
  cbv
  (repeat'((first|refine ae hg cT ?_|refine ae hg cI ?_|refine ae hg cw ?_|refine ae hg ch ?_);cbv))
  exact bk hF rfl)
theorem vE(ns:List ag)(hl:ns.length<=1048576)(hs:∀y∈ns,ag.small y)(n a b c d:Int):PC0 38 [.agg [.view (vwA ag.ac ns)],ai n,agP ⟨a,b⟩,agP ⟨c,d⟩] (.t (abl (Dj ns n ⟨a,b⟩ ⟨c,d⟩))):=by
 have cT:=vG ns hl hs
 obtain⟨V,hV⟩:=nmE (vwA ag.ac ns)
 have ha:aN V=(ns.length:Int):=by rw [ah,hV,bB]
 have cI:=jW V n
 have cw:=mI a b
 have ch:=mI c d
 rw [<-hV]at cT⊢
 unfold Dj
 rw [<-ha]
 clear ha hV hs hl
 obtain⟨T,hT⟩:=nmE (fc ns)
 obtain⟨I,hI⟩:=nmE (rng n 1 (aN V))
 obtain⟨W,hW⟩:=nmE (Dh ⟨a,b⟩)
 obtain⟨H,hH⟩:=nmE (Dh ⟨c,d⟩)
 rw [<-hT]at cT
 rw [<-hI]at cI
 rw [<-hW]at cw
 rw [<-hH]at ch
 rw [<-hT,<-hI,<-hW,<-hH]
 clear hT hI hW hH
 cases T<;>cases I<;>cases W<;>cases H<;>(
  refine ad (aM f38) ay func38 fun g F hg hF=> ?_
  cbv
  (repeat'((first|refine ae hg cT ?_|refine ae hg cI ?_|refine ae hg cw ?_|refine ae hg ch ?_);cbv))
  exact bk hF rfl)
theorem fJ(ns:List ag)(hl:ns.length<=1048576)(kid:Int)(y:ag)(h1:isN ns kid=true)(hy:ns[(kid-1).toNat]? =some y)(rtl main kp:Bool)(C D:AC)(n:Int)(s:ao)(row:Bool)(al ac:az)(kn:Int)(K:LLA):PC0 67 [.c (.eptr [.view (vwA ag.ac ns),.B rtl,.B kp,C,D] 0),.agg (nwL n s row al ac kn (.view K)),ai kid,abl main] (.t (.agg (lc (av.c (sdB s y.style rtl main kn))))):=by
 obtain⟨V,hV⟩:=nmE (vwA ag.ac ns)
 obtain⟨Ky,hh⟩:=nmE (vw aj y.kids)
 obtain⟨Ry,hi⟩:=nmE (vw aK.c y.table.rules)
 have b2:=bC h1
 have cy:=bL ns kid y b2.1 (by have:=b2.2.1;omega) hy V Ky Ry hV hh hi
 have cm:=px s rtl
 have cc:=oE s rtl
 obtain⟨p1,ha⟩:=nmE ((sdM s rtl main).1)
 obtain⟨p2,hb⟩:=nmE ((sdM s rtl main).2)
 have m1:=lg y.style.margin p1 rtl kn
 have m2:=lg y.style.margin p2 rtl kn
 have a1:=lj y.style.margin p1 rtl
 have a2:=lj y.style.margin p2 rtl
 rw [<-hV]
 unfold sdB
 rw [<-ha,<-hb]
 obtain⟨M1,he⟩:=nmE (o9 y.style.margin p1 rtl kn)
 obtain⟨M2,hf⟩:=nmE (o9 y.style.margin p2 rtl kn)
 obtain⟨A1,hc⟩:=nmE (wj y.style.margin p1 rtl)
 obtain⟨A2,hd⟩:=nmE (wj y.style.margin p2 rtl)
 rw [<-he]at m1⊢
 rw [<-hf]at m2⊢
 rw [<-hc]at a1⊢
 rw [<-hd]at a2⊢
 clear he hf hc hd
 cases main
 all_goals
  simp only [sdM,if_true,if_false,Bool.false_eq_true]at ha hb
  first|rw [<-ha,<-hb]at cm|rw [<-ha,<-hb]at cc
  refine ad (aM f67) ay func67 fun g F hg hF=> ?_
  cbv
  repeat'((first|refine aa hg cm ?_|refine aa hg cc ?_|refine ae hg cy ?_|refine aa hg m1 ?_|refine aa hg m2 ?_|refine aa hg a1 ?_|refine aa hg a2 ?_);cbv)
  refine fw hF ?_ ?_<;>first|rfl|exact⟨rfl,rfl⟩
theorem fN(V:LLA)(rtl:Bool)(n:Int)(s k:ao)(wd hg2:az)(row:Bool)(iw ih al ac:az)(K:LLA)(p q:Int):PC0 93 [.agg [.view V,.B rtl,.imm (.pointer none)],.agg (plL n s wd hg2 row iw ih al ac (.view K)),.agg (lc (ao.c k)),ai p,ai q] (.tup [ai (o9 k.margin p rtl (knS iw)),ai (o9 k.margin q rtl (knS iw))]):=by
 have ck:=eJ iw.mode iw.n
 have m1:=lD k.margin p rtl (knS iw)
 have m2:=lD k.margin q rtl (knS iw)
 obtain⟨B,hB⟩:=nmE (knS iw)
 change PC0 _ _ (.i (knS iw))at ck
 rw [<-hB]at ck m1 m2⊢
 obtain⟨M1,ha⟩:=nmE (o9 k.margin p rtl B)
 obtain⟨M2,hb⟩:=nmE (o9 k.margin q rtl B)
 rw [<-ha]at m1⊢
 rw [<-hb]at m2⊢
 clear ha hb hB
 refine ad (aM f93) ay func93 fun g F hg hF=> ?_
 cbv
 repeat'((first|refine ae hg ck ?_|refine aa hg m1 ?_|refine aa hg m2 ?_);cbv)
 refine fw hF ?_ ?_<;>first|rfl|exact⟨rfl,rfl⟩
theorem uD(ns:List ag)(n:Int)(x:ag)(hs:∀y∈ns,ag.small y)(ht:fc ns=true)(hl:ns.length<=1048576)(h1:1<=n)(h2:n<=(ns.length:Int))(hx:ns[(n-1).toNat]? =some x)(hkl:x.kids.length<=1048576)(hk:∀k∈x.kids,isN ns k=true)(a b c d:Int):PC0 34 [.agg [.view (vwA ag.ac ns)],ai n,agP ⟨a,b⟩,agP ⟨c,d⟩] (.t (.agg (nwL n x.style (jO x.style) (if jO x.style then inW x.style ⟨a,b⟩else inH x.style ⟨c,d⟩) (if jO x.style then inH x.style ⟨c,d⟩else inW x.style ⟨a,b⟩) (knS (inW x.style ⟨a,b⟩)) (.view (vw aj (ir (iQ ns) (x.kids.filter (mh ns)))))))):=by
 have cF:=qK ns n x hs ht hl h1 h2 hx hkl hk
 obtain⟨V,hV⟩:=nmE (vwA ag.ac ns)
 obtain⟨K,hK⟩:=nmE (vw aj x.kids)
 obtain⟨R,hR⟩:=nmE (vw aK.c x.table.rules)
 obtain⟨G,hG⟩:=nmE (vw aj (ir (iQ ns) (x.kids.filter (mh ns))))
 have pG:=pmV hG
 have iG:=imV hG
 have kG:=kmV (k:=1) hG fun _=>rfl
 have dG:=dmV hG
 have cn:=bL ns n x h1 (by omega) hx V K R hV hK hR
 have cr:=gQ x.style
 have f1:=hP x.style true
 have f2:=hP x.style false
 have i1:=fh a b (ui x.style true)
 have i2:=fh c d (ui x.style false)
 obtain⟨w1,w2,hW⟩:∃w1 w2,(⟨w1,w2⟩:az)=inW x.style ⟨a,b⟩:=⟨_,_,rfl⟩
 obtain⟨q1,q2,hH⟩:∃q1 q2,(⟨q1,q2⟩:az)=inH x.style ⟨c,d⟩:=⟨_,_,rfl⟩
 have ck:=dq w1 w2
 rw [<-hV,<-hG]at cF
 rw [<-hV,<-hG,<-hW,<-hH]
 change PC0 _ _ (.t (agP (inW x.style ⟨a,b⟩)))at i1
 change PC0 _ _ (.t (agP (inH x.style ⟨c,d⟩)))at i2
 rw [<-hW]at i1
 rw [<-hH]at i2
 obtain⟨kn,hc⟩:=nmE (knS ⟨w1,w2⟩)
 obtain⟨F1,ha⟩:=nmE (ui x.style true)
 obtain⟨F2,hb⟩:=nmE (ui x.style false)
 rw [<-hc]at ck⊢
 rw [<-ha]at f1 i1
 rw [<-hb]at f2 i2
 cases hr:jO x.style
 all_goals
  rw [hr]at cr
  simp only [if_true,if_false,Bool.false_eq_true]
  refine ad (aM f34) ay func34 fun g F hg hF=> ?_
  cbv
  repeat'((first|refine ae hg cn ?_|refine aa hg cr ?_|refine aa hg f1 ?_|refine aa hg f2 ?_|refine aa hg i1 ?_|refine aa hg i2 ?_|refine ae hg ck ?_|refine bW hg cF (bA rfl) iG ?_);cbv)
  refine ul [.agg (nwL n x.style _ _ _ _ (.view G))] hF (.agg (by repeat'(first|exact .nil|exact .imm _|exact bf (ab:=⟨_,_,G⟩) rfl kG dG|refine .cons ?_ ?_)) .nil) ⟨rfl,rfl⟩
def Ja:AC->Bool
 | .imm _=>true
 | .view _=>true
 | .eptr _ _=>true
 |_=>false
theorem Gn{F:Nat->Prop}{w:World}{m:AM}{h:AH}{x:AT}{v:Value}(hp:x.cells.all Ja=true)(hv:RT F w m h x v):RT F w [] [] x v:=by
 have ha:∀(c:AC)(u:Value),Ja c=true->RC F w m h c u->RC F w [] [] c u:=by
  intro c u hc hr
  cases c<;>first|exact hr|cases hc
 cases x with
 |c y=>exact ha y v (by simpa [AT.cells]using hp) hv
 |agg xs=>
  obtain⟨vs,h1,h2,h3⟩:=hv
  exact⟨vs,h1,h2,fun j y hj=>let⟨u,hu,ho,hr⟩:=h3 j y hj;⟨u,hu,ho,ha y u (List.all_eq_true.1 hp y (zqd hj)) hr⟩⟩
variable {args:List AT}{P:Program}
theorem Ew{f:FuncId}{h:AH}{Post:AV->List AB->Prop}(hc:da P f args Post)(hp:(args.all fun x=>x.cells.all Ja)=true):Con P f h args fun res h'=>∃r rows,Post r rows/\res=r.shift h.length/\h'=h++(rows.map (AB.shift h.length)).map .live:=
 ⟨hc.1,fun F w m vs hH hl hx=>(hc.2 F w [] vs (RH.empty hH.old (Nat.zero_le _)) hl (fun j x hj=>by
  obtain⟨v,hv,hr⟩:=hx j x hj
  exact⟨v,hv,Gn (List.all_eq_true.1 hp x (zqd hj)) hr⟩)).mono fun e w''⟨v,res,h',m',F1,he,⟨rows,hh,hpost⟩,hG,hs,hv⟩=>by
  subst hh
  obtain⟨m2,F2,g1,g2,g3⟩:=dL.of_outG hH (i7 (n:=h.length) hG hs hv)
  exact⟨v,_,_,m2,F2,he,⟨res,rows,hpost,rfl,rfl⟩,g1,g2,g3⟩⟩
theorem C0{n0 N:Nat}{h:EH}{g:Gd}(hg:g=G0 P n0 N){f:FuncId}{K:AV->EH->Prop}{r:AV}(hc:da P f args fun res ha=>res=r/\ha=[])(hp:(args.all fun x=>x.cells.all Ja)=true)(hr:dr r=true)(hK:K r (h++[])):g .C f h args K:=by
 subst hg
 refine(Ew (h:=toH h) hc hp).mono fun res h'⟨r0,ha,⟨e1,e2⟩,h1,h2⟩=> ?_
 subst e1 e2
 subst h1 h2
 exact⟨h,by simp,by rw [eb hr];simpa using hK⟩
def G3(s k:ao)(rtl row:Bool)(ac:az)(kn:Int):az:=
 let sd:=sdB s k rtl false kn
 let b:=wrap64 (sd.before+sd.behind)
 if rU k (!row) (knS ac)≠ -1 then⟨3,pi k (!row) (knS ac) (rU k (!row) (knS ac))⟩
 else if zQ {sd with align:=Bg s k}=true/\s.wrap=1/\ac.mode=3 then⟨3,pi k (!row) (knS ac) (wrap64 (ac.n-b))⟩
 else DX (qu ac b)
theorem kT(ns:List ag)(hl:ns.length<=1048576)(kid:Int)(y:ag)(h1:isN ns kid=true)(hy:ns[(kid-1).toNat]? =some y)(rtl kp:Bool)(C D:AC)(n:Int)(s:ao)(row:Bool)(al ac:az)(kn:Int)(K:LLA):PC0 102 [.c (.eptr [.view (vwA ag.ac ns),.B rtl,.B kp,C,D] 0),.agg (nwL n s row al ac kn (.view K)),ai kid] (.t (agP (G3 s y.style rtl row ac kn))):=by
 obtain⟨Ky,ho⟩:=nmE (vw aj y.kids)
 obtain⟨Ry,hp⟩:=nmE (vw aK.c y.table.rules)
 have b2:=bC h1
 have cs:=fJ ns hl kid y h1 hy rtl false kp C D n s row al ac kn K
 obtain⟨V,hV⟩:=nmE (vwA ag.ac ns)
 have cy:=bL ns kid y b2.1 (by have:=b2.2.1;omega) hy V Ky Ry hV ho hp
 have ck:=dq ac.mode ac.n
 change PC0 _ _ (.i (knS ac))at ck
 have cf:=gy y.style (!row) (knS ac)
 have cb:=fi y.style (!row) (knS ac) (rU y.style (!row) (knS ac))
 have ca:=mB s y.style
 have ci:=fun z=>fh ac.mode ac.n z
 have cL:=li
 obtain⟨R,hR⟩:=nmE (G3 s y.style rtl row ac kn)
 rw [<-hV]at cs
 rw [<-hV,<-hR]
 unfold G3 at hR
 simp only at hR
 obtain⟨SD,hn⟩:=nmE (sdB s y.style rtl false kn)
 rw [<-hn]at cs hR
 clear hn
 obtain⟨am,an⟩:=ac
 obtain⟨KN,hm⟩:=nmE (knS ⟨am,an⟩)
 rw [<-hm]at ck cf cb hR
 have cb:=fun z=>fi y.style (!row) KN z
 obtain⟨FX,hk⟩:=nmE (rU y.style (!row) KN)
 rw [<-hk]at cf hR
 obtain⟨AL,hh⟩:=nmE (Bg s y.style)
 rw [<-hh]at ca hR
 clear hh hk hm
 have cF:=o3 {SD with align:=AL}
 have cB:=jd {SD with align:=AL}
 change PC0 _ _ (.i (wrap64 (SD.before+SD.behind)))at cB
 obtain⟨FB,hj⟩:∃S,S=zQ {SD with align:=AL}:=⟨_,rfl⟩
 rw [<-hj]at cF hR
 obtain⟨BB,hi⟩:=nmE (wrap64 (SD.before+SD.behind))
 rw [<-hi]at cB hR
 clear hj hi
 have ci:=ci BB
 change PC0 _ _ (.t (agP (qu ⟨am,an⟩ BB)))at ci
 obtain⟨i1,i2,hI⟩:∃i1 i2,(⟨i1,i2⟩:az)=qu ⟨am,an⟩ BB:=⟨_,_,rfl⟩
 rw [<-hI]at ci hR
 clear hI
 have cL:=cL i1 i2
 obtain⟨l1,l2,hL⟩:∃j1 j2,(⟨j1,j2⟩:az)=DX ⟨i1,i2⟩:=⟨_,_,rfl⟩
 rw [<-hL]at cL hR
 clear hL
 obtain⟨ZZ,he⟩:=nmE (wrap64 (an-BB))
 have ha:=cb FX
 have hb:=cb ZZ
 obtain⟨B1,hc⟩:=nmE (pi y.style (!row) KN FX)
 obtain⟨B2,hd⟩:=nmE (pi y.style (!row) KN ZZ)
 rw [<-he,<-hc,<-hd]at hR
 rw [<-hc]at ha
 rw [<-hd]at hb
 clear hc hd cb
 obtain⟨wr,hf⟩:=nmE s.wrap
 rw [<-hf]at hR
 by_cases q1:FX= -1
 ·simp only [q1,ne_eq,not_true_eq_false,if_false]at hR
  subst q1
  have t1:∀g:Gd,g=G0 prog 0 f102.ntmps->g .q .neq (-1) (-1)=false:=fun g hg=>by rw [bj hg];rfl
  have t2:∀g:Gd,g=G0 prog 0 f102.ntmps->g .q .eql s.wrap 1=decide (wr=1):=fun g hg=>by rw [bn hg,hf];exact zqn _ _
  have t3:∀g:Gd,g=G0 prog 0 f102.ntmps->g .q .eql am 3=decide (am=3):=fun g hg=>by rw [bn hg];exact zqn _ _
  have t4:∀g:Gd,g=G0 prog 0 f102.ntmps->g .w .sub .i64 an BB=ZZ:=fun g hg=>by rw [dp hg,he]
  clear hf he
  cases FB
  case false=>
   simp only [Bool.false_eq_true,false_and,if_false]at hR
   rw [hR]
   clear hR
   refine ad (aM f102) ay func102 fun g F hg hF=> ?_
   have t1:=t1 g hg
   cbv
   repeat'((first|refine ae hg cy ?_|refine ae hg ck ?_);cbv)
   refine C0 hg cs rfl rfl ?_
   cbv
   repeat'(refine ae hg cf ?_;cbv)
   rw [t1]
   cbv
   repeat'((first|refine ae hg ca ?_|refine ae hg cF ?_|refine aa hg cB ?_|refine aa hg ci ?_|refine aa hg cL ?_);cbv)
   exact mX hF ⟨rfl,rfl⟩
  by_cases q2:wr=1
  case neg=>
   simp only [q2,false_and,and_false,if_false]at hR
   rw [hR]
   clear hR
   refine ad (aM f102) ay func102 fun g F hg hF=> ?_
   have t1:=t1 g hg
   have t2:=t2 g hg
   rw [zqt q2]at t2
   cbv
   repeat'((first|refine ae hg cy ?_|refine ae hg ck ?_);cbv)
   refine C0 hg cs rfl rfl ?_
   cbv
   repeat'(refine ae hg cf ?_;cbv)
   rw [t1]
   cbv
   repeat'((first|refine ae hg ca ?_|refine ae hg cF ?_);cbv)
   rw [t2]
   cbv
   repeat'((first|refine aa hg cB ?_|refine aa hg ci ?_|refine aa hg cL ?_);cbv)
   exact mX hF ⟨rfl,rfl⟩
  by_cases q3:am=3
  case neg=>
   simp only [q3,false_and,and_false,if_false]at hR
   rw [hR]
   clear hR
   refine ad (aM f102) ay func102 fun g F hg hF=> ?_
   have t1:=t1 g hg
   have t2:=t2 g hg
   have t3:=t3 g hg
   rw [zqu q2]at t2
   rw [zqt q3]at t3
   cbv
   repeat'((first|refine ae hg cy ?_|refine ae hg ck ?_);cbv)
   refine C0 hg cs rfl rfl ?_
   cbv
   repeat'(refine ae hg cf ?_;cbv)
   rw [t1]
   cbv
   repeat'((first|refine ae hg ca ?_|refine ae hg cF ?_);cbv)
   rw [t2]
   cbv
   rw [t3]
   cbv
   repeat'((first|refine aa hg cB ?_|refine aa hg ci ?_|refine aa hg cL ?_);cbv)
   exact mX hF ⟨rfl,rfl⟩
  simp only [q2,q3,and_self,if_true]at hR
  rw [hR]
  clear hR
  refine ad (aM f102) ay func102 fun g F hg hF=> ?_
  have t1:=t1 g hg
  have t2:=t2 g hg
  have t3:=t3 g hg
  have t4:=t4 g hg
  rw [zqu q2]at t2
  rw [zqu q3]at t3
  cbv
  repeat'((first|refine ae hg cy ?_|refine ae hg ck ?_);cbv)
  refine C0 hg cs rfl rfl ?_
  cbv
  repeat'(refine ae hg cf ?_;cbv)
  rw [t1]
  cbv
  repeat'((first|refine ae hg ca ?_|refine ae hg cF ?_);cbv)
  rw [t2]
  cbv
  rw [t3]
  cbv
  repeat'(refine aa hg cB ?_;cbv)
  rw [t4]
  repeat'(refine aa hg hb ?_;cbv)
  exact mX hF ⟨rfl,rfl⟩
 ·simp only [q1,ne_eq,not_false_eq_true,if_true]at hR
  rw [hR]
  clear hR
  refine ad (aM f102) ay func102 fun g F hg hF=> ?_
  have t1:g .q .neq FX (-1)=true:=by rw [bj hg];simp [q1]
  cbv
  repeat'((first|refine ae hg cy ?_|refine ae hg ck ?_);cbv)
  refine C0 hg cs rfl rfl ?_
  cbv
  repeat'(refine ae hg cf ?_;cbv)
  rw [t1]
  cbv
  repeat'(refine ae hg ha ?_;cbv)
  exact mX hF ⟨rfl,rfl⟩
theorem ve(ns:List ag)(n:Int)(x:ag)(hl:ns.length<=1048576)(h1:1<=n)(h2:n<=1048576)(hx:ns[(n-1).toNat]? =some x)(hkl:x.kids.length<20)(hk:∀k∈x.kids,isN ns k=true)(rtl:Bool)(a b c d:Int):PC0 39 [.agg [.view (vwA ag.ac ns),.B rtl,.imm (.pointer none)],ai n,agP ⟨a,b⟩,agP ⟨c,d⟩] (.t (.agg (plL n x.style ⟨a,b⟩ ⟨c,d⟩ (jO x.style) (inW x.style ⟨a,b⟩) (inH x.style ⟨c,d⟩) (if jO x.style then inW x.style ⟨a,b⟩else inH x.style ⟨c,d⟩) (if jO x.style then inH x.style ⟨c,d⟩else inW x.style ⟨a,b⟩) (.view (vw aj (ir (iQ ns) (x.kids.filter (mh ns)))))))):=by
 have cF:=rN ns n x hl h1 h2 hx hkl hk
 obtain⟨V,hV⟩:=nmE (vwA ag.ac ns)
 obtain⟨K,hK⟩:=nmE (vw aj x.kids)
 obtain⟨R,hR⟩:=nmE (vw aK.c x.table.rules)
 obtain⟨G,hG⟩:=nmE (vw aj (ir (iQ ns) (x.kids.filter (mh ns))))
 have pG:=pmV hG
 have iG:=imV hG
 have kG:=kmV (k:=1) hG fun _=>rfl
 have dG:=dmV hG
 have cn:=dv ns n x h1 (by omega) hx V K R hV hK hR
 have cr:=gV x.style
 have cf:=fq x.style
 obtain⟨e1,e2,e3,e4,hE⟩:∃e1 e2 e3 e4,(⟨e1,e2,e3,e4⟩:bS)=oc x.style:=⟨_,_,_,_,rfl⟩
 rw [<-hE]at cf
 have f1:=fO e1 e2 e3 e4
 have f2:=fQ e1 e2 e3 e4
 obtain⟨F1,ha⟩:=nmE (ui x.style true)
 obtain⟨F2,hb⟩:=nmE (ui x.style false)
 have z1:adE e1 e3=F1:=by rw [ha];simp only [ui,<-hE,if_true]
 have z2:adE e2 e4=F2:=by rw [hb];simp only [ui,<-hE,if_false,Bool.false_eq_true]
 rw [z1]at f1
 rw [z2]at f2
 have i1:=gI a b F1
 have i2:=gI c d F2
 obtain⟨w1,w2,hW⟩:∃w1 w2,(⟨w1,w2⟩:az)=inW x.style ⟨a,b⟩:=⟨_,_,rfl⟩
 obtain⟨q1,q2,hH⟩:∃q1 q2,(⟨q1,q2⟩:az)=inH x.style ⟨c,d⟩:=⟨_,_,rfl⟩
 have y1:qu ⟨a,b⟩ F1=⟨w1,w2⟩:=by rw [ha];exact hW.symm
 have y2:qu ⟨c,d⟩ F2=⟨q1,q2⟩:=by rw [hb];exact hH.symm
 rw [y1]at i1
 rw [y2]at i2
 rw [<-hV,<-hG]at cF
 rw [<-hV,<-hG,<-hW,<-hH]
 clear ha hb z1 z2 y1 y2 hW hH
 cases hr:jO x.style
 all_goals
  rw [hr]at cr
  simp only [if_true,if_false,Bool.false_eq_true]
  refine ad (aM f39) ay func39 fun g F hg hF=> ?_
  cbv
  repeat'((first|refine ae hg cn ?_|refine aa hg cr ?_|refine aa hg cf ?_|refine aa hg f1 ?_|refine aa hg f2 ?_|refine aa hg i1 ?_|refine aa hg i2 ?_|refine bW hg cF (bA rfl) iG ?_);cbv)
  refine ul [.agg (plL n x.style _ _ _ _ _ _ _ (.view G))] hF (.agg (by repeat'(first|exact .nil|exact .imm _|exact bf (ab:=⟨_,_,G⟩) rfl kG dG|refine .cons ?_ ?_)) .nil) ⟨rfl,rfl⟩
theorem kl(ns:List ag)(hl:ns.length<=1048576)(kid:Int)(y:ag)(h1:isN ns kid=true)(hy:ns[(kid-1).toNat]? =some y)(rtl:Bool)(n:Int)(s:ao)(wd hgh:az)(row:Bool)(iw ih al ac:az)(K:LLA):PC0 109 [.agg [.view (vwA ag.ac ns),.B rtl,.imm (.pointer none)],.agg (plL n s wd hgh row iw ih al ac (.view K)),ai kid] (.t (agP (G3 s y.style rtl row ac (knS iw)))):=by
 obtain⟨Ky,hu⟩:=nmE (vw aj y.kids)
 obtain⟨Ry,hv⟩:=nmE (vw aK.c y.table.rules)
 have b2:=bC h1
 obtain⟨V,hV⟩:=nmE (vwA ag.ac ns)
 have cy:=dv ns kid y b2.1 (by have:=b2.2.1;omega) hy V Ky Ry hV hu hv
 have ck:=eJ ac.mode ac.n
 change PC0 _ _ (.i (knS ac))at ck
 have cf:=gJ y.style (!row) (knS ac)
 have cb:=fun z=>gL y.style (!row) (knS ac) z
 have cx:=fun z=>jm z
 have cs:=jD s rtl
 have cm:=fun p q=>fN V rtl n s y.style wd hgh row iw ih al ac K p q
 have ca:=mJ s y.style
 have ci:=fun z=>gI ac.mode ac.n z
 have cL:=lI
 obtain⟨R,hR⟩:=nmE (G3 s y.style rtl row ac (knS iw))
 rw [<-hV,<-hR]
 unfold G3 sdB at hR
 simp only [sdM,Bool.false_eq_true,if_false,zQ]at hR
 obtain⟨p,hp⟩:=nmE (sd1 (!jO s) (lN s rtl))
 obtain⟨q,hq⟩:=nmE (sd2 (!jO s) (lN s rtl))
 rw [<-hp,<-hq]at cs hR
 clear hp hq
 have cm:=cm p q
 have c1:=dQ y.style.margin p rtl
 have c2:=dQ y.style.margin q rtl
 obtain⟨M1,hr⟩:=nmE (o9 y.style.margin p rtl (knS iw))
 obtain⟨M2,hs⟩:=nmE (o9 y.style.margin q rtl (knS iw))
 obtain⟨A1,hk⟩:=nmE (wj y.style.margin p rtl)
 obtain⟨A2,hm⟩:=nmE (wj y.style.margin q rtl)
 rw [<-hr,<-hs]at cm hR
 rw [<-hk]at c1 hR
 rw [<-hm]at c2 hR
 clear hr hs hk hm
 obtain⟨am,an⟩:=ac
 obtain⟨KN,he⟩:=nmE (knS ⟨am,an⟩)
 rw [<-he]at ck cf hR
 simp only [<-he]at cb
 obtain⟨FX,ho⟩:=nmE (rU y.style (!row) KN)
 rw [<-ho]at cf hR
 obtain⟨AL,hn⟩:=nmE (Bg s y.style)
 rw [<-hn]at ca hR
 clear hn ho he
 obtain⟨BB,hd⟩:=nmE (wrap64 (M1+M2))
 rw [<-hd]at hR
 have ci:=ci BB
 change PC0 _ _ (.t (agP (qu ⟨am,an⟩ BB)))at ci
 obtain⟨i1,i2,hI⟩:∃i1 i2,(⟨i1,i2⟩:az)=qu ⟨am,an⟩ BB:=⟨_,_,rfl⟩
 rw [<-hI]at ci hR
 clear hI
 have cL:=cL i1 i2
 obtain⟨l1,l2,hL⟩:∃j1 j2,(⟨j1,j2⟩:az)=DX ⟨i1,i2⟩:=⟨_,_,rfl⟩
 rw [<-hL]at cL hR
 clear hL
 obtain⟨ZZ,hf⟩:=nmE (wrap64 (an-BB))
 have ha:=cb FX
 have hi:=cb ZZ
 obtain⟨B1,hb⟩:=nmE (pi y.style (!row) KN FX)
 obtain⟨B2,hc⟩:=nmE (pi y.style (!row) KN ZZ)
 rw [<-hf,<-hb,<-hc]at hR
 rw [<-hb]at ha
 rw [<-hc]at hi
 clear hb hc cb
 have hj:=cx B1
 have ht:=cx B2
 obtain⟨wr,hh⟩:=nmE s.wrap
 rw [<-hh]at hR
 by_cases q1:FX= -1
 ·simp only [q1,ne_eq,not_true_eq_false,if_false]at hR
  subst q1
  have t1:∀g:Gd,g=G0 prog 0 f109.ntmps->g .q .neq (-1) (-1)=false:=fun g hg=>by rw [bj hg];rfl
  have t2:∀g:Gd,g=G0 prog 0 f109.ntmps->g .q .eql s.wrap 1=decide (wr=1):=fun g hg=>by rw [bn hg,hh];exact zqn _ _
  have t3:∀g:Gd,g=G0 prog 0 f109.ntmps->g .q .eql am 3=decide (am=3):=fun g hg=>by rw [bn hg];exact zqn _ _
  have t4:∀g:Gd,g=G0 prog 0 f109.ntmps->g .w .sub .i64 an BB=ZZ:=fun g hg=>by rw [dp hg,hf]
  have t5:∀g:Gd,g=G0 prog 0 f109.ntmps->g .q .eql AL 1=decide (AL=1):=fun g hg=>by rw [bn hg];exact zqn _ _
  have t6:∀g:Gd,g=G0 prog 0 f109.ntmps->g .w .add .i64 M1 M2=BB:=fun g hg=>by rw [aJ hg,hd]
  clear hh hf hd
  cases A1<;>cases A2<;>by_cases q0:AL=1
  by_cases q2:wr=1
  by_cases q3:am=3
  all_goals
   (try simp only [q2]at hR)
   (try simp only [q3]at hR)
   simp only [q0,decide_true,decide_false,Bool.not_false,Bool.not_true,Bool.and_self,Bool.and_true,Bool.true_and,Bool.and_false,Bool.false_and,Bool.false_eq_true,and_self,and_true,true_and,and_false,false_and,if_true,if_false]at hR
   rw [hR]
   clear hR
   refine ad (aM f109) ay func109 fun g F hg hF=> ?_
   have t1:=t1 g hg
   have t2:=t2 g hg
   have t3:=t3 g hg
   have t4:=t4 g hg
   have t5:=t5 g hg
   have t6:=t6 g hg
   (try first|rw [zqu q2]at t2|rw [zqt q2]at t2)
   (try first|rw [zqu q3]at t3|rw [zqt q3]at t3)
   first|rw [zqu q0]at t5|rw [zqt q0]at t5
   cbv
   repeat'(first|((first|refine ae hg cy ?_|refine ae hg ck ?_|refine ae hg cf ?_|rw [t1]|refine ae hg cs ?_|refine ae hg cm ?_|refine ae hg c1 ?_|refine ae hg c2 ?_|refine ae hg ca ?_|rw [t5]|rw [t2]|rw [t3]);cbv)|(rw [t6];first|rw [t4]|skip)|((first|refine ae hg hi ?_|refine ae hg ht ?_|refine ae hg ci ?_|refine ae hg cL ?_);cbv))
   exact mX hF ⟨rfl,rfl⟩
 ·simp only [q1,ne_eq,not_false_eq_true,if_true]at hR
  rw [hR]
  clear hR
  refine ad (aM f109) ay func109 fun g F hg hF=> ?_
  have t1:g .q .neq FX (-1)=true:=by rw [bj hg];simp [q1]
  cbv
  repeat'((first|refine ae hg cy ?_|refine ae hg ck ?_|refine ae hg cf ?_);cbv)
  rw [t1]
  cbv
  repeat'((first|refine ae hg ha ?_|refine ae hg hj ?_);cbv)
  exact mX hF ⟨rfl,rfl⟩
def flK(ns:List ag)(n:Int):List Int:=ir (iQ ns) ((vu ns n).filter (mh ns))
theorem FI(xs:List Int)(n:Int):0<=cnt xs n/\(n∈xs->1<=cnt xs n):=by
 induction xs with
 |nil=>simp [cnt]
 |cons x xs ih=>
  have e:cnt (x::xs) n=(if x=n then 1 else 0)+cnt xs n:=by simp [cnt]
  rw [e]
  obtain⟨i1,i2⟩:=ih
  by_cases hx:x=n
  ·rw [if_pos hx];exact⟨by omega,fun _=>by omega⟩
  ·rw [if_neg hx]
   refine⟨by omega,fun h=> ?_⟩
   rcases List.mem_cons.1 h with h|h
   ·exact absurd h.symm hx
   ·have:=i2 h;omega
theorem wV:∀(xs:List Int),(∀k∈xs,cnt xs k=1)->xs.Nodup
 | [],_=>List.nodup_nil
 |x::xs,h=>by
  have e:∀n,cnt (x::xs) n=(if x=n then 1 else 0)+cnt xs n:=fun n=>by simp [cnt]
  have hx:x∉xs:=fun hm=>by
   have h1:=h x (List.mem_cons_self ..)
   rw [e,if_pos rfl]at h1
   have:=(FI xs x).2 hm
   omega
  refine List.nodup_cons.2 ⟨hx,wV xs fun k hk=> ?_⟩
  have h1:=h k (List.mem_cons_of_mem _ hk)
  rw [e,if_neg (fun hxk:x=k=>hx (by rw [hxk];exact hk))]at h1
  omega
theorem Fi:∀(M:Nat)(xs:List Int),xs.Nodup->(∀k∈xs,1<=k/\k<=(M:Int))->xs.length<=M
 |0,xs,_,h=>by
  cases xs with
  |nil=>simp
  |cons x xs=>have:=h x (List.mem_cons_self ..);omega
 |M+1,xs,hn,h=>by
  have h1:=Fi M (xs.erase ((M:Int)+1)) (hn.erase _) (fun k hk=>by
   have ha:=(hn.mem_erase_iff).1 hk
   have:=h k ha.2
   have hb:=ha.1
   omega)
  by_cases hm:(M:Int)+1∈xs
  ·have h2:=List.length_erase_of_mem hm
   have:=List.length_pos_of_mem hm
   omega
  ·rw [List.erase_of_not_mem hm]at h1;omega
variable {ns:List ag}
theorem Dw(h:fc ns=true):ns.length<=12:=by
 simp only [fc,zqs,zqp]at h
 omega
theorem uz(h:fc ns=true){n:Int}{x:ag}(h1:1<=n)(hx:ns[(n-1).toNat]? =some x):x.kids.length<=12:=by
 have hk:=jv h h1 hx
 have hl:=Dw h
 have h2:∀k∈x.kids,upN ns k=n:=fun k ha=>by
  have h3:=h
  simp only [fc,zqs]at h3
  have:=(jZ ns ns 0).1 h3.2 _ x hx
  simp only [fD,zqs,zqf,ia,zqp]at this
  have:=(this.2.2.2.1 k ha).2
  omega
 have hb:x.kids.Nodup:=wV _ fun k ha=>by
  obtain⟨k1,k2,y,hy⟩:=bC (hk k ha)
  have h3:=h
  simp only [fc,zqs]at h3
  have h4:=(jZ ns ns 0).1 h3.2 _ y hy
  simp only [fD,zqs,EZ,Bool.or_eq_true,zqp]at h4
  have hu:y.up=n:=by have:=h2 k ha;unfold upN at this;rw [hy]at this;exact this
  have h5:=h4.2.2.1
  rw [hu]at h5
  have h6:vu ns n=x.kids:=by simp only [vu,hx]
  rw [h6,show(0:Int)+(((k-1).toNat:Nat):Int)+1=k by omega]at h5
  rcases h5 with h5|h5
  ·omega
  ·exact h5
 have:=Fi 12 x.kids hb fun k ha=>by
  obtain⟨k1,k2,y,hy⟩:=bC (hk k ha)
  omega
 exact this
end Go.Proofs.YtkicjdeddpihaaaGreat
