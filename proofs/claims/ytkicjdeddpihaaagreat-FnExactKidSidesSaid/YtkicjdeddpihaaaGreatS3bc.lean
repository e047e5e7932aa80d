/- A child's space across: both programs' answers, and the law. -/
import Derived.Test.YtkicjdeddpihaaaGreatS3bb
set_option linter.unusedVariables false
set_option linter.unusedSimpArgs false
set_option maxHeartbeats 16000000
namespace Go.Proofs.YtkicjdeddpihaaaGreat
open Go.ChangeShapes Go.WideShapes Go.ChangeAt Go.RowKit Am Go.Proofs.Tryz
set_option maxRecDepth 100000
def nwL(n:Int)(s:ak)(row:Bool)(al ac:az)(kn:Int)(K:AC):List AC:= .J n::(lc (ak.c s)++[.B row,.J al.mode,.J al.n,.J ac.mode,.J ac.n,.J kn,K])
def plL(n:Int)(s:ak)(wd hg:az)(row:Bool)(iw ih al ac:az)(K:AC):List AC:= .J n::(lc (ak.c s)++[.J wd.mode,.J wd.n,.J hg.mode,.J hg.n,.B row,.J iw.mode,.J iw.n,.J ih.mode,.J ih.n,.J al.mode,.J al.n,.J ac.mode,.J ac.n,K])
def inW(s:ak)(w:az):az:=qN w (uA s true)
def inH(s:ak)(h:az):az:=qN h (uA s false)
def sdM(s:ak)(rtl main:Bool):Int×Int:=if main then(sd1 (jS s) (lG s rtl),sd2 (jS s) (lG s rtl))else(sd1 (!jS s) (l8 s rtl),sd2 (!jS s) (l8 s rtl))
def sdB(s k:ak)(rtl main:Bool)(base:Int):ar:=⟨0,pT k.margin (sdM s rtl main).1 rtl base,pT k.margin (sdM s rtl main).2 rtl base,wE k.margin (sdM s rtl main).1 rtl,wE k.margin (sdM s rtl main).2 rtl,0,0⟩
def Bu(ns:List af)(n:Int)(wd hg:az):Bool:=eV ns&&(rng n 1 (ns.length:Int)&&(Dx wd&&Dx hg))
theorem wP(ns:List af)(hl:ns.length<=1048576)(hs:∀y∈ns,af.small y)(n a b c d:Int):PC0 33 [.agg [.view (vwA af.ac ns)],ai n,agP ⟨a,b⟩,agP ⟨c,d⟩] (.t (abl (Bu ns n ⟨a,b⟩ ⟨c,d⟩))):=by
 have cT:=nz ns hl hs
 obtain⟨V,hV⟩:=nmE (vwA af.ac ns)
 have ha:aM V=(ns.length:Int):=by rw [aj,hV,bB]
 have cI:=gV V n
 have cw:=mL a b
 have ch:=mL c d
 rw [<-hV]at cT⊢
 unfold Bu
 rw [<-ha]
 clear ha hV hs hl
 obtain⟨T,hT⟩:=nmE (eV ns)
 obtain⟨I,hI⟩:=nmE (rng n 1 (aM V))
 obtain⟨W,hW⟩:=nmE (Dx ⟨a,b⟩)
 obtain⟨H,hH⟩:=nmE (Dx ⟨c,d⟩)
 rw [<-hT]at cT
 rw [<-hI]at cI
 rw [<-hW]at cw
 rw [<-hH]at ch
 rw [<-hT,<-hI,<-hW,<-hH]
 clear hT hI hW hH
 cases T<;>cases I<;>cases W<;>cases H<;>(
  refine ae (aK f33) ay func33 fun g F hg hF=> ?_
  cbv
  (repeat'((first|refine ad hg cT ?_|refine ad hg cI ?_|refine ad hg cw ?_|refine ad hg ch ?_);cbv))
  exact bk hF rfl)
theorem oq(ns:List af)(hl:ns.length<=1048576)(hs:∀y∈ns,af.small y)(n a b c d:Int):PC0 38 [.agg [.view (vwA af.ac ns)],ai n,agP ⟨a,b⟩,agP ⟨c,d⟩] (.t (abl (Bu ns n ⟨a,b⟩ ⟨c,d⟩))):=by
 have cT:=v8 ns hl hs
 obtain⟨V,hV⟩:=nmE (vwA af.ac ns)
 have ha:aM V=(ns.length:Int):=by rw [aj,hV,bB]
 have cI:=jZ V n
 have cw:=mV a b
 have ch:=mV c d
 rw [<-hV]at cT⊢
 unfold Bu
 rw [<-ha]
 clear ha hV hs hl
 obtain⟨T,hT⟩:=nmE (eV ns)
 obtain⟨I,hI⟩:=nmE (rng n 1 (aM V))
 obtain⟨W,hW⟩:=nmE (Dx ⟨a,b⟩)
 obtain⟨H,hH⟩:=nmE (Dx ⟨c,d⟩)
 rw [<-hT]at cT
 rw [<-hI]at cI
 rw [<-hW]at cw
 rw [<-hH]at ch
 rw [<-hT,<-hI,<-hW,<-hH]
 clear hT hI hW hH
 cases T<;>cases I<;>cases W<;>cases H<;>(
  refine ae (aK f38) ay func38 fun g F hg hF=> ?_
  cbv
  (repeat'((first|refine ad hg cT ?_|refine ad hg cI ?_|refine ad hg cw ?_|refine ad hg ch ?_);cbv))
  exact bk hF rfl)
theorem fN(ns:List af)(hl:ns.length<=1048576)(kid:Int)(y:af)(h1:isN ns kid=true)(hy:ns[(kid-1).toNat]? =some y)(rtl main kp:Bool)(C D:AC)(n:Int)(s:ak)(row:Bool)(al ac:az)(kn:Int)(K:LLA):PC0 67 [.c (.eptr [.view (vwA af.ac ns),.B rtl,.B kp,C,D] 0),.agg (nwL n s row al ac kn (.view K)),ai kid,abl main] (.t (.agg (lc (ar.c (sdB s y.style rtl main kn))))):=by
 obtain⟨V,hV⟩:=nmE (vwA af.ac ns)
 obtain⟨Ky,hh⟩:=nmE (vw ah y.kids)
 obtain⟨Ry,hi⟩:=nmE (vw aI.c y.table.rules)
 have b2:=bD h1
 have cy:=bL ns kid y b2.1 (by have:=b2.2.1;omega) hy V Ky Ry hV hh hi
 have cm:=qj s rtl
 have cc:=o3 s rtl
 obtain⟨p1,ha⟩:=nmE ((sdM s rtl main).1)
 obtain⟨p2,hb⟩:=nmE ((sdM s rtl main).2)
 have m1:=lv y.style.margin p1 rtl kn
 have m2:=lv y.style.margin p2 rtl kn
 have a1:=ly y.style.margin p1 rtl
 have a2:=ly y.style.margin p2 rtl
 rw [<-hV]
 unfold sdB
 rw [<-ha,<-hb]
 obtain⟨M1,he⟩:=nmE (pT y.style.margin p1 rtl kn)
 obtain⟨M2,hf⟩:=nmE (pT y.style.margin p2 rtl kn)
 obtain⟨A1,hc⟩:=nmE (wE y.style.margin p1 rtl)
 obtain⟨A2,hd⟩:=nmE (wE y.style.margin p2 rtl)
 rw [<-he]at m1⊢
 rw [<-hf]at m2⊢
 rw [<-hc]at a1⊢
 rw [<-hd]at a2⊢
 clear he hf hc hd
 cases main
 all_goals
  simp only [sdM,if_true,if_false,Bool.false_eq_true]at ha hb
  first|rw [<-ha,<-hb]at cm|rw [<-ha,<-hb]at cc
  refine ae (aK f67) ay func67 fun g F hg hF=> ?_
  cbv
  repeat'((first|refine aa hg cm ?_|refine aa hg cc ?_|refine ad hg cy ?_|refine aa hg m1 ?_|refine aa hg m2 ?_|refine aa hg a1 ?_|refine aa hg a2 ?_);cbv)
  refine fy hF ?_ ?_<;>first|rfl|exact⟨rfl,rfl⟩
theorem fS(V:LLA)(rtl:Bool)(n:Int)(s k:ak)(wd hg2:az)(row:Bool)(iw ih al ac:az)(K:LLA)(p q:Int):PC0 93 [.agg [.view V,.B rtl,.imm (.pointer none)],.agg (plL n s wd hg2 row iw ih al ac (.view K)),.agg (lc (ak.c k)),ai p,ai q] (.tup [ai (pT k.margin p rtl (knS iw)),ai (pT k.margin q rtl (knS iw))]):=by
 have ck:=eN iw.mode iw.n
 have m1:=lR k.margin p rtl (knS iw)
 have m2:=lR k.margin q rtl (knS iw)
 obtain⟨B,hB⟩:=nmE (knS iw)
 change PC0 _ _ (.i (knS iw))at ck
 rw [<-hB]at ck m1 m2⊢
 obtain⟨M1,ha⟩:=nmE (pT k.margin p rtl B)
 obtain⟨M2,hb⟩:=nmE (pT k.margin q rtl B)
 rw [<-ha]at m1⊢
 rw [<-hb]at m2⊢
 clear ha hb hB
 refine ae (aK f93) ay func93 fun g F hg hF=> ?_
 cbv
 repeat'((first|refine ad hg ck ?_|refine aa hg m1 ?_|refine aa hg m2 ?_);cbv)
 refine fy hF ?_ ?_<;>first|rfl|exact⟨rfl,rfl⟩
theorem nw(ns:List af)(n:Int)(x:af)(hs:∀y∈ns,af.small y)(ht:eV ns=true)(hl:ns.length<=1048576)(h1:1<=n)(h2:n<=(ns.length:Int))(hx:ns[(n-1).toNat]? =some x)(hkl:x.kids.length<=1048576)(hk:∀k∈x.kids,isN ns k=true)(a b c d:Int):PC0 34 [.agg [.view (vwA af.ac ns)],ai n,agP ⟨a,b⟩,agP ⟨c,d⟩] (.t (.agg (nwL n x.style (jS x.style) (if jS x.style then inW x.style ⟨a,b⟩else inH x.style ⟨c,d⟩) (if jS x.style then inH x.style ⟨c,d⟩else inW x.style ⟨a,b⟩) (knS (inW x.style ⟨a,b⟩)) (.view (vw ah (iA (i6 ns) (x.kids.filter (mz ns)))))))):=by
 have cF:=re ns n x hs ht hl h1 h2 hx hkl hk
 obtain⟨V,hV⟩:=nmE (vwA af.ac ns)
 obtain⟨K,hK⟩:=nmE (vw ah x.kids)
 obtain⟨R,hR⟩:=nmE (vw aI.c x.table.rules)
 obtain⟨G,hG⟩:=nmE (vw ah (iA (i6 ns) (x.kids.filter (mz ns))))
 have pG:=pmV hG
 have iG:=imV hG
 have kG:=kmV (k:=1) hG fun _=>rfl
 have dG:=dmV hG
 have cn:=bL ns n x h1 (by omega) hx V K R hV hK hR
 have cr:=gW x.style
 have f1:=ii x.style true
 have f2:=ii x.style false
 have i1:=fk a b (uA x.style true)
 have i2:=fk c d (uA x.style false)
 obtain⟨w1,w2,hW⟩:∃w1 w2,(⟨w1,w2⟩:az)=inW x.style ⟨a,b⟩:=⟨_,_,rfl⟩
 obtain⟨q1,q2,hH⟩:∃q1 q2,(⟨q1,q2⟩:az)=inH x.style ⟨c,d⟩:=⟨_,_,rfl⟩
 have ck:=dr w1 w2
 rw [<-hV,<-hG]at cF
 rw [<-hV,<-hG,<-hW,<-hH]
 change PC0 _ _ (.t (agP (inW x.style ⟨a,b⟩)))at i1
 change PC0 _ _ (.t (agP (inH x.style ⟨c,d⟩)))at i2
 rw [<-hW]at i1
 rw [<-hH]at i2
 obtain⟨kn,hc⟩:=nmE (knS ⟨w1,w2⟩)
 obtain⟨F1,ha⟩:=nmE (uA x.style true)
 obtain⟨F2,hb⟩:=nmE (uA x.style false)
 rw [<-hc]at ck⊢
 rw [<-ha]at f1 i1
 rw [<-hb]at f2 i2
 cases hr:jS x.style
 all_goals
  rw [hr]at cr
  simp only [if_true,if_false,Bool.false_eq_true]
  refine ae (aK f34) ay func34 fun g F hg hF=> ?_
  cbv
  repeat'((first|refine ad hg cn ?_|refine aa hg cr ?_|refine aa hg f1 ?_|refine aa hg f2 ?_|refine aa hg i1 ?_|refine aa hg i2 ?_|refine ad hg ck ?_|refine bQ hg cF (bn rfl) iG ?_);cbv)
  refine uD [.agg (nwL n x.style _ _ _ _ (.view G))] hF (.agg (by repeat'(first|exact .nil|exact .imm _|exact bf (ab:=⟨_,_,G⟩) rfl kG dG|refine .cons ?_ ?_)) .nil) ⟨rfl,rfl⟩
def Jn:AC->Bool
 | .imm _=>true
 | .view _=>true
 | .eptr _ _=>true
 |_=>false
theorem Gy{F:Nat->Prop}{w:World}{m:AM}{h:AH}{x:AT}{v:Value}(hp:x.cells.all Jn=true)(hv:RT F w m h x v):RT F w [] [] x v:=by
 have ha:∀(c:AC)(u:Value),Jn c=true->RC F w m h c u->RC F w [] [] c u:=by
  intro c u hc hr
  cases c<;>first|exact hr|cases hc
 cases x with
 |c y=>exact ha y v (by simpa [AT.cells]using hp) hv
 |agg xs=>
  obtain⟨vs,h1,h2,h3⟩:=hv
  exact⟨vs,h1,h2,fun j y hj=>let⟨u,hu,ho,hr⟩:=h3 j y hj;⟨u,hu,ho,ha y u (List.all_eq_true.1 hp y (zqd hj)) hr⟩⟩
variable {args:List AT}{P:Program}
theorem EM{f:FuncId}{h:AH}{Post:AV->List AB->Prop}(hc:cV P f args Post)(hp:(args.all fun x=>x.cells.all Jn)=true):Con P f h args fun res h'=>∃r rows,Post r rows/\res=r.shift h.length/\h'=h++(rows.map (AB.shift h.length)).map .live:=
 ⟨hc.1,fun F w m vs hH hl hx=>(hc.2 F w [] vs (RH.empty hH.old (Nat.zero_le _)) hl (fun j x hj=>by
  obtain⟨v,hv,hr⟩:=hx j x hj
  exact⟨v,hv,Gy (List.all_eq_true.1 hp x (zqd hj)) hr⟩)).mono fun e w''⟨v,res,h',m',F1,he,⟨rows,hh,hpost⟩,hG,hs,hv⟩=>by
  subst hh
  obtain⟨m2,F2,g1,g2,g3⟩:=dN.of_outG hH (jf (n:=h.length) hG hs hv)
  exact⟨v,_,_,m2,F2,he,⟨res,rows,hpost,rfl,rfl⟩,g1,g2,g3⟩⟩
theorem Dg{n0 N:Nat}{h:EH}{g:Gd}(hg:g=G0 P n0 N){f:FuncId}{K:AV->EH->Prop}{r:AV}(hc:cV P f args fun res ha=>res=r/\ha=[])(hp:(args.all fun x=>x.cells.all Jn)=true)(hr:dt r=true)(hK:K r (h++[])):g .C f h args K:=by
 subst hg
 refine(EM (h:=toH h) hc hp).mono fun res h'⟨r0,ha,⟨e1,e2⟩,h1,h2⟩=> ?_
 subst e1 e2
 subst h1 h2
 exact⟨h,by simp,by rw [ec hr];simpa using hK⟩
def Hc(s k:ak)(rtl row:Bool)(ac:az)(kn:Int):az:=
 let sd:=sdB s k rtl false kn
 let b:=wrap64 (sd.before+sd.behind)
 if sq k (!row) (knS ac)≠ -1 then⟨3,qa k (!row) (knS ac) (sq k (!row) (knS ac))⟩
 else if Ad {sd with align:=Bz s k}=true/\s.wrap=1/\ac.mode=3 then⟨3,qa k (!row) (knS ac) (wrap64 (ac.n-b))⟩
 else Ea (qN ac b)
theorem ll(ns:List af)(hl:ns.length<=1048576)(kid:Int)(y:af)(h1:isN ns kid=true)(hy:ns[(kid-1).toNat]? =some y)(rtl kp:Bool)(C D:AC)(n:Int)(s:ak)(row:Bool)(al ac:az)(kn:Int)(K:LLA):PC0 102 [.c (.eptr [.view (vwA af.ac ns),.B rtl,.B kp,C,D] 0),.agg (nwL n s row al ac kn (.view K)),ai kid] (.t (agP (Hc s y.style rtl row ac kn))):=by
 obtain⟨Ky,ho⟩:=nmE (vw ah y.kids)
 obtain⟨Ry,hp⟩:=nmE (vw aI.c y.table.rules)
 have b2:=bD h1
 have cs:=fN ns hl kid y h1 hy rtl false kp C D n s row al ac kn K
 obtain⟨V,hV⟩:=nmE (vwA af.ac ns)
 have cy:=bL ns kid y b2.1 (by have:=b2.2.1;omega) hy V Ky Ry hV ho hp
 have ck:=dr ac.mode ac.n
 change PC0 _ _ (.i (knS ac))at ck
 have cf:=gC y.style (!row) (knS ac)
 have cb:=fo y.style (!row) (knS ac) (sq y.style (!row) (knS ac))
 have ca:=mN s y.style
 have ci:=fun z=>fk ac.mode ac.n z
 have cL:=lx
 obtain⟨R,hR⟩:=nmE (Hc s y.style rtl row ac kn)
 rw [<-hV]at cs
 rw [<-hV,<-hR]
 unfold Hc at hR
 simp only at hR
 obtain⟨SD,hn⟩:=nmE (sdB s y.style rtl false kn)
 rw [<-hn]at cs hR
 clear hn
 obtain⟨am,an⟩:=ac
 obtain⟨KN,hm⟩:=nmE (knS ⟨am,an⟩)
 rw [<-hm]at ck cf cb hR
 have cb:=fun z=>fo y.style (!row) KN z
 obtain⟨FX,hk⟩:=nmE (sq y.style (!row) KN)
 rw [<-hk]at cf hR
 obtain⟨AL,hh⟩:=nmE (Bz s y.style)
 rw [<-hh]at ca hR
 clear hh hk hm
 have cF:=py {SD with align:=AL}
 have cB:=jl {SD with align:=AL}
 change PC0 _ _ (.i (wrap64 (SD.before+SD.behind)))at cB
 obtain⟨FB,hj⟩:∃S,S=Ad {SD with align:=AL}:=⟨_,rfl⟩
 rw [<-hj]at cF hR
 obtain⟨BB,hi⟩:=nmE (wrap64 (SD.before+SD.behind))
 rw [<-hi]at cB hR
 clear hj hi
 have ci:=ci BB
 change PC0 _ _ (.t (agP (qN ⟨am,an⟩ BB)))at ci
 obtain⟨i1,i2,hI⟩:∃i1 i2,(⟨i1,i2⟩:az)=qN ⟨am,an⟩ BB:=⟨_,_,rfl⟩
 rw [<-hI]at ci hR
 clear hI
 have cL:=cL i1 i2
 obtain⟨l1,l2,hL⟩:∃j1 j2,(⟨j1,j2⟩:az)=Ea ⟨i1,i2⟩:=⟨_,_,rfl⟩
 rw [<-hL]at cL hR
 clear hL
 obtain⟨ZZ,he⟩:=nmE (wrap64 (an-BB))
 have ha:=cb FX
 have hb:=cb ZZ
 obtain⟨B1,hc⟩:=nmE (qa y.style (!row) KN FX)
 obtain⟨B2,hd⟩:=nmE (qa y.style (!row) KN ZZ)
 rw [<-he,<-hc,<-hd]at hR
 rw [<-hc]at ha
 rw [<-hd]at hb
 clear hc hd cb
 obtain⟨wr,hf⟩:=nmE s.wrap
 rw [<-hf]at hR
 by_cases q1:FX= -1
 ·simp only [q1,ne_eq,not_true_eq_false,if_false]at hR
  subst q1
  have t1:∀g:Gd,g=G0 prog 0 f102.ntmps->g .q .neq (-1) (-1)=false:=fun g hg=>by rw [bj hg];rfl
  have t2:∀g:Gd,g=G0 prog 0 f102.ntmps->g .q .eql s.wrap 1=decide (wr=1):=fun g hg=>by rw [bm hg,hf];exact zqn _ _
  have t3:∀g:Gd,g=G0 prog 0 f102.ntmps->g .q .eql am 3=decide (am=3):=fun g hg=>by rw [bm hg];exact zqn _ _
  have t4:∀g:Gd,g=G0 prog 0 f102.ntmps->g .w .sub .i64 an BB=ZZ:=fun g hg=>by rw [dq hg,he]
  clear hf he
  cases FB
  case false=>
   simp only [Bool.false_eq_true,false_and,if_false]at hR
   rw [hR]
   clear hR
   refine ae (aK f102) ay func102 fun g F hg hF=> ?_
   have t1:=t1 g hg
   cbv
   repeat'((first|refine ad hg cy ?_|refine ad hg ck ?_);cbv)
   refine Dg hg cs rfl rfl ?_
   cbv
   repeat'(refine ad hg cf ?_;cbv)
   rw [t1]
   cbv
   repeat'((first|refine ad hg ca ?_|refine ad hg cF ?_|refine aa hg cB ?_|refine aa hg ci ?_|refine aa hg cL ?_);cbv)
   exact np hF ⟨rfl,rfl⟩
  by_cases q2:wr=1
  case neg=>
   simp only [q2,false_and,and_false,if_false]at hR
   rw [hR]
   clear hR
   refine ae (aK f102) ay func102 fun g F hg hF=> ?_
   have t1:=t1 g hg
   have t2:=t2 g hg
   rw [zqt q2]at t2
   cbv
   repeat'((first|refine ad hg cy ?_|refine ad hg ck ?_);cbv)
   refine Dg hg cs rfl rfl ?_
   cbv
   repeat'(refine ad hg cf ?_;cbv)
   rw [t1]
   cbv
   repeat'((first|refine ad hg ca ?_|refine ad hg cF ?_);cbv)
   rw [t2]
   cbv
   repeat'((first|refine aa hg cB ?_|refine aa hg ci ?_|refine aa hg cL ?_);cbv)
   exact np hF ⟨rfl,rfl⟩
  by_cases q3:am=3
  case neg=>
   simp only [q3,false_and,and_false,if_false]at hR
   rw [hR]
   clear hR
   refine ae (aK f102) ay func102 fun g F hg hF=> ?_
   have t1:=t1 g hg
   have t2:=t2 g hg
   have t3:=t3 g hg
   rw [zqu q2]at t2
   rw [zqt q3]at t3
   cbv
   repeat'((first|refine ad hg cy ?_|refine ad hg ck ?_);cbv)
   refine Dg hg cs rfl rfl ?_
   cbv
   repeat'(refine ad hg cf ?_;cbv)
   rw [t1]
   cbv
   repeat'((first|refine ad hg ca ?_|refine ad hg cF ?_);cbv)
   rw [t2]
   cbv
   rw [t3]
   cbv
   repeat'((first|refine aa hg cB ?_|refine aa hg ci ?_|refine aa hg cL ?_);cbv)
   exact np hF ⟨rfl,rfl⟩
  simp only [q2,q3,and_self,if_true]at hR
  rw [hR]
  clear hR
  refine ae (aK f102) ay func102 fun g F hg hF=> ?_
  have t1:=t1 g hg
  have t2:=t2 g hg
  have t3:=t3 g hg
  have t4:=t4 g hg
  rw [zqu q2]at t2
  rw [zqu q3]at t3
  cbv
  repeat'((first|refine ad hg cy ?_|refine ad hg ck ?_);cbv)
  refine Dg hg cs rfl rfl ?_
  cbv
  repeat'(refine ad hg cf ?_;cbv)
  rw [t1]
  cbv
  repeat'((first|refine ad hg ca ?_|refine ad hg cF ?_);cbv)
  rw [t2]
  cbv
  rw [t3]
  cbv
  repeat'(refine aa hg cB ?_;cbv)
  rw [t4]
  repeat'(refine aa hg hb ?_;cbv)
  exact np hF ⟨rfl,rfl⟩
 ·simp only [q1,ne_eq,not_false_eq_true,if_true]at hR
  rw [hR]
  clear hR
  refine ae (aK f102) ay func102 fun g F hg hF=> ?_
  have t1:g .q .neq FX (-1)=true:=by rw [bj hg];simp [q1]
  cbv
  repeat'((first|refine ad hg cy ?_|refine ad hg ck ?_);cbv)
  refine Dg hg cs rfl rfl ?_
  cbv
  repeat'(refine ad hg cf ?_;cbv)
  rw [t1]
  cbv
  repeat'(refine ad hg ha ?_;cbv)
  exact np hF ⟨rfl,rfl⟩
theorem oc(ns:List af)(n:Int)(x:af)(hl:ns.length<=1048576)(h1:1<=n)(h2:n<=1048576)(hx:ns[(n-1).toNat]? =some x)(hkl:x.kids.length<20)(hk:∀k∈x.kids,isN ns k=true)(rtl:Bool)(a b c d:Int):PC0 39 [.agg [.view (vwA af.ac ns),.B rtl,.imm (.pointer none)],ai n,agP ⟨a,b⟩,agP ⟨c,d⟩] (.t (.agg (plL n x.style ⟨a,b⟩ ⟨c,d⟩ (jS x.style) (inW x.style ⟨a,b⟩) (inH x.style ⟨c,d⟩) (if jS x.style then inW x.style ⟨a,b⟩else inH x.style ⟨c,d⟩) (if jS x.style then inH x.style ⟨c,d⟩else inW x.style ⟨a,b⟩) (.view (vw ah (iA (i6 ns) (x.kids.filter (mz ns)))))))):=by
 have cF:=r8 ns n x hl h1 h2 hx hkl hk
 obtain⟨V,hV⟩:=nmE (vwA af.ac ns)
 obtain⟨K,hK⟩:=nmE (vw ah x.kids)
 obtain⟨R,hR⟩:=nmE (vw aI.c x.table.rules)
 obtain⟨G,hG⟩:=nmE (vw ah (iA (i6 ns) (x.kids.filter (mz ns))))
 have pG:=pmV hG
 have iG:=imV hG
 have kG:=kmV (k:=1) hG fun _=>rfl
 have dG:=dmV hG
 have cn:=dv ns n x h1 (by omega) hx V K R hV hK hR
 have cr:=gZ x.style
 have cf:=fw x.style
 obtain⟨e1,e2,e3,e4,hE⟩:∃e1 e2 e3 e4,(⟨e1,e2,e3,e4⟩:bV)=oE x.style:=⟨_,_,_,_,rfl⟩
 rw [<-hE]at cf
 have f1:=fT e1 e2 e3 e4
 have f2:=fV e1 e2 e3 e4
 obtain⟨F1,ha⟩:=nmE (uA x.style true)
 obtain⟨F2,hb⟩:=nmE (uA x.style false)
 have z1:adE e1 e3=F1:=by rw [ha];simp only [uA,<-hE,if_true]
 have z2:adE e2 e4=F2:=by rw [hb];simp only [uA,<-hE,if_false,Bool.false_eq_true]
 rw [z1]at f1
 rw [z2]at f2
 have i1:=gN a b F1
 have i2:=gN c d F2
 obtain⟨w1,w2,hW⟩:∃w1 w2,(⟨w1,w2⟩:az)=inW x.style ⟨a,b⟩:=⟨_,_,rfl⟩
 obtain⟨q1,q2,hH⟩:∃q1 q2,(⟨q1,q2⟩:az)=inH x.style ⟨c,d⟩:=⟨_,_,rfl⟩
 have y1:qN ⟨a,b⟩ F1=⟨w1,w2⟩:=by rw [ha];exact hW.symm
 have y2:qN ⟨c,d⟩ F2=⟨q1,q2⟩:=by rw [hb];exact hH.symm
 rw [y1]at i1
 rw [y2]at i2
 rw [<-hV,<-hG]at cF
 rw [<-hV,<-hG,<-hW,<-hH]
 clear ha hb z1 z2 y1 y2 hW hH
 cases hr:jS x.style
 all_goals
  rw [hr]at cr
  simp only [if_true,if_false,Bool.false_eq_true]
  refine ae (aK f39) ay func39 fun g F hg hF=> ?_
  cbv
  repeat'((first|refine ad hg cn ?_|refine aa hg cr ?_|refine aa hg cf ?_|refine aa hg f1 ?_|refine aa hg f2 ?_|refine aa hg i1 ?_|refine aa hg i2 ?_|refine bQ hg cF (bn rfl) iG ?_);cbv)
  refine uD [.agg (plL n x.style _ _ _ _ _ _ _ (.view G))] hF (.agg (by repeat'(first|exact .nil|exact .imm _|exact bf (ab:=⟨_,_,G⟩) rfl kG dG|refine .cons ?_ ?_)) .nil) ⟨rfl,rfl⟩
theorem kw(ns:List af)(hl:ns.length<=1048576)(kid:Int)(y:af)(h1:isN ns kid=true)(hy:ns[(kid-1).toNat]? =some y)(rtl:Bool)(n:Int)(s:ak)(wd hgh:az)(row:Bool)(iw ih al ac:az)(K:LLA):PC0 109 [.agg [.view (vwA af.ac ns),.B rtl,.imm (.pointer none)],.agg (plL n s wd hgh row iw ih al ac (.view K)),ai kid] (.t (agP (Hc s y.style rtl row ac (knS iw)))):=by
 obtain⟨Ky,hu⟩:=nmE (vw ah y.kids)
 obtain⟨Ry,hv⟩:=nmE (vw aI.c y.table.rules)
 have b2:=bD h1
 obtain⟨V,hV⟩:=nmE (vwA af.ac ns)
 have cy:=dv ns kid y b2.1 (by have:=b2.2.1;omega) hy V Ky Ry hV hu hv
 have ck:=eN ac.mode ac.n
 change PC0 _ _ (.i (knS ac))at ck
 have cf:=gO y.style (!row) (knS ac)
 have cb:=fun z=>gQ y.style (!row) (knS ac) z
 have cx:=fun z=>jv z
 have cs:=jI s rtl
 have cm:=fun p q=>fS V rtl n s y.style wd hgh row iw ih al ac K p q
 have ca:=mW s y.style
 have ci:=fun z=>gN ac.mode ac.n z
 have cL:=lV
 obtain⟨R,hR⟩:=nmE (Hc s y.style rtl row ac (knS iw))
 rw [<-hV,<-hR]
 unfold Hc sdB at hR
 simp only [sdM,Bool.false_eq_true,if_false,Ad]at hR
 obtain⟨p,hp⟩:=nmE (sd1 (!jS s) (l8 s rtl))
 obtain⟨q,hq⟩:=nmE (sd2 (!jS s) (l8 s rtl))
 rw [<-hp,<-hq]at cs hR
 clear hp hq
 have cm:=cm p q
 have c1:=dT y.style.margin p rtl
 have c2:=dT y.style.margin q rtl
 obtain⟨M1,hr⟩:=nmE (pT y.style.margin p rtl (knS iw))
 obtain⟨M2,hs⟩:=nmE (pT y.style.margin q rtl (knS iw))
 obtain⟨A1,hk⟩:=nmE (wE y.style.margin p rtl)
 obtain⟨A2,hm⟩:=nmE (wE y.style.margin q rtl)
 rw [<-hr,<-hs]at cm hR
 rw [<-hk]at c1 hR
 rw [<-hm]at c2 hR
 clear hr hs hk hm
 obtain⟨am,an⟩:=ac
 obtain⟨KN,he⟩:=nmE (knS ⟨am,an⟩)
 rw [<-he]at ck cf hR
 simp only [<-he]at cb
 obtain⟨FX,ho⟩:=nmE (sq y.style (!row) KN)
 rw [<-ho]at cf hR
 obtain⟨AL,hn⟩:=nmE (Bz s y.style)
 rw [<-hn]at ca hR
 clear hn ho he
 obtain⟨BB,hd⟩:=nmE (wrap64 (M1+M2))
 rw [<-hd]at hR
 have ci:=ci BB
 change PC0 _ _ (.t (agP (qN ⟨am,an⟩ BB)))at ci
 obtain⟨i1,i2,hI⟩:∃i1 i2,(⟨i1,i2⟩:az)=qN ⟨am,an⟩ BB:=⟨_,_,rfl⟩
 rw [<-hI]at ci hR
 clear hI
 have cL:=cL i1 i2
 obtain⟨l1,l2,hL⟩:∃j1 j2,(⟨j1,j2⟩:az)=Ea ⟨i1,i2⟩:=⟨_,_,rfl⟩
 rw [<-hL]at cL hR
 clear hL
 obtain⟨ZZ,hf⟩:=nmE (wrap64 (an-BB))
 have ha:=cb FX
 have hi:=cb ZZ
 obtain⟨B1,hb⟩:=nmE (qa y.style (!row) KN FX)
 obtain⟨B2,hc⟩:=nmE (qa y.style (!row) KN ZZ)
 rw [<-hf,<-hb,<-hc]at hR
 rw [<-hb]at ha
 rw [<-hc]at hi
 clear hb hc cb
 have hj:=cx B1
 have ht:=cx B2
 obtain⟨wr,hh⟩:=nmE s.wrap
 rw [<-hh]at hR
 by_cases q1:FX= -1
 ·simp only [q1,ne_eq,not_true_eq_false,if_false]at hR
  subst q1
  have t1:∀g:Gd,g=G0 prog 0 f109.ntmps->g .q .neq (-1) (-1)=false:=fun g hg=>by rw [bj hg];rfl
  have t2:∀g:Gd,g=G0 prog 0 f109.ntmps->g .q .eql s.wrap 1=decide (wr=1):=fun g hg=>by rw [bm hg,hh];exact zqn _ _
  have t3:∀g:Gd,g=G0 prog 0 f109.ntmps->g .q .eql am 3=decide (am=3):=fun g hg=>by rw [bm hg];exact zqn _ _
  have t4:∀g:Gd,g=G0 prog 0 f109.ntmps->g .w .sub .i64 an BB=ZZ:=fun g hg=>by rw [dq hg,hf]
  have t5:∀g:Gd,g=G0 prog 0 f109.ntmps->g .q .eql AL 1=decide (AL=1):=fun g hg=>by rw [bm hg];exact zqn _ _
  have t6:∀g:Gd,g=G0 prog 0 f109.ntmps->g .w .add .i64 M1 M2=BB:=fun g hg=>by rw [aJ hg,hd]
  clear hh hf hd
  cases A1<;>cases A2<;>by_cases q0:AL=1
  by_cases q2:wr=1
  by_cases q3:am=3
  all_goals
   (try simp only [q2]at hR)
   (try simp only [q3]at hR)
   simp only [q0,decide_true,decide_false,Bool.not_false,Bool.not_true,Bool.and_self,Bool.and_true,Bool.true_and,Bool.and_false,Bool.false_and,Bool.false_eq_true,and_self,and_true,true_and,and_false,false_and,if_true,if_false]at hR
   rw [hR]
   clear hR
   refine ae (aK f109) ay func109 fun g F hg hF=> ?_
   have t1:=t1 g hg
   have t2:=t2 g hg
   have t3:=t3 g hg
   have t4:=t4 g hg
   have t5:=t5 g hg
   have t6:=t6 g hg
   (try first|rw [zqu q2]at t2|rw [zqt q2]at t2)
   (try first|rw [zqu q3]at t3|rw [zqt q3]at t3)
   first|rw [zqu q0]at t5|rw [zqt q0]at t5
   cbv
   repeat'(first|((first|refine ad hg cy ?_|refine ad hg ck ?_|refine ad hg cf ?_|rw [t1]|refine ad hg cs ?_|refine ad hg cm ?_|refine ad hg c1 ?_|refine ad hg c2 ?_|refine ad hg ca ?_|rw [t5]|rw [t2]|rw [t3]);cbv)|(rw [t6];first|rw [t4]|skip)|((first|refine ad hg hi ?_|refine ad hg ht ?_|refine ad hg ci ?_|refine ad hg cL ?_);cbv))
   exact np hF ⟨rfl,rfl⟩
 ·simp only [q1,ne_eq,not_false_eq_true,if_true]at hR
  rw [hR]
  clear hR
  refine ae (aK f109) ay func109 fun g F hg hF=> ?_
  have t1:g .q .neq FX (-1)=true:=by rw [bj hg];simp [q1]
  cbv
  repeat'((first|refine ad hg cy ?_|refine ad hg ck ?_|refine ad hg cf ?_);cbv)
  rw [t1]
  cbv
  repeat'((first|refine ad hg ha ?_|refine ad hg hj ?_);cbv)
  exact np hF ⟨rfl,rfl⟩
def flK(ns:List af)(n:Int):List Int:=iA (i6 ns) ((vN ns n).filter (mz ns))
theorem FV(xs:List Int)(n:Int):0<=cnt xs n/\(n∈xs->1<=cnt xs n):=by
 induction xs with
 |nil=>simp [cnt]
 |cons x xs ih=>
  have e:cnt (x::xs) n=(if x=n then 1 else 0)+cnt xs n:=by simp [cnt]
  rw [e]
  obtain⟨i1,i2⟩:=ih
  by_cases hx:x=n
  ·rw [if_pos hx];exact⟨by omega,fun _=>by omega⟩
  ·rw [if_neg hx]
   refine⟨by omega,fun h=> ?_⟩
   rcases List.mem_cons.1 h with h|h
   ·exact absurd h.symm hx
   ·have:=i2 h;omega
theorem xl:∀(xs:List Int),(∀k∈xs,cnt xs k=1)->xs.Nodup
 | [],_=>List.nodup_nil
 |x::xs,h=>by
  have e:∀n,cnt (x::xs) n=(if x=n then 1 else 0)+cnt xs n:=fun n=>by simp [cnt]
  have hx:x∉xs:=fun hm=>by
   have h1:=h x (List.mem_cons_self ..)
   rw [e,if_pos rfl]at h1
   have:=(FV xs x).2 hm
   omega
  refine List.nodup_cons.2 ⟨hx,xl xs fun k hk=> ?_⟩
  have h1:=h k (List.mem_cons_of_mem _ hk)
  rw [e,if_neg (fun hxk:x=k=>hx (by rw [hxk];exact hk))]at h1
  omega
theorem Fw:∀(M:Nat)(xs:List Int),xs.Nodup->(∀k∈xs,1<=k/\k<=(M:Int))->xs.length<=M
 |0,xs,_,h=>by
  cases xs with
  |nil=>simp
  |cons x xs=>have:=h x (List.mem_cons_self ..);omega
 |M+1,xs,hn,h=>by
  have h1:=Fw M (xs.erase ((M:Int)+1)) (hn.erase _) (fun k hk=>by
   have ha:=(hn.mem_erase_iff).1 hk
   have:=h k ha.2
   have hb:=ha.1
   omega)
  by_cases hm:(M:Int)+1∈xs
  ·have h2:=List.length_erase_of_mem hm
   have:=List.length_pos_of_mem hm
   omega
  ·rw [List.erase_of_not_mem hm]at h1;omega
variable {ns:List af}
theorem DI(h:eV ns=true):ns.length<=12:=by
 simp only [eV,zqs,zqp]at h
 omega
theorem uO(h:eV ns=true){n:Int}{x:af}(h1:1<=n)(hx:ns[(n-1).toNat]? =some x):x.kids.length<=12:=by
 have hk:=jB h h1 hx
 have hl:=DI h
 have h2:∀k∈x.kids,upN ns k=n:=fun k ha=>by
  have h3:=h
  simp only [eV,zqs]at h3
  have:=(ka ns ns 0).1 h3.2 _ x hx
  simp only [fJ,zqs,zqf,ij,zqp]at this
  have:=(this.2.2.2.1 k ha).2
  omega
 have hb:x.kids.Nodup:=xl _ fun k ha=>by
  obtain⟨k1,k2,y,hy⟩:=bD (hk k ha)
  have h3:=h
  simp only [eV,zqs]at h3
  have h4:=(ka ns ns 0).1 h3.2 _ y hy
  simp only [fJ,zqs,Fi,Bool.or_eq_true,zqp]at h4
  have hu:y.up=n:=by have:=h2 k ha;unfold upN at this;rw [hy]at this;exact this
  have h5:=h4.2.2.1
  rw [hu]at h5
  have h6:vN ns n=x.kids:=by simp only [vN,hx]
  rw [h6,show(0:Int)+(((k-1).toNat:Nat):Int)+1=k by omega]at h5
  rcases h5 with h5|h5
  ·omega
  ·exact h5
 have:=Fw 12 x.kids hb fun k ha=>by
  obtain⟨k1,k2,y,hy⟩:=bD (hk k ha)
  omega
 exact this
end Go.Proofs.YtkicjdeddpihaaaGreat
