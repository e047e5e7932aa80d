/- Lines of items that flex: what each pass sets, in the program and in the reference; both end and agree. -/
import Derived.Test.YtdnnffbbhijmkaaGreatKba
set_option linter.unusedVariables false
set_option linter.unusedSimpArgs false
set_option maxHeartbeats 16000000
namespace Go.Proofs.YtdnnffbbhijmkaaGreat
open Go.ChangeShapes Go.WideShapes Go.ChangeAt Go.RowKit Am Go.Proofs.Tryz
set_option maxRecDepth 100000
theorem m9(ns:List ak)(n:Int)(x:ak)(hl:ns.length≤1048576)(h1:1≤n)(h2:n≤1048576)(hx:ns[(n-1).toNat]? =some x)(hkl:x.kids.length<20)(hk:∀k∈x.kids,isN ns k=true)(rtl:Bool)(a b c d:Int):PC0 72 [.agg [.view (vwA ak.ac ns),.B rtl,.imm (.pointer none)],ai n,agP ⟨a,b⟩,agP ⟨c,d⟩] (.t (.agg (plL n x.style ⟨a,b⟩ ⟨c,d⟩ (jm x.style) (inW x.style ⟨a,b⟩) (inH x.style ⟨c,d⟩) (if jm x.style then inW x.style ⟨a,b⟩else inH x.style ⟨c,d⟩) (if jm x.style then inH x.style ⟨c,d⟩else inW x.style ⟨a,b⟩) (.view (vw ao (gP (ic ns) (x.kids.filter (lA ns)))))))):=by
 have cF:=kJ ns n x hl h1 h2 hx hkl hk
 obtain⟨V,hV⟩:=nmE (vwA ak.ac ns)
 obtain⟨K,hK⟩:=nmE (vw ao x.kids)
 obtain⟨R,hR⟩:=nmE (vw aJ.c x.table.rules)
 obtain⟨G,hG⟩:=nmE (vw ao (gP (ic ns) (x.kids.filter (lA ns))))
 have pG:ah G=true:=by rw [hG];exact ag _ _
 have iG:bS G=true:=by rw [hG];exact aI _ _
 have kG:∀y∈G,y.length=1:=by rw [hG];exact bJ (c:=ao) (k:=1) fun _=>rfl
 have dG:∀y∈G,y.all dat=true:=by rw [hG];exact aC
 have cn:=dh ns n x h1 (by omega) hx V K R hV hK hR
 have cr:=gy x.style
 have cf:=eU x.style
 obtain⟨e1,e2,e3,e4,hE⟩:∃e1 e2 e3 e4,(⟨e1,e2,e3,e4⟩:bv)=nw x.style:=⟨_,_,_,_,rfl⟩
 rw [←hE]at cf
 have f1:=fA e1 e2 e3 e4
 have f2:=fC e1 e2 e3 e4
 obtain⟨F1,hF1⟩:=nmE (sj x.style true)
 obtain⟨F2,hF2⟩:=nmE (sj x.style false)
 have z1:adE e1 e3=F1:=by rw [hF1];simp only [sj,←hE,if_true]
 have z2:adE e2 e4=F2:=by rw [hF2];simp only [sj,←hE,if_false,Bool.false_eq_true]
 rw [z1]at f1
 rw [z2]at f2
 have i1:=gg a b F1
 have i2:=gg c d F2
 obtain⟨w1,w2,hW⟩:∃w1 w2,(⟨w1,w2⟩:ay)=inW x.style ⟨a,b⟩:=⟨_,_,rfl⟩
 obtain⟨q1,q2,hH⟩:∃q1 q2,(⟨q1,q2⟩:ay)=inH x.style ⟨c,d⟩:=⟨_,_,rfl⟩
 have y1:o4 ⟨a,b⟩ F1=⟨w1,w2⟩:=by rw [hF1];exact hW.symm
 have y2:o4 ⟨c,d⟩ F2=⟨q1,q2⟩:=by rw [hF2];exact hH.symm
 rw [y1]at i1
 rw [y2]at i2
 rw [←hV,←hG]at cF
 rw [←hV,←hG,←hW,←hH]
 clear hF1 hF2 z1 z2 y1 y2 hW hH
 cases hr:jm x.style
 all_goals
  rw [hr]at cr
  simp only [if_true,if_false,Bool.false_eq_true]
  refine ae (aN f72) aD func72 fun g F hg hF=> ?_
  cbv
  repeat'((first|refine ad hg cn ?_|refine aa hg cn ?_|refine ad hg cr ?_|refine aa hg cr ?_|refine ad hg cf ?_|refine aa hg cf ?_|refine ad hg f1 ?_|refine aa hg f1 ?_|refine ad hg f2 ?_|refine aa hg f2 ?_|refine ad hg i1 ?_|refine aa hg i1 ?_|refine ad hg i2 ?_|refine aa hg i2 ?_|refine bC hg cF (bp rfl) iG ?_|refine bN hg cF (bp rfl) iG ?_);cbv)
  refine sn [.agg (plL n x.style _ _ _ _ _ _ _ (.view G))] hF (.agg (by repeat'(first|exact .nil|exact .imm _|exact bh (ab:=⟨_,_,G⟩) rfl kG dG|refine .cons ?_ ?_)) .nil) ⟨rfl,rfl⟩
theorem jJ(ns:List ak)(hl:ns.length≤1048576)(kid:Int)(y:ak)(h1:isN ns kid=true)(hy:ns[(kid-1).toNat]? =some y)(rtl:Bool)(n:Int)(s:ar)(wd hgh:ay)(row:Bool)(iw ih al ac:ay)(K:List (List AC)):PC0 71 [.agg [.view (vwA ak.ac ns),.B rtl,.imm (.pointer none)],.agg (plL n s wd hgh row iw ih al ac (.view K)),ai kid] (.t (agP (DT s y.style rtl row ac (knS iw)))):=by
 obtain⟨Ky,hKy⟩:=nmE (vw ao y.kids)
 obtain⟨Ry,hRy⟩:=nmE (vw aJ.c y.table.rules)
 have b2:=bB h1
 obtain⟨V,hV⟩:=nmE (vwA ak.ac ns)
 have cy:=dh ns kid y b2.1 (by have:=b2.2.1;omega) hy V Ky Ry hV hKy hRy
 have ck:=ec ac.mode ac.n
 change PC0 _ _ (.t (ai (knS ac)))at ck
 have cf:=gj y.style (!row) (knS ac)
 have cb:=fun z=>gl y.style (!row) (knS ac) z
 have cx:=fun z=>iE z
 have cs:=jb s rtl
 have cm:=fun p q=>fz V rtl n s y.style wd hgh row iw ih al ac K p q
 have ca:=l4 s y.style
 have ci:=fun z=>gg ac.mode ac.n z
 have cL:=kQ
 obtain⟨R,hR⟩:=nmE (DT s y.style rtl row ac (knS iw))
 rw [←hV,←hR]
 unfold DT sdB at hR
 simp only [sdM,Bool.false_eq_true,if_false,xF]at hR
 obtain⟨p,hp⟩:=nmE (sd1 (!jm s) (k6 s rtl))
 obtain⟨q,hq⟩:=nmE (sd2 (!jm s) (k6 s rtl))
 rw [←hp,←hq]at cs hR
 clear hp hq
 have cm:=cm p q
 have c1:=dz y.style.margin p rtl
 have c2:=dz y.style.margin q rtl
 obtain⟨M1,hM1⟩:=nmE (oq y.style.margin p rtl (knS iw))
 obtain⟨M2,hM2⟩:=nmE (oq y.style.margin q rtl (knS iw))
 obtain⟨A1,hA1⟩:=nmE (uz y.style.margin p rtl)
 obtain⟨A2,hA2⟩:=nmE (uz y.style.margin q rtl)
 rw [←hM1,←hM2]at cm hR
 rw [←hA1]at c1 hR
 rw [←hA2]at c2 hR
 clear hM1 hM2 hA1 hA2
 obtain⟨am,an⟩:=ac
 obtain⟨KN,hKN⟩:=nmE (knS ⟨am,an⟩)
 rw [←hKN]at ck cf hR
 simp only [←hKN]at cb
 obtain⟨FX,hFX⟩:=nmE (qr y.style (!row) KN)
 rw [←hFX]at cf hR
 obtain⟨AL,hAL⟩:=nmE (yK s y.style)
 rw [←hAL]at ca hR
 clear hAL hFX hKN
 obtain⟨BB,hBB⟩:=nmE (wrap64 (M1+M2))
 rw [←hBB]at hR
 have ci:=ci BB
 change PC0 _ _ (.t (agP (o4 ⟨am,an⟩ BB)))at ci
 obtain⟨i1,i2,hI⟩:∃i1 i2,(⟨i1,i2⟩:ay)=o4 ⟨am,an⟩ BB:=⟨_,_,rfl⟩
 rw [←hI]at ci hR
 clear hI
 have cL:=cL i1 i2
 obtain⟨l1,l2,hL⟩:∃j1 j2,(⟨j1,j2⟩:ay)=Bm ⟨i1,i2⟩:=⟨_,_,rfl⟩
 rw [←hL]at cL hR
 clear hL
 obtain⟨ZZ,hZZ⟩:=nmE (wrap64 (an-BB))
 have cb1:=cb FX
 have cb2:=cb ZZ
 obtain⟨B1,hB1⟩:=nmE (ox y.style (!row) KN FX)
 obtain⟨B2,hB2⟩:=nmE (ox y.style (!row) KN ZZ)
 rw [←hZZ,←hB1,←hB2]at hR
 rw [←hB1]at cb1
 rw [←hB2]at cb2
 clear hB1 hB2 cb
 have cx1:=cx B1
 have cx2:=cx B2
 obtain⟨wr,hwr⟩:=nmE s.wrap
 rw [←hwr]at hR
 by_cases q1:FX= -1
 ·simp only [q1,ne_eq,not_true_eq_false,if_false]at hR
  subst q1
  have t1:∀g:Gd,g=G0 prog 0 f71.ntmps→g .q .neq (-1) (-1)=false:=fun g hg=>by rw [bj hg];rfl
  have t2:∀g:Gd,g=G0 prog 0 f71.ntmps→g .q .eql s.wrap 1=decide (wr=1):=fun g hg=>by rw [bq hg,hwr];exact zqn _ _
  have t3:∀g:Gd,g=G0 prog 0 f71.ntmps→g .q .eql am 3=decide (am=3):=fun g hg=>by rw [bq hg];exact zqn _ _
  have t4:∀g:Gd,g=G0 prog 0 f71.ntmps→g .w .sub .i64 an BB=ZZ:=fun g hg=>by rw [dc hg,hZZ]
  have t5:∀g:Gd,g=G0 prog 0 f71.ntmps→g .q .eql AL 1=decide (AL=1):=fun g hg=>by rw [bq hg];exact zqn _ _
  have t6:∀g:Gd,g=G0 prog 0 f71.ntmps→g .w .add .i64 M1 M2=BB:=fun g hg=>by rw [aK hg,hBB]
  clear hwr hZZ hBB
  cases A1<;>cases A2<;>by_cases q0:AL=1
  by_cases q2:wr=1
  by_cases q3:am=3
  all_goals
   (try simp only [q2]at hR)
   (try simp only [q3]at hR)
   simp only [q0,decide_true,decide_false,Bool.not_false,Bool.not_true,Bool.and_self,Bool.and_true,Bool.true_and,Bool.and_false,Bool.false_and,Bool.false_eq_true,and_self,and_true,true_and,and_false,false_and,if_true,if_false]at hR
   rw [hR]
   clear hR
   refine ae (aN f71) aD func71 fun g F hg hF=> ?_
   have t1:=t1 g hg
   have t2:=t2 g hg
   have t3:=t3 g hg
   have t4:=t4 g hg
   have t5:=t5 g hg
   have t6:=t6 g hg
   (try first|rw [zqu q2]at t2|rw [zqt q2]at t2)
   (try first|rw [zqu q3]at t3|rw [zqt q3]at t3)
   first|rw [zqu q0]at t5|rw [zqt q0]at t5
   cbv
   repeat'(first|((first|refine ad hg cy ?_|refine ad hg ck ?_|refine ad hg cf ?_|rw [t1]|refine ad hg cs ?_|refine ad hg cm ?_|refine ad hg c1 ?_|refine ad hg c2 ?_|refine ad hg ca ?_|rw [t5]|rw [t2]|rw [t3]);cbv)|(rw [t6];first|rw [t4]|skip)|((first|refine ad hg cb2 ?_|refine ad hg cx2 ?_|refine ad hg ci ?_|refine ad hg cL ?_);cbv))
   exact ml hF ⟨rfl,rfl⟩
 ·simp only [q1,ne_eq,not_false_eq_true,if_true]at hR
  rw [hR]
  clear hR
  refine ae (aN f71) aD func71 fun g F hg hF=> ?_
  have t1:g .q .neq FX (-1)=true:=by rw [bj hg];simp [q1]
  cbv
  repeat'((first|refine ad hg cy ?_|refine aa hg cy ?_|refine ad hg ck ?_|refine aa hg ck ?_|refine ad hg cf ?_|refine aa hg cf ?_);cbv)
  rw [t1]
  cbv
  repeat'((first|refine ad hg cb1 ?_|refine aa hg cb1 ?_|refine ad hg cx1 ?_|refine aa hg cx1 ?_);cbv)
  exact ml hF ⟨rfl,rfl⟩
def flK(ns:List ak)(n:Int):List Int:=gP (ic ns) ((tH ns n).filter (lA ns))
def F9(ns:List ak)(n:Int)(wd hgh:ay)(kid:Int):Bool:=Bu ns n wd hgh&&vp (flK ns n) kid
theorem CW(xs:List Int)(n:Int):0≤cnt xs n∧(n∈xs→1≤cnt xs n):=by
 induction xs with
 |nil=>simp [cnt]
 |cons x xs ih=>
  have e:cnt (x::xs) n=(if x=n then 1 else 0)+cnt xs n:=by simp [cnt]
  rw [e]
  obtain⟨i1,i2⟩:=ih
  by_cases hx:x=n
  ·rw [if_pos hx];exact⟨by omega,fun _=>by omega⟩
  ·rw [if_neg hx]
   refine⟨by omega,fun h=> ?_⟩
   rcases List.mem_cons.1 h with h|h
   ·exact absurd h.symm hx
   ·have:=i2 h;omega
theorem vf:∀(xs:List Int),(∀k∈xs,cnt xs k=1)→xs.Nodup
 | [],_=>List.nodup_nil
 |x::xs,h=>by
  have e:∀n,cnt (x::xs) n=(if x=n then 1 else 0)+cnt xs n:=fun n=>by simp [cnt]
  have hx:x∉xs:=fun hm=>by
   have h1:=h x (List.mem_cons_self ..)
   rw [e,if_pos rfl]at h1
   have:=(CW xs x).2 hm
   omega
  refine List.nodup_cons.2 ⟨hx,vf xs fun k hk=> ?_⟩
  have h1:=h k (List.mem_cons_of_mem _ hk)
  rw [e,if_neg (fun hxk:x=k=>hx (by rw [hxk];exact hk))]at h1
  omega
theorem CA:∀(M:Nat)(xs:List Int),xs.Nodup→(∀k∈xs,1≤k∧k≤(M:Int))→xs.length≤M
 |0,xs,_,h=>by
  cases xs with
  |nil=>simp
  |cons x xs=>have:=h x (List.mem_cons_self ..);omega
 |M+1,xs,hn,h=>by
  have h1:=CA M (xs.erase ((M:Int)+1)) (hn.erase _) (fun k hk=>by
   have hk2:=(hn.mem_erase_iff).1 hk
   have:=h k hk2.2
   have hne:=hk2.1
   omega)
  by_cases hm:(M:Int)+1∈xs
  ·have h2:=List.length_erase_of_mem hm
   have:=List.length_pos_of_mem hm
   omega
  ·rw [List.erase_of_not_mem hm]at h1;omega
theorem AY{ns:List ak}(h:ei ns=true):ns.length≤12:=by
 simp only [ei,zqs,zqp]at h
 omega
theorem sC{ns:List ak}(h:ei ns=true){n:Int}{x:ak}(h1:1≤n)(hx:ns[(n-1).toNat]? =some x):x.kids.length≤12:=by
 have hk:=iT h h1 hx
 have hl:=AY h
 have h2:∀k∈x.kids,upN ns k=n:=fun k hkm=>by
  have h3:=h
  simp only [ei,zqs]at h3
  have:=(jx ns ns 0).1 h3.2 _ x hx
  simp only [fg,zqs,zqf,gC,zqp]at this
  have:=(this.2.2.2.1 k hkm).2
  omega
 have hnd:x.kids.Nodup:=vf _ fun k hkm=>by
  obtain⟨k1,k2,y,hy⟩:=bB (hk k hkm)
  have h3:=h
  simp only [ei,zqs]at h3
  have h4:=(jx ns ns 0).1 h3.2 _ y hy
  simp only [fg,zqs,Cq,Bool.or_eq_true,zqp]at h4
  have hu:y.up=n:=by have:=h2 k hkm;unfold upN at this;rw [hy]at this;exact this
  have h5:=h4.2.2.1
  rw [hu]at h5
  have h6:tH ns n=x.kids:=by simp only [tH,hx]
  rw [h6,show(0:Int)+(((k-1).toNat:Nat):Int)+1=k by omega]at h5
  rcases h5 with h5|h5
  ·omega
  ·exact h5
 have:=CA 12 x.kids hnd fun k hkm=>by
  obtain⟨k1,k2,y,hy⟩:=bB (hk k hkm)
  omega
 exact this
def uJ(x:aj):Int:=if 0≤x.most∧x.most<x.least then x.least else x.most
def pd(x:aj):Int:=if x.most<x.least then x.least else x.most
def rq(x:aj):Bool:=rng x.base 0 1048576&&(rng x.least 0 1048576&&(rng x.most (-1) 1048576&&(rng x.grow 0 1000&&(rng x.shrink 0 1000&&(rng x.before (-1048576) 1048576&&rng x.behind (-1048576) 1048576)))))
def dT(xs:List aj):Bool:=xs.all rq&&decide ((xs.length:Int)≤12)
def wgt(gr:Bool)(x:aj):Int:=if gr then x.grow else wrap64 (x.shrink*x.base)
def Aa(xs:List aj)(gap inner:Int):Bool:=decide (wrap64 (gR xs (xs.map hyp) gap)<inner)
def yO(ws:List Int):Bool:=ws.all (fun w=>rng w 0 1073741824)&&decide ((ws.length:Int)≤64)
def od:Int→List Int→Int
 |a,[]=>a
 |a,w::ws=>od (wrap64 (a+w)) ws
def shG(n all:Int):Int→List Int→List Int
 |_,[]=>[]
 |s,w::ws=>wrap64 (fdv (wrap64 (n*wrap64 (s+w))) all-fdv (wrap64 (n*s)) all)::shG n all (wrap64 (s+w)) ws
def shr(n:Int)(ws:List Int):List Int:=if yO ws then shG (sg n) (od 0 ws) 0 ws else []
theorem vY(n all:Int):∀(s:Int)(ws:List Int),(shG n all s ws).length=ws.length
 |_,[]=>rfl
 |s,w::ws=>by simp [shG,vY n all]
def itA(xs:List aj)(i:Int):aj:=xs[i.toNat]?.getD ⟨0,0,0,0,0,0,0,false,false⟩
def fre:Int→List Bool→List Int
 |_,[]=>[]
 |i,f::fs=>if f then fre (i+1) fs else i::fre (i+1) fs
def mix:List aj→List Bool→List Int→List Int
 |x::xs,f::fs,s::ss=>(if f then s else x.base)::mix xs fs ss
 |_,_,_=>[]
def ux(xs:List aj)(ss:List Int)(gap inner:Int)(gr:Bool):Int:=
 let n:=wrap64 (inner-wrap64 (gR xs ss gap))
 if(gr=true∧n<0)∨(gr=false∧0<n)then 0 else sg n
def tgt(gr:Bool)(all rest:Int)(x:aj):Int:=wrap64 (wrap64 (x.base*all)+wrap64 (rest*wgt gr x))
def o1(gr:Bool)(all rest:Int)(x:aj):Bool:=decide (tgt gr all rest x<wrap64 (x.least*all))
def tX(gr:Bool)(all rest:Int)(x:aj):Bool:=decide (0≤x.most)&&decide (wrap64 (pd x*all)<tgt gr all rest x)
def uw(gr:Bool)(all rest:Int)(v:Int)(x:aj):Int:=
 if o1 gr all rest x then wrap64 (v+wrap64 (wrap64 (x.least*all)-tgt gr all rest x))else if tX gr all rest x then wrap64 (v-wrap64 (tgt gr all rest x-wrap64 (pd x*all)))else v
def ovr(gr:Bool)(all rest:Int)(x:aj):Int:=
 if o1 gr all rest x then wrap64 (wrap64 (x.least*all)-tgt gr all rest x)else if 0≤x.most∧wrap64 (uJ x*all)<tgt gr all rest x then wrap64 (wrap64 (uJ x*all)-tgt gr all rest x)else 0
def oK(ps:List (Int×Int))(l:List Int):List Int:=ps.foldl (fun l p=>l.set p.1.toNat p.2) l
def oh(is:List Int)(l:List Bool):List Bool:=is.foldl (fun l i=>l.set i.toNat true) l
structure Fx where
 xs:List aj
 gap:Int
 inner:Int
 gr:Bool
def Fx.ws(X:Fx)(fr:List Bool):List Int:=(fre 0 fr).map fun i=>wgt X.gr (itA X.xs i)
def Fx.all(X:Fx)(fr:List Bool):Int:=od 0 (X.ws fr)
def Fx.low(X:Fx)(fr:List Bool)(rest:Int):List Int:=(fre 0 fr).filter fun i=>o1 X.gr (X.all fr) rest (itA X.xs i)
def Fx.hig(X:Fx)(fr:List Bool)(rest:Int):List Int:=(fre 0 fr).filter fun i=> !o1 X.gr (X.all fr) rest (itA X.xs i)&&tX X.gr (X.all fr) rest (itA X.xs i)
def Fx.vio(X:Fx)(fr:List Bool)(rest:Int):Int:=(fre 0 fr).foldl (fun v i=>uw X.gr (X.all fr) rest v (itA X.xs i)) 0
def Fx.shs(X:Fx)(fr:List Bool)(rest:Int):List (Int×Int):=((fre 0 fr).zip (shr rest (X.ws fr))).map fun p=>(p.1,cl (wrap64 ((itA X.xs p.1).base+p.2)))
def Fx.setI(X:Fx)(fr:List Bool)(rest:Int):List (Int×Int):=
 if X.low fr rest=[]∧X.hig fr rest=[]then X.shs fr rest
 else(if 0≤X.vio fr rest then(X.low fr rest).map fun i=>(i,(itA X.xs i).least)else [])++(if X.vio fr rest≤0 then(X.hig fr rest).map fun i=>(i,pd (itA X.xs i))else [])
def Fx.rI(X:Fx)(fr:List Bool)(sz:List Int):Int:=ux X.xs (mix X.xs fr sz) X.gap X.inner X.gr
def Fx.runI(X:Fx):Nat→List Int→List Bool→Option (List Int)
 |0,_,_=>none
 |k+1,sz,fr=>if fre 0 fr=[]then some sz else X.runI k (oK (X.setI fr (X.rI fr sz)) sz) (oh ((X.setI fr (X.rI fr sz)).map (·.1)) fr)
def Fx.ovs(X:Fx)(fr:List Bool)(rest:Int):List Int:=(fre 0 fr).map fun i=>ovr X.gr (X.all fr) rest (itA X.xs i)
def Fx.setS(X:Fx)(fr:List Bool)(rest:Int):List (Int×Int):=
 let some_:=(X.ovs fr rest).any fun o=>o !=0
 let sum:=od 0 (X.ovs fr rest)
 ((fre 0 fr).zip ((X.ovs fr rest).zip (shr rest (X.ws fr)))).filterMap fun p=>
  if some_=false then some (p.1,cl (wrap64 ((itA X.xs p.1).base+p.2.2)))
  else if 0<p.2.1∧0≤sum then some (p.1,(itA X.xs p.1).least)
  else if p.2.1<0∧sum≤0 then some (p.1,uJ (itA X.xs p.1))else none
def Fx.runS(X:Fx):Nat→List Int→List Bool→Option (List Int)
 |0,_,_=>none
 |k+1,sz,fr=>if fre 0 fr=[]then some sz else X.runS k (oK (X.setS fr (ux X.xs sz X.gap X.inner X.gr)) sz) (oh ((X.setS fr (ux X.xs sz X.gap X.inner X.gr)).map (·.1)) fr)
theorem zI:∀(xs:List aj)(fr:List Bool)(sz:List Int),fr.length=xs.length→sz.length=xs.length→(mix xs fr sz).length=xs.length
 | [],_,_,_,_=>rfl
 |x::xs,f::fs,s::ss,h1,h2=>by simp only [mix,zqx];rw [zI xs fs ss (by simpa using h1) (by simpa using h2)]
 |_::_,[],_,h,_=>by simp at h
 |_::_,_::_,[],_,h=>by simp at h
theorem zH:∀(xs:List aj)(fr:List Bool)(sz:List Int)(j:Nat)(v:Int),fr.length=xs.length→sz.length=xs.length→mix xs (fr.set j true) (sz.set j v)=(mix xs fr sz).set j v
 | [],_,_,_,_,_,_=>by simp [mix]
 |x::xs,f::fs,s::ss,0,v,h1,h2=>by simp [mix]
 |x::xs,f::fs,s::ss,j+1,v,h1,h2=>by simp only [List.set_cons_succ,mix];rw [zH xs fs ss j v (by simpa using h1) (by simpa using h2)]
 |_::_,[],_,_,_,h,_=>by simp at h
 |_::_,_::_,[],_,_,_,h=>by simp at h
theorem mN:∀(ps:List (Int×Int))(l:List Int),(oK ps l).length=l.length
 | [],_=>rfl
 |p::ps,l=>by show(oK ps _).length=_;rw [mN ps];simp
theorem mO:∀(ps:List Int)(l:List Bool),(oh ps l).length=l.length
 | [],_=>rfl
 |p::ps,l=>by show(oh ps _).length=_;rw [mO ps];simp
theorem xr(xs:List aj):∀(ps:List (Int×Int))(fr:List Bool)(sz:List Int),fr.length=xs.length→sz.length=xs.length→mix xs (oh (ps.map (·.1)) fr) (oK ps sz)=oK ps (mix xs fr sz)
 | [],_,_,_,_=>rfl
 |p::ps,fr,sz,h1,h2=>by
  show mix xs (oh (ps.map (·.1)) (fr.set p.1.toNat true)) (oK ps (sz.set p.1.toNat p.2))=oK ps ((mix xs fr sz).set p.1.toNat p.2)
  rw [xr xs ps _ _ (by simpa using h1) (by simpa using h2),zH xs fr sz _ _ h1 h2]
theorem xt:∀(xs:List aj)(fr:List Bool)(sz:List Int)(i:Int),fr.length=xs.length→sz.length=xs.length→fre i fr=[]→mix xs fr sz=sz
 | [],_,[],_,_,_,_=>rfl
 | [],_,_::_,_,_,h,_=>by simp at h
 |x::xs,f::fs,s::ss,i,h1,h2,h3=>by
  simp only [fre]at h3
  cases f with
  |false=>simp at h3
  |true=>
   simp only [if_true]at h3
   simp only [mix,if_true]
   rw [xt xs fs ss (i+1) (by simpa using h1) (by simpa using h2) h3]
 |_::_,[],_,_,h,_,_=>by simp at h
 |_::_,_::_,[],_,_,h,_=>by simp at h
theorem gG:∀(fr:List Bool)(i:Int),0≤i→∀j∈fre i fr,i≤j∧j<i+fr.length∧fr[(j-i).toNat]? =some false
 | [],_,_,j,h=>by simp [fre]at h
 |f::fs,i,h0,j,h=>by
  have key:j∈fre (i+1) fs→i≤j∧j<i+(f::fs).length∧(f::fs)[(j-i).toNat]? =some false:=fun h=>by
   have:=gG fs (i+1) (by omega) j h
   simp only [zqx]
   refine⟨by omega,by omega,?_⟩
   rw [show(j-i).toNat=(j-(i+1)).toNat+1 by omega]
   exact this.2.2
  simp only [fre]at h
  cases f with
  |true=>exact key (by simpa using h)
  |false=>
   simp only [Bool.false_eq_true,if_false,List.mem_cons]at h
   rcases h with rfl|h
   ·exact⟨Int.le_refl _,by simp;omega,by simp⟩
   ·exact key h
theorem ua:∀(fr:List Bool)(i:Int),0≤i→(fre i fr).Pairwise (·< ·)
 | [],_,_=> .nil
 |f::fs,i,h0=>by
  simp only [fre]
  cases f with
  |true=>simpa using ua fs (i+1) (by omega)
  |false=>
   simp only [Bool.false_eq_true,if_false]
   exact .cons (fun j hj=>by have:=gG fs (i+1) (by omega) j hj;omega) (ua fs (i+1) (by omega))
theorem zc{ps qs:List (Int×Int)}(hp:ps.Perm qs):(ps.Pairwise fun a b=>a.1.toNat≠b.1.toNat)→∀l,oK ps l=oK qs l:=by
 induction hp with
 |nil=>intro _ _;rfl
 |cons x _ ih=>intro h l;cases h with|cons h1 h2=>exact ih h2 _
 |swap x y l0=>
  intro h l
  cases h with
  |cons h1 h2=>
   have hne:y.1.toNat≠x.1.toNat:=h1 x (by simp)
   show oK l0 ((l.set _ _).set _ _)=oK l0 ((l.set _ _).set _ _)
   rw [List.set_comm _ _ hne]
 |trans h1 _ ih1 ih2=>intro h l;rw [ih1 h l,ih2 (h1.pairwise h fun hab=>Ne.symm hab) l]
theorem ze{ps qs:List Int}(hp:ps.Perm qs):∀l,oh ps l=oh qs l:=by
 induction hp with
 |nil=>intro _;rfl
 |cons x _ ih=>intro l;exact ih _
 |swap x y l0=>
  intro l
  show oh l0 ((l.set _ _).set _ _)=oh l0 ((l.set _ _).set _ _)
  by_cases h:x.toNat=y.toNat
  ·rw [h]
  ·rw [List.set_comm _ _ (Ne.symm h)]
 |trans h1 _ ih1 ih2=>intro l;rw [ih1,ih2]
theorem wN{α β:Type}(p q:α→Bool)(f g:α→β):∀(l:List α),((l.filter p).map f++(l.filter fun a=> !p a&&q a).map g).Perm (l.filterMap fun a=>if p a then some (f a)else if q a then some (g a)else none)
 | []=> .nil
 |a::l=>by
  have ih:=wN p q f g l
  simp only [List.filter_cons,List.filterMap_cons]
  cases p a with
  |true=>simpa using ih
  |false=>
   cases q a with
   |true=>simp only [Bool.false_eq_true,if_false,Bool.not_false,Bool.and_self,if_true,zqA];exact(List.perm_middle).trans (.cons _ ih)
   |false=>simpa using ih
structure ItB(x:aj):Prop where
 b0:0≤x.base
 b1:x.base≤1048576
 l0:0≤x.least
 l1:x.least≤1048576
 m0: -1≤x.most
 m1:x.most≤1048576
 g0:0≤x.grow
 g1:x.grow≤1000
 s0:0≤x.shrink
 s1:x.shrink≤1000
 f0: -1048576≤x.before
 f1:x.before≤1048576
 h0: -1048576≤x.behind
 h1:x.behind≤1048576
theorem ItB.of{x:aj}(h:rq x=true):ItB x:=by
 simp only [rq,rng,zqs,zqp]at h
 constructor<;>omega
theorem er{xs:List aj}(h:dT xs=true):(∀x∈xs,ItB x)∧xs.length≤12:=by
 simp only [dT,zqs,zqp,zqf]at h
 exact⟨fun x hx=> .of (h.1 x hx),by omega⟩
theorem zY{xs:List aj}(h:∀x∈xs,ItB x)(i:Int):ItB (itA xs i):=by
 unfold itA
 cases hx:xs[i.toNat]? with
 |none=>constructor<;>decide
 |some x=>exact h x (zqd hx)
theorem r6{a b A B:Int}(h0:0≤a)(h1:a≤A)(h2:0≤b)(h3:b≤B):0≤a*b∧a*b≤A*B:=⟨Int.mul_nonneg h0 h2,Int.mul_le_mul h1 h3 h2 (by omega)⟩
theorem Ex{a b A B:Int}(h0: -A≤a)(h1:a≤A)(h2:0≤b)(h3:b≤B): -(A*B)≤a*b∧a*b≤A*B:=by
 have hA:0≤A:=by omega
 rcases Int.le_total 0 a with h|h
 ·have:=r6 h h1 h2 h3
  have:=Int.mul_nonneg hA (show 0≤B by omega)
  omega
 ·have:=r6 (show 0≤ -a by omega) (show-a≤A by omega) h2 h3
  rw [Int.neg_mul]at this
  have:=Int.mul_nonneg hA (show 0≤B by omega)
  omega
theorem Cj{x:aj}(h:ItB x)(gr:Bool):0≤wgt gr x∧wgt gr x≤1048576000∧(gr=false→wgt gr x=x.shrink*x.base):=by
 obtain⟨h1,h2⟩:=r6 h.s0 h.s1 h.b0 h.b1
 have:=h.g0
 have:=h.g1
 cases gr with
 |true=>exact⟨by simp only [wgt,if_true];omega,by simp only [wgt,if_true];omega,fun h=>by cases h⟩
 |false=>
  simp only [wgt,Bool.false_eq_true,if_false]
  have:wrap64 (x.shrink*x.base)=x.shrink*x.base:=by unfold wrap64;omega
  rw [this];omega
theorem vQ:∀(ws:List Int)(a:Int)(k:Nat),(∀w∈ws,-144115188075855872≤w∧w≤144115188075855872)→ -(144115188075855872*(k:Int))≤a→a≤144115188075855872*(k:Int)→k+ws.length≤24→od a ws=a+ws.sum
 | [],a,k,_,_,_,_=>by simp [od]
 |w::ws,a,k,h,h0,h1,h2=>by
  have hw:=h w (by simp)
  simp only [zqx]at h2
  have hk:(k:Int)≤23:=by omega
  have e:wrap64 (a+w)=a+w:=by unfold wrap64;omega
  rw [od,e,vQ ws (a+w) (k+1) (fun x hx=>h x (by simp [hx])) (by omega) (by omega) (by omega),List.sum_cons]
  omega
theorem Cr:∀(ws:List Int),(∀w∈ws,0≤w∧w≤1048576000)→0≤ws.sum∧ws.sum≤1048576000*(ws.length:Int)
 | [],_=>by simp
 |w::ws,h=>by
  have:=Cr ws (fun x hx=>h x (by simp [hx]))
  have:=h w (by simp)
  simp only [List.sum_cons,zqx]
  omega
theorem jy:∀(fr:List Bool)(i:Int),(fre i fr).length≤fr.length
 | [],_=>by simp [fre]
 |f::fs,i=>by
  have:=jy fs (i+1)
  cases f<;>simp [fre]<;>omega
section
variable {X : Fx} (hX : dT X.xs = true)
include hX
theorem Fx.ws_bd(fr:List Bool):∀w∈X.ws fr,0≤w∧w≤1048576000:=by
 intro w hw
 simp only [Fx.ws,List.mem_map]at hw
 obtain⟨i,_,rfl⟩:=hw
 have:=Cj (zY (er hX).1 i) X.gr
 omega
theorem Fx.all_eq{fr:List Bool}(hf:fr.length=X.xs.length):X.all fr=(X.ws fr).sum∧0≤X.all fr∧X.all fr≤12582912000:=by
 have h1:=X.ws_bd hX fr
 have h2:=Cr _ h1
 have h3:=(er hX).2
 have h4:(X.ws fr).length≤12:=by have:=jy fr 0;simp only [Fx.ws,zql];omega
 have e:X.all fr=(X.ws fr).sum:=by
  rw [Fx.all,vQ _ 0 0 (fun w hw=>by have:=h1 w hw;omega) (by omega) (by omega) (by omega)];omega
 rw [e];omega
theorem Fx.shr_len{fr:List Bool}(hf:fr.length=X.xs.length)(rest:Int):(shr rest (X.ws fr)).length=(fre 0 fr).length:=by
 have h1:=X.ws_bd hX fr
 have h3:=(er hX).2
 have h4:(X.ws fr).length≤12:=by have:=jy fr 0;simp only [Fx.ws,zql];omega
 have:yO (X.ws fr)=true:=by
  simp only [yO,rng,zqs,zqp,zqf]
  exact⟨fun w hw=>by have:=h1 w hw;omega,by omega⟩
 rw [shr,if_pos this,vY]
 simp [Fx.ws]
end
theorem vc{x:aj}(h:ItB x)(gr:Bool){A rest:Int}(h0:0≤A)(h1:A≤12582912000)(h2: -1048576≤rest)(h3:rest≤1048576):
  (o1 gr A rest x=true↔0<ovr gr A rest x)∧((!o1 gr A rest x&&tX gr A rest x)=true↔ovr gr A rest x<0)∧(-144115188075855872≤ovr gr A rest x∧ovr gr A rest x≤144115188075855872)∧
  (tX gr A rest x=true→uJ x=pd x)∧∀v:Int,-9223372036854775808≤v→v≤9223372036854775807→uw gr A rest v x=wrap64 (v+ovr gr A rest x):=by
 have hw:=Cj h gr
 obtain⟨b1,b2⟩:=r6 h.b0 h.b1 h0 h1
 obtain⟨c1,c2⟩:=r6 h.l0 h.l1 h0 h1
 obtain⟨d1,d2⟩:=Ex h2 h3 hw.1 hw.2.1
 have hu0:0≤pd x:=by have:=h.l0;unfold pd;split<;>omega
 have hu1:pd x≤1048576:=by have:=h.l1;have:=h.m1;unfold pd;split<;>omega
 obtain⟨e1,e2⟩:=r6 hu0 hu1 h0 h1
 have et:tgt gr A rest x=x.base*A+rest*wgt gr x:=by
  unfold tgt
  rw [show wrap64 (x.base*A)=x.base*A by unfold wrap64;omega,show wrap64 (rest*wgt gr x)=rest*wgt gr x by unfold wrap64;omega]
  unfold wrap64;omega
 have el:wrap64 (x.least*A)=x.least*A:=by unfold wrap64;omega
 have eu:wrap64 (pd x*A)=pd x*A:=by unfold wrap64;omega
 have hUS:0≤x.most→uJ x=pd x:=fun hm=>by unfold uJ pd;split<;>split<;>omega
 obtain⟨t,ht⟩:=nmE (tgt gr A rest x)
 have ht1: -14000000000000000≤t:=by rw [ht,et];omega
 have ht2:t≤16000000000000000:=by rw [ht,et];omega
 obtain⟨lo,hlo⟩:=nmE (x.least*A)
 obtain⟨hi,hhi⟩:=nmE (pd x*A)
 have hlb:o1 gr A rest x=decide (t<lo):=by unfold o1;rw [el,←ht,←hlo]
 have hhb:tX gr A rest x=(decide (0≤x.most)&&decide (hi<t)):=by unfold tX;rw [eu,←ht,←hhi]
 have hov:ovr gr A rest x=if t<lo then lo-t else if 0≤x.most∧hi<t then hi-t else 0:=by
  unfold ovr
  rw [hlb,el,←ht,←hlo]
  simp only [zqp]
  by_cases h1:t<lo
  ·rw [if_pos h1,if_pos h1];unfold wrap64;omega
  ·rw [if_neg h1,if_neg h1]
   by_cases hm:0≤x.most
   ·rw [hUS hm,eu,←hhi]
    by_cases h2:hi<t
    ·rw [if_pos ⟨hm,h2⟩,if_pos ⟨hm,h2⟩];unfold wrap64;omega
    ·rw [if_neg (by omega),if_neg (by omega)]
   ·rw [if_neg (by omega),if_neg (by omega)]
 refine⟨?_,?_,?_,?_,?_⟩
 ·rw [hlb,hov,zqp];split<;>(try split)<;>omega
 ·rw [hlb,hhb,hov]
  simp only [zqs,Bool.not_eq_true',zqp,zqo]
  split<;>(try split)<;>omega
 ·rw [hov];split<;>(try split)<;>omega
 ·rw [hhb];simp only [zqs,zqp];exact fun h=>hUS h.1
 ·intro v v0 v1
  unfold uw
  rw [hlb,hhb,hov,el,eu,←ht,←hlo,←hhi]
  simp only [zqs,zqp]
  split
  ·unfold wrap64;omega
  ·split
   ·unfold wrap64;omega
   ·unfold wrap64;omega
theorem Cl{gr:Bool}{A rest:Int}(h0:0≤A)(h1:A≤12582912000)(h2: -1048576≤rest)(h3:rest≤1048576){xs:List aj}(hx:∀x∈xs,ItB x):∀(is:List Int)(v:Int)(k:Nat),-(144115188075855872*(k:Int))≤v→v≤144115188075855872*(k:Int)→k+is.length≤24→
  is.foldl (fun v i=>uw gr A rest v (itA xs i)) v=v+(is.map fun i=>ovr gr A rest (itA xs i)).sum
 | [],v,k,_,_,_=>by simp
 |i::is,v,k,g0,g1,g2=>by
  obtain⟨_,_,hb,_,hv⟩:=vc (zY hx i) gr h0 h1 h2 h3
  simp only [zqx]at g2
  have hk:(k:Int)≤23:=by omega
  rw [List.foldl_cons,hv v (by omega) (by omega)]
  have e:wrap64 (v+ovr gr A rest (itA xs i))=v+ovr gr A rest (itA xs i):=by unfold wrap64;omega
  rw [e,Cl h0 h1 h2 h3 hx is _ (k+1) (by omega) (by omega) (by omega),zqA,List.sum_cons]
  omega
theorem Em(n:Int): -1048576≤sg n∧sg n≤1048576:=by unfold sg bro;split<;>(try split)<;>omega
theorem Cx(xs:List aj)(ss:List Int)(gap inner:Int)(gr:Bool): -1048576≤ux xs ss gap inner gr∧ux xs ss gap inner gr≤1048576:=by
 simp only [ux]
 split
 ·omega
 ·exact Em _
theorem yW:∀(l:List Int),(∀x∈l,x≤0)→l.sum≤0∧((∃x∈l,x<0)→l.sum<0)
 | [],_=>by simp
 |x::l,h=>by
  obtain⟨h1,h2⟩:=yW l (fun y hy=>h y (by simp [hy]))
  have:=h x (by simp)
  simp only [List.sum_cons]
  refine⟨by omega,fun⟨y,hy,hn⟩=> ?_⟩
  rcases List.mem_cons.1 hy with rfl|hy
  ·omega
  ·have:=h2 ⟨y,hy,hn⟩;omega
theorem yV:∀(l:List Int),(∀x∈l,0≤x)→0≤l.sum∧((∃x∈l,0<x)→0<l.sum)
 | [],_=>by simp
 |x::l,h=>by
  obtain⟨h1,h2⟩:=yV l (fun y hy=>h y (by simp [hy]))
  have:=h x (by simp)
  simp only [List.sum_cons]
  refine⟨by omega,fun⟨y,hy,hn⟩=> ?_⟩
  rcases List.mem_cons.1 hy with rfl|hy
  ·omega
  ·have:=h2 ⟨y,hy,hn⟩;omega
theorem o6{α β:Type}{f g:α→Option β}:∀{l:List α},(∀a∈l,f a=g a)→l.filterMap f=l.filterMap g
 | [],_=>rfl
 |a::l,h=>by simp only [List.filterMap_cons];rw [h a (by simp),o6 fun b hb=>h b (by simp [hb])]
theorem Fx.keys_sub(X:Fx)(fr:List Bool)(rest:Int):((X.setS fr rest).map (·.1)).Sublist (fre 0 fr):=by
 have key:∀(l:List Int)(q:List (Int×Int))(F:Int×Int×Int→Option (Int×Int)),(∀p r,F p=some r→r.1=p.1)→(((l.zip q).filterMap F).map (·.1)).Sublist l:=by
  intro l
  induction l with
  |nil=>intro q F _;simp
  |cons a l ih=>
   intro q F hF
   cases q with
   |nil=>simp
   |cons b q=>
    simp only [List.zip_cons_cons,List.filterMap_cons]
    cases hb:F (a,b)with
    |none=>exact(ih q F hF).cons _
    |some r=>
     simp only [zqA]
     rw [hF _ _ hb]
     exact(ih q F hF).cons_cons _
 refine key _ _ _ fun p r hp=> ?_
 split at hp
 ·cases hp;rfl
 ·split at hp
  ·cases hp;rfl
  ·split at hp
   ·cases hp;rfl
   ·cases hp
section
variable {X : Fx} (hX : dT X.xs = true) {fr : List Bool} (hf : fr.length = X.xs.length) {rest : Int} (hr0 : -1048576 ≤ rest) (hr1 : rest ≤ 1048576)
include hX hf hr0 hr1
theorem Fx.facts(i:Int):(o1 X.gr (X.all fr) rest (itA X.xs i)=true↔0<ovr X.gr (X.all fr) rest (itA X.xs i))∧((!o1 X.gr (X.all fr) rest (itA X.xs i)&&tX X.gr (X.all fr) rest (itA X.xs i))=true↔ovr X.gr (X.all fr) rest (itA X.xs i)<0)∧
  (-144115188075855872≤ovr X.gr (X.all fr) rest (itA X.xs i)∧ovr X.gr (X.all fr) rest (itA X.xs i)≤144115188075855872)∧(tX X.gr (X.all fr) rest (itA X.xs i)=true→uJ (itA X.xs i)=pd (itA X.xs i))∧
  ∀v:Int,-9223372036854775808≤v→v≤9223372036854775807→uw X.gr (X.all fr) rest v (itA X.xs i)=wrap64 (v+ovr X.gr (X.all fr) rest (itA X.xs i)):=vc (zY (er hX).1 i) X.gr (X.all_eq hX hf).2.1 (X.all_eq hX hf).2.2 hr0 hr1
theorem Fx.ovs_eq:od 0 (X.ovs fr rest)=(X.ovs fr rest).sum∧X.vio fr rest=(X.ovs fr rest).sum:=by
 have h3:=(er hX).2
 have h4:=jy fr 0
 constructor
 ·rw [vQ _ 0 0 (fun w hw=> ?_) (by omega) (by omega) (by simp only [Fx.ovs,zql];omega)]
  ·omega
  ·simp only [Fx.ovs,List.mem_map]at hw
   obtain⟨i,_,rfl⟩:=hw
   exact(X.facts hX hf hr0 hr1 i).2.2.1
 ·rw [Fx.vio,Cl (X.all_eq hX hf).2.1 (X.all_eq hX hf).2.2 hr0 hr1 (er hX).1 _ 0 0 (by omega) (by omega) (by omega),Fx.ovs]
  omega
theorem Fx.some_iff:((X.ovs fr rest).any fun o=>o !=0)=false↔(X.low fr rest=[]∧X.hig fr rest=[]):=by
 rw [List.any_eq_false]
 simp only [Fx.ovs,Fx.low,Fx.hig,List.mem_map,bne_iff_ne,ne_eq,Decidable.not_not,List.filter_eq_nil_iff]
 constructor
 ·intro h
  refine⟨fun i hi hl=> ?_,fun i hi hl=> ?_⟩
  ·have:=(X.facts hX hf hr0 hr1 i).1.1 hl
   have:=h _ ⟨i,hi,rfl⟩
   omega
  ·have:=(X.facts hX hf hr0 hr1 i).2.1.1 hl
   have:=h _ ⟨i,hi,rfl⟩
   omega
 ·rintro⟨h1,h2⟩ o ⟨i,hi,rfl⟩
  have f:=X.facts hX hf hr0 hr1 i
  rcases Int.lt_trichotomy (ovr X.gr (X.all fr) rest (itA X.xs i)) 0 with h|h|h
  ·exact absurd (f.2.1.2 h) (h2 i hi)
  ·exact h
  ·exact absurd (f.1.2 h) (h1 i hi)
theorem Fx.set_perm:(X.setI fr rest).Perm (X.setS fr rest):=by
 obtain⟨hs1,hs2⟩:=X.ovs_eq hX hf hr0 hr1
 have hlen:=X.shr_len hX hf rest
 obtain⟨sh,hsh⟩:=nmE (shr rest (X.ws fr))
 rw [←hsh]at hlen
 unfold Fx.setI
 split
 ·rename_i h
  have hso:=(X.some_iff hX hf hr0 hr1).2 h
  simp only [Fx.setS,Fx.shs,hso,if_true,←hsh]
  have key:∀(l:List Int)(o s:List Int),o.length=l.length→s.length=l.length→(l.zip s).map (fun p=>(p.1,cl (wrap64 ((itA X.xs p.1).base+p.2))))=(l.zip (o.zip s)).filterMap fun p=>some (p.1,cl (wrap64 ((itA X.xs p.1).base+p.2.2))):=by
   intro l
   induction l with
   |nil=>intro o s _ _;simp
   |cons a l ih=>
    intro o s h1 h2
    match o,s,h1,h2 with
    |o0::o,s0::s,h1,h2=>simp only [List.zip_cons_cons,zqA,List.filterMap_cons];rw [ih o s (by simpa using h1) (by simpa using h2)]
    | [],_,h1,_=>simp at h1
    |_::_,[],_,h2=>simp at h2
  rw [key (fre 0 fr) (X.ovs fr rest) sh (by simp [Fx.ovs]) hlen]
 ·rename_i h
  have hso:((X.ovs fr rest).any fun o=>o !=0)=true:=by
   cases hc:(X.ovs fr rest).any fun o=>o !=0
   ·exact absurd ((X.some_iff hX hf hr0 hr1).1 hc) h
   ·rfl
  simp only [Fx.setS,hso,←hsh]
  rw [hs1,←hs2]
  have key:∀(l:List Int)(s:List Int)(F:Int→Int→Option (Int×Int))(G:Int→Int),s.length=l.length→(l.zip ((l.map G).zip s)).filterMap (fun p=>F p.1 p.2.1)=l.filterMap fun i=>F i (G i):=by
   intro l
   induction l with
   |nil=>intro s F G _;simp
   |cons a l ih=>
    intro s F G h1
    match s,h1 with
    |s0::s,h1=>simp only [zqA,List.zip_cons_cons,List.filterMap_cons];rw [ih s F G (by simpa using h1)]
    | [],h1=>simp at h1
  have k2:=key (fre 0 fr) sh (fun i o=>if 0<o∧0≤X.vio fr rest then some (i,(itA X.xs i).least)else if o<0∧X.vio fr rest≤0 then some (i,uJ (itA X.xs i))else none) (fun i=>ovr X.gr (X.all fr) rest (itA X.xs i)) hlen
  simp only [Bool.true_eq_false,if_false]
  rw [show X.ovs fr rest=(fre 0 fr).map fun i=>ovr X.gr (X.all fr) rest (itA X.xs i)from rfl,k2]
  have tp:=wN (fun i=>o1 X.gr (X.all fr) rest (itA X.xs i)) (fun i=>tX X.gr (X.all fr) rest (itA X.xs i)) (fun i=>(i,(itA X.xs i).least)) (fun i=>(i,pd (itA X.xs i))) (fre 0 fr)
  rcases Int.lt_trichotomy (X.vio fr rest) 0 with hv|hv|hv
  ·rw [if_neg (by omega),if_pos (by omega),List.nil_append,Fx.hig]
   refine .of_eq ?_
   rw [←List.filterMap_eq_map,List.filterMap_filter]
   refine o6 fun i hi=> ?_
   obtain⟨f1,f2,_,f4,_⟩:=X.facts hX hf hr0 hr1 i
   clear k2 tp key hsh hso h hlen hs1 hs2
   grind
  ·rw [if_pos (by omega),if_pos (by omega)]
   refine tp.trans (.of_eq (o6 fun i hi=> ?_))
   obtain⟨f1,f2,_,f4,_⟩:=X.facts hX hf hr0 hr1 i
   clear k2 tp key hsh hso h hlen hs1 hs2
   grind
  ·rw [if_pos (by omega),if_neg (by omega),List.append_nil,Fx.low]
   refine .of_eq ?_
   rw [←List.filterMap_eq_map,List.filterMap_filter]
   refine o6 fun i hi=> ?_
   obtain⟨f1,f2,_,f4,_⟩:=X.facts hX hf hr0 hr1 i
   clear k2 tp key hsh hso h hlen hs1 hs2
   grind
theorem Fx.keys_ne(hne:fre 0 fr≠[]):X.setI fr rest≠[]:=by
 obtain⟨hs1,hs2⟩:=X.ovs_eq hX hf hr0 hr1
 have hlen:=X.shr_len hX hf rest
 unfold Fx.setI
 split
 ·rename_i h
  intro hc
  rw [Fx.shs,List.map_eq_nil_iff]at hc
  have:(List.zip (fre 0 fr) (shr rest (X.ws fr))).length=0:=by rw [hc];rfl
  rw [zqB,hlen,Nat.min_self]at this
  exact hne (zqv this)
 ·rename_i h
  intro hc
  rw [List.append_eq_nil_iff]at hc
  obtain⟨hc1,hc2⟩:=hc
  have hlow:0≤X.vio fr rest→X.low fr rest=[]:=fun hv=>by rw [if_pos hv]at hc1;simpa using hc1
  have hhig:X.vio fr rest≤0→X.hig fr rest=[]:=fun hv=>by rw [if_pos hv]at hc2;simpa using hc2
  rcases Int.lt_trichotomy (X.vio fr rest) 0 with hv|hv|hv
  ·have h1:=hhig (by omega)
   have:0≤(X.ovs fr rest).sum:=(yV _ fun o ho=>by
    simp only [Fx.ovs,List.mem_map]at ho
    obtain⟨i,hi,rfl⟩:=ho
    have f:=X.facts hX hf hr0 hr1 i
    have hn:¬ovr X.gr (X.all fr) rest (itA X.xs i)<0:=fun hc=>by
     have:=f.2.1.2 hc
     have hm:i∈X.hig fr rest:=by rw [Fx.hig,List.mem_filter];exact⟨hi,this⟩
     rw [h1]at hm;cases hm
    omega).1
   omega
  ·exact h ⟨hlow (by omega),hhig (by omega)⟩
  ·have h1:=hlow (by omega)
   have:(X.ovs fr rest).sum≤0:=(yW _ fun o ho=>by
    simp only [Fx.ovs,List.mem_map]at ho
    obtain⟨i,hi,rfl⟩:=ho
    have f:=X.facts hX hf hr0 hr1 i
    have hn:¬0<ovr X.gr (X.all fr) rest (itA X.xs i):=fun hc=>by
     have:=f.1.2 hc
     have hm:i∈X.low fr rest:=by rw [Fx.low,List.mem_filter];exact⟨hi,this⟩
     rw [h1]at hm;cases hm
    omega).1
   omega
end
theorem wv:∀(fr:List Bool)(i j:Int),0≤i→(fre i (fr.set (j-i).toNat true)).length≤(fre i fr).length∧(j∈fre i fr→(fre i (fr.set (j-i).toNat true)).length<(fre i fr).length)
 | [],_,_,_=>by simp [fre]
 |f::fs,i,j,h0=>by
  by_cases hj:j≤i
  ·rw [show(j-i).toNat=0 by omega,List.set_cons_zero]
   have hnm:∀k∈fre (i+1) fs,i<k:=fun k hk=>by have:=gG fs (i+1) (by omega) k hk;omega
   cases f with
   |true=>
    simp only [fre,if_true]
    exact⟨Nat.le_refl _,fun hm=>by have:=hnm j hm;omega⟩
   |false=>simp only [fre,if_true,Bool.false_eq_true,if_false,zqx];exact⟨by omega,fun _=>by omega⟩
  ·obtain⟨ih1,ih2⟩:=wv fs (i+1) j (by omega)
   rw [show(j-i).toNat=(j-(i+1)).toNat+1 by omega,List.set_cons_succ]
   cases f with
   |true=>simp only [fre,if_true];exact⟨ih1,ih2⟩
   |false=>
    simp only [fre,Bool.false_eq_true,if_false,zqx,List.mem_cons]
    refine⟨by omega,fun hm=> ?_⟩
    rcases hm with hm|hm
    ·omega
    ·have:=ih2 hm;omega
theorem xB:∀(is:List Int)(fr:List Bool),(fre 0 (oh is fr)).length≤(fre 0 fr).length
 | [],_=>Nat.le_refl _
 |i::is,fr=>by
  have h1:=xB is (fr.set i.toNat true)
  have h2:=(wv fr 0 i (by omega)).1
  rw [Int.sub_zero]at h2
  exact Nat.le_trans h1 h2
section
variable {X : Fx} (hX : dT X.xs = true)
include hX
theorem Fx.run_eq:∀(k:Nat)(sz:List Int)(fr:List Bool),fr.length=X.xs.length→sz.length=X.xs.length→X.runS k (mix X.xs fr sz) fr=X.runI k sz fr
 |0,_,_,_,_=>rfl
 |k+1,sz,fr,h1,h2=>by
  unfold Fx.runS Fx.runI
  by_cases hn:fre 0 fr=[]
  ·rw [if_pos hn,if_pos hn,xt _ _ _ 0 h1 h2 hn]
  ·rw [if_neg hn,if_neg hn]
   have hr:X.rI fr sz=ux X.xs (mix X.xs fr sz) X.gap X.inner X.gr:=rfl
   obtain⟨r,hr'⟩:=nmE (ux X.xs (mix X.xs fr sz) X.gap X.inner X.gr)
   rw [hr,←hr']
   have hb:=Cx X.xs (mix X.xs fr sz) X.gap X.inner X.gr
   rw [←hr']at hb
   have hp:=X.set_perm hX h1 hb.1 hb.2
   have hk:=X.keys_sub fr r
   have hpw:(X.setS fr r).Pairwise fun a b=>a.1.toNat≠b.1.toNat:=by
    have:=((ua fr 0 (by omega)).sublist hk)
    rw [List.pairwise_map]at this
    have hm:∀a∈X.setS fr r,0≤a.1:=fun a ha=>(gG fr 0 (by omega) a.1 (hk.mem (List.mem_map.2 ⟨a,ha,rfl⟩))).1
    refine this.imp_of_mem fun{a b} ha hb hab=> ?_
    have:=hm a ha
    have:=hm b hb
    omega
   have e1:∀l,oK (X.setS fr r) l=oK (X.setI fr r) l:=fun l=>zc hp.symm hpw l
   have e2:oh ((X.setS fr r).map (·.1)) fr=oh ((X.setI fr r).map (·.1)) fr:=ze (hp.symm.map _) fr
   rw [e1,e2,←xr X.xs (X.setI fr r) fr sz h1 h2]
   exact Fx.run_eq k _ _ (by rw [mO];exact h1) (by rw [mN];exact h2)
theorem Fx.run_some:∀(k:Nat)(sz:List Int)(fr:List Bool),fr.length=X.xs.length→(fre 0 fr).length<k→∃r,X.runI k sz fr=some r∧r.length=sz.length
 |0,_,_,_,h=>absurd h (Nat.not_lt_zero _)
 |k+1,sz,fr,h1,h2=>by
  unfold Fx.runI
  by_cases hn:fre 0 fr=[]
  ·rw [if_pos hn];exact⟨sz,rfl,rfl⟩
  ·rw [if_neg hn]
   have hb:=Cx X.xs (mix X.xs fr sz) X.gap X.inner X.gr
   have hne:=X.keys_ne hX h1 hb.1 hb.2 hn
   have hp:=X.set_perm hX h1 hb.1 hb.2
   have hk:=X.keys_sub fr (ux X.xs (mix X.xs fr sz) X.gap X.inner X.gr)
   obtain⟨r,hr⟩:=nmE (X.rI fr sz)
   have hrr:ux X.xs (mix X.xs fr sz) X.gap X.inner X.gr=r:=hr.symm
   rw [hrr]at hne hp hk
   rw [←hr]
   have hlt:(fre 0 (oh ((X.setI fr r).map (·.1)) fr)).length<(fre 0 fr).length:=by
    match hs:X.setI fr r,hne with
    |p::ps,_=>
     rw [hs]at hp
     have hm:p.1∈fre 0 fr:=hk.mem (List.mem_map.2 ⟨p,hp.mem_iff.1 (by simp),rfl⟩)
     have h3:=(wv fr 0 p.1 (by omega)).2 hm
     rw [Int.sub_zero]at h3
     exact Nat.lt_of_le_of_lt (xB (ps.map (·.1)) (fr.set p.1.toNat true)) h3
   obtain⟨q,hq1,hq2⟩:=Fx.run_some k (oK (X.setI fr r) sz) (oh ((X.setI fr r).map (·.1)) fr) (by rw [mO];exact h1) (by omega)
   exact⟨q,hq1,by rw [hq2,mN]⟩
end
theorem bA{α:Type}(c:α→Array Value)(xs:List α)(x:α):vw c (xs++[x])=vw c xs++[lc (c x)]:=by simp [vw]
theorem iU{α:Type}(c:α→Array Value)(xs:List α){y:List AC}(h:y.all dv=true):ah (vw c xs++[y])=true:=by
 have:=ag c xs
 simp only [ah,List.all_append,zqD,List.all_nil,h,Bool.and_true]at this⊢
 exact this
theorem aM{α:Type}(c:α→Array Value)(xs:List α):bg (vw c xs)=(xs.length:Int):=by rw [aF,af]
end Go.Proofs.YtdnnffbbhijmkaaGreat
