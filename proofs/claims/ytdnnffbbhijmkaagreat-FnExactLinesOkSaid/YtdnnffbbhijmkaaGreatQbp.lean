/- The reference's items of the children. -/
import Derived.Test.YtdnnffbbhijmkaaGreatQbo
set_option linter.unusedVariables false
set_option linter.unusedSimpArgs false
set_option maxHeartbeats 16000000
namespace Go.Proofs.YtdnnffbbhijmkaaGreat
open Go.ChangeShapes Go.WideShapes Go.ChangeAt Go.RowKit Am Go.Proofs.Tryz
set_option maxRecDepth 100000
theorem qB{ns:List ak}{n:Int}{w h:aw}(hO:vG ns n w h=true):eo ns=true∧isN ns n=true∧1≤n∧n≤(ns.length:Int)∧∃x,ns[(n-1).toNat]? =some x∧x.kids.length≤12∧∀k∈x.kids,isN ns k=true:=by
 simp only [vG,zqs]at hO
 obtain⟨hT,hI,_⟩:=hO
 obtain⟨n1,n2,x,hx⟩:=bF hI
 exact⟨hT,hI,n1,n2,x,hx,s5 hT n1 hx,i8 hT n1 hx⟩
theorem qL{ns:List ak}{n:Int}{x:ak}(hx:ns[(n-1).toNat]? =some x)(hkl:x.kids.length≤12)(hkd:∀k∈x.kids,isN ns k=true):(flK ns n).length≤12∧∀k∈flK ns n,isN ns k=true:=
 ⟨by rw [nM hx,kD];exact Nat.le_trans (List.length_filter_le _ _) hkl,fun k h=>hkd k (qK hx k h)⟩
theorem nu(ns:List ak)(hl:ns.length≤1048576)(n:Int)(x:ak)(n1:1≤n)(n2:n≤(ns.length:Int))(hx:ns[(n-1).toNat]? =some x)(hkl:x.kids.length≤12)(hkd:∀k∈x.kids,isN ns k=true)(rtl:Bool)(a b c d:Int):∀p,p=plO ns n ⟨a,b⟩ ⟨c,d⟩→PC0 72 [.agg (mA (vwA ak.ac ns) rtl),ai n,agP ⟨a,b⟩,agP ⟨c,d⟩] (.t (.agg (plL n p.s p.w p.h p.row p.wide p.high p.al p.ac (.view (vw ao p.kids))))):=by
 intro p hp
 have cP:=nv ns n x hl n1 (by omega) hx (by omega) hkd rtl a b c d
 rw [←nM hx]at cP
 rw [hp]
 unfold plO
 rw [iz hx]
 exact cP
theorem mL(ns:List ak)(hl:ns.length≤1048576)(hs:∀y∈ns,ak.small y)(ht:eo ns=true)(n:Int)(x:ak)(n1:1≤n)(n2:n≤(ns.length:Int))(hx:ns[(n-1).toNat]? =some x)(hkl:x.kids.length≤12)(hkd:∀k∈x.kids,isN ns k=true)(a b c d:Int):∀p,p=plO ns n ⟨a,b⟩ ⟨c,d⟩→PC0 66 [.agg [.view (vwA ak.ac ns)],ai n,agP ⟨a,b⟩,agP ⟨c,d⟩] (.t (.agg (nwL n p.s p.row p.al p.ac (knS p.wide) (.view (vw ao p.kids))))):=by
 intro p hp
 have cP:=mM ns n x hs ht hl n1 n2 hx (by omega) hkd a b c d
 rw [←nM hx]at cP
 rw [hp]
 unfold plO
 rw [iz hx]
 exact cP
def kiO(ns:List ak)(n:Int)(w h:aw)(rtl:Bool):List ah:=if vG ns n w h=false then []else uh (uQ ns rtl 4) (plO ns n w h) rtl ns (flK ns n)
def kzO(ns:List ak)(n:Int)(w h:aw)(rtl:Bool):List Int:=if vG ns n w h=false then []else pb (plO ns n w h) (uh (uQ ns rtl 4) (plO ns n w h) rtl ns (flK ns n))
theorem qF(ns:List ak)(hl:ns.length≤1048576)(hs:∀y∈ns,ak.small y)(n a b c d:Int)(rtl:Bool):cY prog 38 [.agg [.view (vwA ak.ac ns)],ai n,agP ⟨a,b⟩,agP ⟨c,d⟩,abl rtl] fun res rows=>res= .o 0∧rows=[⟨121,9,vw ah.c (kiO ns n ⟨a,b⟩ ⟨c,d⟩ rtl)⟩]:=by
 have cO:=jz ns hl hs n a b c d
 unfold kiO
 cases hO:vG ns n ⟨a,b⟩ ⟨c,d⟩
 case false=>
  rw [hO]at cO
  simp only [if_true]
  rw [show vw ah.c ([]:List ah)=[]from rfl]
  obtain⟨V,hV⟩:=nmE (vwA ak.ac ns)
  rw [←hV]at cO⊢
  refine ae (aK f38) aD func38 fun g F hg hF=> ?_
  cbv
  repeat'((first|refine ad hg cO ?_|refine aa hg cO ?_);cbv)
  exact vU _ _ hF ⟨rfl,rfl⟩
 obtain⟨hT,hI,n1,n2,x,hx,hkl,hkd⟩:=qB hO
 rw [hO]at cO
 simp only [Bool.true_eq_false,if_false]
 obtain⟨hf1,hf2⟩:=qL hx hkl hkd
 obtain⟨p,hp⟩:=nmE (plO ns n ⟨a,b⟩ ⟨c,d⟩)
 have hpk:p.kids=flK ns n:=by rw [hp];rfl
 have cp:=nu ns hl n x n1 n2 hx hkl hkd rtl a b c d p hp
 have cb:=gK ns hl rtl (uQ ns rtl 4) n p (by rw [hpk];omega) (by rw [hpk];exact hf2) (fun kid h=>nx hl hs hT rtl 4 kid (hf2 kid (by rw [←hpk];exact h)) (by have:=lu hT (hf2 kid (by rw [←hpk];exact h));omega))
 rw [←hp,←hpk]
 obtain⟨X,hX⟩:=nmE (vw ah.c (uh (uQ ns rtl 4) p rtl ns p.kids))
 have hXl:X.length=(uh (uQ ns rtl 4) p rtl ns p.kids).length:=by rw [hX,af]
 have iX:bR X=true:=by rw [hX];exact aG _ _
 have kX:∀y∈X,y.length=9:=by rw [hX];exact bC (c:=ah.c) (k:=9) fun _=>rfl
 have dX:∀y∈X,y.all dat=true:=by rw [hX];exact az
 rw [←hX]at cb⊢
 obtain⟨K,hK⟩:=nmE (vw ao p.kids);(try rw [←hK]at cp);(try rw [←hK]at cb)
 obtain⟨V,hV⟩:=nmE (vwA ak.ac ns)
 rw [←hV]at cO cp cb⊢
 clear hK hX hp hpk
 obtain⟨s,row,pw,ph,iw,ih,al,ac,ks⟩:=p
 refine ae (aK f38) aD func38 fun g F hg hF=> ?_
 cbv
 repeat'((first|refine ad hg cO ?_|refine aa hg cO ?_);cbv)
 repeat'((first|refine aa hg cp ?_|refine ad hg cp ?_|refine bB hg cb (bp rfl) iX ?_|refine bN hg cb (bp rfl) iX ?_);cbv)
 exact bP hF rfl (ej iX)
section
variable {P : Program} {n0 N : Nat} {g : Gd}
theorem FD{β:BP}(hg:g=G0 P n0 N){h:EH}{f:FuncId}{args args':List AT}{K:AV→EH→Prop}{V:LLA}{b:Int}{ab:AB}(hc:cY P f args' fun res rows=>res= .tup [.c (.view V),ai b,.c (.own 0)]∧rows=[ab])(hd:dwA args args')(hp:aj ab.es=true)
  (hK:K (.tup [.c (.view V),ai b,.c (.own (lG h))]) (h++[.rw ab])):g .C f h args K:=
 FE hg hc hd fun res rows hpost=>by
  obtain⟨rfl,rfl⟩:=hpost
  rw [dh]at hK
  refine⟨[.rw ab],by simp only [zqA,List.map_nil,fA hp];rfl,?_⟩
  rw [bT];exact hK
theorem Ee{β:BP}(hg:g=G0 P n0 N){h:EH}{n:Nat}{f:FuncId}{args args':List AT}{K:AV→EH→Prop}{V:LLA}{b:Int}{ab:AB}(hc:cY P f args' fun res rows=>res= .tup [.c (.view V),ai b,.c (.own 0)]∧rows=[ab])(hd:dwA args args')(hp:aj ab.es=true)
  (hK:K (.tup [.c (.view V),ai b,.c (.own n)]) [.rw ab]):g .PC f h n args K:=by
 subst hg
 refine⟨.tup [.c (.view V),ai b,.c (.own n)],[ab],⟨args',_,hc,.inl ⟨hd,fun res rows hpost=> ?_⟩⟩,[.rw ab],rfl,hK⟩
 obtain⟨rfl,rfl⟩:=hpost
 exact⟨rfl,by simp only [zqA,List.map_nil,fA hp]⟩
theorem Gx{F:List AT→EH→Prop}{V:LLA}{b:Int}{r:Nat}{eh:EH}{ab:AB}(hF:F=nR 0 (fun res h'=>∃rows,h'=rows.map .live∧(res= .tup [.c (.view V),ai b,.c (.own 0)]∧rows=[ab])))(hr:nth eh r=some (.rw ab))(hp:aj ab.es=true):
  F [.c (.view V),ai b,.c (.own r)] eh:=by
 subst hF
 refine .inl ⟨.tup [.c (.view V),ai b,.c (.own 0)],[.live ab],[some r],⟨Nat.zero_le _,fun i hi=>absurd hi (Nat.not_lt_zero _),by simp,?_,?_⟩,[ab],rfl,rfl,rfl⟩
 ·simp only [rnH,zqw,fk hr]
  exact⟨fun h=>absurd h (Nat.not_lt_zero _),⟨by first|trivial|rfl,by first|trivial|rfl,.inl ⟨by first|trivial|rfl,hp⟩⟩,trivial⟩
 ·exact⟨⟨rfl,rfl,rfl,trivial⟩,trivial⟩
end
theorem C7{ns:List ak}{n:Int}{w h:aw}(hO:vG ns n w h=true):(flK ns n).length≤12:=by
 obtain⟨hT,hI,n1,n2,x,hx,hkl,hkd⟩:=qB hO
 exact(qL hx hkl hkd).1
theorem Ak(ns:List ak)(n:Int)(w h:aw)(rtl:Bool):(kiO ns n w h rtl).length≤1048576:=by
 unfold kiO
 split
 ·exact Nat.zero_le _
 ·rename_i hO
  rw [lI]
  have:=C7 (ns:=ns) (n:=n) (w:=w) (h:=h) (by simpa using hO)
  omega
theorem Ai(ns:List ak)(n:Int)(w h:aw)(rtl:Bool):(kzO ns n w h rtl).length≤1048576:=by
 unfold kzO
 split
 ·exact Nat.zero_le _
 ·rename_i hO
  rw [mK,lI]
  have:=C7 (ns:=ns) (n:=n) (w:=w) (h:=h) (by simpa using hO)
  omega
theorem np(n:Int)(s:ar)(wd hgh:aw)(row:Bool)(iw ih al ac:aw)(K:LLA)(xs:List ah)(hl:xs.length≤1048576):cY prog 92 [.agg (plL n s wd hgh row iw ih al ac (.view K)),.c (.view (vw ah.c xs))] fun res rows=>res= .tup [.c (.view (vwA lnA (lns xs (fP s row) (gW al) (!decide (s.wrap=1))))),ai (tak al (lng xs (fP s row) (gW al) (!decide (s.wrap=1)))),.c (.own 0)]∧rows=[⟨3,1,vw ao (lsz xs (fP s row) (gW al) (!decide (s.wrap=1)) (tak al (lng xs (fP s row) (gW al) (!decide (s.wrap=1)))))⟩]:=by
 obtain⟨am,an⟩:=al
 have cG:=gF s row
 have cR:=jB am an
 obtain⟨G,hG⟩:=nmE (fP s row);(try rw [←hG]at cG);(try rw [←hG]at⊢)
 obtain⟨M,hM⟩:=nmE (gW ⟨am,an⟩);(try rw [←hM]at cR);(try rw [←hM]at⊢)
 obtain⟨wr,hwr⟩:=nmE ((!decide (s.wrap=1)))
 rw [←hwr]
 have cL:=jU xs G M wr hl
 obtain⟨LG,hLG⟩:=nmE (lng xs G M wr);(try rw [←hLG]at cL);(try rw [←hLG]at⊢)
 have cT:=eI am an LG
 obtain⟨T,hT⟩:=nmE (tak ⟨am,an⟩ LG);(try rw [←hT]at cT);(try rw [←hT]at⊢)
 have cN:=gk xs G M wr hl
 have cS:=jV xs G M wr T hl
 have iZ:bR (vw ao (lsz xs G M wr T))=true:=aG _ _
 obtain⟨LN,hLN⟩:=nmE (vwA lnA (lns xs G M wr));(try rw [←hLN]at cN);(try rw [←hLN]at⊢)
 obtain⟨Z,hZ⟩:=nmE (vw ao (lsz xs G M wr T));(try rw [←hZ]at cS);(try rw [←hZ]at iZ);(try rw [←hZ]at⊢)
 obtain⟨V,hV⟩:=nmE (vw ah.c xs);(try rw [←hV]at cL);(try rw [←hV]at cN);(try rw [←hV]at cS);(try rw [←hV]at⊢)
 have t0:∀g:Gd,g=G0 prog 0 f92.ntmps→g .q .neq s.wrap 1=wr:=fun g hg=>by rw [bk hg,hwr];exact(dx _ _).trans (by simp)
 clear hwr hLN hZ hV hT hLG hG hM
 refine ae (aK f92) aD func92 fun g F hg hF=> ?_
 have t0:=t0 g hg
 cbv
 (repeat'((first|rw [t0]|refine ad hg cG ?_|refine aa hg cG ?_|refine ad hg cR ?_|refine aa hg cR ?_|refine ad hg cL ?_|refine aa hg cL ?_|refine ad hg cT ?_|refine aa hg cT ?_|refine ad hg cN ?_|refine aa hg cN ?_|refine bB hg cS (bp rfl) iZ ?_|refine bN hg cS (bp rfl) iZ ?_);cbv))
 exact Gx hF rfl (ej iZ)
theorem qE(ns:List ak)(hl:ns.length≤1048576)(hs:∀y∈ns,ak.small y)(n a b c d:Int)(rtl:Bool):cY prog 32 [.agg [.view (vwA ak.ac ns)],ai n,agP ⟨a,b⟩,agP ⟨c,d⟩,abl rtl] fun res rows=>res= .o 0∧rows=[⟨3,1,vw ao (kzO ns n ⟨a,b⟩ ⟨c,d⟩ rtl)⟩]:=by
 have cO:=jz ns hl hs n a b c d
 unfold kzO
 cases hO:vG ns n ⟨a,b⟩ ⟨c,d⟩
 case false=>
  rw [hO]at cO
  simp only [if_true]
  rw [show vw ao ([]:List Int)=[]from rfl]
  obtain⟨V,hV⟩:=nmE (vwA ak.ac ns)
  rw [←hV]at cO⊢
  refine ae (aK f32) aD func32 fun g F hg hF=> ?_
  cbv
  repeat'((first|refine ad hg cO ?_|refine aa hg cO ?_);cbv)
  exact vU _ _ hF ⟨rfl,rfl⟩
 obtain⟨hT,hI,n1,n2,x,hx,hkl,hkd⟩:=qB hO
 rw [hO]at cO
 simp only [Bool.true_eq_false,if_false]
 obtain⟨hf1,hf2⟩:=qL hx hkl hkd
 obtain⟨p,hp⟩:=nmE (plO ns n ⟨a,b⟩ ⟨c,d⟩)
 have hpk:p.kids=flK ns n:=by rw [hp];rfl
 have cp:=nu ns hl n x n1 n2 hx hkl hkd rtl a b c d p hp
 have cb:=iy (gK ns hl rtl (uQ ns rtl 4) n p (by rw [hpk];omega) (by rw [hpk];exact hf2) (fun kid h=>nx hl hs hT rtl 4 kid (hf2 kid (by rw [←hpk];exact h)) (by have:=lu hT (hf2 kid (by rw [←hpk];exact h));omega))) (bC (c:=ah.c) (k:=9) fun _=>rfl) az
 rw [←hp,←hpk]
 have hIl:(uh (uQ ns rtl 4) p rtl ns p.kids).length≤1048576:=by rw [lI,hpk];omega
 obtain⟨I,hI⟩:=nmE (uh (uQ ns rtl 4) p rtl ns p.kids)
 rw [←hI]at cb hIl⊢
 clear hp hpk hI
 obtain⟨s,row,pw,ph,iw,ih,al,ac,ks⟩:=p
 dsimp only at cp cb
 have cl:=np n s pw ph row iw ih al ac (vw ao ks) I hIl
 show cY _ _ _ fun res rows=>res= .o 0∧rows=[⟨3,1,vw ao (lsz I (fP s row) (gW al) (!decide (s.wrap=1)) (tak al (lng I (fP s row) (gW al) (!decide (s.wrap=1)))))⟩]
 have iZ:bR (vw ao (lsz I (fP s row) (gW al) (!decide (s.wrap=1)) (tak al (lng I (fP s row) (gW al) (!decide (s.wrap=1))))))=true:=aG _ _
 obtain⟨Z,hZ⟩:=nmE (vw ao (lsz I (fP s row) (gW al) (!decide (s.wrap=1)) (tak al (lng I (fP s row) (gW al) (!decide (s.wrap=1))))));(try rw [←hZ]at cl);(try rw [←hZ]at iZ);(try rw [←hZ]at⊢)
 obtain⟨LN,hLN⟩:=nmE (vwA lnA (lns I (fP s row) (gW al) (!decide (s.wrap=1))));(try rw [←hLN]at cl)
 obtain⟨TK,hTK⟩:=nmE (tak al (lng I (fP s row) (gW al) (!decide (s.wrap=1))));(try rw [←hTK]at cl)
 obtain⟨IV,hIV⟩:=nmE (vw ah.c I);(try rw [←hIV]at cb);(try rw [←hIV]at cl)
 obtain⟨K,hK⟩:=nmE (vw ao ks);(try rw [←hK]at cp);(try rw [←hK]at cb);(try rw [←hK]at cl)
 obtain⟨V,hV⟩:=nmE (vwA ak.ac ns)
 rw [←hV]at cO cp cb⊢
 clear hZ hLN hTK hIV hK hV hIl
 refine ae (aK f32) aD func32 fun g F hg hF=> ?_
 cbv
 repeat'((first|refine ad hg cO ?_|refine aa hg cO ?_);cbv)
 repeat'((first|refine aa hg cp ?_|refine ad hg cp ?_|refine aa hg cb ?_|refine ad hg cb ?_|refine Ee hg cl (lM rfl) (ej iZ) ?_|refine FD hg cl (lM rfl) (ej iZ) ?_);cbv)
 exact bP hF rfl (ej iZ)
def sR(V:LLA)(rtl keeps:Bool):S3K:=⟨79,5,[.view V,.B rtl,.B keeps],199,10,206,6⟩
def SM(ms:List ov):LLA:=vwA ov.ac ms
def SA(qs:List j8):LLA:=vw j8.c qs
theorem bX(ms:List ov):aj (SM ms)=true:=kh (c:=ov.ac) (fun x=>by obtain⟨a,⟨b,c⟩,⟨d,e⟩,f,⟨i,j,k,l⟩⟩:=x;rfl) ms
theorem Gk(ms:List ov):∀y∈SM ms,y.length=10:=yt (c:=ov.ac) (fun x=>by obtain⟨a,⟨b,c⟩,⟨d,e⟩,f,⟨i,j,k,l⟩⟩:=x;rfl)
theorem ym(ms:List ov):∀y∈SM ms,y.all dat=true:=nT (c:=ov.ac) (fun x=>by obtain⟨a,⟨b,c⟩,⟨d,e⟩,f,⟨i,j,k,l⟩⟩:=x;rfl)
theorem bZ(qs:List j8):aj (SA qs)=true:=ag _ _
theorem yn(qs:List j8):∀y∈SA qs,y.all dat=true:=az
theorem Gl(qs:List j8):∀y∈SA qs,y.length=6:=bC (c:=j8.c) fun _=>rfl
def yr(V:LLA)(rtl keeps:Bool)(bx:Bx)(c L:Nat)(kid:Int):Prop:=(∀w h st,(bx kid w h st).2.1.length≤st.1.length+c∧(bx kid w h st).2.2.length≤st.2.length+c)∧
 ∀(w0 w1 h0 h1:Int)(st:St),st.1.length+c≤L→st.2.length+c≤L→
  SE prog 99 (sR V rtl keeps) (SM st.1) (SA st.2) [.c (.ptr 0 0 0),ai kid,agP ⟨w0,w1⟩,agP ⟨h0,h1⟩] (.t (.agg (jK.ac (bx kid ⟨w0,w1⟩ ⟨h0,h1⟩ st).1))) (SM (bx kid ⟨w0,w1⟩ ⟨h0,h1⟩ st).2.1) (SA (bx kid ⟨w0,w1⟩ ⟨h0,h1⟩ st).2.2)
theorem acE(q:jK):jK.ac q=[.J q.wide,.J q.high,.J q.base,.view (vw aV.c q.frames)]:=rfl
theorem wZ{V:LLA}{rtl keeps:Bool}{bx:Bx}{c L:Nat}{kid:Int}(hb:yr V rtl keeps bx c L kid)(row:Bool)(al ac:aw)(st:St):(sW bx row kid al ac st).2.1.length≤st.1.length+c∧(sW bx row kid al ac st).2.2.length≤st.2.length+c:=by
 unfold sW
 split<;>exact hb.1 ..
theorem mO(V:LLA)(rtl keeps:Bool)(bx:Bx)(c L:Nat)(kid:Int)(hb:yr V rtl keeps bx c L kid)(n:Int)(s:ar)(row:Bool)(al ac:aw)(kn:Int)(K:LLA)(a0 a1 c0 c1:Int)(st:St)(hm:st.1.length+c≤L)(hq:st.2.length+c≤L):
  SE prog 142 (sR V rtl keeps) (SM st.1) (SA st.2) [.c (.ptr 0 0 0),.agg (nwL n s row al ac kn (.view K)),ai kid,agP ⟨a0,a1⟩,agP ⟨c0,c1⟩] (.t (.agg (jK.ac (sW bx row kid ⟨a0,a1⟩ ⟨c0,c1⟩ st).1))) (SM (sW bx row kid ⟨a0,a1⟩ ⟨c0,c1⟩ st).2.1) (SA (sW bx row kid ⟨a0,a1⟩ ⟨c0,c1⟩ st).2.2):=by
 have c1':=hb.2 a0 a1 c0 c1 st hm hq
 have c2':=hb.2 c0 c1 a0 a1 st hm hq
 unfold sW
 have pM:=bX st.1
 have pA:=bZ st.2
 obtain⟨r1,hr1⟩:=nmE (bx kid ⟨a0,a1⟩ ⟨c0,c1⟩ st)
 obtain⟨r2,hr2⟩:=nmE (bx kid ⟨c0,c1⟩ ⟨a0,a1⟩ st)
 rw [←hr1]at c1'
 rw [←hr2]at c2'
 rw [←hr1,←hr2]
 rw [acE]at c1' c2'
 clear hr1 hr2 hb
 cases row
 ·simp only [Bool.false_eq_true,if_false]
  rw [acE]
  have pM2:=bX r2.2.1
  have pA2:=bZ r2.2.2
  obtain⟨F2,hF2⟩:=nmE (vw aV.c r2.1.frames);(try rw [←hF2]at c2');(try rw [←hF2]at⊢)
  obtain⟨M,hM⟩:=nmE (SM st.1);(try rw [←hM]at c2');(try rw [←hM]at pM);(try rw [←hM]at⊢)
  obtain⟨A0,hA0⟩:=nmE (SA st.2);(try rw [←hA0]at c2');(try rw [←hA0]at pA);(try rw [←hA0]at⊢)
  obtain⟨M2,hM2⟩:=nmE (SM r2.2.1);(try rw [←hM2]at c2');(try rw [←hM2]at pM2);(try rw [←hM2]at⊢)
  obtain⟨A2,hA2⟩:=nmE (SA r2.2.2);(try rw [←hA2]at c2');(try rw [←hA2]at pA2);(try rw [←hA2]at⊢)
  refine du ([]) ([]) (c:=aK f142) aD func142 (by kernel_rfl) (by kernel_rfl) (bl (by rfl)) (by kernel_rfl) (fun g eff hd F heff hhd hg hF=> ?_)
  cbv
  (refine iC rfl hg 0 1 2 c2' rfl rfl rfl (by decide) rfl pM pA ⟨rfl,rfl,.inl ⟨rfl,rfl⟩,.inl ⟨rfl,rfl⟩,trivial⟩ rfl ?_;cbv)
  exact r8 7 8 hF rfl rfl rfl rfl rfl (by decide) rfl pM2 pA2
 ·simp only [if_true]
  rw [acE]
  have pM2:=bX r1.2.1
  have pA2:=bZ r1.2.2
  obtain⟨F2,hF2⟩:=nmE (vw aV.c r1.1.frames);(try rw [←hF2]at c1');(try rw [←hF2]at⊢)
  obtain⟨M,hM⟩:=nmE (SM st.1);(try rw [←hM]at c1');(try rw [←hM]at pM);(try rw [←hM]at⊢)
  obtain⟨A0,hA0⟩:=nmE (SA st.2);(try rw [←hA0]at c1');(try rw [←hA0]at pA);(try rw [←hA0]at⊢)
  obtain⟨M2,hM2⟩:=nmE (SM r1.2.1);(try rw [←hM2]at c1');(try rw [←hM2]at pM2);(try rw [←hM2]at⊢)
  obtain⟨A2,hA2⟩:=nmE (SA r1.2.2);(try rw [←hA2]at c1');(try rw [←hA2]at pA2);(try rw [←hA2]at⊢)
  refine du ([]) ([]) (c:=aK f142) aD func142 (by kernel_rfl) (by kernel_rfl) (bl (by rfl)) (by kernel_rfl) (fun g eff hd F heff hhd hg hF=> ?_)
  cbv
  (refine iC rfl hg 0 1 2 c1' rfl rfl rfl (by decide) rfl pM pA ⟨rfl,rfl,.inl ⟨rfl,rfl⟩,.inl ⟨rfl,rfl⟩,trivial⟩ rfl ?_;cbv)
  exact r8 7 8 hF rfl rfl rfl rfl rfl (by decide) rfl pM2 pA2
theorem rf(ns:List ak)(hl:ns.length≤1048576)(kid:Int)(y:ak)(h1:isN ns kid=true)(hy:ns[(kid-1).toNat]? =some y)(rtl keeps:Bool)(bx:Bx)(c L:Nat)(hbx:yr (vwA ak.ac ns) rtl keeps bx c L kid)(n:Int)(p:Pl)(K:LLA)(st:St)(hm:st.1.length+c≤L)(hq:st.2.length+c≤L):
  SE prog 74 (sR (vwA ak.ac ns) rtl keeps) (SM st.1) (SA st.2) [.c (.ptr 0 0 0),.agg (nwL n p.s p.row p.al p.ac (knS p.wide) (.view K)),ai kid] (.t (ai (wa bx p rtl ns kid st).1)) (SM (wa bx p rtl ns kid st).2.1) (SA (wa bx p rtl ns kid st).2.2):=by
 have hks:kst ns kid=y.style:=iz hy
 unfold wa
 rw [hks]
 obtain⟨s,row,w,h,iw,ih,al,ac,kids⟩:=p
 obtain⟨Ky,hKy⟩:=nmE (vw ao y.kids)
 obtain⟨Ry,hRy⟩:=nmE (vw aJ.c y.table.rules)
 have b2:=bF h1
 have pM:=bX st.1
 have kM:=Gk st.1
 have dM:=ym st.1
 have pA:=bZ st.2
 have kA:=Gl st.2
 have dA:=yn st.2
 have cX:=ko ns hl kid y h1 hy rtl keeps (.view (SM st.1)) (.view (SA st.2)) n s row al ac (knS iw) K
 change PC0 _ _ (.t (agP (kcX ⟨s,row,w,h,iw,ih,al,ac,kids⟩ y.style rtl)))at cX
 have cS:=fy ns hl kid y h1 hy rtl true keeps (.view (SM st.1)) (.view (SA st.2)) n s row al ac (knS iw) K
 change PC0 _ _ (.t (.agg (lc (av.c (xy ⟨s,row,w,h,iw,ih,al,ac,kids⟩ y.style rtl true)))))at cS
 obtain⟨V,hV⟩:=nmE (vwA ak.ac ns)
 have cy:=bL ns kid y b2.1 (by have:=b2.2.1;omega) hy V Ky Ry hV hKy hRy
 rw [←hV]at hbx cX cS⊢
 obtain⟨⟨k0,k1⟩,hKC⟩:∃q,q=kcX ⟨s,row,w,h,iw,ih,al,ac,kids⟩ y.style rtl:=⟨_,rfl⟩
 obtain⟨BN,hBN⟩:=nmE (Ct ⟨s,row,w,h,iw,ih,al,ac,kids⟩ y.style rtl)
 rw [←hKC,←hBN]
 unfold Ct at hBN
 rw [←hKC]at cX hBN
 obtain⟨⟨g0,g1⟩,hGA⟩:∃q,q=Eg ⟨s,row,w,h,iw,ih,al,ac,kids⟩ y.style rtl:=⟨_,rfl⟩
 rw [←hGA]
 unfold Eg at hGA
 obtain⟨SD,hSD⟩:=nmE (xy ⟨s,row,w,h,iw,ih,al,ac,kids⟩ y.style rtl true)
 rw [←hSD]at cS hGA
 dsimp only at hGA hBN⊢
 have cZ:=mO V rtl keeps bx c L kid hbx n s row al ac (knS iw) K g0 g1 k0 k1 st hm hq
 obtain⟨rr,hrr⟩:=nmE (sW bx row kid ⟨g0,g1⟩ ⟨k0,k1⟩ st)
 rw [←hrr]at cZ⊢
 clear hSD hKC hrr hbx hKy hRy hV
 obtain⟨am,an⟩:=al
 have ck:=de am an
 obtain⟨KN,hKN⟩:=nmE (knS ⟨am,an⟩);(try rw [←hKN]at ck);(try rw [←hKN]at hBN)
 obtain⟨KW,hKW⟩:=nmE (knS iw);(try rw [←hKW]at cX);(try rw [←hKW]at cS);(try rw [←hKW]at cZ);(try rw [←hKW]at⊢)
 have cs:=dL y.style.basis.kind y.style.basis.n KN
 change PC0 _ _ (.i (sq y.style.basis KN))at cs
 have cf:=fX y.style row KN
 have cr:=l8 y.style row k1
 obtain⟨SZ,hSZ⟩:=nmE (sq y.style.basis KN);(try rw [←hSZ]at cs);(try rw [←hSZ]at hBN)
 obtain⟨FX,hFX⟩:=nmE (qM y.style row KN);(try rw [←hFX]at cf);(try rw [←hFX]at hBN)
 obtain⟨RT,hRT⟩:=nmE (rC y.style row k1);(try rw [←hRT]at cr);(try rw [←hRT]at hBN)
 have co:=jn SZ FX
 obtain⟨O,hO⟩:=nmE (orl SZ FX)
 change PC0 _ _ (.i (orl SZ FX))at co
 rw [←hO]at co
 have hBN2:BN=if¬O= -1 then O else if k0=3 then RT else-1:=by
  rw [hBN,hO]
  unfold orl
  by_cases q1:SZ= -1<;>by_cases q2:FX= -1<;>simp [q1,q2]
 have cB:=iE SD
 obtain⟨BB,hBB⟩:=nmE (wrap64 (SD.before+SD.behind))
 change PC0 _ _ (.i (wrap64 (SD.before+SD.behind)))at cB
 rw [←hBB]at cB hGA
 have cI:=eU am an BB
 obtain⟨⟨i0,i1⟩,hI⟩:∃q,q=pk ⟨am,an⟩ BB:=⟨_,rfl⟩
 change PC0 _ _ (.t (agP (pk ⟨am,an⟩ BB)))at cI
 rw [←hI]at cI hGA
 have cL:=ky i0 i1
 have pM2:=bX rr.2.1
 have pA2:=bZ rr.2.2
 rw [acE]at cZ
 have hal:alB row rr.1=if row then rr.1.wide else rr.1.high:=rfl
 obtain⟨b0,hb0⟩:=nmE rr.1.wide
 obtain⟨b1,hb1⟩:=nmE rr.1.high
 obtain⟨b3,hb3⟩:=nmE rr.1.base
 rw [←hb0,←hb1,←hb3]at cZ
 rw [←hb0,←hb1]at hal
 obtain⟨AL,hAL⟩:=nmE (alB row rr.1);(try rw [←hAL]at hal);(try rw [←hAL]at⊢)
 obtain⟨FR,hFR⟩:=nmE (vw aV.c rr.1.frames);(try rw [←hFR]at cZ)
 obtain⟨M,hM⟩:=nmE (SM st.1);(try rw [←hM]at cZ);(try rw [←hM]at cX);(try rw [←hM]at cS);(try rw [←hM]at pM);(try rw [←hM]at kM);(try rw [←hM]at dM);(try rw [←hM]at⊢)
 obtain⟨A0,hA0⟩:=nmE (SA st.2);(try rw [←hA0]at cZ);(try rw [←hA0]at cX);(try rw [←hA0]at cS);(try rw [←hA0]at pA);(try rw [←hA0]at kA);(try rw [←hA0]at dA);(try rw [←hA0]at⊢)
 obtain⟨M2,hM2⟩:=nmE (SM rr.2.1);(try rw [←hM2]at cZ);(try rw [←hM2]at pM2);(try rw [←hM2]at⊢)
 obtain⟨A2,hA2⟩:=nmE (SA rr.2.2);(try rw [←hA2]at cZ);(try rw [←hA2]at pA2);(try rw [←hA2]at⊢)
 clear hBN hKN hKW hSZ hFX hRT hO hBB hI hb0 hb1 hb3 hAL hFR
 have tm:∀g:Gd,g=G0 prog 3 f74.ntmps→g .q .neq (-1) (-1)=false:=fun g hg=>by rw [bk hg];rfl
 by_cases q1:O= -1
 case neg=>
  have e:BN=O:=by rw [hBN2,if_pos q1]
  rw [if_pos (by rw [e];exact q1),e]
  dsimp only
  rw [←hM,←hA0]
  refine du ([]) ([]) (c:=aK f74) aD func74 (by kernel_rfl) (by kernel_rfl) (bl (by rfl)) (by kernel_rfl) (fun g eff hd F heff hhd hg hF=> ?_)
  have t0:g .q .eql (O) ((-1))=decide ((O)=((-1))):=by rw [bv hg];exact zqn _ _
  have t1:g .q .neq (O) ((-1))=decide (¬(O)=((-1))):=by rw [bk hg];exact dx _ _
  (first|rw [zqu q1]at t0|rw [zqt q1]at t0|rw [zqu (Classical.not_not.2 q1)]at t0|rw [zqt (Classical.not_not.2 q1)]at t0);(first|rw [zqu q1]at t1|rw [zqt q1]at t1|rw [zqu (Classical.not_not.2 q1)]at t1|rw [zqt (Classical.not_not.2 q1)]at t1)
  cbv
  ((repeat'((first|rw [t0]|rw [t1]|refine ad hg cy ?_|refine aa hg cy ?_|refine ad hg ck ?_|refine aa hg ck ?_|refine ad hg cs ?_|refine aa hg cs ?_|refine ad hg cf ?_|refine aa hg cf ?_|refine ad hg co ?_|refine aa hg co ?_|refine gR hg cX (dm (o3 (r:=0) (rm:=1) (ra:=2) [.view V,.B rtl,.B keeps] rfl rfl rfl kM dM rfl kA dA) (bM rfl (aq (ay rfl) (aF)))) rfl ?_|refine eN hg cX (dm (o3 (r:=0) (rm:=1) (ra:=2) [.view V,.B rtl,.B keeps] rfl rfl rfl kM dM rfl kA dA) (bM rfl (aq (ay rfl) (aF)))) rfl ?_);cbv)))
  exact r8 1 2 hF rfl rfl rfl rfl rfl (by decide) rfl pM pA
 have ask:BN= -1→SE prog 74 (sR V rtl keeps) M A0 [.c (.ptr 0 0 0),.agg (nwL n s row ⟨am,an⟩ ac KW (.view K)),ai kid] (.i AL) M2 A2→SE prog 74 (sR V rtl keeps) M A0 [.c (.ptr 0 0 0),.agg (nwL n s row ⟨am,an⟩ ac KW (.view K)),ai kid] (.t (ai (if BN≠ -1 then(BN,st)else(AL,rr.2)).1)) (SM (if BN≠ -1 then(BN,st)else(AL,rr.2)).2.1) (SA (if BN≠ -1 then(BN,st)else(AL,rr.2)).2.2):=fun h hs=>by
  rw [if_neg (fun x=>x h)]
  dsimp only
  rw [←hM2,←hA2]
  exact hs
 clear hM2 hA2
 have q1':O= -1:=q1
 subst q1'
 by_cases q2:k0=3
 case pos=>
  by_cases q3:RT= -1
  case neg=>
   have e:BN=RT:=by rw [hBN2,if_neg (fun h=>h rfl),if_pos q2]
   rw [if_pos (by rw [e];exact q3),e]
   dsimp only
   rw [←hM,←hA0]
   refine du ([]) ([]) (c:=aK f74) aD func74 (by kernel_rfl) (by kernel_rfl) (bl (by rfl)) (by kernel_rfl) (fun g eff hd F heff hhd hg hF=> ?_)
   have tm:=tm g hg
   have tp:g .q .eql (-1) (-1)=true:=by rw [bv hg];rfl
   have t0:g .q .eql (k0) (3)=decide ((k0)=(3)):=by rw [bv hg];exact zqn _ _
   have t1:g .q .neq (RT) ((-1))=decide (¬(RT)=((-1))):=by rw [bk hg];exact dx _ _
   (first|rw [zqu q2]at t0|rw [zqt q2]at t0|rw [zqu (Classical.not_not.2 q2)]at t0|rw [zqt (Classical.not_not.2 q2)]at t0);(first|rw [zqu q3]at t1|rw [zqt q3]at t1|rw [zqu (Classical.not_not.2 q3)]at t1|rw [zqt (Classical.not_not.2 q3)]at t1)
   cbv
   ((repeat'((first|rw [tm]|rw [tp]|rw [t0]|rw [t1]|refine ad hg cy ?_|refine aa hg cy ?_|refine ad hg ck ?_|refine aa hg ck ?_|refine ad hg cs ?_|refine aa hg cs ?_|refine ad hg cf ?_|refine aa hg cf ?_|refine ad hg co ?_|refine aa hg co ?_|refine ad hg cr ?_|refine aa hg cr ?_|refine gR hg cX (dm (o3 (r:=0) (rm:=1) (ra:=2) [.view V,.B rtl,.B keeps] rfl rfl rfl kM dM rfl kA dA) (bM rfl (aq (ay rfl) (aF)))) rfl ?_|refine eN hg cX (dm (o3 (r:=0) (rm:=1) (ra:=2) [.view V,.B rtl,.B keeps] rfl rfl rfl kM dM rfl kA dA) (bM rfl (aq (ay rfl) (aF)))) rfl ?_);cbv)))
   exact r8 1 2 hF rfl rfl rfl rfl rfl (by decide) rfl pM pA
  have e:BN= -1:=by rw [hBN2,if_neg (fun h=>h rfl),if_pos q2,q3]
  refine ask e ?_
  clear ask
  cases row
  case false=>
   simp only [Bool.false_eq_true,if_false,aw.mk.injEq]at hal hGA
   obtain⟨rfl,rfl⟩:=hGA
   subst hal
   refine du ([]) ([]) (c:=aK f74) aD func74 (by kernel_rfl) (by kernel_rfl) (bl (by rfl)) (by kernel_rfl) (fun g eff hd F heff hhd hg hF=> ?_)
   have tm:=tm g hg
   have tp:g .q .eql (-1) (-1)=true:=by rw [bv hg];rfl
   have t0:g .q .eql (k0) (3)=decide ((k0)=(3)):=by rw [bv hg];exact zqn _ _
   have t1:g .q .neq (RT) ((-1))=decide (¬(RT)=((-1))):=by rw [bk hg];exact dx _ _
   (first|rw [zqu q2]at t0|rw [zqt q2]at t0|rw [zqu (Classical.not_not.2 q2)]at t0|rw [zqt (Classical.not_not.2 q2)]at t0);(first|rw [zqu q3]at t1|rw [zqt q3]at t1|rw [zqu (Classical.not_not.2 q3)]at t1|rw [zqt (Classical.not_not.2 q3)]at t1)
   cbv
   ((repeat'((first|rw [tm]|rw [tp]|rw [t0]|rw [t1]|refine ad hg cy ?_|refine aa hg cy ?_|refine ad hg ck ?_|refine aa hg ck ?_|refine ad hg cs ?_|refine aa hg cs ?_|refine ad hg cf ?_|refine aa hg cf ?_|refine ad hg co ?_|refine aa hg co ?_|refine ad hg cr ?_|refine aa hg cr ?_|refine gR hg cX (dm (o3 (r:=0) (rm:=1) (ra:=2) [.view V,.B rtl,.B keeps] rfl rfl rfl kM dM rfl kA dA) (bM rfl (aq (ay rfl) (aF)))) rfl ?_|refine eN hg cX (dm (o3 (r:=0) (rm:=1) (ra:=2) [.view V,.B rtl,.B keeps] rfl rfl rfl kM dM rfl kA dA) (bM rfl (aq (ay rfl) (aF)))) rfl ?_|refine iC rfl hg 0 1 2 cZ rfl rfl rfl (by decide) rfl pM pA ⟨rfl,.inl ⟨rfl,rfl⟩,rfl,.inl ⟨rfl,rfl⟩,.inl ⟨rfl,rfl⟩,trivial⟩ rfl ?_);cbv)))
   exact r8 7 8 hF rfl rfl rfl rfl rfl (by decide) rfl pM2 pA2
  case true=>
   simp only [if_true]at hal hGA
   subst hal
   rw [←hGA]at cL
   refine du ([]) ([]) (c:=aK f74) aD func74 (by kernel_rfl) (by kernel_rfl) (bl (by rfl)) (by kernel_rfl) (fun g eff hd F heff hhd hg hF=> ?_)
   have tm:=tm g hg
   have tp:g .q .eql (-1) (-1)=true:=by rw [bv hg];rfl
   have t0:g .q .eql (k0) (3)=decide ((k0)=(3)):=by rw [bv hg];exact zqn _ _
   have t1:g .q .neq (RT) ((-1))=decide (¬(RT)=((-1))):=by rw [bk hg];exact dx _ _
   (first|rw [zqu q2]at t0|rw [zqt q2]at t0|rw [zqu (Classical.not_not.2 q2)]at t0|rw [zqt (Classical.not_not.2 q2)]at t0);(first|rw [zqu q3]at t1|rw [zqt q3]at t1|rw [zqu (Classical.not_not.2 q3)]at t1|rw [zqt (Classical.not_not.2 q3)]at t1)
   cbv
   ((repeat'((first|rw [tm]|rw [tp]|rw [t0]|rw [t1]|refine ad hg cy ?_|refine aa hg cy ?_|refine ad hg ck ?_|refine aa hg ck ?_|refine ad hg cs ?_|refine aa hg cs ?_|refine ad hg cf ?_|refine aa hg cf ?_|refine ad hg co ?_|refine aa hg co ?_|refine ad hg cr ?_|refine aa hg cr ?_|refine ad hg cB ?_|refine aa hg cB ?_|refine ad hg cI ?_|refine aa hg cI ?_|refine ad hg cL ?_|refine aa hg cL ?_|refine gR hg cX (dm (o3 (r:=0) (rm:=1) (ra:=2) [.view V,.B rtl,.B keeps] rfl rfl rfl kM dM rfl kA dA) (bM rfl (aq (ay rfl) (aF)))) rfl ?_|refine eN hg cX (dm (o3 (r:=0) (rm:=1) (ra:=2) [.view V,.B rtl,.B keeps] rfl rfl rfl kM dM rfl kA dA) (bM rfl (aq (ay rfl) (aF)))) rfl ?_|refine gR hg cS (dm (o3 (r:=0) (rm:=1) (ra:=2) [.view V,.B rtl,.B keeps] rfl rfl rfl kM dM rfl kA dA) (bM rfl (aq (ay rfl) (aq (ay rfl) (aF))))) rfl ?_|refine eN hg cS (dm (o3 (r:=0) (rm:=1) (ra:=2) [.view V,.B rtl,.B keeps] rfl rfl rfl kM dM rfl kA dA) (bM rfl (aq (ay rfl) (aq (ay rfl) (aF))))) rfl ?_|refine iC rfl hg 0 1 2 cZ rfl rfl rfl (by decide) rfl pM pA ⟨rfl,.inl ⟨rfl,rfl⟩,rfl,.inl ⟨rfl,rfl⟩,.inl ⟨rfl,rfl⟩,trivial⟩ rfl ?_);cbv)))
   exact r8 7 8 hF rfl rfl rfl rfl rfl (by decide) rfl pM2 pA2
 have e:BN= -1:=by rw [hBN2,if_neg (fun h=>h rfl),if_neg q2]
 refine ask e ?_
 clear ask
 cases row
 case false=>
  simp only [Bool.false_eq_true,if_false,aw.mk.injEq]at hal hGA
  obtain⟨rfl,rfl⟩:=hGA
  subst hal
  refine du ([]) ([]) (c:=aK f74) aD func74 (by kernel_rfl) (by kernel_rfl) (bl (by rfl)) (by kernel_rfl) (fun g eff hd F heff hhd hg hF=> ?_)
  have tm:=tm g hg
  have tp:g .q .eql (-1) (-1)=true:=by rw [bv hg];rfl
  have t0:g .q .eql (k0) (3)=decide ((k0)=(3)):=by rw [bv hg];exact zqn _ _
  (first|rw [zqu q2]at t0|rw [zqt q2]at t0|rw [zqu (Classical.not_not.2 q2)]at t0|rw [zqt (Classical.not_not.2 q2)]at t0)
  cbv
  ((repeat'((first|rw [tm]|rw [tp]|rw [t0]|refine ad hg cy ?_|refine aa hg cy ?_|refine ad hg ck ?_|refine aa hg ck ?_|refine ad hg cs ?_|refine aa hg cs ?_|refine ad hg cf ?_|refine aa hg cf ?_|refine ad hg co ?_|refine aa hg co ?_|refine ad hg cr ?_|refine aa hg cr ?_|refine gR hg cX (dm (o3 (r:=0) (rm:=1) (ra:=2) [.view V,.B rtl,.B keeps] rfl rfl rfl kM dM rfl kA dA) (bM rfl (aq (ay rfl) (aF)))) rfl ?_|refine eN hg cX (dm (o3 (r:=0) (rm:=1) (ra:=2) [.view V,.B rtl,.B keeps] rfl rfl rfl kM dM rfl kA dA) (bM rfl (aq (ay rfl) (aF)))) rfl ?_|refine iC rfl hg 0 1 2 cZ rfl rfl rfl (by decide) rfl pM pA ⟨rfl,.inl ⟨rfl,rfl⟩,rfl,.inl ⟨rfl,rfl⟩,.inl ⟨rfl,rfl⟩,trivial⟩ rfl ?_);cbv)))
  exact r8 7 8 hF rfl rfl rfl rfl rfl (by decide) rfl pM2 pA2
 case true=>
  simp only [if_true]at hal hGA
  subst hal
  rw [←hGA]at cL
  refine du ([]) ([]) (c:=aK f74) aD func74 (by kernel_rfl) (by kernel_rfl) (bl (by rfl)) (by kernel_rfl) (fun g eff hd F heff hhd hg hF=> ?_)
  have tm:=tm g hg
  have tp:g .q .eql (-1) (-1)=true:=by rw [bv hg];rfl
  have t0:g .q .eql (k0) (3)=decide ((k0)=(3)):=by rw [bv hg];exact zqn _ _
  (first|rw [zqu q2]at t0|rw [zqt q2]at t0|rw [zqu (Classical.not_not.2 q2)]at t0|rw [zqt (Classical.not_not.2 q2)]at t0)
  cbv
  ((repeat'((first|rw [tm]|rw [tp]|rw [t0]|refine ad hg cy ?_|refine aa hg cy ?_|refine ad hg ck ?_|refine aa hg ck ?_|refine ad hg cs ?_|refine aa hg cs ?_|refine ad hg cf ?_|refine aa hg cf ?_|refine ad hg co ?_|refine aa hg co ?_|refine ad hg cr ?_|refine aa hg cr ?_|refine ad hg cB ?_|refine aa hg cB ?_|refine ad hg cI ?_|refine aa hg cI ?_|refine ad hg cL ?_|refine aa hg cL ?_|refine gR hg cX (dm (o3 (r:=0) (rm:=1) (ra:=2) [.view V,.B rtl,.B keeps] rfl rfl rfl kM dM rfl kA dA) (bM rfl (aq (ay rfl) (aF)))) rfl ?_|refine eN hg cX (dm (o3 (r:=0) (rm:=1) (ra:=2) [.view V,.B rtl,.B keeps] rfl rfl rfl kM dM rfl kA dA) (bM rfl (aq (ay rfl) (aF)))) rfl ?_|refine gR hg cS (dm (o3 (r:=0) (rm:=1) (ra:=2) [.view V,.B rtl,.B keeps] rfl rfl rfl kM dM rfl kA dA) (bM rfl (aq (ay rfl) (aq (ay rfl) (aF))))) rfl ?_|refine eN hg cS (dm (o3 (r:=0) (rm:=1) (ra:=2) [.view V,.B rtl,.B keeps] rfl rfl rfl kM dM rfl kA dA) (bM rfl (aq (ay rfl) (aq (ay rfl) (aF))))) rfl ?_|refine iC rfl hg 0 1 2 cZ rfl rfl rfl (by decide) rfl pM pA ⟨rfl,.inl ⟨rfl,rfl⟩,rfl,.inl ⟨rfl,rfl⟩,.inl ⟨rfl,rfl⟩,trivial⟩ rfl ?_);cbv)))
  exact r8 7 8 hF rfl rfl rfl rfl rfl (by decide) rfl pM2 pA2
theorem AU{V:LLA}{rtl keeps:Bool}{bx:Bx}{c L:Nat}{kid:Int}(hb:yr V rtl keeps bx c L kid)(p:Pl)(ns:List ak)(st:St):(wa bx p rtl ns kid st).2.1.length≤st.1.length+c∧(wa bx p rtl ns kid st).2.2.length≤st.2.length+c:=by
 unfold wa
 split
 ·exact⟨Nat.le_add_right ..,Nat.le_add_right ..⟩
 ·exact wZ hb ..
theorem tB{a b c k L:Nat}(h:a≤b+k*c)(hL:b+20*c≤L)(hk:k+1≤20):a+c≤L:=by
 have:=Nat.mul_le_mul_right c hk
 rw [Nat.succ_mul]at this
 omega
theorem na{a a' b c k:Nat}(h:a≤b+k*c)(h2:a'≤a+c):a'≤b+(k+1)*c:=by
 rw [Nat.succ_mul];omega
theorem ik(ns:List ak)(hl:ns.length≤1048576)(rtl keeps:Bool)(bx:Bx)(c L:Nat)(n:Int)(p:Pl)(hkl:p.kids.length<20)(hk:∀kid∈p.kids,isN ns kid=true)(hbx:∀kid∈p.kids,yr (vwA ak.ac ns) rtl keeps bx c L kid)(st:St)(hm:st.1.length+20*c≤L)(hq:st.2.length+20*c≤L):
  SE prog 91 (sR (vwA ak.ac ns) rtl keeps) (SM st.1) (SA st.2) [.c (.ptr 0 0 0),.agg (nwL n p.s p.row p.al p.ac (knS p.wide) (.view (vw ao p.kids)))] (.t (.c (.view (vw ah.c (j9 bx p rtl ns p.kids st).1)))) (SM (j9 bx p rtl ns p.kids st).2.1) (SA (j9 bx p rtl ns p.kids st).2.2):=by
 refine vh (t:=121) (k:=9) (V:=vw ah.c (j9 bx p rtl ns p.kids st).1) (R:= .o 5) ?_ (bC (c:=ah.c) (k:=9) fun _=>rfl) az rfl rfl rfl
 have hat:∀kid∈p.kids,∃y,ns[(kid-1).toNat]? =some y:=fun kid h=>(bF (hk kid h)).2.2
 have hnd:=fun kid(h:kid∈p.kids) y hy Ky Ry=>bL ns kid y (bF (hk kid h)).1 (by have:=(bF (hk kid h)).2.1;omega) hy (vwA ak.ac ns) Ky Ry rfl
 have hBa:=fun kid(h:kid∈p.kids) y hy K st h1 h2=>rf ns hl kid y (hk kid h) hy rtl keeps bx c L (hbx kid h) n p K st h1 h2
 have hS:=fun kid(h:kid∈p.kids) y hy C D K=>fy ns hl kid y (hk kid h) hy rtl true keeps C D n p.s p.row p.al p.ac (knS p.wide) K
 have hlen:=fun kid(h:kid∈p.kids) st=>AU (hbx kid h) p ns st
 clear hbx
 obtain⟨f,hf⟩:∃f,f=fun k st=>wa bx p rtl ns k st:=⟨_,rfl⟩
 have hfe:∀k st,wa bx p rtl ns k st=f k st:=fun k st=>by rw [hf]
 simp only [hfe]at hBa hlen
 obtain⟨it,hit⟩:∃it,it=fun ks st=>j9 bx p rtl ns ks st:=⟨_,rfl⟩
 have hite:∀ks st,j9 bx p rtl ns ks st=it ks st:=fun ks st=>by rw [hit]
 have hi0:∀st,it [] st=([],st):=fun st=>by rw [hit];rfl
 have hi1:∀k r st,it (k::r) st=(Fd p (kst ns k) rtl (f k st).1::(it r (f k st).2).1,(it r (f k st).2).2):=fun k r st=>by rw [hit,hf];rfl
 simp only [hite]
 clear hf hit hfe hite
 obtain⟨s0,row,w,h,iw,ih,al,ac,kids⟩:=p
 dsimp only at *
 obtain⟨V,hV⟩:=nmE (vwA ak.ac ns)
 rw [←hV]at hnd
 simp only [←hV]at hBa hS
 rw [←hV]
 obtain⟨K,hK⟩:=nmE (vw ao kids)
 have hKl:K.length=kids.length:=by rw [hK,af]
 have iK:bR K=true:=by rw [hK];exact aG _ _
 have kK:∀y∈K,y.length=1:=by rw [hK];exact bC (c:=ao) (k:=1) fun _=>rfl
 have dK:∀y∈K,y.all dat=true:=by rw [hK];exact az
 have hBa:=fun kid h y hy st=>hBa kid h y hy K st
 have hS:=fun kid h y hy C D=>hS kid h y hy C D K
 rw [←hK]
 obtain⟨am,an⟩:=al
 have ck:=de am an
 obtain⟨KN,hKN⟩:=nmE (knS ⟨am,an⟩)
 change PC0 _ _ (.i (knS ⟨am,an⟩))at ck
 rw [←hKN]at ck
 have hi1:∀k r st y,ns[(k-1).toNat]? =some y→it (k::r) st=((⟨(f k st).1,z6 y.style row KN,Ba y.style row KN,y.style.grow,y.style.shrink,(sdB s0 y.style rtl true (knS iw)).before,(sdB s0 y.style rtl true (knS iw)).behind,(sdB s0 y.style rtl true (knS iw)).autoBefore,(sdB s0 y.style rtl true (knS iw)).autoBehind⟩:ah)::(it r (f k st).2).1,(it r (f k st).2).2):=fun k r st y hy=>by
  rw [hi1,iz hy,hKN];rfl
 obtain⟨R,hR⟩:=nmE (it kids st)
 rw [←hR]
 obtain⟨KW,hKW⟩:=nmE (knS iw);(try rw [←hKW]at hBa);(try rw [←hKW]at hS);(try rw [←hKW]at hi1);(try rw [←hKW]at⊢)
 obtain⟨M0,hM0⟩:=nmE (SM st.1)
 obtain⟨A0,hA0⟩:=nmE (SA st.2)
 have pM0:aj M0=true:=by rw [hM0];exact bX _
 have pA0:aj A0=true:=by rw [hA0];exact bZ _
 rw [←hM0,←hA0]
 have hkl2:kids.length≤1048576:=by omega
 have hRl:R.1.length=kids.length:=by
  rw [hR]
  have:∀ks:List Int,(∀k∈ks,k∈kids)→∀st,(it ks st).1.length=ks.length:=by
   intro ks
   induction ks with
   |nil=>intro _ st;rw [hi0];rfl
   |cons k ks ih=>
    intro hs st
    obtain⟨y,hy⟩:=hat k (hs k (List.mem_cons_self ..))
    rw [hi1 k ks st y hy]
    simp [ih (fun x hx=>hs x (List.mem_cons_of_mem _ hx))]
  exact this kids (fun _ h=>h) st
 clear hKN hV
 refine du ([(8,.hand)]) ([]) (c:=aK f91) aD func91 (by kernel_rfl) (by kernel_rfl) (bl (by rfl)) (by kernel_rfl) (fun g eff hd F heff hhd hg hF=> ?_)
 cbv
 (repeat'((first|refine ad hg ck ?_|refine aa hg ck ?_);cbv))
 refine lA ([(8,.hand)]) ([]) heff hhd hg aD (by kernel_rfl) K (fun x=>lc (ao x)) kids hK hkl2 (fun z(s:(List ah×St)×LLA×LLA×LLA)=>[(0,.p 0),(3,.p 3),(5,.o 6),(6,.i (KN)),(7,.i (z))]) (fun z(s:(List ah×St)×LLA×LLA×LLA)=>[.bx 79 5 [.view V,.B rtl,.B keeps,.own 4,.own 5],.gn,.gn,.bx 89 68 (nwL n s0 row ⟨am,an⟩ ac KW (.view K)),.rw ⟨199,10,s.2.1⟩,.rw ⟨206,6,s.2.2.1⟩,.rw ⟨121,9,s.2.2.2⟩]) (fun z(s:(List ah×St)×LLA×LLA×LLA)=>s.2.1=SM s.1.2.1∧s.2.2.1=SA s.1.2.2∧s.2.2.2=vw ah.c s.1.1∧s.1.2.1.length≤st.1.length+s.1.1.length*c∧s.1.2.2.length≤st.2.length+s.1.1.length*c) (fun(s:(List ah×St)×LLA×LLA×LLA) rest=>(s.1.1++(it rest s.1.2).1,(it rest s.1.2).2)) (R) (([],st),M0,A0,[]) (by rw [hR];rfl) ⟨hM0,hA0,rfl,by simp,by simp⟩ (Wk.weak (wkM [some 0,none,none,some 3,some 1,some 2,some 4] ⟨rfl,rfl,rfl,rfl,rfl,trivial⟩ ⟨.inr ⟨_,_,rfl,rfl,rfl,rfl,.inr ⟨⟨rfl,rfl,rfl,rfl,rfl,trivial⟩,trivial⟩⟩,.inl rfl,.inl rfl,.inr (wqE rfl rfl),.inr (wqE rfl pM0),.inr (wqE rfl pA0),.inr (wqE rfl rfl),trivial⟩ (by decide) ⟨.inl rfl,.inl rfl,.inr rfl,trivial⟩ ⟨.inl rfl,.inl rfl,.inr ⟨_,rfl⟩,trivial⟩)) (fun z s B hz h0 hi he=> ?_) (fun z s x rest B z0 z1 z2 hx hy h0 hi hc e1 hB=> ?_)
 ·obtain⟨⟨out,st1⟩,M1,A1,E⟩:=s
  obtain⟨i1,i2,i3,i4,i5⟩:=hi
  dsimp only at i1 i2 i3 h0
  obtain rfl:R=(out,st1):=by rw [←h0,hi0];simp
  have pM1:aj M1=true:=by rw [i1];exact bX _
  have pA1:aj A1=true:=by rw [i2];exact bZ _
  have pE:aj E=true:=by rw [i3];exact ag _ _
  cbv;rw [he];cbv
  subst i1 i2 i3
  exact Ax 4 5 6 hF rfl rfl rfl rfl rfl rfl (by decide) rfl pM1 pA1 pE
 ·obtain⟨⟨out,st1⟩,M1,A1,E⟩:=s
  obtain⟨i1,i2,i3,i4,i5⟩:=hi
  dsimp only at i1 i2 i3 i4 i5 h0
  have hxm:x∈kids:=zqd hx
  obtain⟨y,hyx⟩:=hat x hxm
  rw [hi1 x rest st1 y hyx]at h0
  have hz20:out.length+1≤20:=by
   have:=congrArg (fun r=>r.1.length) h0
   simp only [zqe,zqx]at this
   omega
  have hEl:E.length≤1048576:=by rw [i3,af];omega
  have pM:aj M1=true:=by rw [i1];exact bX _
  have pA:aj A1=true:=by rw [i2];exact bZ _
  have kM:∀y∈M1,y.length=10:=by rw [i1];exact Gk _
  have dM:∀y∈M1,y.all dat=true:=by rw [i1];exact ym _
  have kA:∀y∈A1,y.length=6:=by rw [i2];exact Gl _
  have dA:∀y∈A1,y.all dat=true:=by rw [i2];exact yn _
  have cB:=hBa x hxm y hyx st1 (tB i4 hm hz20) (tB i5 hq hz20)
  rw [←i1,←i2]at cB
  have cS:=hS x hxm y hyx (.view M1) (.view A1)
  have cy:=hnd x hxm y hyx _ _ rfl rfl
  obtain⟨Ky,hKy⟩:=nmE (vw ao y.kids)
  obtain⟨Ry,hRy⟩:=nmE (vw aJ.c y.table.rules)
  rw [←hKy,←hRy]at cy
  have hn:=hlen x hxm st1
  obtain⟨⟨b,st2⟩,hrr⟩:∃r,r=f x st1:=⟨_,rfl⟩
  rw [←hrr]at cB hn h0
  dsimp only at cB hn h0
  have j1:=na i4 hn.1
  have j2:=na i5 hn.2
  have cLe:=iP y.style row KN
  have cMo:=jo y.style row KN
  obtain⟨f1,hf1⟩:=nmE (z6 y.style row KN);(try rw [←hf1]at cLe);(try rw [←hf1]at h0)
  obtain⟨f2,hf2⟩:=nmE (Ba y.style row KN);(try rw [←hf2]at cMo);(try rw [←hf2]at h0)
  obtain⟨SD,hSD⟩:=nmE (sdB s0 y.style rtl true KW);(try rw [←hSD]at cS);(try rw [←hSD]at h0)
  obtain⟨d0,d1,d2,d3,d4,d5,d6⟩:=SD
  dsimp only at h0
  obtain⟨M2,hM2⟩:=nmE (SM st2.1)
  obtain⟨A2,hA2⟩:=nmE (SA st2.2)
  have pM2:aj M2=true:=by rw [hM2];exact bX _
  have pA2:aj A2=true:=by rw [hA2];exact bZ _
  rw [←hM2,←hA2]at cB
  obtain⟨E2,hE2⟩:∃E2,E2=E++[[.J b,.J f1,.J f2,.J y.style.grow,.J y.style.shrink,.J d1,.J d2,.B d3,.B d4]]:=⟨_,rfl⟩
  have aE:E2=vw ah.c (out++[⟨b,f1,f2,y.style.grow,y.style.shrink,d1,d2,d3,d4⟩]):=by rw [hE2,i3,bA];rfl
  have pE2:aj E2=true:=by rw [aE];exact ag _ _
  have pE:aj E=true:=by rw [i3];exact ag _ _
  have h3:((out++[(⟨b,f1,f2,y.style.grow,y.style.shrink,d1,d2,d3,d4⟩:ah)])++(it rest st2).1,(it rest st2).2)=R:=by rw [←h0];simp
  have nl:(out++[(⟨b,f1,f2,y.style.grow,y.style.shrink,d1,d2,d3,d4⟩:ah)]).length=out.length+1:=by simp
  clear hKy hRy hrr hf1 hf2 hSD i4 i5 hn hBa hS hnd hlen hi1
  cbv
  rw [hc]
  cbv
  ((repeat'((first|refine ad hg cy ?_|refine aa hg cy ?_|refine goX hg _ z0 hy rfl ?_|refine gR hg cS (dm (o3 (r:=0) (rm:=4) (ra:=5) [.view V,.B rtl,.B keeps] rfl rfl rfl kM dM rfl kA dA) (bM rfl (aq (ay rfl) (aq (ay rfl) (aF))))) rfl ?_|refine eN hg cS (dm (o3 (r:=0) (rm:=4) (ra:=5) [.view V,.B rtl,.B keeps] rfl rfl rfl kM dM rfl kA dA) (bM rfl (aq (ay rfl) (aq (ay rfl) (aF))))) rfl ?_);cbv)))
  refine ek hg hhd aD [1,2,3,4,5,6,7,9,10,11,12,14,15,16,17,19,20,21,22,23,24,25,26,27,28,29,30] (.op 0 [] (.op 8 [13,18,31] (.op 32 [] (.op 33 [] (.op 34 [] .done .none) .none) .none) .none) (.op 8 [13,18,31] (.op 0 [] (.op 32 [] (.op 33 [] (.op 34 [] .done .none) .none) .none) (.op 32 [] (.op 0 [] (.op 33 [] (.op 34 [] .done .none) .none) .none) .none)) .none)) (by kernel_rfl) (by kernel_rfl) (S:=Unit) (fun _=>True) (fun _=>[(0,.p 0),(3,.p 3),(5,.o 6),(6,.i (KN)),(7,.i (z))]) (fun _=>[.bx 79 5 [.view V,.B rtl,.B keeps,.own 4,.own 5],.gn,.gn,.bx 89 68 (nwL n s0 row ⟨am,an⟩ ac KW (.view K)),.rw ⟨199,10,M2⟩,.rw ⟨206,6,A2⟩,.rw ⟨121,9,E2⟩]) (fun BL hBL=> ?_) (fun _ _=> ?_)
  ·cbv
   ((repeat'(first|exact trivial|exact rfl|refine And.intro ?_ ?_|((first|refine ad hg cLe ?_|refine aa hg cLe ?_|refine ad hg cMo ?_|refine aa hg cMo ?_|refine goX hg _ z0 hy rfl ?_|refine iC rfl hg 0 4 5 cB rfl rfl rfl (by decide) rfl pM pA ⟨rfl,.inl ⟨rfl,rfl⟩,rfl,trivial⟩ rfl ?_|refine dl hg rfl (by decide) hEl ?_);cbv))))
   all_goals
    rw [gG hg,←hE2]
    exact hBL () trivial _ _ (Wk.weak (wkM [some 0,none,none,some 3,some 9,some 10,some 12] ⟨rfl,rfl,rfl,rfl,rfl,trivial⟩ ⟨.inr ⟨_,_,rfl,rfl,rfl,rfl,.inr ⟨⟨rfl,rfl,rfl,rfl,rfl,trivial⟩,trivial⟩⟩,.inl rfl,.inl rfl,.inr (wqE rfl rfl),.inr (wqE rfl pM2),.inr (wqE rfl pA2),.inr (wqE rfl pE2),trivial⟩ (by decide) ⟨.inl rfl,.inl rfl,.inr rfl,trivial⟩ ⟨.inl rfl,.inl rfl,.inr ⟨_,rfl⟩,trivial⟩))
  cbv
  ((repeat'(rw [e1];cbv)))
  skip
  exact hB (((out++[⟨b,f1,f2,y.style.grow,y.style.shrink,d1,d2,d3,d4⟩],st2),M2,A2,E2)) _ _ ⟨h3,⟨hM2,hA2,aE,by rw [nl];exact j1,by rw [nl];exact j2⟩⟩ (Wk.weak (wkM [some 0,none,none,some 3,some 4,some 5,some 6] ⟨rfl,rfl,rfl,rfl,rfl,trivial⟩ ⟨.inr ⟨_,_,rfl,rfl,rfl,rfl,.inr ⟨⟨rfl,rfl,rfl,rfl,rfl,trivial⟩,trivial⟩⟩,.inl rfl,.inl rfl,.inr (wqE rfl rfl),.inr (wqE rfl pM2),.inr (wqE rfl pA2),.inr (wqE rfl pE2),trivial⟩ (by decide) ⟨.inl rfl,.inl rfl,.inr rfl,trivial⟩ ⟨.inl rfl,.inl rfl,.inr ⟨_,rfl⟩,trivial⟩))
end Go.Proofs.YtdnnffbbhijmkaaGreat
