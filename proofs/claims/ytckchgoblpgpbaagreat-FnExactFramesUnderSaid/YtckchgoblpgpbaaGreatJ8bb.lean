/- A part. -/
import Derived.Test.YtckchgoblpgpbaaGreatJ8ba2
import Derived.Test.YtckchgoblpgpbaaGreatJ8ba3
import Derived.Test.YtckchgoblpgpbaaGreatJ8az2
import Derived.Test.YtckchgoblpgpbaaGreatJ8az9
set_option linter.all false
set_option maxHeartbeats 80000000
namespace Go.Proofs.YtckchgoblpgpbaaGreat
open Go.ChangeShapes Go.WideShapes Go.ChangeAt Go.RowKit Am Go.Proofs.Tryz
set_option maxRecDepth 100000
section
variable {ns:List ae}{n:Int}
theorem iU(ns:List ae)(hl:ns.length<=1048576)(hs:∀y∈ns,ae.small y)(ht:dl ns=true)(rtl:Bool):∀(f:Nat),f<=3->∀n:Int,isN ns n=true->4<=qg ns n+(f:Int)->∀w h:Int,bS prog 59 [.agg (lx (vwA ae.ac ns) rtl),ai n,ai w,ai h] fun res he=>res= .o 0/\he=[⟨45,5,vw ag.c (Eg (vn ns rtl 4) ns rtl f n w h)⟩]
 |0,_,n,hn,hd,w,h=>by
  obtain⟨n1,n2,x,hx⟩:=bd hn
  have hk:=oy ht hn hx (by omega)
  have hg:=iu ht hn
  have:=iT ns hl n x hn hx (by rw [hk];simp) (by rw [hk];simp) rtl (vn ns rtl 4) (kq hl hs ht rtl 4 n hn (by omega)) (by rw [hk];simp) (fun _=>[]) 0 (by decide) (by rw [hk];simp) (by simp) (fun _ _ _=>[]) (by rw [hk];simp) (by simp) w h (zpb (xe ht n rtl 3 ⟨3,w⟩ ⟨3,h⟩) (by decide))
  rw [hk]at this
  exact this
 |f+1,hf,n,hn,hd,w,h=>by
  obtain⟨n1,n2,x,hx⟩:=bd hn
  have hh:=lB ht n1 hx
  have ha:=fk ht n1 hx
  have hb:12*(uN f+1)<=1048576:=by have:=CF (show f<=3 by omega);omega
  have hg:=iu ht hn
  have hc:=fun k hk=>nJ ht n1 hx k hk
  have:=iT ns hl n x hn hx hh ha rtl (vn ns rtl 4) (kq hl hs ht rtl 4 n hn (by omega)) (fun k hk=>kq hl hs ht rtl 4 k (ha k hk) (by have:=hc k hk;omega)) (zW ns f) (uN f) hb (fun k hk=>zw ns hl ht f (by omega) k (ha k hk) (by have:=hc k hk;omega)) (fun k=>mH ht f k) (Eg (vn ns rtl 4) ns rtl f) (fun k hk w h=>iU ns hl hs ht rtl f (by omega) k (ha k hk) (by have:=hc k hk;omega) w h) (fun k w h=>vy ht _ rtl f k w h) w h (zpb (xe ht n rtl 3 ⟨3,w⟩ ⟨3,h⟩) (by decide))
  rw [<-kr hx]at this
  exact this
theorem oP(ns:List ae)(hl:ns.length<=1048576)(hs:∀y∈ns,ae.small y)(n wide high:Int)(rtl:Bool):bS prog 28 [.agg [.view (vwA ae.ac ns)],ai n,ai wide,ai high,abl rtl] fun res hc=>res= .o 0/\hc=[⟨45,5,vw ag.c (fuO ns n wide high rtl)⟩]:=by
 have cT:=wM ns hl hs
 have hb:aN (vwA ae.ac ns)=(ns.length:Int):=by rw [ao,bu]
 have cI:=kx (vwA ae.ac ns) n
 rw [hb]at cI
 change PC0 _ _ (.t (abl (isN ns n)))at cI
 have cz:=sE wide high
 have ha:uOk ns n wide high=false->vw ag.c (fuO ns n wide high rtl)=[]:=fun h=>by unfold fuO;rw [if_pos h];rfl
 cases hT:dl ns
 case false=>
  rw [ha (by simp [uOk,hT])]
  rw [hT]at cT
  obtain⟨V,hV⟩:=nmE (vwA ae.ac ns)
  rw [<-hV]at cT⊢
  clear cI hb ha
  refine aV func28 fun g F hg hF=> ?_
  cbv
  repeat'(refine ad hg cT ?_;cbv)
  exact vf _ _ hF ⟨rfl,rfl⟩
 rw [hT]at cT
 cases hI:isN ns n
 case false=>
  rw [ha (by simp [uOk,hI])]
  rw [hI]at cI
  obtain⟨V,hV⟩:=nmE (vwA ae.ac ns)
  rw [<-hV]at cT cI⊢
  clear hb ha
  refine aV func28 fun g F hg hF=> ?_
  cbv
  repeat'((first|refine ad hg cT ?_|refine ad hg cI ?_);cbv)
  exact vf _ _ hF ⟨rfl,rfl⟩
 rw [hI]at cI
 cases hS:(rng wide 0 1048576&&rng high 0 1048576)
 case false=>
  rw [ha (by simp only [uOk,hS,Bool.and_false])]
  rw [hS]at cz
  obtain⟨V,hV⟩:=nmE (vwA ae.ac ns)
  rw [<-hV]at cT cI⊢
  clear hb ha
  refine aV func28 fun g F hg hF=> ?_
  cbv
  repeat'((first|refine ad hg cT ?_|refine ad hg cI ?_|refine ad hg cz ?_);cbv)
  exact vf _ _ hF ⟨rfl,rfl⟩
 rw [hS]at cz
 have hd:uOk ns n wide high=true:=by simp only [uOk,hT,hI,hS,Bool.and_self]
 have cU:=iU ns hl hs hT rtl 3 (by decide) n hI (by have:=iu hT hI;omega) wide high
 have e:fuO ns n wide high rtl=Eg (vn ns rtl 4) ns rtl 3 n wide high:=by unfold fuO;rw [if_neg (by rw [hd];simp)]
 rw [e]
 clear e ha
 obtain⟨G,hG⟩:=nmE (vw ag.c (Eg (vn ns rtl 4) ns rtl 3 n wide high))
 have iG:=imV hG
 obtain⟨V,hV⟩:=nmE (vwA ae.ac ns)
 rw [<-hG]at cU⊢
 rw [<-hV]at cT cI cU⊢
 clear hb hG
 refine aV func28 fun g F hg hF=> ?_
 cbv
 repeat'((first|refine ad hg cT ?_|refine ad hg cI ?_|refine ad hg cz ?_);cbv)
 repeat'(refine bH hg cU (bn rfl) iG ?_;cbv)
 exact bN hF rfl (ff iG)
end
section
variable {xs:List af}
variable {l:List Int}{k:Int}{LL:List (List Int)}
variable {cs:List Int}{gap inner ct:Int}
variable {I:List af}
variable {ns:List ae}
theorem lD(ns:List ae)(hl:ns.length<=1048576)(hs:∀y∈ns,ae.small y)(ht:dl ns=true)(rtl:Bool):∀(f:Nat),f<=3->∀n:Int,isN ns n=true->4<=qg ns n+(f:Int)->∀(w h:Int)(st:St),st.1.length+cU 65641 f<=1073741824->st.2.length+cU 65641 f<=1073741824->
  SE prog 58 (sR (vwA ae.ac ns) rtl false) (SM st.1) (SA st.2) [.c (.ptr 0 0 0),ai n,ai w,ai h] (.t (.c (.view (vw ag.c (Eh (vo false ns rtl 4) ns rtl f n w h st).1)))) (SM (Eh (vo false ns rtl 4) ns rtl f n w h st).2.1) (SA (Eh (vo false ns rtl 4) ns rtl f n w h st).2.2)
 |0,_,n,hn,hd,w,h,st,hm,hq=>by
  obtain⟨n1,n2,x,hx⟩:=bd hn
  have hk:=oy ht hn hx (by omega)
  have:=lC ns hl n x hn hx (by rw [hk];simp) (by rw [hk];simp) rtl false (vo false ns rtl 4) 65641 1073741824 0 (wa hl hs ht rtl hn) (by rw [hk];simp) (fun _=>[]) 0 (by decide) (by rw [hk];simp) (by simp) (fun _ _ _ st=>([],st)) (by rw [hk];simp) (by rw [hk];simp) (by simp) w h st (by rw [oX];exact zpb (xe ht n rtl 3 ⟨3,w⟩ ⟨3,h⟩) (by decide)) (by rw [hk,List.length_nil,Nat.zero_mul];exact hm) (by rw [hk,List.length_nil,Nat.zero_mul];exact hq)
  rw [hk]at this
  exact this
 |f+1,hf,n,hn,hd,w,h,st,hm,hq=>by
  obtain⟨n1,n2,x,hx⟩:=bd hn
  have hg:=lB ht n1 hx
  have ha:=fk ht n1 hx
  have hb:12*(uN f+1)<=1048576:=by have:=CF (show f<=3 by omega);omega
  have he:=fun k hk=>nJ ht n1 hx k hk
  have hi:=zpf (65641+cU 65641 f) hg
  have hc:cU 65641 (f+1)=65641+12*(65641+cU 65641 f):=rfl
  rw [hc]at hm hq
  have hh:=xz ht (fun k hk=>(wa hl hs ht rtl hk).1) rtl f
  have:=lC ns hl n x hn hx hg ha rtl false (vo false ns rtl 4) 65641 1073741824 (cU 65641 f) (wa hl hs ht rtl hn) (fun k hk=>wa hl hs ht rtl (ha k hk)) (zW ns f) (uN f) hb (fun k hk=>tf ns hl hs ht f (by omega) k (ha k hk) (by have:=he k hk;omega)) (fun k=>mH ht f k) (Eh (vo false ns rtl 4) ns rtl f) (fun k hk w h st h1 h2=>lD ns hl hs ht rtl f (by omega) k (ha k hk) (by have:=he k hk;omega) w h st h1 h2) (fun k hk w h st=>hh k (ha k hk) w h st) (fun k w h st=>by rw [vz (oX ns rtl 4)];exact vy ht _ rtl f k w h) w h st (by rw [oX];exact zpb (xe ht n rtl 3 ⟨3,w⟩ ⟨3,h⟩) (by decide)) (by omega) (by omega)
  rw [<-kr hx]at this
  exact this
theorem nZ(ns:List ae)(hl:ns.length<=1048576)(hs:∀y∈ns,ae.small y)(n wide high:Int)(rtl:Bool):PC0 27 [.agg [.view (vwA ae.ac ns)],ai n,ai wide,ai high,abl rtl] (.t (.c (.view (vw ag.c (fuO ns n wide high rtl))))):=by
 have cO:=xB ns hl hs n wide high
 change PC0 _ _ (.t (abl (uOk ns n wide high)))at cO
 cases hO:uOk ns n wide high
 case false=>
  rw [show vw ag.c (fuO ns n wide high rtl)=[] by unfold fuO;rw [if_pos hO];rfl]
  rw [hO]at cO
  obtain⟨V,hV⟩:=nmE (vwA ae.ac ns)
  rw [<-hV]at cO⊢
  refine fZ (t:=45) (k:=5) (V:=[]) ?_ (fun x hx=>by cases hx) (fun x hx=>by cases hx)
  clear hV
  refine aV func27 fun g F hg hF=> ?_
  cbv
  repeat'(refine ad hg cO ?_;cbv)
  exact bN hF rfl rfl
 rw [show fuO ns n wide high rtl=Eg (vn ns rtl 4) ns rtl 3 n wide high by unfold fuO;rw [if_neg (by rw [hO];simp)]]
 rw [hO]at cO
 simp only [uOk,zqs]at hO
 obtain⟨hT,hI,-,-⟩:=hO
 have hc:=cU3
 have cU:=lD ns hl hs hT rtl 3 (by decide) n hI (by have:=iu hT hI;omega) wide high st0 (by show 0+_<=_;omega) (by show 0+_<=_;omega)
 rw [vz (oX ns rtl 4),SM0,SA0]at cU
 obtain⟨hb,ha⟩:=nmE ((Eh (vo false ns rtl 4) ns rtl 3 n wide high st0).2)
 rw [<-ha]at cU
 have he:=bD hb.1
 have hd:=bG hb.2
 generalize hM2:SM hb.1=M2 at cU he
 generalize hA2:SA hb.2=A2 at cU hd
 generalize hX:vw ag.c (Eg (vn ns rtl 4) ns rtl 3 n wide high)=X at cU
 obtain⟨V,hV⟩:=nmE (vwA ae.ac ns)
 rw [<-hV]at cO cU⊢
 clear hX ha hM2 hA2 hV hc
 refine aV func27 fun g F hg hF=> ?_
 cbv
 repeat'(refine ad hg cO ?_;cbv)
 refine Ib rfl hg 2 rfl [.bx 28 1 [.view V],.bx 91 5 [.view V,.B rtl,.B false,.own 2,.own 3],.rw ⟨157,10,[]⟩,.rw ⟨172,6,[]⟩] [.c (.ptr 1 0 0),ai n,ai wide,ai high] [some 0,some 1,none,none] (wkM [some 0,some 1,none,none] ⟨zr4,zpt⟩ ⟨.inr (wqE rfl rfl),.inr (wqB rfl ⟨zr5,zpt⟩),.inr ⟨_,rfl,rfl⟩,.inr ⟨_,rfl,rfl⟩,zpt⟩ (by decide) ⟨.inr rfl,.inr rfl,zpt⟩ ⟨.inr ⟨_,rfl⟩,.inr ⟨_,rfl⟩,zpt⟩) ?_
 (refine gl rfl hg 1 2 3 cU rfl rfl rfl (by decide) rfl rfl rfl zr4 rfl ?_;cbv)
 exact gf hF rfl ⟨rfl,rfl⟩
end
section
variable {l:Nat×Nat}
variable {r:List AC}
variable {P:Program}{n0 N:Nat}{g:Gd}
variable {K:AV->EH->Prop}{f:FuncId}{args args':List AT}
theorem BA{β:BP}(hg:g=G0 P n0 N){h:EH}{ab:AB}(hc:bS P f args' fun res hd=>res= .o 0/\hd=[ab])(ha:qO (toH h) args args')(hp:qd ab.es=true)
  (hK:K (.t (.c (.own (mU h)))) (h++[.rw ab])):g .C f h args K:=
 JO hg hc ha fun res hd hb=>by
  obtain⟨rfl,rfl⟩:=hb
  refine⟨rfl,fun hf he=> ?_,[.rw ab],?_,?_⟩
  ·obtain rfl:=zpa.1 he
   exact ki hp _ _
  ·simp only [zqA,List.map_nil,fY (ff hp)];rfl
  ·rw [dy]at hK;rw [bV];exact hK
theorem yv{β:BP}(hg:g=G0 P n0 N){h:EH}{n:Nat}{ab:AB}(hc:bS P f args' fun res hb=>res= .o 0/\hb=[ab])(ha:qO (toH h) args args')(hp:qd ab.es=true)
  (hK:K (.o n) [.rw ab]):g .PC f h n args K:=
 JN hg hc ha rfl (fun he hd=>by
  obtain rfl:=zpa.1 hd
  exact ki hp _ _) [.rw ab] (by simp only [zqA,List.map_nil,fY (ff hp)];rfl) hK
theorem Con.toB{β:BP}{h:AH}{args:List AT}{Post:AV->AH->Prop}(hc: @Con bp0 P f h args Post):Con P f h args Post:=
 ⟨hc.1,fun F w m vs hH hl ha=>(hc.2 F w m vs (hH.bp (zpn _)) hl ha).mono fun e w'⟨v,res,h',m',F',he,hp,hG,hs,hv⟩=>by
  refine⟨v,res,h',m',F',he,hp,hG,?_,hv⟩
  obtain⟨h1,h2,h3,h4,h5,h6,h7,h8⟩:=hs
  exact⟨h1.bp (zpb hH.lo h6),h2,h3,h4,h5,h6,h7,h8⟩⟩
theorem JP{β:BP}(hg:g=G0 P n0 N){H:EH}{args:List AT}(r:Nat){ab ab':AB}{R k:Int}
  (hc: @Con bp0 P f (toH [.rw ab]) [.c (.own 0),ai k] fun res h'=>∃eh,toH eh=h'/\(res= .i R/\eh=[.rw ab'])) (hr:nth H r=some (.rw ab)) (hp:ay ab.es=true) (hp':ay ab'.es=true) (ha:args=[.c (.own r),ai k])
  (hK:K (.t (.c (.J R))) (Cs H r (.rw ab'))):g .C f H args K:=by
 subst ha
 have hb:r<H.length:=by rw [fF]at hr;exact(zqb.1 hr).1
 refine D0 hg [r] (Con.toB hc) (by simp) (by simpa using hb) ⟨⟨ab,ab,rfl,by rw [hr];rfl,rfl,rfl,.inl ⟨rfl,hp⟩⟩,zpt⟩ zr2 fun res eh⟨h1,h2⟩=> ?_
 subst h1 h2
 rw [nA]at hK
 simp only [dp,EE.mv,Jb hp',List.map_nil,zpr]
 exact hK
end
section
variable {l:Nat×Nat}
variable {r:List AC}
theorem jy(w:World)(a0:i8)(f0:a0.fit)(v0:Value)(r0:RT (fun b=>b<w.heap.size) w [] [] (.agg a0.ac) v0)(a1:Int)(a2:Int)(a3:Int)(a4:Bool):
  Calls prog 6 #[v0,.int .i64 a1,.int .i64 a2,.int .i64 a3,.bool a4] w fun e w'=>e= .returned (.bool true)/\Below w.heap.size w w':=by
 have cz:=wy a0 1048576 f0 (by decide) (by decide)
 have ck:a0.small->_:=fun hs=>wu a0 hs
 have ct:a0.small->_:=fun hs=>wt a0 hs
 have ce:a0.small->_:=fun hs=>wB a0 hs
 obtain⟨ns⟩:=a0
 have cm:i8.small ⟨ns⟩->_:=fun hs=>zi ns hs.1 hs.2.1
 have cs:i8.small ⟨ns⟩->_:=fun hs=>nZ ns hs.1 hs.2.1 a1 a2 a3 a4
 have ci:i8.small ⟨ns⟩->_:=fun hs=>oP ns hs.1 hs.2.1 a1 a2 a3 a4
 have hf:(fuO ns a1 a2 a3 a4).length<=1048576:=HQ ..
 have eg:=sC (fuO ns a1 a2 a3 a4) (fuO ns a1 a2 a3 a4) hf
 rw [zqu rfl]at eg
 obtain⟨T,hT⟩:=nmE (vwA ae.ac ns)
 obtain⟨G,hG⟩:=nmE (vw ag.c (fuO ns a1 a2 a3 a4))
 have iG:=imV hG
 have kG:=kmV (k:=5) hG fun _=>rfl
 have dG:=dmV hG
 have pG:=ff iG
 have hh:G.length<=1048576:=by rw [hG,ar];exact hf
 replace r0:RT (fun b=>b<w.heap.size) w [] [] (.agg [.view T]) v0:=by rw [hT];exact r0
 obtain⟨S,hS⟩:∃S:Prop,S=i8.small ⟨ns⟩:=⟨_,rfl⟩
 rw [<-hS]at ck ct ce cs ci cm
 replace cz:bS prog 15 [.agg [.view T],ai 1048576] (fun res ha=>∃R:Int,res= .i R/\ha=[]/\(R<=1048576\/R<0)/\(0<=R->S)):=by rw [hT,hS];exact cz
 replace ck:S->PC0 17 [.agg [.view T]] (.t (.agg [.view T])):=by rw [hT];exact ck
 replace ct:S->Cq prog 17 [.agg [.view T]] (fun lo res ha=>(∃b,res= .t (.agg [.fv b T])/\nx lo b)/\dv res=true/\ha=[]):=by rw [hT];exact ct
 replace ce:S->PC0 20 [.agg [.view T],.agg [.view T]] (.t (abl true)):=by rw [hT];exact ce
 rw [<-hT]at cm
 rw [<-hT,<-hG]at cs ci
 rw [<-hG]at eg
 clear hS hT hG f0 hf
 refine HH 5 [(13,.hand)] [] (S) (args:=fun lo=>[.agg [.old lo T],ai a1,ai a2,ai a3,abl a4]) (c:=jD Tryz.f6) (fun lo=>[(1,.i a1),(2,.i a2),(3,.i a3),(4,.t (abl a4)),(5,.p 0),(12,.v G)]) (fun lo=>[.bx 48 1 [.old lo T]]) bq Tryz.func6 (by kernel_rfl) (by kernel_rfl) (fun _=>by rfl) (by kernel_rfl) (fun β g hk hd F B hi he hj hg hF hB=> ?_) (fun β lo g hk hd F hs hl hi he hj hg hF=> ?_) (vs:=[v0,.int .i64 a1,.int .i64 a2,.int .i64 a3,.bool a4]) rfl (jV (IW (xs:=[.view T]) rfl r0) (jV (rfl) (jV (rfl) (jV (rfl) (jV (rfl) (D5))))))
 ·clear r0
  cbv
  refine GX hg cz ⟨zr1,rfl,zpt⟩ (fun res ha⟨R,hres,hrows,hR1,hR2⟩=> ?_)
  subst hres hrows
  refine⟨[],rfl,?_⟩
  cbv
  cases hlt:g .q .lss R 0
  case true=>
   cbv
   rw [hF]
  rw [ba hg,zqo]at hlt
  have hs:S:=hR2 (by omega)
  cbv
  repeat'((first|refine zM hg (ck hs) ⟨zr1,zpt⟩ rfl ?_|refine zM hg (cs hs) (gV rfl) rfl ?_);cbv)
  skip
  exact hB hs _ _ (Wk.weak (wkG [some _] zr6 ⟨wqE rfl rfl,zpt⟩ (by decide) aB))
 ·clear r0 cz
  replace ck:=ck hs
  replace ct:=ct hs
  replace ce:=ce hs
  replace cs:=cs hs
  replace ci:=ci hs
  replace cm:=cm hs
  cbv
  refine BC hg ct ⟨zr1,zpt⟩ (fun lo0 res q1 q2 q3⟨b0,hres,hn⟩=> ?_)
  subst hres
  replace hn:=hn.mono q1
  clear q1 q2 q3
  cbv
  repeat'(refine BA hg ci (.agg (.cons (.fv _ _) .nil) (.c (.imm _) (.c (.imm _) (.c (.imm _) (.c (.imm _) .nil))))) iG ?_;cbv)
  refine yw hg eg (.c (aX (ab:=⟨_,_,G⟩) rfl kG dG) (.c (.old _ _) .nil)) rfl ?_
  cbv
  refine oW hg ck ⟨zr1,zpt⟩ rfl ?_
  cbv
  refine oW hg ce ⟨⟨.inl rfl,zpt⟩,zr1,zpt⟩ rfl ?_
  cbv
  obtain⟨R0,K,hp,hq,cm⟩:=cm
  have hm:=cm b0 hn.1
  clear cm
  refine oS hg hj bq 2 (by kernel_rfl) (fun mk ho=> ?_)
  cbv
  subst ho
  refine⟨_,_,_,[(b0,T,R0)],_,[(1,.i a1),(2,.i a2),(3,.i a3),(4,.t (abl a4)),(5,.p 0),(12,.t (.c (.old β.lo G))),(13,.p 1),(14,.o 2)],[.bx 48 1 [.old lo T],.bx 28 1 [.dead],.rw ⟨45,5,G⟩],rfl,rfl,rfl,rfl,rfl,hm,fun u hu b hb=> ?_,fun u hu=> ?_,
   ⟨.inr (.inl zr1),.inr (.inl zr1),.inr (.inl zr1),.inr (.inl zr1),.inr (.inl zr1),.inr (.inl ⟨rfl,fun u hu b hb=> ?_⟩),.inr (.inl zr1),.inr (.inl zr1),zpt⟩,
   ⟨⟨rfl,rfl,.inr (.inl ⟨rfl,fun u hu b hb=> ?_⟩),zpt⟩,⟨rfl,rfl,.inl rfl,zpt⟩,.inl ⟨rfl,iG⟩,zpt⟩,?_⟩
  ·rw [zpa.1 hu]at hb;exact hi b (hn.2 b hb)
  ·rw [zpa.1 hu];exact⟨_,zpd ..,zpd ..⟩
  ·rw [zpa.1 hu]at hb;exact hn.2 b hb
  ·rw [zpa.1 hu]at hb;exact zpb hl (hn.2 b hb)
  clear hm hn
  have hc:=pn 1 G kG pG hh (by decide) (by decide)
  have ch:=po 1 G.length hh (by decide) (by decide)
  rw [<-ao]at ch
  obtain⟨Y,hY⟩:=nmE (vw ag.c (fC 1 G.length))
  have pY:=pmV hY
  have kY:=kmV (k:=5) hY fun _=>rfl
  have dY:=dmV hY
  rw [<-hY]at hc ch
  obtain⟨M,hM⟩:∃M:Int,M=1+5*aN G:=⟨_,rfl⟩
  have bM:¬M<0:=by rw [hM,ao];omega
  rw [<-hM]at hc ch
  clear hY hM
  have eK:g .q .lss K 0=false:=by rw [ba hg];exact zqt (by omega)
  have e4:g .q .lss M 0=false:=by rw [ba hg];exact zqt bM
  have e5:g .q .neq M M=false:=by rw [bC hg];simp
  cbv
  rw [eK]
  cbv
  refine yw hg eg (.c (aX (ab:=⟨_,_,G⟩) rfl kG dG) (.c (.old _ _) .nil)) rfl ?_
  cbv
  refine JP hg 2 hc rfl pG pY rfl ?_
  cbv
  refine yw hg ch (.c (aX (ab:=⟨_,_,Y⟩) rfl kY dY) (.c (.imm _) .nil)) rfl ?_
  cbv
  rw [e4]
  cbv
  rw [e5]
  cbv
  repeat'((first|refine zM hg ck ⟨zr1,zpt⟩ rfl ?_|refine BA hg ci (.agg (.cons (.view _) .nil) (.c (.imm _) (.c (.imm _) (.c (.imm _) (.c (.imm _) .nil))))) iG ?_);cbv)
  refine yw hg eg (.c (aX (ab:=⟨_,_,G⟩) rfl kG dG) (.c (.old _ _) .nil)) rfl ?_
  cbv
  refine yw hg ch (.c (aX (ab:=⟨_,_,Y⟩) rfl kY dY) (.c (.imm _) .nil)) rfl ?_
  cbv
  rw [e4]
  cbv
  rw [e5]
  cbv
  rw [hF]
end
end Go.Proofs.YtckchgoblpgpbaaGreat
