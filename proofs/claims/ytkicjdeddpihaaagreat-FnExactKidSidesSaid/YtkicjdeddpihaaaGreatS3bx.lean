/- The law of KidSides. -/
import Derived.Test.YtkicjdeddpihaaaGreatS3bw
set_option linter.unusedVariables false
set_option linter.unusedSimpArgs false
set_option maxHeartbeats 16000000
namespace Go.Proofs.YtkicjdeddpihaaaGreat
open Go.ChangeShapes Go.WideShapes Go.ChangeAt Go.RowKit Am Go.Proofs.Tryz
set_option maxRecDepth 100000
theorem mY.swap{lo:Nat}{as_ bs:List Nat}(h:mY lo (as_++bs)):mY lo (bs++as_):=by
 obtain⟨h1,h2,h3⟩:=List.nodup_append.1 h.1
 exact⟨List.nodup_append.2 ⟨h2,h1,fun a ha b hb he=>h3 b hb a ha he.symm⟩,fun b hb=>h.2 b (by rcases List.mem_append.1 hb with h|h;exact List.mem_append_right _ h;exact List.mem_append_left _ h)⟩
def af.acT(x:af)(b1 b63:List Nat):List AC:=
 match x with
 |⟨a0,a1,a2,a62,⟨a63⟩⟩=>(List.append [.imm (.int .i64 a0),.fv b1 (vw ah a1)] (List.append (lc (ak.c a2)) [.imm (.bool a62),.fv b63 (vw aI.c a63)]))
theorem th(x:jM)(hs:x.small):Bp prog 146 [.agg x.ac] fun lo res hc=>(∃b,res= .t (.agg [.fv b (vw aI.c x.rules)])/\mY lo b)/\dt res=true/\hc=[]:=by
 obtain⟨a0⟩:=x
 obtain⟨hl,-⟩:=hs
 show Bp _ _ [.agg [.view (vw aI.c a0)]] (fun lo res hc=>(∃b,res= .t (.agg [.fv b (vw aI.c a0)])/\mY lo b)/\dt res=true/\hc=[])
 have c0:=DJ (mP a0 hl)
 obtain⟨he,ha⟩:=nmE (vw aI.c a0)
 have hf:=lmV ha
 have hb:=imV ha
 have hk:=kmV (k:=3) ha fun _=>rfl
 have hh:=dmV ha
 rw [<-ha]at c0
 rw [<-ha]
 refine qG ([]) ([]) (c:=aK f146) ay func146 (by kernel_rfl) (by kernel_rfl) (by rfl) (by kernel_rfl) fun β g hm hd F hj hn hg hF=> ?_
 cbv
 repeat'(refine bC hg c0 (bn rfl) hb ?_;cbv)
 refine G5 hF fun bl hi=>⟨[.agg [.fv (hd1 (bl 3) he) he]],.agg (.cons (rx (r:=3) (ab:=⟨_,_,he⟩) rfl hb) .nil) .nil,⟨_,rfl,sB hi (r:=3) (ab:=⟨_,_,he⟩) rfl⟩,rfl,rfl⟩
theorem vz(x:af)(hs:x.small):Bp prog 71 [.agg x.ac] fun lo res hb=>(∃b1 b63,res= .t (.agg (x.acT b1 b63))/\mY lo (b1++b63))/\dt res=true/\hb=[]:=by
 obtain⟨a0,a1,a2,hk,⟨he⟩⟩:=x
 obtain⟨ht,hl,-⟩:=hs
 show Bp _ _ [.agg (List.append [.J a0,.view (vw ah a1)] (List.append (lc (ak.c a2)) [.B hk,.view (vw aI.c he)]))] (fun lo res hb=>(∃b1 b63,res= .t (.agg (List.append [.J a0,.fv b1 (vw ah a1)] (List.append (lc (ak.c a2)) [.B hk,.fv b63 (vw aI.c he)])))/\mY lo (b1++b63))/\dt res=true/\hb=[])
 have c1:=DJ (og a1 ht)
 have hj:=th ⟨he⟩ ⟨hl,trivial⟩
 replace hj:Bp prog 146 [.agg [.view (vw aI.c he)]] (fun lo res hb=>(∃b,res= .t (.agg [.fv b (vw aI.c he)])/\mY lo b)/\dt res=true/\hb=[]):=hj
 obtain⟨hi,ha⟩:=nmE (vw ah a1)
 have hm:=lmV ha
 have hh:=imV ha
 have hr:=kmV (k:=1) ha fun _=>rfl
 have ho:=dmV ha
 obtain⟨hf,hc⟩:=nmE (vw aI.c he)
 rw [<-ha]at c1
 rw [<-hc]at hj
 rw [<-ha,<-hc]
 refine qG ([]) ([]) (c:=aK f71) ay func71 (by kernel_rfl) (by kernel_rfl) (by rfl) (by kernel_rfl) fun β g hu hd F hq hv hg hF=> ?_
 cbv
 repeat'((first|refine bC hg c1 (bn rfl) hh ?_|refine fX hg (ju (a2:ak)) rfl rfl ?_);cbv)
 refine Al hg hj (fz rfl) (fun lo res h1 h2 h3⟨b63,hres,hn⟩=> ?_)
 subst hres
 clear h2 h3
 cbv
 refine G5 hF fun bl hp=>⟨[.agg (List.append [.J a0,.fv (hd1 (bl 3) hi) hi] (List.append (lc (ak.c a2)) [.B hk,.fv b63 hf]))],.agg (by repeat'(first|exact .nil|refine .cons ?_ ?_|exact .imm _|exact .fv _ _|exact rx (r:=3) (ab:=⟨_,_,hi⟩) rfl hh)) .nil,⟨_,_,rfl,(ER hp (r:=3) (ab:=⟨_,_,hi⟩) rfl (List.mem_singleton.2 rfl) (ps:=b63) (ys:=hf) (by simp [AT.cells]) (hn.mono h1)).swap⟩,rfl,rfl⟩
theorem tr(xs:List af)(hl:xs.length<=1048576)(hs:∀y∈xs,y.small):Bp prog 37 [.c (.view (vwA af.ac xs))] fun lo res he=>(∃bs,res= .t (.c (.fv bs (vwA af.ac xs)))/\mY lo bs)/\dt res=true/\he=[]:=by
 obtain⟨V,hV⟩:=nmE (vwA af.ac xs)
 have hw:V.length=xs.length:=by rw [hV,bB]
 have hy:aM V=(xs.length:Int):=by rw [aj];omega
 have hG:aM V<=1048576:=by omega
 rw [<-hV]
 refine qG ([]) ([]) (c:=aK f37) ay func37 (by kernel_rfl) (by kernel_rfl) (by rfl) (by kernel_rfl) fun β g hE hd F hr hA hg hF=> ?_
 cbv
 refine FM hg (by decide) (by rw [hw];exact hl) ?_
 cbv
 have hu:qE 64 V (List.replicate (g .ln V).toNat wH) 0 β.lo:=qE.start rfl rfl (bA hg V)
 refine gj [] [] hr hA hg ay (by kernel_rfl) (fun s:Int×LLA=>[(0,.v V),(3,.o 0),(4,.i s.1)]) (fun s=>[.rw ⟨119,64,s.2⟩]) (fun s=>qE 64 V s.2 s.1 β.lo) (fun s=>(aM V).toNat-s.1.toNat)
  (0,g .rp (g .ln V) wH) ?_ (Wk.weak (wkS [0] (by decide) ⟨⟨_,rfl,rfl,?_⟩,trivial⟩ zr3)) (fun s B ha hB=> ?_)
 ·simp only [yE hg];exact hu
 ·simp only [yE hg];exact bS hu.bare
 ·obtain⟨z,es⟩:=s
  simp only at ha
  have h0:=ha.z0
  have h1:=ha.z1
  have hh:=ha.len
  cbv
  cases hc:g .q .lss z (g .ln V)
  ·cbv
   rw [bg hg,bA hg,zqo]at hc
   have hq:=ha.all hc
   refine G5 hF fun bl hz=>⟨[.c (.fv (hd1 (bl 0) es++fpE es) V)],.c (by have:=pB (bl:=bl) (h:=toH [.rw ⟨119,64,es⟩]) (r:=0) (ab:=⟨119,64,es⟩) rfl ha.bare;rw [hq]at this;exact this) .nil,⟨_,rfl,Hi hz (r:=0) (ab:=⟨_,_,es⟩) rfl ha.new⟩,rfl,rfl⟩
  ·cbv
   rw [bg hg,bA hg,zqp]at hc
   obtain⟨x,hx⟩:=qc (xs:=xs) h0 (gg hy hc)
   have hD:=hs x (zqd hx)
   have hi:V[z.toNat]? =some x.ac:=by rw [hV];exact gU hx
   have cx:=vz x hD
   obtain⟨a0,a1,a2,hk,⟨hm⟩⟩:=x
   replace hi:V[z.toNat]? =some (List.append [.J a0,.view (vw ah a1)] (List.append (lc (ak.c a2)) [.B hk,.view (vw aI.c hm)])):=hi
   replace cx:Bp _ _ [.agg (List.append [.J a0,.view (vw ah a1)] (List.append (lc (ak.c a2)) [.B hk,.view (vw aI.c hm)]))] (fun lo res he=>(∃b1 b63,res= .t (.agg (List.append [.J a0,.fv b1 (vw ah a1)] (List.append (lc (ak.c a2)) [.B hk,.fv b63 (vw aI.c hm)])))/\mY lo (b1++b63))/\dt res=true/\he=[]):=cx
   obtain⟨hv,hp⟩:=nmE (vw ah a1)
   obtain⟨ho,hf⟩:=nmE (vw aI.c hm)
   rw [<-hp,<-hf]at hi cx
   refine goX hg _ h0 hi rfl ?_
   cbv
   refine Al hg cx (fz rfl) (fun lo res q1 q2 q3⟨b1,b63,hres,hn⟩=> ?_)
   subst hres
   have hC:∀b∈fpE es,b<lo:=fun b hb=>q2 b (List.mem_append_left _ hb)
   clear q2 q3
   cbv
   obtain⟨j,hj⟩:=nmE z.toNat
   refine yD hg h0 hj (rQ h0 (zS hh hc) hj) ?_
   cbv
   refine goN hg (ha.mem (rQ h0 (zS hh hc) hj)) ?_
   cbv
   have h2:g .w .add .i64 z 1=z+1:=by rw [aJ hg,aq _ (by omega)]
   rw [h2,i7 hg]
   have ht:=ha.step (y:=(List.append [.J a0,.fv b1 hv] (List.append (lc (ak.c a2)) [.B hk,.fv b63 ho]))) hc hj hi rfl rfl rfl q1 (by simpa [fpL,fpC,show List.flatMap fpC (lc (ak.c a2))=[]from rfl]using hn) hC
   rw [hB]
   exact⟨(z+1,_),ht,by show(aM V).toNat-(z+1).toNat<(aM V).toNat-z.toNat;omega,Wk.weak (wkS [0] (by decide) ⟨⟨_,rfl,rfl,bS ht.bare⟩,trivial⟩ zr3)⟩
theorem vu(x:iY)(hs:x.small):Bp prog 9 [.agg x.ac] fun lo res ha=>(∃b,res= .t (.agg [.fv b (vwA af.ac x.nodes)])/\mY lo b)/\dt res=true/\ha=[]:=by
 obtain⟨a0⟩:=x
 obtain⟨he,hf,-⟩:=hs
 show Bp _ _ [.agg [.view (vwA af.ac a0)]] (fun lo res ha=>(∃b,res= .t (.agg [.fv b (vwA af.ac a0)])/\mY lo b)/\dt res=true/\ha=[])
 have c0:=tr a0 he hf
 obtain⟨hh,hb⟩:=nmE (vwA af.ac a0)
 rw [<-hb]at c0
 rw [<-hb]
 refine qG ([]) ([]) (c:=aK Tryz.f9) ay Tryz.func9 (by kernel_rfl) (by kernel_rfl) (by rfl) (by kernel_rfl) fun β g hi hd F hc hj hg hF=> ?_
 cbv
 refine Al hg c0 (fz rfl) (fun lo res h1 h2 h3⟨b,hres,hn⟩=> ?_)
 subst hres
 clear h2 h3
 cbv
 exact JI hF rfl ⟨⟨b,rfl,hn.mono h1⟩,rfl,rfl⟩
theorem kQ(w:World)(a0:iY)(f0:a0.fit)(v0:Value)(r0:RT (fun b=>b<w.heap.size) w [] [] (.agg a0.ac) v0)(a1:Int)(a2:az)(a3:az)(a4:Bool):
  Calls prog 5 #[v0,.int .i64 a1,.agg #[.int .i64 a2.mode,.int .i64 a2.n],.agg #[.int .i64 a3.mode,.int .i64 a3.n],.bool a4] w fun e w'=>e= .returned (.bool true)/\Below w.heap.size w w':=by
 have cz:=vB a0 1048576 f0 (by decide) (by decide)
 have ck:a0.small->_:=fun hs=>vx a0 hs
 have ct:a0.small->_:=fun hs=>vu a0 hs
 have ce:a0.small->_:=fun hs=>vG a0 hs
 obtain⟨ns⟩:=a0
 obtain⟨p2,q2⟩:=a2
 obtain⟨p3,q3⟩:=a3
 have cm:iY.small ⟨ns⟩->_:=fun hs=>yv ns hs.1 hs.2.1
 have cs:iY.small ⟨ns⟩->_:=fun hs=>rd ns hs.1 hs.2.1 a1 p2 q2 p3 q3 a4
 have ci:iY.small ⟨ns⟩->_:=fun hs=>se ns hs.1 hs.2.1 a1 p2 q2 p3 q3 a4
 have hf:(kdO ns a1 ⟨p2,q2⟩ ⟨p3,q3⟩ a4).length<=1048576:=GS ..
 have eg:=tD (kdO ns a1 ⟨p2,q2⟩ ⟨p3,q3⟩ a4) (kdO ns a1 ⟨p2,q2⟩ ⟨p3,q3⟩ a4) hf
 rw [zqu rfl]at eg
 obtain⟨T,hT⟩:=nmE (vwA af.ac ns)
 obtain⟨G,hG⟩:=nmE (vw ar.c (kdO ns a1 ⟨p2,q2⟩ ⟨p3,q3⟩ a4))
 have iG:=imV hG
 have kG:=kmV (k:=7) hG fun _=>rfl
 have dG:=dmV hG
 have pG:=cu iG
 have hh:G.length<=1048576:=by rw [hG,av];exact hf
 replace r0:RT (fun b=>b<w.heap.size) w [] [] (.agg [.view T]) v0:=by rw [hT];exact r0
 obtain⟨S,hS⟩:∃S:Prop,S=iY.small ⟨ns⟩:=⟨_,rfl⟩
 rw [<-hS]at ck ct ce cs ci cm
 replace cz:cV prog 7 [.agg [.view T],ai 1048576] (fun res ha=>∃R:Int,res= .i R/\ha=[]/\(R<=1048576\/R<0)/\(0<=R->S)):=by rw [hT,hS];exact cz
 replace ck:S->PC0 9 [.agg [.view T]] (.t (.agg [.view T])):=by rw [hT];exact ck
 replace ct:S->Bp prog 9 [.agg [.view T]] (fun lo res ha=>(∃b,res= .t (.agg [.fv b T])/\mY lo b)/\dt res=true/\ha=[]):=by rw [hT];exact ct
 replace ce:S->PC0 13 [.agg [.view T],.agg [.view T]] (.t (abl true)):=by rw [hT];exact ce
 rw [<-hT]at cm
 rw [<-hT,<-hG]at cs ci
 rw [<-hG]at eg
 have t2:=mO (⟨p2,q2⟩:az)
 replace t2:PC0 10 [.agg [.J p2,.J q2]] (.t (.agg [.J p2,.J q2])):=t2
 have t3:=mO (⟨p3,q3⟩:az)
 replace t3:PC0 10 [.agg [.J p3,.J q3]] (.t (.agg [.J p3,.J q3])):=t3
 clear hS hT hG f0 hf
 refine GQ 5 [(13,.hand)] [] (S) (args:=fun lo=>[.agg [.old lo T],ai a1,.agg [.J p2,.J q2],.agg [.J p3,.J q3],abl a4]) (c:=aK Tryz.f5) (fun lo=>[(1,.i a1),(4,.t (abl a4)),(5,.p 0),(7,.p 1),(8,.p 2),(12,.v G)]) (fun lo=>[.bx 24 1 [.old lo T],.bx 26 2 [.J p2,.J q2],.bx 26 2 [.J p3,.J q3]]) ay Tryz.func5 (by kernel_rfl) (by kernel_rfl) (fun _=>by rfl) (by kernel_rfl) (fun β g hk hd F B hi he hj hg hF hB=> ?_) (fun β lo g hk hd F hs hl hi he hj hg hF=> ?_) (vs:=[v0,.int .i64 a1,.agg #[.int .i64 p2,.int .i64 q2],.agg #[.int .i64 p3,.int .i64 q3],.bool a4]) rfl (jL (HR (xs:=[.view T]) rfl r0) (jL (rfl) (jL (Fp (cs:= #[.int .i64 p2,.int .i64 q2]) rfl) (jL (Fp (cs:= #[.int .i64 p3,.int .i64 q3]) rfl) (jL (rfl) (Dk))))))
 ·clear r0
  cbv
  refine Df hg cz ⟨zr1,rfl,trivial⟩ (fun res ha⟨R,hres,hrows,hR1,hR2⟩=> ?_)
  subst hres hrows
  refine⟨[],rfl,?_⟩
  cbv
  cases hlt:g .q .lss R 0
  case true=>
   cbv
   rw [hF]
  rw [bg hg,zqo]at hlt
  have hs:S:=hR2 (by omega)
  cbv
  repeat'((first|refine oJ hg (ck hs) ⟨zr1,trivial⟩ rfl ?_|refine aa hg t2 ?_|refine aa hg t3 ?_|refine oJ hg (cs hs) (fz rfl) rfl ?_);cbv)
  skip
  exact hB hs _ _ (Wk.weak (wkG [some 0,some 1,some 2] zr6 ⟨wqE rfl rfl,wqE rfl rfl,wqE rfl rfl,trivial⟩ (by decide) aD))
 ·clear r0 cz
  replace ck:=ck hs
  replace ct:=ct hs
  replace ce:=ce hs
  replace cs:=cs hs
  replace ci:=ci hs
  replace cm:=cm hs
  cbv
  refine Al hg ct ⟨zr1,trivial⟩ (fun lo0 res q1 q2 q3⟨b0,hres,hn⟩=> ?_)
  subst hres
  replace hn:=hn.mono q1
  clear q1 q2 q3
  cbv
  repeat'((first|refine xL hg ci (.agg (.cons (.fv _ _) .nil) (.c (.imm _) (.agg (.cons (.imm _) (.cons (.imm _) .nil)) (.agg (.cons (.imm _) (.cons (.imm _) .nil)) (.c (.imm _) .nil))))) iG ?_|refine aa hg t2 ?_|refine aa hg t3 ?_);cbv)
  refine xM hg eg (.c (bf (ab:=⟨_,_,G⟩) rfl kG dG) (.c (.old _ _) .nil)) rfl ?_
  cbv
  refine oJ hg ck ⟨zr1,trivial⟩ rfl ?_
  cbv
  refine oJ hg ce ⟨⟨.inl rfl,trivial⟩,zr1,trivial⟩ rfl ?_
  cbv
  obtain⟨R0,K,hp,hq,cm⟩:=cm
  have hm:=cm b0 hn.1
  clear cm
  refine oD hg hj ay 2 (by kernel_rfl) (fun mk ho=> ?_)
  cbv
  subst ho
  refine⟨_,_,_,[(b0,T,R0)],_,[(1,.i a1),(4,.t (abl a4)),(5,.p 0),(7,.p 1),(8,.p 2),(12,.t (.c (.old β.lo G))),(13,.p 3),(14,.o 4)],[.bx 24 1 [.old lo T],.bx 26 2 [.J p2,.J q2],.bx 26 2 [.J p3,.J q3],.bx 32 1 [.dead],.rw ⟨96,7,G⟩],rfl,rfl,rfl,rfl,rfl,hm,fun u hu b hb=> ?_,fun u hu=> ?_,
   ⟨.inr (.inl zr1),.inr (.inl zr1),.inr (.inl zr1),.inr (.inl zr1),.inr (.inl zr1),.inr (.inl ⟨rfl,fun u hu b hb=> ?_⟩),.inr (.inl zr1),.inr (.inl zr1),trivial⟩,
   ⟨⟨rfl,rfl,.inr (.inl ⟨rfl,fun u hu b hb=> ?_⟩),trivial⟩,⟨rfl,rfl,.inr (.inl zr1),.inr (.inl zr1),trivial⟩,⟨rfl,rfl,.inr (.inl zr1),.inr (.inl zr1),trivial⟩,⟨rfl,rfl,.inl rfl,trivial⟩,.inl ⟨rfl,iG⟩,trivial⟩,?_⟩
  ·rw [List.mem_singleton.1 hu]at hb;exact hi b (hn.2 b hb)
  ·rw [List.mem_singleton.1 hu];exact⟨_,List.mem_cons_self ..,List.mem_cons_self ..⟩
  ·rw [List.mem_singleton.1 hu]at hb;exact hn.2 b hb
  ·rw [List.mem_singleton.1 hu]at hb;exact Nat.le_trans hl (hn.2 b hb)
  clear hm hn
  have hc:=qq 1 G kG pG hh (by decide) (by decide)
  have ch:=qx 1 G.length hh (by decide) (by decide)
  rw [<-aj]at ch
  obtain⟨Y,hY⟩:=nmE (vw ar.c (fQ 1 G.length))
  have pY:=pmV hY
  have kY:=kmV (k:=7) hY fun _=>rfl
  have dY:=dmV hY
  rw [<-hY]at hc ch
  obtain⟨M,hM⟩:∃M:Int,M=1+7*aM G:=⟨_,rfl⟩
  have bM:¬M<0:=by rw [hM,aj];omega
  rw [<-hM]at hc ch
  clear hY hM
  have eK:g .q .lss K 0=false:=by rw [bg hg];exact zqt (by omega)
  have e4:g .q .lss M 0=false:=by rw [bg hg];exact zqt bM
  have e5:g .q .neq M M=false:=by rw [bj hg];simp
  cbv
  rw [eK]
  cbv
  refine xM hg eg (.c (bf (ab:=⟨_,_,G⟩) rfl kG dG) (.c (.old _ _) .nil)) rfl ?_
  cbv
  refine IW hg 4 hc rfl pG pY rfl ?_
  cbv
  refine xM hg ch (.c (bf (ab:=⟨_,_,Y⟩) rfl kY dY) (.c (.imm _) .nil)) rfl ?_
  cbv
  rw [e4]
  cbv
  rw [e5]
  cbv
  repeat'((first|refine oJ hg ck ⟨zr1,trivial⟩ rfl ?_|refine aa hg t2 ?_|refine aa hg t3 ?_|refine xL hg ci (.agg (.cons (.view _) .nil) (.c (.imm _) (.agg (.cons (.imm _) (.cons (.imm _) .nil)) (.agg (.cons (.imm _) (.cons (.imm _) .nil)) (.c (.imm _) .nil))))) iG ?_);cbv)
  refine xM hg eg (.c (bf (ab:=⟨_,_,G⟩) rfl kG dG) (.c (.old _ _) .nil)) rfl ?_
  cbv
  refine xM hg ch (.c (bf (ab:=⟨_,_,Y⟩) rfl kY dY) (.c (.imm _) .nil)) rfl ?_
  cbv
  rw [e4]
  cbv
  rw [e5]
  cbv
  rw [hF]
end Go.Proofs.YtkicjdeddpihaaaGreat
