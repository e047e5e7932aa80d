/- The law of KidSizes. -/
import Derived.Test.YtkicjdeddpihaaaGreatS2bw
set_option linter.unusedVariables false
set_option linter.unusedSimpArgs false
set_option maxHeartbeats 16000000
namespace Go.Proofs.YtkicjdeddpihaaaGreat
open Go.ChangeShapes Go.WideShapes Go.ChangeAt Go.RowKit Am Go.Proofs.Tryz
set_option maxRecDepth 100000
theorem kF(w:World)(a0:iT)(f0:a0.fit)(v0:Value)(r0:RT (fun b=>b<w.heap.size) w [] [] (.agg a0.ac) v0)(a1:Int)(a2:az)(a3:az)(a4:Bool):
  Calls prog 3 #[v0,.int .i64 a1,.agg #[.int .i64 a2.mode,.int .i64 a2.n],.agg #[.int .i64 a3.mode,.int .i64 a3.n],.bool a4] w fun e w'=>e= .returned (.bool true)/\Below w.heap.size w w':=by
 have cz:=ve a0 1048576 f0 (by decide) (by decide)
 have ck:a0.small->_:=fun hs=>va a0 hs
 have ct:a0.small->_:=fun hs=>uZ a0 hs
 have ce:a0.small->_:=fun hs=>vh a0 hs
 obtain⟨ns⟩:=a0
 obtain⟨p2,q2⟩:=a2
 obtain⟨p3,q3⟩:=a3
 have cm:iT.small ⟨ns⟩->_:=fun hs=>xV ns hs.1 hs.2.1
 have cs:iT.small ⟨ns⟩->_:=fun hs=>qH ns hs.1 hs.2.1 a1 p2 q2 p3 q3 a4
 have ci:iT.small ⟨ns⟩->_:=fun hs=>rN ns hs.1 hs.2.1 a1 p2 q2 p3 q3 a4
 have hf:(kzO ns a1 ⟨p2,q2⟩ ⟨p3,q3⟩ a4).length<=1048576:=Gp ..
 have eg:=nW (kzO ns a1 ⟨p2,q2⟩ ⟨p3,q3⟩ a4) (kzO ns a1 ⟨p2,q2⟩ ⟨p3,q3⟩ a4) hf
 rw [zqu rfl]at eg
 obtain⟨T,hT⟩:=nmE (vwA ag.ac ns)
 obtain⟨G,hG⟩:=nmE (vw ah (kzO ns a1 ⟨p2,q2⟩ ⟨p3,q3⟩ a4))
 have iG:=imV hG
 have kG:=kmV (k:=1) hG fun _=>rfl
 have dG:=dmV hG
 have pG:=db iG
 have hh:G.length<=1048576:=by rw [hG,ar];exact hf
 replace r0:RT (fun b=>b<w.heap.size) w [] [] (.agg [.view T]) v0:=by rw [hT];exact r0
 obtain⟨S,hS⟩:∃S:Prop,S=iT.small ⟨ns⟩:=⟨_,rfl⟩
 rw [<-hS]at ck ct ce cs ci cm
 replace cz:cY prog 7 [.agg [.view T],ai 1048576] (fun res ha=>∃R:Int,res= .i R/\ha=[]/\(R<=1048576\/R<0)/\(0<=R->S)):=by rw [hT,hS];exact cz
 replace ck:S->PC0 9 [.agg [.view T]] (.t (.agg [.view T])):=by rw [hT];exact ck
 replace ct:S->AN prog 9 [.agg [.view T]] (fun lo res ha=>(∃b,res= .t (.agg [.fv b T])/\mM lo b)/\dt res=true/\ha=[]):=by rw [hT];exact ct
 replace ce:S->PC0 13 [.agg [.view T],.agg [.view T]] (.t (abl true)):=by rw [hT];exact ce
 rw [<-hT]at cm
 rw [<-hT,<-hG]at cs ci
 rw [<-hG]at eg
 have t2:=mD (⟨p2,q2⟩:az)
 replace t2:PC0 10 [.agg [.J p2,.J q2]] (.t (.agg [.J p2,.J q2])):=t2
 have t3:=mD (⟨p3,q3⟩:az)
 replace t3:PC0 10 [.agg [.J p3,.J q3]] (.t (.agg [.J p3,.J q3])):=t3
 clear hS hT hG f0 hf
 refine Gn 5 [(13,.hand)] [] (S) (args:=fun lo=>[.agg [.old lo T],ai a1,.agg [.J p2,.J q2],.agg [.J p3,.J q3],abl a4]) (c:=aK Tryz.f3) (fun lo=>[(1,.i a1),(4,.t (abl a4)),(5,.p 0),(7,.p 1),(8,.p 2),(12,.v G)]) (fun lo=>[.bx 24 1 [.old lo T],.bx 26 2 [.J p2,.J q2],.bx 26 2 [.J p3,.J q3]]) ay Tryz.func3 (by kernel_rfl) (by kernel_rfl) (fun _=>by rfl) (by kernel_rfl) (fun β g hk hd F B hi he hj hg hF hB=> ?_) (fun β lo g hk hd F hs hl hi he hj hg hF=> ?_) (vs:=[v0,.int .i64 a1,.agg #[.int .i64 p2,.int .i64 q2],.agg #[.int .i64 p3,.int .i64 q3],.bool a4]) rfl (jG (Hq (xs:=[.view T]) rfl r0) (jG (rfl) (jG (EW (cs:= #[.int .i64 p2,.int .i64 q2]) rfl) (jG (EW (cs:= #[.int .i64 p3,.int .i64 q3]) rfl) (jG (rfl) (CY))))))
 ·clear r0
  cbv
  refine CT hg cz ⟨zr1,rfl,trivial⟩ (fun res ha⟨R,hres,hrows,hR1,hR2⟩=> ?_)
  subst hres hrows
  refine⟨[],rfl,?_⟩
  cbv
  cases hlt:g .q .lss R 0
  case true=>
   cbv
   rw [hF]
  rw [bg hg,zqo]at hlt
  have hs:S:=hR2 (by omega)
  cbv
  repeat'((first|refine ot hg (ck hs) ⟨zr1,trivial⟩ rfl ?_|refine aa hg t2 ?_|refine aa hg t3 ?_|refine ot hg (cs hs) (fw rfl) rfl ?_);cbv)
  skip
  exact hB hs _ _ (Wk.weak (wkG [some 0,some 1,some 2] zr6 ⟨wqE rfl rfl,wqE rfl rfl,wqE rfl rfl,trivial⟩ (by decide) aD))
 ·clear r0 cz
  replace ck:=ck hs
  replace ct:=ct hs
  replace ce:=ce hs
  replace cs:=cs hs
  replace ci:=ci hs
  replace cm:=cm hs
  cbv
  refine zQ hg ct ⟨zr1,trivial⟩ (fun lo0 res q1 q2 q3⟨b0,hres,hn⟩=> ?_)
  subst hres
  replace hn:=hn.mono q1
  clear q1 q2 q3
  cbv
  repeat'((first|refine xn hg ci (.agg (.cons (.fv _ _) .nil) (.c (.imm _) (.agg (.cons (.imm _) (.cons (.imm _) .nil)) (.agg (.cons (.imm _) (.cons (.imm _) .nil)) (.c (.imm _) .nil))))) iG ?_|refine aa hg t2 ?_|refine aa hg t3 ?_);cbv)
  refine xo hg eg (.c (bf (ab:=⟨_,_,G⟩) rfl kG dG) (.c (.old _ _) .nil)) rfl ?_
  cbv
  refine ot hg ck ⟨zr1,trivial⟩ rfl ?_
  cbv
  refine ot hg ce ⟨⟨.inl rfl,trivial⟩,zr1,trivial⟩ rfl ?_
  cbv
  obtain⟨R0,K,hp,hq,cm⟩:=cm
  have hm:=cm b0 hn.1
  clear cm
  refine og hg hj ay 2 (by kernel_rfl) (fun mk ho=> ?_)
  cbv
  subst ho
  refine⟨_,_,_,[(b0,T,R0)],_,[(1,.i a1),(4,.t (abl a4)),(5,.p 0),(7,.p 1),(8,.p 2),(12,.t (.c (.old β.lo G))),(13,.p 3),(14,.o 4)],[.bx 24 1 [.old lo T],.bx 26 2 [.J p2,.J q2],.bx 26 2 [.J p3,.J q3],.bx 32 1 [.dead],.rw ⟨3,1,G⟩],rfl,rfl,rfl,rfl,rfl,hm,fun u hu b hb=> ?_,fun u hu=> ?_,
   ⟨.inr (.inl zr1),.inr (.inl zr1),.inr (.inl zr1),.inr (.inl zr1),.inr (.inl zr1),.inr (.inl ⟨rfl,fun u hu b hb=> ?_⟩),.inr (.inl zr1),.inr (.inl zr1),trivial⟩,
   ⟨⟨rfl,rfl,.inr (.inl ⟨rfl,fun u hu b hb=> ?_⟩),trivial⟩,⟨rfl,rfl,.inr (.inl zr1),.inr (.inl zr1),trivial⟩,⟨rfl,rfl,.inr (.inl zr1),.inr (.inl zr1),trivial⟩,⟨rfl,rfl,.inl rfl,trivial⟩,.inl ⟨rfl,iG⟩,trivial⟩,?_⟩
  ·rw [List.mem_singleton.1 hu]at hb;exact hi b (hn.2 b hb)
  ·rw [List.mem_singleton.1 hu];exact⟨_,List.mem_cons_self ..,List.mem_cons_self ..⟩
  ·rw [List.mem_singleton.1 hu]at hb;exact hn.2 b hb
  ·rw [List.mem_singleton.1 hu]at hb;exact Nat.le_trans hl (hn.2 b hb)
  clear hm hn
  have hc:=lD 1 G kG pG hh (by decide) (by decide)
  have ch:=rJ 1 G.length hh (by decide) (by decide)
  rw [<-aj]at ch
  obtain⟨Y,hY⟩:=nmE (vw ah (eX 1 G.length))
  have pY:=pmV hY
  have kY:=kmV (k:=1) hY fun _=>rfl
  have dY:=dmV hY
  rw [<-hY]at hc ch
  obtain⟨M,hM⟩:∃M:Int,M=1+1*aQ G:=⟨_,rfl⟩
  have bM:¬M<0:=by rw [hM,aj];omega
  rw [<-hM]at hc ch
  clear hY hM
  have eK:g .q .lss K 0=false:=by rw [bg hg];exact zqt (by omega)
  have e4:g .q .lss M 0=false:=by rw [bg hg];exact zqt bM
  have e5:g .q .neq M M=false:=by rw [bz hg];simp
  cbv
  rw [eK]
  cbv
  refine xo hg eg (.c (bf (ab:=⟨_,_,G⟩) rfl kG dG) (.c (.old _ _) .nil)) rfl ?_
  cbv
  refine Iu hg 4 hc rfl pG pY rfl ?_
  cbv
  refine xo hg ch (.c (bf (ab:=⟨_,_,Y⟩) rfl kY dY) (.c (.imm _) .nil)) rfl ?_
  cbv
  rw [e4]
  cbv
  rw [e5]
  cbv
  repeat'((first|refine ot hg ck ⟨zr1,trivial⟩ rfl ?_|refine aa hg t2 ?_|refine aa hg t3 ?_|refine xn hg ci (.agg (.cons (.view _) .nil) (.c (.imm _) (.agg (.cons (.imm _) (.cons (.imm _) .nil)) (.agg (.cons (.imm _) (.cons (.imm _) .nil)) (.c (.imm _) .nil))))) iG ?_);cbv)
  refine xo hg eg (.c (bf (ab:=⟨_,_,G⟩) rfl kG dG) (.c (.old _ _) .nil)) rfl ?_
  cbv
  refine xo hg ch (.c (bf (ab:=⟨_,_,Y⟩) rfl kY dY) (.c (.imm _) .nil)) rfl ?_
  cbv
  rw [e4]
  cbv
  rw [e5]
  cbv
  rw [hF]
end Go.Proofs.YtkicjdeddpihaaaGreat
