/- The law of SizedBox. -/
import Derived.Test.YtkicjdeddpihaaaGreatS4bw
set_option linter.unusedVariables false
set_option linter.unusedSimpArgs false
set_option maxHeartbeats 16000000
namespace Go.Proofs.YtkicjdeddpihaaaGreat
open Go.ChangeShapes Go.WideShapes Go.ChangeAt Go.RowKit Am Go.Proofs.Tryz
set_option maxRecDepth 100000
theorem EB{ns:List ag}{n:Int}(hf:(flK ns n).length<=12)(rtl:Bool)(f:Nat)(w h:az):(C1 ns rtl (f+1) n w h).frames.length<=12:=by
 show(GB (C1 ns rtl f) ns rtl n w h).frames.length<=12
 unfold GB
 split
 ·exact Nat.zero_le _
 ·split
  ·exact Nat.zero_le _
  ·obtain⟨p,hp⟩:=nmE (plO ns n w h)
   have hb:p.kids=flK ns n:=by rw [hp];rfl
   rw [<-hp]
   obtain⟨I,hI⟩:=nmE (Dk (C1 ns rtl f) p rtl ns p.kids)
   have ha:I.length<=12:=by rw [hI,zF,hb];exact hf
   unfold Iq
   rw [<-hI]
   show(xh _ _ _ _ _ _ _ _ _ _).length<=12
   have hl:(mg p I).length<=12:=Nat.le_trans (lx ..) ha
   rw [qw,e9 (qz _ _ _ (by omega))]
   unfold mg
   rw [jT,bU]
   exact ha
theorem Gl(ns:List ag)(n:Int)(w h:az)(rtl:Bool):(sbO ns n w h rtl).frames.length<=1048576:=by
 unfold sbO
 split
 ·exact Nat.zero_le _
 ·rename_i hO
  exact Nat.le_trans (EB (It (ns:=ns) (n:=n) (w:=w) (h:=h) (by simpa using hO)) rtl 3 w h) (by decide)
section
variable {P:Program}{n0 N:Nat}{g:Gd}
variable {K:AV->EH->Prop}{f:FuncId}{args args':List AT}
theorem zY{β:BP}(hg:g=G0 P n0 N){h:EH}{a b c:Int}{ab:AB}(hc:da P f args' fun res hd=>res= .t (.agg [.J a,.J b,.J c,.own 0])/\hd=[ab])(ha:qi (toH h) args args')(hp:pc ab.es=true)
  (hK:K (.t (.agg [.J a,.J b,.J c,.own (l6 h)])) (h++[.rw ab])):g .C f h args K:=
 IH hg hc ha fun res hd hb=>by
  obtain⟨rfl,rfl⟩:=hb
  refine⟨rfl,fun hf he=> ?_,[.rw ab],?_,?_⟩
  ·obtain rfl:=List.mem_singleton.1 he
   exact jQ hp _ _
  ·simp only [zqA,List.map_nil,fL (eU hp)];rfl
  ·rw [du]at hK;rw [bT];exact hK
theorem xw{β:BP}(hg:g=G0 P n0 N){h:EH}{n:Nat}{a b c:Int}{ab:AB}(hc:da P f args' fun res hb=>res= .t (.agg [.J a,.J b,.J c,.own 0])/\hb=[ab])(ha:qi (toH h) args args')(hp:pc ab.es=true)
  (hK:K (.t (.agg [.J a,.J b,.J c,.own n])) [.rw ab]):g .PC f h n args K:=
 IG hg hc ha rfl (fun he hd=>by
  obtain rfl:=List.mem_singleton.1 hd
  exact jQ hp _ _) [.rw ab] (by simp only [zqA,List.map_nil,fL (eU hp)];rfl) hK
theorem G7{β:BP}(hg:g=G0 P n0 N){H:EH}{args:List AT}(r:Nat){ab ab':AB}{R k a b c:Int}
  (hc: @Con bp0 P f (toH [.rw ab]) [.agg [.J a,.J b,.J c,.own 0],ai k] fun res h'=>∃eh,toH eh=h'/\(res= .i R/\eh=[.rw ab'])) (hr:nth H r=some (.rw ab)) (hp:aB ab.es=true) (hp':aB ab'.es=true) (ha:args=[.agg [.J a,.J b,.J c,.own r],ai k])
  (hK:K (.t (.c (.J R))) (Ao H r (.rw ab'))):g .C f H args K:=by
 subst ha
 have hb:r<H.length:=by rw [fj]at hr;exact(List.getElem?_eq_some_iff.1 hr).1
 refine AY hg [r] (Con.toB hc) (by simp) (by simpa using hb) ⟨⟨ab,ab,rfl,by rw [hr];rfl,rfl,rfl,.inl ⟨rfl,hp⟩⟩,trivial⟩ ⟨.inr zr4,rfl,trivial⟩ fun res eh⟨h1,h2⟩=> ?_
 subst h1 h2
 rw [lp]at hK
 simp only [dc,EE.mv,Fj hp',List.map_nil,List.append_nil]
 exact hK
end
theorem kD(w:World)(a0:iP)(f0:a0.fit)(v0:Value)(r0:RT (fun b=>b<w.heap.size) w [] [] (.agg a0.ac) v0)(a1:Int)(a2:az)(a3:az)(a4:Bool):
  Calls prog 4 #[v0,.int .i64 a1,.agg #[.int .i64 a2.mode,.int .i64 a2.n],.agg #[.int .i64 a3.mode,.int .i64 a3.n],.bool a4] w fun e w'=>e= .returned (.bool true)/\Below w.heap.size w w':=by
 have cz:=vm a0 1048576 f0 (by decide) (by decide)
 have ck:a0.small->_:=fun hs=>vg a0 hs
 have ct:a0.small->_:=fun hs=>vf a0 hs
 have ce:a0.small->_:=fun hs=>vp a0 hs
 obtain⟨ns⟩:=a0
 obtain⟨p2,q2⟩:=a2
 obtain⟨p3,q3⟩:=a3
 have cm:iP.small ⟨ns⟩->_:=fun hs=>yd ns hs.1 hs.2.1
 have cs:iP.small ⟨ns⟩->_:=fun hs=>qJ ns hs.1 hs.2.1 a1 p2 q2 p3 q3 a4
 have ci:iP.small ⟨ns⟩->_:=fun hs=>rP ns hs.1 hs.2.1 a1 p2 q2 p3 q3 a4
 have hc:(sbO ns a1 ⟨p2,q2⟩ ⟨p3,q3⟩ a4).frames.length<=1048576:=Gl ..
 unfold xC at ci
 obtain⟨qq,hk⟩:=nmE (sbO ns a1 ⟨p2,q2⟩ ⟨p3,q3⟩ a4)
 simp only [<-hk]at cs ci hc
 clear hk
 obtain⟨W,H,BB,fr⟩:=qq
 have eg:=xc ⟨W,H,BB,fr⟩ ⟨hc,trivial⟩
 simp only [acE]at cs eg
 dsimp only at cs ci eg hc
 obtain⟨T,hT⟩:=nmE (vwA ag.ac ns)
 obtain⟨G,hG⟩:=nmE (vw aD.c fr)
 have iG:=imV hG
 have kG:=kmV (k:=5) hG fun _=>rfl
 have dG:=dmV hG
 have pG:=eU iG
 have hh:G.length<=1048576:=by rw [hG,ar];exact hc
 replace r0:RT (fun b=>b<w.heap.size) w [] [] (.agg [.view T]) v0:=by rw [hT];exact r0
 obtain⟨S,hS⟩:∃S:Prop,S=iP.small ⟨ns⟩:=⟨_,rfl⟩
 rw [<-hS]at ck ct ce cs ci cm
 replace cz:da prog 7 [.agg [.view T],ai 1048576] (fun res ha=>∃R:Int,res= .i R/\ha=[]/\(R<=1048576\/R<0)/\(0<=R->S)):=by rw [hT,hS];exact cz
 replace ck:S->PC0 9 [.agg [.view T]] (.t (.agg [.view T])):=by rw [hT];exact ck
 replace ct:S->Ba prog 9 [.agg [.view T]] (fun lo res ha=>(∃b,res= .t (.agg [.fv b T])/\mL lo b)/\dr res=true/\ha=[]):=by rw [hT];exact ct
 replace ce:S->PC0 13 [.agg [.view T],.agg [.view T]] (.t (abl true)):=by rw [hT];exact ce
 rw [<-hT]at cm
 rw [<-hT,<-hG]at cs ci
 rw [<-hG]at eg
 have t2:=mC (⟨p2,q2⟩:az)
 replace t2:PC0 10 [.agg [.J p2,.J q2]] (.t (.agg [.J p2,.J q2])):=t2
 have t3:=mC (⟨p3,q3⟩:az)
 replace t3:PC0 10 [.agg [.J p3,.J q3]] (.t (.agg [.J p3,.J q3])):=t3
 clear hS hT hG f0 hc
 refine GG 5 [(13,.hand)] [] (S) (args:=fun lo=>[.agg [.old lo T],ai a1,.agg [.J p2,.J q2],.agg [.J p3,.J q3],abl a4]) (c:=aM Tryz.f4) (fun lo=>[(1,.i a1),(4,.t (abl a4)),(5,.p 0),(7,.p 1),(8,.p 2),(12,.p 3)]) (fun lo=>[.bx 24 1 [.old lo T],.bx 26 2 [.J p2,.J q2],.bx 26 2 [.J p3,.J q3],.bx 43 4 [.J W,.J H,.J BB,.view G]]) ay Tryz.func4 (by kernel_rfl) (by kernel_rfl) (fun _=>by rfl) (by kernel_rfl) (fun β g hl hd F B hi hf hj hg hF hB=> ?_) (fun β lo g hl hd F hs ho hi hf hj hg hF=> ?_) (vs:=[v0,.int .i64 a1,.agg #[.int .i64 p2,.int .i64 q2],.agg #[.int .i64 p3,.int .i64 q3],.bool a4]) rfl (jH (HE (xs:=[.view T]) rfl r0) (jH (rfl) (jH (Fc (cs:= #[.int .i64 p2,.int .i64 q2]) rfl) (jH (Fc (cs:= #[.int .i64 p3,.int .i64 q3]) rfl) (jH (rfl) (C6))))))
 ·clear r0
  cbv
  refine FL hg cz ⟨zr1,rfl,trivial⟩ (fun res ha⟨R,hres,hrows,hR1,hR2⟩=> ?_)
  subst hres hrows
  refine⟨[],rfl,?_⟩
  cbv
  cases hlt:g .q .lss R 0
  case true=>
   cbv
   rw [hF]
  rw [bg hg,zqo]at hlt
  have hs:S:=hR2 (by omega)
  cbv
  repeat'((first|refine oh hg (ck hs) ⟨zr1,trivial⟩ rfl ?_|refine aa hg t2 ?_|refine aa hg t3 ?_|refine oh hg (cs hs) (gN rfl) rfl ?_);cbv)
  skip
  exact hB hs _ _ (Wk.weak (wkG [some 0,some 1,some 2,some 3] zr6 ⟨wqE rfl rfl,wqE rfl rfl,wqE rfl rfl,wqE rfl rfl,trivial⟩ (by decide) aG))
 ·clear r0 cz
  replace ck:=ck hs
  replace ct:=ct hs
  replace ce:=ce hs
  replace cs:=cs hs
  replace ci:=ci hs
  replace cm:=cm hs
  cbv
  refine zZ hg ct ⟨zr1,trivial⟩ (fun lo0 res q1 q2 q3⟨b0,hres,hn⟩=> ?_)
  subst hres
  replace hn:=hn.mono q1
  clear q1 q2 q3
  cbv
  repeat'((first|refine xw hg ci (.agg (.cons (.fv _ _) .nil) (.c (.imm _) (.agg (.cons (.imm _) (.cons (.imm _) .nil)) (.agg (.cons (.imm _) (.cons (.imm _) .nil)) (.c (.imm _) .nil))))) iG ?_|refine aa hg t2 ?_|refine aa hg t3 ?_);cbv)
  refine xv hg eg (.agg (.cons (.imm _) (.cons (.imm _) (.cons (.imm _) (.cons (bf (ab:=⟨_,_,G⟩) rfl kG dG) .nil)))) (.agg (.cons (.imm _) (.cons (.imm _) (.cons (.imm _) (.cons (.old _ _) .nil)))) .nil)) rfl ?_
  cbv
  refine oh hg ck ⟨zr1,trivial⟩ rfl ?_
  cbv
  refine oh hg ce ⟨⟨.inl rfl,trivial⟩,zr1,trivial⟩ rfl ?_
  cbv
  obtain⟨R0,K,hq,hr,cm⟩:=cm
  have hm:=cm b0 hn.1
  clear cm
  refine n9 hg hj ay 2 (by kernel_rfl) (fun mk hp=> ?_)
  cbv
  subst hp
  refine⟨_,_,_,[(b0,T,R0)],_,[(1,.i a1),(4,.t (abl a4)),(5,.p 0),(7,.p 1),(8,.p 2),(12,.p 3),(13,.p 4),(14,.p 6)],[.bx 24 1 [.old lo T],.bx 26 2 [.J p2,.J q2],.bx 26 2 [.J p3,.J q3],.bx 43 4 [.J W,.J H,.J BB,.old β.lo G],.bx 32 1 [.dead],.rw ⟨156,5,G⟩,.bx 43 4 [.J W,.J H,.J BB,.own 5]],rfl,rfl,rfl,rfl,rfl,hm,fun u hu b hb=> ?_,fun u hu=> ?_,
   ⟨.inr (.inl zr1),.inr (.inl zr1),.inr (.inl zr1),.inr (.inl zr1),.inr (.inl zr1),.inr (.inl zr1),.inr (.inl zr1),.inr (.inl zr1),trivial⟩,
   ⟨⟨rfl,rfl,.inr (.inl ⟨rfl,fun u hu b hb=> ?_⟩),trivial⟩,⟨rfl,rfl,.inr (.inl zr1),.inr (.inl zr1),trivial⟩,⟨rfl,rfl,.inr (.inl zr1),.inr (.inl zr1),trivial⟩,⟨rfl,rfl,.inr (.inl zr1),.inr (.inl zr1),.inr (.inl zr1),.inr (.inl ⟨rfl,fun u hu b hb=> ?_⟩),trivial⟩,⟨rfl,rfl,.inl rfl,trivial⟩,.inl ⟨rfl,iG⟩,⟨rfl,rfl,.inr (.inl zr1),.inr (.inl zr1),.inr (.inl zr1),.inr (.inl zr1),trivial⟩,trivial⟩,?_⟩
  ·rw [List.mem_singleton.1 hu]at hb;exact hi b (hn.2 b hb)
  ·rw [List.mem_singleton.1 hu];exact⟨_,List.mem_cons_self ..,List.mem_cons_self ..⟩
  ·rw [List.mem_singleton.1 hu]at hb;exact Nat.le_trans ho (hn.2 b hb)
  ·rw [List.mem_singleton.1 hu]at hb;exact hn.2 b hb
  clear hm hn
  have he:=s5 1 W H BB G kG pG hh (by decide) (by decide)
  have ch:=s6 1 W H BB G.length hh (by decide) (by decide)
  rw [<-ah]at ch
  obtain⟨Y,hY⟩:=nmE (vw aD.c (dm 1 G.length))
  have pY:=pmV hY
  have kY:=kmV (k:=5) hY fun _=>rfl
  have dY:=dmV hY
  rw [<-hY]at he ch
  obtain⟨M,hM⟩:∃M:Int,M=1+5*aN G:=⟨_,rfl⟩
  have bM:¬M<0:=by rw [hM,ah];omega
  rw [<-hM]at he ch
  clear hY hM
  have eK:g .q .lss K 0=false:=by rw [bg hg];exact zqt (by omega)
  have e4:g .q .lss M 0=false:=by rw [bg hg];exact zqt bM
  have e5:g .q .neq M M=false:=by rw [bj hg];simp
  cbv
  rw [eK]
  cbv
  refine xv hg eg (.agg (.cons (.imm _) (.cons (.imm _) (.cons (.imm _) (.cons (bf (ab:=⟨_,_,G⟩) rfl kG dG) .nil)))) (.agg (.cons (.imm _) (.cons (.imm _) (.cons (.imm _) (.cons (.old _ _) .nil)))) .nil)) rfl ?_
  cbv
  refine G7 hg 5 he rfl pG pY rfl ?_
  cbv
  refine xv hg ch (.agg (.cons (.imm _) (.cons (.imm _) (.cons (.imm _) (.cons (bf (ab:=⟨_,_,Y⟩) rfl kY dY) .nil)))) (.c (.imm _) .nil)) rfl ?_
  cbv
  rw [e4]
  cbv
  rw [e5]
  cbv
  repeat'((first|refine oh hg ck ⟨zr1,trivial⟩ rfl ?_|refine aa hg t2 ?_|refine aa hg t3 ?_|refine xw hg ci (.agg (.cons (.view _) .nil) (.c (.imm _) (.agg (.cons (.imm _) (.cons (.imm _) .nil)) (.agg (.cons (.imm _) (.cons (.imm _) .nil)) (.c (.imm _) .nil))))) iG ?_);cbv)
  refine xv hg eg (.agg (.cons (.imm _) (.cons (.imm _) (.cons (.imm _) (.cons (bf (ab:=⟨_,_,G⟩) rfl kG dG) .nil)))) (.agg (.cons (.imm _) (.cons (.imm _) (.cons (.imm _) (.cons (.old _ _) .nil)))) .nil)) rfl ?_
  cbv
  refine xv hg ch (.agg (.cons (.imm _) (.cons (.imm _) (.cons (.imm _) (.cons (bf (ab:=⟨_,_,Y⟩) rfl kY dY) .nil)))) (.c (.imm _) .nil)) rfl ?_
  cbv
  rw [e4]
  cbv
  rw [e5]
  cbv
  rw [hF]
end Go.Proofs.YtkicjdeddpihaaaGreat
