/- Boxes that are placed apart: their margins, insets, spaces. -/
import Derived.Test.YtckchgoblpgpbaaGreatJ5aw
set_option linter.unusedVariables false
set_option linter.unusedSimpArgs false
set_option maxHeartbeats 16000000
namespace Go.Proofs.YtckchgoblpgpbaaGreat
open Go.ChangeShapes Go.WideShapes Go.ChangeAt Go.RowKit Am Go.Proofs.Tryz
set_option maxRecDepth 100000
def i9(s:bg)(sd:Int)(rtl:Bool)(base:Int):Int:=if kn (nh s sd rtl) base=false then 0 else sg (Dj (nh s sd rtl) base)
def o7(s:aI)(less:Int):aI:=if s.mode=1 then s else⟨s.mode,cl (wrap64 (cl s.n-cl less))⟩
def qn(s:aj)(w:Bool)(o:Int):Int:=if s.ratio<=0\/o<0 then-1 else if w then cl (fdv (wrap64 (cl o*cl s.ratio)) 64)else cl (fdv (wrap64 (cl o*64)) (cl s.ratio))
def Eg(s:aj)(w rtl:Bool)(base:Int):Int:=if w then wrap64 (i9 s.margin 0 rtl base+i9 s.margin 2 rtl base)else wrap64 (i9 s.margin 1 rtl base+i9 s.margin 3 rtl base)
def EL(s:aj)(a b:Int)(rtl:Bool)(base mb:Int):Int:=if ww s a rtl base=false\/ww s b rtl base=false then-1 else cl (wrap64 (base-wv s a rtl base-wv s b rtl base-i9 s.margin a rtl mb-i9 s.margin b rtl mb))
def Dk(s:aj)(w rtl:Bool)(base mb:Int):Int:=if ph s w base= -1 then(if w then EL s 0 2 rtl base mb else EL s 1 3 rtl base mb)else ph s w base
def Fo(s:aj)(w:Bool)(base n m:Int):aI:=if n= -1 then o7 ⟨2,base⟩ m else⟨3,ly s w base n⟩
def apW(s:aj)(rtl:Bool)(wide high:Int):Int:=if Dk s true rtl wide wide= -1 then qn s true (Dk s false rtl high wide)else Dk s true rtl wide wide
def apH(s:aj)(rtl:Bool)(wide high:Int):Int:=if Dk s false rtl high wide= -1 then qn s false (apW s rtl wide high)else Dk s false rtl high wide
def apX(s:aj)(rtl:Bool)(wide high:Int):aI:=Fo s true wide (apW s rtl wide high) (Eg s true rtl wide)
def apY(s:aj)(rtl:Bool)(wide high:Int):aI:=Fo s false high (apH s rtl wide high) (Eg s false rtl wide)
def apC(p s:aj)(rtl:Bool)(wide high:Int):List AC:=lc (aj.c p)++(lc (aj.c s)++[.B rtl,.J wide,.J high])
theorem xy(a b c d e:Int):wrap64 (wrap64 (wrap64 (wrap64 (a-b)-c)-d)-e)=wrap64 (a-b-c-d-e):=by unfold wrap64;omega
theorem zG(a b c d e:Int):wrap64 (wrap64 (wrap64 (a-b)-c)-wrap64 (d+e))=wrap64 (a-b-c-d-e):=by
 unfold wrap64;omega
theorem dz(s:bg)(sd:Int)(rtl:Bool)(base:Int):PC0 116 [.agg (lc (bg.c s)),ai sd,abl rtl,ai base] (.i (i9 s sd rtl base)):=by
 obtain⟨⟨a0,a1⟩,⟨a2,a3⟩,⟨a4,a5⟩,⟨a6,a7⟩,⟨a8,a9⟩,⟨hc,hd⟩⟩:=s
 have hb:=gW (⟨⟨a0,a1⟩,⟨a2,a3⟩,⟨a4,a5⟩,⟨a6,a7⟩,⟨a8,a9⟩,⟨hc,hd⟩⟩:bg)
 refine ae (aJ f116) ay func116 fun g F hg hF=> ?_
 cbv
 repeat'(first|(refine l8 hg (hb _ _) rfl (fun R0 R1 ha he=> ?_);cbv)|(refine bz hg (dT _ _ _) rfl (fun R0 ha=> ?_);cases R0<;>cbv)|((first|refine ba hg (dB _ _ _) rfl (fun R0 ha=> ?_)|refine ba hg (bD _) rfl (fun R0 ha=> ?_));cbv)|(split<;>rename_i hh<;>(try rw [hh])<;>(try simp only [da hg]at hh)<;>cbv))
 all_goals exact aV hF (by simp only [i9];subst_vars;simp_all)
theorem fN(s:bg)(sd:Int)(rtl:Bool)(base:Int):PC0 134 [.agg (lc (bg.c s)),ai sd,abl rtl,ai base] (.i (i9 s sd rtl base)):=by
 obtain⟨⟨a0,a1⟩,⟨a2,a3⟩,⟨a4,a5⟩,⟨a6,a7⟩,⟨a8,a9⟩,⟨hc,hd⟩⟩:=s
 have hb:=ib (⟨⟨a0,a1⟩,⟨a2,a3⟩,⟨a4,a5⟩,⟨a6,a7⟩,⟨a8,a9⟩,⟨hc,hd⟩⟩:bg)
 refine ae (aJ f134) ay func134 fun g F hg hF=> ?_
 cbv
 repeat'(first|(refine l8 hg (hb _ _) rfl (fun R0 R1 ha he=> ?_);cbv)|(refine bz hg (dY _ _ _) rfl (fun R0 ha=> ?_);cases R0<;>cbv)|((first|refine ba hg (dI _ _ _) rfl (fun R0 ha=> ?_)|refine ba hg (bN _) rfl (fun R0 ha=> ?_));cbv)|(split<;>rename_i hh<;>(try rw [hh])<;>(try simp only [da hg]at hh)<;>cbv))
 all_goals exact aV hF (by simp only [i9];subst_vars;simp_all)
theorem dv(m n less:Int):PC0 145 [.agg [.J m,.J n],ai less] (.t (agP (o7 ⟨m,n⟩ less))):=by
 refine ae (aJ f145) ay func145 fun g F hg hF=> ?_
 cbv
 repeat'(first|(refine ba hg (aG _) rfl (fun R0 ha=> ?_);cbv)|(split<;>rename_i hh<;>(try rw [hh])<;>(try simp only [da hg]at hh)<;>cbv))
 all_goals exact l7 hF (by simp only [o7,(bZ hg)]at *;subst_vars;simp_all)
theorem eN(m n less:Int):PC0 124 [.agg [.J m,.J n],ai less] (.t (agP (o7 ⟨m,n⟩ less))):=by
 refine ae (aJ f124) ay func124 fun g F hg hF=> ?_
 cbv
 repeat'(first|(refine ba hg (aK _) rfl (fun R0 ha=> ?_);cbv)|(split<;>rename_i hh<;>(try rw [hh])<;>(try simp only [da hg]at hh)<;>cbv))
 all_goals exact l7 hF (by simp only [o7,(bZ hg)]at *;subst_vars;simp_all)
theorem i7(s:aj)(w:Bool)(o:Int):PC0 105 [.agg (lc (aj.c s)),abl w,ai o] (.i (qn s w o)):=by
 cases w<;>(refine ae (aJ f105) ay func105 fun g F hg hF=> ?_;cbv;repeat'(first|((first|refine aB hg (aG _) rfl (fun R0 ha=> ?_)|refine aB hg (bJ _ _) rfl (fun R0 ha=> ?_));cbv)|(split<;>rename_i hh<;>(try rw [hh])<;>(try simp only [da hg]at hh)<;>cbv)))
 all_goals exact aV hF (by simp only [qn,(gc hg)]at *;subst_vars;(try simp_all);(try(intro hx;omega)))
theorem gC(s:aj)(w:Bool)(o:Int):PC0 123 [.agg (lc (aj.c s)),abl w,ai o] (.i (qn s w o)):=by
 cases w<;>(refine ae (aJ f123) ay func123 fun g F hg hF=> ?_;cbv;repeat'(first|((first|refine ba hg (aK _) rfl (fun R0 ha=> ?_)|refine aB hg (aK _) rfl (fun R0 ha=> ?_)|refine ba hg (bK _ _) rfl (fun R0 ha=> ?_));cbv)|(split<;>rename_i hh<;>(try rw [hh])<;>(try simp only [da hg]at hh)<;>cbv)))
 all_goals exact aV hF (by simp only [qn,(gc hg)]at *;subst_vars;(try simp_all);(try(intro hx;omega)))
theorem qJ(w h:Int):PC0 54 [ai w,ai h] (.t (abl (rng w 0 1048576&&rng h 0 1048576))):=by
 refine ae (aJ f54) ay func54 fun g F hg hF=> ?_
 cbv
 repeat'(first|(refine bz hg (bQ _ _ _) rfl (fun R0 ha=> ?_);cases R0<;>cbv)|(split<;>rename_i hh<;>(try rw [hh])<;>(try simp only [da hg]at hh)<;>cbv))
 all_goals exact bk hF (by simp_all)
theorem je(s:aj)(w rtl:Bool)(base:Int):PC0 103 [.agg (lc (aj.c s)),abl w,abl rtl,ai base] (.i (Eg s w rtl base)):=by
 obtain⟨b0,b1,b2,b3,b4,b5,b6,b7,b8,b9,hp,⟨hq,hr⟩,⟨hs,ht⟩,⟨hu,hv⟩,⟨hw,hx⟩,⟨hy,hz⟩,⟨hA,hB⟩,⟨hC,hD⟩,hE,⟨⟨ha,hb⟩,⟨hc,hd⟩,⟨he,hf⟩,⟨hi,hj⟩,⟨hk,hl⟩,⟨hm,hn⟩⟩,⟨⟨hG,hH⟩,⟨hI,hJ⟩,⟨hK,hL⟩,⟨hM,hN⟩,⟨hO,hP⟩,⟨hQ,hR⟩⟩,⟨hS,hT,hU,hV⟩,⟨hW,hX,hY,hZ⟩,h0,h1⟩:=s
 cases w<;>(refine ae (aJ f103) ay func103 fun g F hg hF=> ?_;cbv;repeat'(first|(refine aB hg (dz (⟨⟨ha,hb⟩,⟨hc,hd⟩,⟨he,hf⟩,⟨hi,hj⟩,⟨hk,hl⟩,⟨hm,hn⟩⟩:bg) _ _ _) rfl (fun R0 ho=> ?_);cbv)|(split<;>rename_i hh<;>(try rw [hh])<;>(try simp only [da hg]at hh)<;>cbv)))
 all_goals exact aV hF (by simp only [Eg,(aN hg)]at *;subst_vars;simp_all)
theorem rk(s:aj)(w:Bool)(base n m:Int):PC0 106 [.agg (lc (aj.c s)),abl w,ai base,ai n,ai m] (.t (agP (Fo s w base n m))):=by
 refine ae (aJ f106) ay func106 fun g F hg hF=> ?_
 cbv
 repeat'(first|((first|refine l8 hg (dv _ _ _) rfl (fun R0 R1 ha hb=> ?_)|refine ba hg (cj s _ _ _) rfl (fun R0 ha=> ?_));cbv)|(split<;>rename_i hh<;>(try rw [hh])<;>(try simp only [da hg]at hh)<;>cbv))
 all_goals exact l7 hF (by simp only [Fo];subst_vars;simp_all)
theorem ky(p s:aj)(w:Bool)(base mb:Int)(rtl:Bool)(M:Int)(hM:M=Eg s w rtl mb):PC0 104 [.agg (lc (aj.c p)),.agg (lc (aj.c s)),abl w,ai base,ai M,abl rtl] (.i (Dk s w rtl base mb)):=by
 obtain⟨b0,b1,b2,b3,b4,b5,b6,b7,b8,b9,hc,⟨hd,he⟩,⟨hf,hi⟩,⟨hj,hk⟩,⟨hl,hm⟩,⟨hn,ho⟩,⟨hp,hq⟩,⟨hr,hs⟩,ht,⟨⟨hu,hv⟩,⟨hw,hx⟩,⟨hy,hz⟩,⟨hA,hB⟩,⟨hC,hD⟩,⟨hE,hG⟩⟩,⟨⟨hH,hI⟩,⟨hJ,hK⟩,⟨hL,hN⟩,⟨hO,hP⟩,⟨hQ,hR⟩,⟨hS,hT⟩⟩,⟨hU,hV,hW,hX⟩,⟨hY,hZ,h0,h1⟩,h2,h3⟩:=p
 cases w<;>(refine ae (aJ f104) ay func104 fun g F hg hF=> ?_;cbv;repeat'(first|(refine ba hg (eG s _ _) rfl (fun R0 ha=> ?_);cbv)|(refine xm hg (gq s _ _ _) rfl (fun R0 R1 ha hb=> ?_);cases R1<;>cbv)|(refine ba hg (aG _) rfl (fun R0 ha=> ?_);cbv)|(split<;>rename_i hh<;>(try rw [hh])<;>(try simp only [da hg]at hh)<;>cbv)))
 all_goals exact aV hF (by simp only [Dk,EL,Eg,(bZ hg),Bool.false_eq_true,if_false,if_true]at *;subst_vars;simp_all [zG])
theorem bL(p s:aj)(rtl:Bool)(wide high sd:Int):PC0 87 [.agg (apC p s rtl wide high),ai sd] (.i (i9 s.margin sd rtl wide)):=by
 obtain⟨b0,b1,b2,b3,b4,b5,b6,b7,b8,b9,hp,⟨hq,hr⟩,⟨hs,ht⟩,⟨hu,hv⟩,⟨hw,hx⟩,⟨hy,hz⟩,⟨hA,hB⟩,⟨hC,hD⟩,hE,⟨⟨ha,hb⟩,⟨hc,hd⟩,⟨he,hf⟩,⟨hi,hj⟩,⟨hk,hl⟩,⟨hm,hn⟩⟩,⟨⟨hG,hH⟩,⟨hI,hJ⟩,⟨hK,hL⟩,⟨hM,hN⟩,⟨hO,hP⟩,⟨hQ,hR⟩⟩,⟨hS,hT,hU,hV⟩,⟨hW,hX,hY,hZ⟩,h0,h1⟩:=s
 refine ae (aJ f87) ay func87 fun g F hg hF=> ?_
 cbv
 repeat'(first|(refine ba hg (fN (⟨⟨ha,hb⟩,⟨hc,hd⟩,⟨he,hf⟩,⟨hi,hj⟩,⟨hk,hl⟩,⟨hm,hn⟩⟩:bg) _ _ _) rfl (fun R0 ho=> ?_);cbv)|(split<;>rename_i hh<;>(try rw [hh])<;>(try simp only [da hg]at hh)<;>cbv))
 all_goals exact aV hF (by subst_vars;rfl)
theorem ii(p s:aj)(rtl:Bool)(wide high sd:Int)(hw:sd=0\/sd=2):PC0 86 [.agg (apC p s rtl wide high),ai sd] (.tup [ai (wv s sd rtl wide),abl (ww s sd rtl wide)]):=by
 obtain⟨b0,b1,b2,b3,b4,b5,b6,b7,b8,b9,ha,⟨hb,hc⟩,⟨hd,he⟩,⟨hf,hh⟩,⟨hi,hj⟩,⟨hk,hl⟩,⟨hm,hn⟩,⟨ho,hp⟩,hq,⟨⟨hr,hs⟩,⟨ht,hu⟩,⟨hv,hx⟩,⟨hy,hz⟩,⟨hA,hB⟩,⟨hC,hD⟩⟩,⟨⟨hE,hG⟩,⟨hH,hI⟩,⟨hJ,hK⟩,⟨hL,hM⟩,⟨hN,hO⟩,⟨hP,hQ⟩⟩,⟨hR,hS,hT,hU⟩,⟨hV,hW,hX,hY⟩,hZ,h0⟩:=p
 rcases hw with rfl|rfl<;>(
  refine ae (aJ f86) ay func86 fun g F hg hF=> ?_
  cbv
  (repeat'((first|refine xm hg (my s _ _ _) rfl (fun R0 R1 h1 h2=> ?_)|have e:g .q .eql 0 0=true:=(by rw [bj hg];rfl);rw [e]|have e:g .q .eql 2 0=false:=(by rw [bj hg];rfl);rw [e]|have e:g .q .eql 2 2=true:=(by rw [bj hg];rfl);rw [e]);cbv))
  all_goals exact Cz hF (by subst_vars;exact⟨rfl,rfl⟩))
theorem ig(p s:aj)(rtl:Bool)(wide high sd:Int)(hw:sd=1\/sd=3):PC0 86 [.agg (apC p s rtl wide high),ai sd] (.tup [ai (wv s sd rtl high),abl (ww s sd rtl high)]):=by
 obtain⟨b0,b1,b2,b3,b4,b5,b6,b7,b8,b9,ha,⟨hb,hc⟩,⟨hd,he⟩,⟨hf,hh⟩,⟨hi,hj⟩,⟨hk,hl⟩,⟨hm,hn⟩,⟨ho,hp⟩,hq,⟨⟨hr,hs⟩,⟨ht,hu⟩,⟨hv,hx⟩,⟨hy,hz⟩,⟨hA,hB⟩,⟨hC,hD⟩⟩,⟨⟨hE,hG⟩,⟨hH,hI⟩,⟨hJ,hK⟩,⟨hL,hM⟩,⟨hN,hO⟩,⟨hP,hQ⟩⟩,⟨hR,hS,hT,hU⟩,⟨hV,hW,hX,hY⟩,hZ,h0⟩:=p
 rcases hw with rfl|rfl<;>(
  refine ae (aJ f86) ay func86 fun g F hg hF=> ?_
  cbv
  (repeat'((first|refine xm hg (my s _ _ _) rfl (fun R0 R1 h1 h2=> ?_)|have e:g .q .eql 1 0=false:=(by rw [bj hg];rfl);rw [e]|have e:g .q .eql 3 0=false:=(by rw [bj hg];rfl);rw [e]|have e:g .q .eql 1 2=false:=(by rw [bj hg];rfl);rw [e]|have e:g .q .eql 3 2=false:=(by rw [bj hg];rfl);rw [e]);cbv))
  all_goals exact Cz hF (by subst_vars;exact⟨rfl,rfl⟩))
theorem q7(p s:aj)(rtl:Bool)(wide high:Int):PC0 122 [.agg (apC p s rtl wide high),ai 0,ai 2,ai wide] (.i (EL s 0 2 rtl wide wide)):=by
 have c0:=ii p s rtl wide high 0 (.inl rfl)
 have c2:=ii p s rtl wide high 2 (.inr rfl)
 have m0:=bL p s rtl wide high 0
 have m2:=bL p s rtl wide high 2
 obtain⟨b0,b1,b2,b3,b4,b5,b6,b7,b8,b9,hc,⟨hd,he⟩,⟨hf,hi⟩,⟨hj,hk⟩,⟨hl,hm⟩,⟨hn,ho⟩,⟨hp,hq⟩,⟨hr,hs⟩,ht,⟨⟨hu,hv⟩,⟨hw,hx⟩,⟨hy,hz⟩,⟨hA,hB⟩,⟨hC,hD⟩,⟨hE,hG⟩⟩,⟨⟨hH,hI⟩,⟨hJ,hK⟩,⟨hL,hM⟩,⟨hN,hO⟩,⟨hP,hQ⟩,⟨hR,hS⟩⟩,⟨hT,hU,hV,hW⟩,⟨hX,hY,hZ,h0⟩,h1,h2⟩:=s
 refine ae (aJ f122) ay func122 fun g F hg hF=> ?_
 cbv
 repeat'(first|(refine xm hg c0 rfl (fun R0 R1 ha hb=> ?_);cases R1<;>cbv)|(refine xm hg c2 rfl (fun R0 R1 ha hb=> ?_);cases R1<;>cbv)|((first|refine aB hg m0 rfl (fun R0 ha=> ?_)|refine aB hg m2 rfl (fun R0 ha=> ?_)|refine aB hg (aK _) rfl (fun R0 ha=> ?_));cbv)|(split<;>rename_i hh<;>(try rw [hh])<;>(try simp only [da hg]at hh)<;>(first|(exfalso;omega)|cbv)))
 all_goals exact aV hF (by simp only [EL,(bZ hg)]at *;subst_vars;simp_all [xy])
theorem qY(p s:aj)(rtl:Bool)(wide high:Int):PC0 122 [.agg (apC p s rtl wide high),ai 1,ai 3,ai high] (.i (EL s 1 3 rtl high wide)):=by
 have c0:=ig p s rtl wide high 1 (.inl rfl)
 have c2:=ig p s rtl wide high 3 (.inr rfl)
 have m0:=bL p s rtl wide high 1
 have m2:=bL p s rtl wide high 3
 obtain⟨b0,b1,b2,b3,b4,b5,b6,b7,b8,b9,hc,⟨hd,he⟩,⟨hf,hi⟩,⟨hj,hk⟩,⟨hl,hm⟩,⟨hn,ho⟩,⟨hp,hq⟩,⟨hr,hs⟩,ht,⟨⟨hu,hv⟩,⟨hw,hx⟩,⟨hy,hz⟩,⟨hA,hB⟩,⟨hC,hD⟩,⟨hE,hG⟩⟩,⟨⟨hH,hI⟩,⟨hJ,hK⟩,⟨hL,hM⟩,⟨hN,hO⟩,⟨hP,hQ⟩,⟨hR,hS⟩⟩,⟨hT,hU,hV,hW⟩,⟨hX,hY,hZ,h0⟩,h1,h2⟩:=s
 refine ae (aJ f122) ay func122 fun g F hg hF=> ?_
 cbv
 repeat'(first|(refine xm hg c0 rfl (fun R0 R1 ha hb=> ?_);cases R1<;>cbv)|(refine xm hg c2 rfl (fun R0 R1 ha hb=> ?_);cases R1<;>cbv)|((first|refine aB hg m0 rfl (fun R0 ha=> ?_)|refine aB hg m2 rfl (fun R0 ha=> ?_)|refine aB hg (aK _) rfl (fun R0 ha=> ?_));cbv)|(split<;>rename_i hh<;>(try rw [hh])<;>(try simp only [da hg]at hh)<;>(first|(exfalso;omega)|cbv)))
 all_goals exact aV hF (by simp only [EL,(bZ hg)]at *;subst_vars;simp_all [xy])
theorem sv(p s:aj)(rtl:Bool)(wide high:Int):PC0 82 [.agg (apC p s rtl wide high)] (.tup [agP (apX s rtl wide high),agP (apY s rtl wide high)]):=by
 have q0:=q7 p s rtl wide high
 have q1:=qY p s rtl wide high
 have m0:=bL p s rtl wide high 0
 have m1:=bL p s rtl wide high 1
 have m2:=bL p s rtl wide high 2
 have m3:=bL p s rtl wide high 3
 have fw:=eV s true wide
 have fh:=eV s false high
 have br:=gC s
 have bo:=dx s
 refine Ai [(16,.op 0 (.op 1 (.op 2 (.op 3 .done .none) .none) (.op 2 (.op 1 (.op 3 .done .none) .none) .none)) (.op 1 (.op 0 (.op 2 (.op 3 .done .none) .none) .none) .none))] (c:=aJ f82) ay func82 (by kernel_rfl) (by kernel_rfl) (by rfl) (by kernel_rfl) fun g F hg hF=> ?_
 cbv
 repeat'(first|((first|refine aB hg fw rfl (fun R0 ha=> ?_)|refine aB hg fh rfl (fun R0 ha=> ?_)|refine ba hg q0 rfl (fun R0 ha=> ?_)|refine ba hg q1 rfl (fun R0 ha=> ?_)|refine ba hg (br _ _) rfl (fun R0 ha=> ?_)|refine aB hg m0 rfl (fun R0 ha=> ?_)|refine aB hg m1 rfl (fun R0 ha=> ?_)|refine aB hg m2 rfl (fun R0 ha=> ?_)|refine aB hg m3 rfl (fun R0 ha=> ?_)|refine gV hg (eN _ _ _) rfl (fun R0 R1 ha hb=> ?_)|refine ba hg (bo _ _ _) rfl (fun R0 ha=> ?_)|refine l8 hg (fp _) rfl (fun R0 R1 ha hb=> ?_));cbv)|(split<;>rename_i hh<;>(try rw [hh])<;>(try simp only [da hg]at hh)<;>(first|(exfalso;omega)|cbv)))
 all_goals(clear q0 q1 m0 m1 m2 m3 fw fh br bo;repeat'(first|exact True.intro|apply And.intro))
 all_goals refine FZ hF ?_
 all_goals(simp only [(aN hg)]at *;clear hF hg;simp only [apX,apY,apW,apH,Dk,Fo,Eg];grind)
theorem oP(p s:aj)(wide high:Int)(rtl:Bool):PC0 74 [.agg (lc (aj.c p)),.agg (lc (aj.c s)),ai wide,ai high,abl rtl] (.tup [agP (apX s rtl (tU p wide) (vK p high)),agP (apY s rtl (tU p wide) (vK p high))]):=by
 have cp:=m6 p wide high
 have br:=i7 s
 have ro:=rk s
 refine ae (aJ f74) ay func74 fun g F hg hF=> ?_
 cbv
 first|refine Bl hg cp rfl (fun W H hW hH=> ?_)|refine wl hg cp rfl (fun W H hW hH=> ?_)
 cbv
 have mw:=je s true rtl W
 first|refine ba hg mw rfl (fun MW hc=> ?_)|refine aB hg mw rfl (fun MW hc=> ?_)
 cbv
 have mh:=je s false rtl W
 first|refine ba hg mh rfl (fun MH hb=> ?_)|refine aB hg mh rfl (fun MH hb=> ?_)
 cbv
 have kw:=ky p s true W W rtl MW hc
 first|refine ba hg kw rfl (fun KW he=> ?_)|refine aB hg kw rfl (fun KW he=> ?_)
 cbv
 have kh:=ky p s false H W rtl MH hb
 first|refine ba hg kh rfl (fun KH hd=> ?_)|refine aB hg kh rfl (fun KH hd=> ?_)
 cbv
 clear cp mw mh kw kh
 repeat'(first|((first|refine ba hg (br _ _) rfl (fun R0 ha=> ?_)|refine gV hg (ro _ _ _ _) rfl (fun R0 R1 ha hf=> ?_));cbv)|(split<;>rename_i hh<;>(try rw [hh])<;>(try simp only [da hg]at hh)<;>(first|(exfalso;omega)|cbv)))
 all_goals refine FZ hF ?_
 all_goals(clear hF hg br ro;simp only [apX,apY,apW,apH,<-hW,<-hH];grind)
end Go.Proofs.YtckchgoblpgpbaaGreat
