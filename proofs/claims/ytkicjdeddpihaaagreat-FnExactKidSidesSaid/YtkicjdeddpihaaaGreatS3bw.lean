/- Marks on rows of sides. -/
import Derived.Test.YtkicjdeddpihaaaGreatS3bv
set_option linter.unusedVariables false
set_option linter.unusedSimpArgs false
set_option maxHeartbeats 8000000
namespace Go.Proofs.YtkicjdeddpihaaaGreat
open Go.ChangeShapes Go.WideShapes Go.ChangeAt Go.RowKit Am Go.Proofs.Tryz
set_option maxRecDepth 100000
def rO(k:Int)(l0:Nat)(l1:Nat):List AC:=(.J (k):: .view (vw ah (gH (k+1) l0)):: .J (k+1+1*((l0:Nat):Int)):: .J (k+1+1*((l0:Nat):Int)+1):: .J (k+1+1*((l0:Nat):Int)+2):: .J (k+1+1*((l0:Nat):Int)+3):: .J (k+1+1*((l0:Nat):Int)+4):: .J (k+1+1*((l0:Nat):Int)+5):: .B (m3 (k+1+1*((l0:Nat):Int)+6)):: .B (m3 (k+1+1*((l0:Nat):Int)+7)):: .J (k+1+1*((l0:Nat):Int)+8):: .J (k+1+1*((l0:Nat):Int)+9):: .J (k+1+1*((l0:Nat):Int)+10):: .J (k+1+1*((l0:Nat):Int)+11):: .J (k+1+1*((l0:Nat):Int)+12):: .J (k+1+1*((l0:Nat):Int)+13):: .J (k+1+1*((l0:Nat):Int)+14):: .J (k+1+1*((l0:Nat):Int)+15):: .J (k+1+1*((l0:Nat):Int)+16):: .J (k+1+1*((l0:Nat):Int)+17):: .J (k+1+1*((l0:Nat):Int)+18):: .J (k+1+1*((l0:Nat):Int)+19):: .J (k+1+1*((l0:Nat):Int)+20):: .J (k+1+1*((l0:Nat):Int)+21):: .J (k+1+1*((l0:Nat):Int)+22):: .J (k+1+1*((l0:Nat):Int)+23):: .J (k+1+1*((l0:Nat):Int)+24):: .J (k+1+1*((l0:Nat):Int)+25):: .J (k+1+1*((l0:Nat):Int)+26):: .J (k+1+1*((l0:Nat):Int)+27):: .J (k+1+1*((l0:Nat):Int)+28):: .J (k+1+1*((l0:Nat):Int)+29):: .J (k+1+1*((l0:Nat):Int)+30):: .J (k+1+1*((l0:Nat):Int)+31):: .J (k+1+1*((l0:Nat):Int)+32):: .J (k+1+1*((l0:Nat):Int)+33):: .J (k+1+1*((l0:Nat):Int)+34):: .J (k+1+1*((l0:Nat):Int)+35):: .J (k+1+1*((l0:Nat):Int)+36):: .J (k+1+1*((l0:Nat):Int)+37):: .J (k+1+1*((l0:Nat):Int)+38):: .J (k+1+1*((l0:Nat):Int)+39):: .J (k+1+1*((l0:Nat):Int)+40):: .J (k+1+1*((l0:Nat):Int)+41):: .J (k+1+1*((l0:Nat):Int)+42):: .J (k+1+1*((l0:Nat):Int)+43):: .J (k+1+1*((l0:Nat):Int)+44):: .J (k+1+1*((l0:Nat):Int)+45):: .J (k+1+1*((l0:Nat):Int)+46):: .J (k+1+1*((l0:Nat):Int)+47):: .J (k+1+1*((l0:Nat):Int)+48):: .J (k+1+1*((l0:Nat):Int)+49):: .J (k+1+1*((l0:Nat):Int)+50):: .J (k+1+1*((l0:Nat):Int)+51):: .J (k+1+1*((l0:Nat):Int)+52):: .J (k+1+1*((l0:Nat):Int)+53):: .J (k+1+1*((l0:Nat):Int)+54):: .J (k+1+1*((l0:Nat):Int)+55):: .J (k+1+1*((l0:Nat):Int)+56):: .J (k+1+1*((l0:Nat):Int)+57):: .J (k+1+1*((l0:Nat):Int)+58):: .J (k+1+1*((l0:Nat):Int)+59):: .B (m3 (k+1+1*((l0:Nat):Int)+60)):: .view (vw aI.c (fq (k+1+1*((l0:Nat):Int)+61) l1))::[])
def eX(k:Int)(l0:Nat)(l1:Nat):Int:=k+1+1*((l0:Nat):Int)+61+3*((l1:Nat):Int)
theorem yt(k:Int)(l0:Nat)(l1:Nat):eX k l0 l1=k+62+1*((l0:Nat):Int)+3*((l1:Nat):Int):=by unfold eX;omega
def dp:Int->List (Nat×Nat)->LLA
 |_,[]=>[]
 |k,⟨l0,l1⟩::ls=>rO k l0 l1::dp (eX k l0 l1) ls
def db:Int->List (Nat×Nat)->Int
 |k,[]=>k
 |k,⟨l0,l1⟩::ls=>db (eX k l0 l1) ls
theorem jj:∀(ls:List (Nat×Nat))(k:Int),k<=db k ls
 | [],k=>Int.le_refl k
 |⟨l0,l1⟩::ls,k=>by have:=jj ls (eX k l0 l1);unfold eX at this;unfold db eX;omega
theorem jt:∀(ls:List (Nat×Nat))(k:Int),(dp k ls).length=ls.length
 | [],k=>rfl
 |⟨l0,l1⟩::ls,k=>by simp [dp,jt ls]
theorem pK:∀(ls:List (Nat×Nat))(k:Int),∀x∈dp k ls,x.length=64
 | [],k,x,hx=>by simp [dp]at hx
 |⟨l0,l1⟩::ls,k,x,hx=>by
  rcases List.mem_cons.1 hx with h|h
  ·rw [h];rfl
  ·exact pK ls _ x h
theorem D5{kc q0 q1 q62 q63:Int}{l0:Nat}{l1:Nat}(hkc:0<=kc)(hkb:kc+62+1*((l0:Nat):Int)+3*((l1:Nat):Int)<=1152921504606846976)(hq0:q0=kc+1)(hq1:q1=q0+1*((l0:Nat):Int))(hq62:q62=q1+61)(hq63:q63=q62+3*((l1:Nat):Int)):q63=eX kc l0 l1/\(0<=kc/\kc+1<=1152921504606846976)/\(0<=q1/\q1+61<=1152921504606846976)/\(0<=q63/\q63+0<=1152921504606846976):=by
 unfold eX
 refine⟨?_,?_,?_,?_⟩<;>omega
def nZ(x:List AC)(l:Nat×Nat):Prop:=∃u0 u2 u3 u4 u5 u6 u7 u8 u9 u10 u11 u12 u13 u14 u15 u16 u17 u18 u19 u20 u21 u22 u23 u24 u25 u26 u27 u28 u29 u30 u31 u32 u33 u34 u35 u36 u37 u38 u39 u40 u41 u42 u43 u44 u45 u46 u47 u48 u49 u50 u51 u52 u53 u54 u55 u56 u57 u58 u59 u60 u61 u62 F0 F1,x=(.imm u0:: .view F0:: .imm u2:: .imm u3:: .imm u4:: .imm u5:: .imm u6:: .imm u7:: .imm u8:: .imm u9:: .imm u10:: .imm u11:: .imm u12:: .imm u13:: .imm u14:: .imm u15:: .imm u16:: .imm u17:: .imm u18:: .imm u19:: .imm u20:: .imm u21:: .imm u22:: .imm u23:: .imm u24:: .imm u25:: .imm u26:: .imm u27:: .imm u28:: .imm u29:: .imm u30:: .imm u31:: .imm u32:: .imm u33:: .imm u34:: .imm u35:: .imm u36:: .imm u37:: .imm u38:: .imm u39:: .imm u40:: .imm u41:: .imm u42:: .imm u43:: .imm u44:: .imm u45:: .imm u46:: .imm u47:: .imm u48:: .imm u49:: .imm u50:: .imm u51:: .imm u52:: .imm u53:: .imm u54:: .imm u55:: .imm u56:: .imm u57:: .imm u58:: .imm u59:: .imm u60:: .imm u61:: .imm u62:: .view F1::[])/\(F0.length=l.1/\F0.length<=1048576/\oQ F0=true/\∀y∈F0,y.length=1)/\(F1.length=l.2/\F1.length<=1048576/\oQ F1=true/\∀y∈F1,y.length=3)
variable {l:Nat×Nat}
theorem yr{x:List AC}(h:nZ x l):x.all dat=true/\x.length=64:=by
 obtain⟨u0,u2,u3,u4,u5,u6,u7,u8,u9,ha,hb,hc,hd,he,hf,hg,hh,hi,hj,hk,hl,hm,hn,ho,hp,hq,hr,hs,ht,hu,hv,hw,hx,hy,hz,hA,hB,hC,hD,hE,hF,hG,hH,hI,hJ,hK,hL,hM,hN,hO,hP,hQ,hR,hS,hT,hU,hV,hW,hX,hY,hZ,h0,F0,F1,rfl,-⟩:=h
 exact⟨rfl,rfl⟩
theorem Cb{e v:List AC}{u:Value}(h:e.map vwC= .imm u::v)(hb:e.all ir=true):∃e',e= .imm u::e'/\e'.map vwC=v/\e'.all ir=true:=by
 match e,h,hb with
 |x::e,h,hb=>
  rw [zqA,List.cons.injEq]at h
  rw [zqD,zqs]at hb
  exact⟨e,by rw [EZ hb.1 h.1],h.2,hb.2⟩
theorem Fr{e v:List AC}{F:LLA}(h:e.map vwC= .view F::v)(hb:e.all ir=true):∃B e',e= .fv B F::e'/\e'.map vwC=v/\e'.all ir=true:=by
 match e,h,hb with
 |x::e,h,hb=>
  rw [zqA,List.cons.injEq]at h
  rw [zqD,zqs]at hb
  obtain⟨B,hB⟩:=Hj hb.1 h.1
  exact⟨B,e,by rw [hB],h.2,hb.2⟩
variable {r:List AC}
theorem Dc{D:LLA}{j:Nat}(h:D[j]? =some r)(i:Nat)(c:AC):∃x,x=r.set i c:=⟨_,rfl⟩
theorem Ej{D E:LLA}{j:Nat}(h:D=E.set j r):∃x,x=r/\D=E.set j x:=⟨_,rfl,h⟩
def mkF(q:Int):Nat->Int
 |0=>q
 |i+1=>wrap64 (mkF q i+1)
variable {P:Program}
theorem D8{n0 N:Nat}{β:BP}{g:Gd}(hg:g=G0 P n0 N)(q:Int)(i:Nat):g .w .add .i64 (mkF q i) 1=mkF q (i+1):=by rw [aJ hg];rfl
theorem Fy{q:Int}(h0:0<=q)(hC:q+61<=1152921504606846976):∀i:Nat,i<=61->mkF q i=q+(i:Int)
 |0,_=>by simp [mkF]
 |i+1,h=>by rw [mkF,Fy h0 hC i (by omega),aq _ (by omega)];omega
def HS(k:Int)(A B:LLA)(f:Nat->Int):List AC:= .J k:: .view A:: .J (f 0)::((List.range 60).map (fun i=>if i=5\/i=6\/i=59 then .B (m3 (f (i+1)))else .J (f (i+1)))++[.view B])
theorem DX{kc q:Int}{l0 l1:Nat}{f:Nat->Int}(hq:q=kc+1+1*((l0:Nat):Int))(h:∀i:Nat,i<=61->f i=q+(i:Int)):HS kc (vw ah (gH (kc+1) l0)) (vw aI.c (fq (f 61) l1)) f=rO kc l0 l1:=by
 have e0:f 0=q:=by rw [h 0 (by decide)];exact Int.add_zero q
 have e1:∀i∈List.range 60,f (i+1)=q+((i+1:Nat):Int):=fun i hi=>h _ (by have:=List.mem_range.1 hi;omega)
 have e2:f 61=q+61:=h 61 (by decide)
 rw [HS,e0,e2,List.map_congr_left (g:=fun i=>if i=5\/i=6\/i=59 then AC.imm (.bool (m3 (q+((i+1:Nat):Int))))else .J (q+((i+1:Nat):Int))) fun i hi=>by rw [e1 i hi]]
 subst hq
 rfl
theorem qw(k0:Int):PC0 43 [.c (.view []),ai k0] (.i k0):=by
 refine fP ([(6,.hand),(129,.hand),(14,.hand),(26,.hand),(38,.hand),(50,.hand),(62,.hand),(74,.hand),(86,.hand),(98,.hand),(110,.hand),(122,.hand)]) ([]) (c:=aK f43) ay func43 (by kernel_rfl) (by kernel_rfl) (by rfl) (by kernel_rfl) fun g hc hd F ha hb hg hF=> ?_
 cbv
 refine gj [(6,.hand),(129,.hand),(14,.hand),(26,.hand),(38,.hand),(50,.hand),(62,.hand),(74,.hand),(86,.hand),(98,.hand),(110,.hand),(122,.hand)] [] ha hb hg ay (by kernel_rfl) (fun _:Unit=>[(0,.t (.c (.view []))),(1,.i k0),(5,.i 0)]) (fun _=>[]) (fun _=>True) (fun _=>0) () trivial (Wk.weak (wk0 zr3)) (fun s B _ hB=> ?_)
 cbv
 have e:g .q .lss 0 (g .ln [])=false:=by rw [bg hg,bA hg];rfl
 rw [e]
 cbv
 exact aU hF rfl
theorem qv(k0:Int)(bs:List Nat)(V:LLA)(ls:List (Nat×Nat))(hV:V.length=ls.length)(hl:V.length<=1048576)(hok:∀(i:Nat)(x:List AC)(l:Nat×Nat),V[i]? =some x->ls[i]? =some l->nZ x l)(hnd:bs.Nodup)(hk0:0<=k0)(hk1:db k0 ls<=1152921504606846976):
  DG prog 43 [.c (.fv bs V),ai k0] [(bs,V,dp k0 ls)] (.int .i64 (db k0 ls)):=by
 by_cases hne:V=[]
 ·subst hne
  obtain rfl:ls=[]:=zqv (by simpa using hV.symm)
  exact vp (qw k0)
 have xi:∀x∈V,x.all dat=true/\x.length=64:=fun x hx=>by
  obtain⟨i,hi,rfl⟩:=List.getElem_of_mem hx
  exact yr (hok i _ _ (zqc hi) (zqc (by omega)))
 have dV:=fun x hx=>(xi x hx).1
 have kV:=fun x hx=>(xi x hx).2
 refine xm (by kernel_rfl) hne kV dV hnd (by rw [jt,hV]) fun hy ty es xc ht e1 e2 e3 e4=> ?_
 clear hnd xc
 obtain⟨β,hβ⟩:∃β:BP,β=⟨0,fun b=>b∈hy⟩:=⟨_,rfl⟩
 have xj:∀b∈hy,β.ex b:=by rw [hβ];exact fun _ h=>h
 rw [<-hβ]
 clear hβ
 have xB:0<=aM V:=by rw [aj];omega
 have xs:aM V<=1048576:=by rw [aj];omega
 refine xI (h:=[.rw ⟨ty,64,es⟩]) [(6,.hand),(129,.hand),(14,.hand),(26,.hand),(38,.hand),(50,.hand),(62,.hand),(74,.hand),(86,.hand),(98,.hand),(110,.hand),(122,.hand)] [] (c:=aK f43) ay func43 (by kernel_rfl) (by kernel_rfl) (bl (by rfl)) (by kernel_rfl) fun g xA hd F ha hn hg hF=> ?_
 cbv
 refine gj [(6,.hand),(129,.hand),(14,.hand),(26,.hand),(38,.hand),(50,.hand),(62,.hand),(74,.hand),(86,.hand),(98,.hand),(110,.hand),(122,.hand)] [] ha hn hg ay (by kernel_rfl) (fun s:Int×Int×LLA=>[(0,.o 0),(1,.i s.2.1),(5,.i s.1)]) (fun s=>[.rw ⟨ty,64,s.2.2⟩]) (fun s=>∃R,Dv 64 V R s.2.2 s.1 hy/\dp k0 ls=R++dp s.2.1 (ls.drop s.1.toNat)/\db k0 ls=db s.2.1 (ls.drop s.1.toNat)/\0<=s.2.1) (fun s=>(aM V).toNat-s.1.toNat)
  (0,k0,es) ⟨[],Dv.start e1 e2 e3 e4,rfl,rfl,hk0⟩ (Wk.weak (wk1 ⟨⟨_,rfl,rfl,bS e3⟩,trivial⟩ zr3)) (fun s B hs hB=> ?_)
 clear e1 e2 e3 e4
 obtain⟨z,kc,E⟩:=s
 obtain⟨R,hs,hR,hK,h8⟩:=hs
 simp only at hs hR hK h8
 have h0:=hs.z0
 have h1:=hs.z1
 have xe:aM E=aM V:=by rw [aj,aj,hs.len]
 cbv
 cases hc:g .q .lss z (g .ln E)
 ·rw [bg hg,bA hg,xe,zqo]at hc
  cbv
  have h4:=hs.all hc
  have h5:ls.drop z.toNat=[]:=by rw [aj]at hc;exact List.drop_eq_nil_of_le (by omega)
  rw [h5]at hR hK
  have xr:dp k0 ls=R:=by rw [hR];exact List.append_nil R
  have xq:db k0 ls=kc:=hK
  rw [xr,xq]at hF
  exact Eu hF (bS hs.bare) ⟨rfl,E,rfl,h4,hs.fp,hs.bare⟩
 ·rw [bg hg,bA hg,xe,zqp]at hc
  cbv
  obtain⟨j,hj⟩:=nmE z.toNat
  have xu:j<V.length:=by rw [hj];rw [aj]at hc;omega
  have hk:j<E.length:=by rw [hs.len];exact xu
  obtain⟨e,v,he,hv,hq,hr,xt⟩:=hs.at_ hj hc
  obtain⟨l,xl⟩:∃l,ls[j]? =some l:=⟨_,zqc (by omega)⟩
  have h5:ls.drop z.toNat=l::ls.drop (z+1).toNat:=by
   rw [<-hj,show(z+1).toNat=j+1 by omega]
   have hM:j<ls.length:=by omega
   rw [List.drop_eq_getElem_cons hM,<-Option.some.inj ((zqc hM).symm.trans xl)]
  rw [h5]at hR hK
  obtain⟨u0,u2,u3,u4,u5,u6,u7,u8,u9,xC,xD,xE,xF,xG,xH,xJ,xK,xL,xM,xN,xO,xP,xQ,xR,xS,xT,xU,xV,xW,xX,xY,xZ,x0,x1,x2,x3,x4,x5,x6,x7,x8,x9,ya,yb,yc,yd,ye,yf,yg,yh,yi,yj,yk,yl,ym,yn,yo,yp,yq,ys,yu,yv,F0,F1,xx,⟨hH,hY,hU,hW⟩,⟨hI,h3,hZ,h2⟩⟩:=hok j v l hv xl
  subst xx
  obtain⟨l0,l1⟩:=l
  simp only at hH hI
  subst hH hI
  obtain⟨l0,hN⟩:=nmE F0.length
  obtain⟨l1,hO⟩:=nmE F1.length
  rw [<-hN,<-hO]at hR hK
  obtain⟨e,rfl,hq,hr⟩:=Cb hq hr
  obtain⟨B0,e,rfl,hq,hr⟩:=Fr hq hr
  iterate 61 obtain⟨e,rfl,hq,hr⟩:=Cb hq hr
  obtain⟨B1,e,rfl,hq,hr⟩:=Fr hq hr
  obtain rfl:=List.map_eq_nil_iff.1 hq
  clear hq hr xt
  have xa:=uB (by rw [hs.fp];exact ht) he
  have hL:=fun b(hb:b∈fpL _)=>hs.fp▸CW he hb
  have xb:(B0++B1).Nodup:=by simpa [fpL,fpC]using xa
  obtain⟨hC,hE,hw⟩:=List.nodup_append.1 xb
  obtain⟨D,hD⟩:=nmE E
  have l_:j<D.length:=by rw [hD];exact hk
  have h_:=he
  have s_:=hD.trans (DT he).symm
  rw [<-hD]at h_⊢
  have ez:g .w .add .i64 z 1=z+1:=by rw [aJ hg,aq _ (by omega)]
  have xv:(aM V).toNat-(z+1).toNat<(aM V).toNat-z.toNat:=by omega
  have hJ:=jj (ls.drop (z+1).toNat) (eX kc l0 l1)
  have xf:db (eX kc l0 l1) (ls.drop (z+1).toNat)<=1152921504606846976:=by rw [show db (eX kc l0 l1) (ls.drop (z+1).toNat)=db k0 ls from hK.symm];exact hk1
  have xk:kc+62+1*((l0:Nat):Int)+3*((l1:Nat):Int)<=1152921504606846976:=by rw [<-yt];exact Int.le_trans hJ xf
  obtain⟨q0,hS⟩:=nmE (kc+1)
  obtain⟨q1,hT⟩:=nmE (q0+1*((l0:Nat):Int))
  obtain⟨hQ,hz,hA,xd⟩:=D5 h8 xk hS hT rfl rfl
  clear xk hJ xf
  have e0:=JB hg hz.1 hz.2 (Int.add_zero _).symm hS rfl (by decide) (by decide)
  obtain⟨m,xn⟩:=nmE m3
  have em:∀x,g .q .eql (g .w .rem .i64 x 3) 0=m x:=fun x=>by rw [xn,xy hg,bm hg];rfl
  have h6:=Fy hA.1 hA.2
  have f0:q1=mkF q1 0:=rfl
  have ew:=D8 hg q1
  generalize hf:mkF q1=f at h6 f0 ew
  have xw:q1=kc+1+1*((l0:Nat):Int):=by rw [hT,hS]
  rw [f0]at hT
  have xp:f 61=q1+61:=h6 61 (Nat.le_refl _)
  obtain⟨xz,hP⟩:=nmE (f 61+3*((l1:Nat):Int))
  rw [<-xp,<-hP]at hQ
  generalize hC59:Code.seq (Code.region 123 _ _) _=C59
  generalize hC53:Code.seq (Code.region 111 _ _) _=C53
  generalize hC47:Code.seq (Code.region 99 _ _) _=C47
  generalize hC41:Code.seq (Code.region 87 _ _) _=C41
  generalize hC35:Code.seq (Code.region 75 _ _) _=C35
  generalize hC29:Code.seq (Code.region 63 _ _) _=C29
  generalize hC23:Code.seq (Code.region 51 _ _) _=C23
  generalize hC17:Code.seq (Code.region 39 _ _) _=C17
  generalize hC11:Code.seq (Code.region 27 _ _) _=C11
  generalize hC5:Code.seq (Code.region 15 _ _) _=C5
  iterate 1 ((try(rw [ew];cbv));refine yD hg h0 hj l_ ?_;cbv;refine⟨_,h_,?_⟩;cbv;generalize hG:g .st _ _ _=D;generalize hX:ta _ _ _=x at hG;cbv at hX;subst hX;obtain⟨s',h',l'⟩:=ic hg hG s_ hk;clear hG s_ h_ l_;revert s' h' l';intro s_ h_ l_)
  rw [e0]
  cbv
  have ho:∀x∈D,x.all ir=true:=fun x hx=>by
   rw [s_]at hx
   rcases List.mem_or_eq_of_mem_set hx with h|h
   ·exact hs.bare x h
   ·rw [h];rfl
  have h7:fpE D=hy:=by rw [s_];exact(qP he (by rfl)).trans hs.fp
  have hm:=rZ q0 B0 F0 hY hW hU hC (by omega) (by omega)
  rw [<-hN]at hm
  rw [<-hT]at hm
  obtain⟨M0,xg⟩:=nmE ((vw ah (gH q0 l0)))
  rw [<-xg]at hm
  refine oD hg hn ay 6 (by kernel_rfl) (fun mk h9=> ?_)
  cbv
  refine yD hg h0 hj l_ ?_
  cbv
  refine⟨_,h_,?_⟩
  cbv
  subst h9
  obtain⟨x,hx⟩:=Dc h_ 1 (.fv B0 M0)
  cbv at hx
  obtain⟨D',hD⟩:=nmE (D.set j x)
  subst hx
  obtain⟨s',h',l'⟩:=zr hD s_ hk
  refine⟨_,_,_,[(B0,F0,M0)],_,[(0,.o 0),(1,.i (q0)),(5,.i z)],[.rw ⟨ty,64,D'⟩],rfl,rfl,rfl,rfl,rfl,hm,fun u hu b hb=> ?_,fun u hu=> ?_,⟨.inr (.inl zr1),.inr (.inl zr1),.inr (.inl zr1),trivial⟩,⟨?_,trivial⟩,?_⟩
  ·rw [List.mem_singleton.1 hu]at hb
   exact xj b (hL b (by simp [fpL,fpC];first|exact hb|exact .inl hb|exact .inr hb))
  ·rw [List.mem_singleton.1 hu]
   exact⟨_,List.mem_cons_self ..,List.mem_singleton.2 rfl⟩
  ·rw [hD]
   refine Fl h_ ho (by rw [h7];exact ht) (fun u hu b hb=> ?_) ?_
   ·rw [List.mem_singleton.1 hu]at hb
    simp [fpL,fpC];first|exact hb|exact .inl hb|exact .inr hb
   ·iterate 63
     refine⟨?_,?_⟩
     first|exact .inr (.inl zr1)|exact .inr (.inr ⟨_,List.mem_singleton.2 rfl,rfl,rfl⟩)|exact .inr (.inl ⟨rfl,fun b hb u hu hp=>(by rw [List.mem_singleton.1 hu]at hp;first|exact hw b hb b hp rfl|exact hw b hp b hb rfl)⟩)
    exact⟨.inr (.inl ⟨rfl,fun b hb u hu hp=>(by rw [List.mem_singleton.1 hu]at hp;first|exact hw b hb b hp rfl|exact hw b hp b hb rfl)⟩),trivial⟩
  cbv
  clear h_ s_ l_ hD
  revert D'
  intro D s_ h_ l_
  iterate 4 ((try(rw [ew];cbv));refine yD hg h0 hj l_ ?_;cbv;refine⟨_,h_,?_⟩;cbv;generalize hG:g .st _ _ _=D;generalize hX:ta _ _ _=x at hG;cbv at hX;subst hX;obtain⟨s',h',l'⟩:=ic hg hG s_ hk;clear hG s_ h_ l_;revert s' h' l';intro s_ h_ l_)
  refine gR [] [] ha hn hg ay [(0,.o 0),(1,.i (f 4)),(5,.i z)] [.rw ⟨ty,64,D⟩] (by kernel_rfl) (fun B' hh=> ?_) ?_
  ·cbv
   rw [ew]
   exact hh _ _ (Wk.weak (wk1 ⟨⟨_,rfl,rfl,by rw [s_];exact ep (bS hs.bare) rfl⟩,trivial⟩ zr3))
  as_aux_lemma=>
   subst hC5
   cbv
   iterate 6 ((try(rw [ew];cbv));(try(refine DA hg (by decide) ?_;cbv;rw [em];cbv));refine yD hg h0 hj l_ ?_;cbv;refine⟨_,h_,?_⟩;cbv;generalize hG:g .st _ _ _=D;generalize hX:ta _ _ _=x at hG;cbv at hX;subst hX;obtain⟨s',h',l'⟩:=ic hg hG s_ hk;clear hG s_ h_ l_;revert s' h' l';intro s_ h_ l_)
   refine gR [] [] ha hn hg ay [(0,.o 0),(1,.i (f 10)),(5,.i z)] [.rw ⟨ty,64,D⟩] (by kernel_rfl) (fun B' hh=> ?_) ?_
   ·cbv
    rw [ew]
    exact hh _ _ (Wk.weak (wk1 ⟨⟨_,rfl,rfl,by rw [s_];exact ep (bS hs.bare) rfl⟩,trivial⟩ zr3))
   as_aux_lemma=>
    subst hC11
    cbv
    iterate 6 ((try(rw [ew];cbv));refine yD hg h0 hj l_ ?_;cbv;refine⟨_,h_,?_⟩;cbv;generalize hG:g .st _ _ _=D;generalize hX:ta _ _ _=x at hG;cbv at hX;subst hX;obtain⟨s',h',l'⟩:=ic hg hG s_ hk;clear hG s_ h_ l_;revert s' h' l';intro s_ h_ l_)
    refine gR [] [] ha hn hg ay [(0,.o 0),(1,.i (f 16)),(5,.i z)] [.rw ⟨ty,64,D⟩] (by kernel_rfl) (fun B' hh=> ?_) ?_
    ·cbv
     rw [ew]
     exact hh _ _ (Wk.weak (wk1 ⟨⟨_,rfl,rfl,by rw [s_];exact ep (bS hs.bare) rfl⟩,trivial⟩ zr3))
    as_aux_lemma=>
     subst hC17
     cbv
     iterate 6 ((try(rw [ew];cbv));refine yD hg h0 hj l_ ?_;cbv;refine⟨_,h_,?_⟩;cbv;generalize hG:g .st _ _ _=D;generalize hX:ta _ _ _=x at hG;cbv at hX;subst hX;obtain⟨s',h',l'⟩:=ic hg hG s_ hk;clear hG s_ h_ l_;revert s' h' l';intro s_ h_ l_)
     refine gR [] [] ha hn hg ay [(0,.o 0),(1,.i (f 22)),(5,.i z)] [.rw ⟨ty,64,D⟩] (by kernel_rfl) (fun B' hh=> ?_) ?_
     ·cbv
      rw [ew]
      exact hh _ _ (Wk.weak (wk1 ⟨⟨_,rfl,rfl,by rw [s_];exact ep (bS hs.bare) rfl⟩,trivial⟩ zr3))
     as_aux_lemma=>
      subst hC23
      cbv
      iterate 6 ((try(rw [ew];cbv));refine yD hg h0 hj l_ ?_;cbv;refine⟨_,h_,?_⟩;cbv;generalize hG:g .st _ _ _=D;generalize hX:ta _ _ _=x at hG;cbv at hX;subst hX;obtain⟨s',h',l'⟩:=ic hg hG s_ hk;clear hG s_ h_ l_;revert s' h' l';intro s_ h_ l_)
      refine gR [] [] ha hn hg ay [(0,.o 0),(1,.i (f 28)),(5,.i z)] [.rw ⟨ty,64,D⟩] (by kernel_rfl) (fun B' hh=> ?_) ?_
      ·cbv
       rw [ew]
       exact hh _ _ (Wk.weak (wk1 ⟨⟨_,rfl,rfl,by rw [s_];exact ep (bS hs.bare) rfl⟩,trivial⟩ zr3))
      as_aux_lemma=>
       subst hC29
       cbv
       iterate 6 ((try(rw [ew];cbv));refine yD hg h0 hj l_ ?_;cbv;refine⟨_,h_,?_⟩;cbv;generalize hG:g .st _ _ _=D;generalize hX:ta _ _ _=x at hG;cbv at hX;subst hX;obtain⟨s',h',l'⟩:=ic hg hG s_ hk;clear hG s_ h_ l_;revert s' h' l';intro s_ h_ l_)
       refine gR [] [] ha hn hg ay [(0,.o 0),(1,.i (f 34)),(5,.i z)] [.rw ⟨ty,64,D⟩] (by kernel_rfl) (fun B' hh=> ?_) ?_
       ·cbv
        rw [ew]
        exact hh _ _ (Wk.weak (wk1 ⟨⟨_,rfl,rfl,by rw [s_];exact ep (bS hs.bare) rfl⟩,trivial⟩ zr3))
       as_aux_lemma=>
        subst hC35
        cbv
        iterate 6 ((try(rw [ew];cbv));refine yD hg h0 hj l_ ?_;cbv;refine⟨_,h_,?_⟩;cbv;generalize hG:g .st _ _ _=D;generalize hX:ta _ _ _=x at hG;cbv at hX;subst hX;obtain⟨s',h',l'⟩:=ic hg hG s_ hk;clear hG s_ h_ l_;revert s' h' l';intro s_ h_ l_)
        refine gR [] [] ha hn hg ay [(0,.o 0),(1,.i (f 40)),(5,.i z)] [.rw ⟨ty,64,D⟩] (by kernel_rfl) (fun B' hh=> ?_) ?_
        ·cbv
         rw [ew]
         exact hh _ _ (Wk.weak (wk1 ⟨⟨_,rfl,rfl,by rw [s_];exact ep (bS hs.bare) rfl⟩,trivial⟩ zr3))
        as_aux_lemma=>
         subst hC41
         cbv
         iterate 6 ((try(rw [ew];cbv));refine yD hg h0 hj l_ ?_;cbv;refine⟨_,h_,?_⟩;cbv;generalize hG:g .st _ _ _=D;generalize hX:ta _ _ _=x at hG;cbv at hX;subst hX;obtain⟨s',h',l'⟩:=ic hg hG s_ hk;clear hG s_ h_ l_;revert s' h' l';intro s_ h_ l_)
         refine gR [] [] ha hn hg ay [(0,.o 0),(1,.i (f 46)),(5,.i z)] [.rw ⟨ty,64,D⟩] (by kernel_rfl) (fun B' hh=> ?_) ?_
         ·cbv
          rw [ew]
          exact hh _ _ (Wk.weak (wk1 ⟨⟨_,rfl,rfl,by rw [s_];exact ep (bS hs.bare) rfl⟩,trivial⟩ zr3))
         as_aux_lemma=>
          subst hC47
          cbv
          iterate 6 ((try(rw [ew];cbv));refine yD hg h0 hj l_ ?_;cbv;refine⟨_,h_,?_⟩;cbv;generalize hG:g .st _ _ _=D;generalize hX:ta _ _ _=x at hG;cbv at hX;subst hX;obtain⟨s',h',l'⟩:=ic hg hG s_ hk;clear hG s_ h_ l_;revert s' h' l';intro s_ h_ l_)
          refine gR [] [] ha hn hg ay [(0,.o 0),(1,.i (f 52)),(5,.i z)] [.rw ⟨ty,64,D⟩] (by kernel_rfl) (fun B' hh=> ?_) ?_
          ·cbv
           rw [ew]
           exact hh _ _ (Wk.weak (wk1 ⟨⟨_,rfl,rfl,by rw [s_];exact ep (bS hs.bare) rfl⟩,trivial⟩ zr3))
          as_aux_lemma=>
           subst hC53
           cbv
           iterate 6 ((try(rw [ew];cbv));refine yD hg h0 hj l_ ?_;cbv;refine⟨_,h_,?_⟩;cbv;generalize hG:g .st _ _ _=D;generalize hX:ta _ _ _=x at hG;cbv at hX;subst hX;obtain⟨s',h',l'⟩:=ic hg hG s_ hk;clear hG s_ h_ l_;revert s' h' l';intro s_ h_ l_)
           refine gR [] [] ha hn hg ay [(0,.o 0),(1,.i (f 58)),(5,.i z)] [.rw ⟨ty,64,D⟩] (by kernel_rfl) (fun B' hh=> ?_) ?_
           ·cbv
            rw [ew]
            exact hh _ _ (Wk.weak (wk1 ⟨⟨_,rfl,rfl,by rw [s_];exact ep (bS hs.bare) rfl⟩,trivial⟩ zr3))
           as_aux_lemma=>
            subst hC59
            cbv
            iterate 3 ((try(rw [ew];cbv));(try(refine DA hg (by decide) ?_;cbv;rw [em];cbv));refine yD hg h0 hj l_ ?_;cbv;refine⟨_,h_,?_⟩;cbv;generalize hG:g .st _ _ _=D;generalize hX:ta _ _ _=x at hG;cbv at hX;subst hX;obtain⟨s',h',l'⟩:=ic hg hG s_ hk;clear hG s_ h_ l_;revert s' h' l';intro s_ h_ l_)
            rw [ew]
            cbv
            have ho:∀x∈D,x.all ir=true:=fun x hx=>by
             rw [s_]at hx
             rcases List.mem_or_eq_of_mem_set hx with h|h
             ·exact hs.bare x h
             ·rw [h];rfl
            have h7:fpE D=hy:=by rw [s_];exact(qP he (by rfl)).trans hs.fp
            have hm:=qr (f 61) B1 F1 h3 h2 hZ hE (by omega) (by omega)
            rw [<-hO]at hm
            rw [<-hP]at hm
            obtain⟨M1,xh⟩:=nmE ((vw aI.c (fq (f 61) l1)))
            rw [<-xh]at hm
            refine oD hg hn ay 7 (by kernel_rfl) (fun mk h9=> ?_)
            cbv
            refine yD hg h0 hj l_ ?_
            cbv
            refine⟨_,h_,?_⟩
            cbv
            subst h9
            obtain⟨x,hx⟩:=Dc h_ 63 (.fv B1 M1)
            cbv at hx
            obtain⟨D',hD⟩:=nmE (D.set j x)
            subst hx
            obtain⟨s',h',l'⟩:=zr hD s_ hk
            refine⟨_,_,_,[(B1,F1,M1)],_,[(0,.o 0),(1,.i (f 61)),(5,.i z)],[.rw ⟨ty,64,D'⟩],rfl,rfl,rfl,rfl,rfl,hm,fun u hu b hb=> ?_,fun u hu=> ?_,⟨.inr (.inl zr1),.inr (.inl zr1),.inr (.inl zr1),trivial⟩,⟨?_,trivial⟩,?_⟩
            ·rw [List.mem_singleton.1 hu]at hb
             exact xj b (hL b (by simp [fpL,fpC];first|exact hb|exact .inl hb|exact .inr hb))
            ·rw [List.mem_singleton.1 hu]
             exact⟨_,List.mem_cons_self ..,List.mem_singleton.2 rfl⟩
            ·rw [hD]
             refine Fl h_ ho (by rw [h7];exact ht) (fun u hu b hb=> ?_) ?_
             ·rw [List.mem_singleton.1 hu]at hb
              simp [fpL,fpC];first|exact hb|exact .inl hb|exact .inr hb
             ·iterate 63
               refine⟨?_,?_⟩
               first|exact .inr (.inl zr1)|exact .inr (.inr ⟨_,List.mem_singleton.2 rfl,rfl,rfl⟩)|exact .inr (.inl ⟨rfl,fun b hb u hu hp=>(by rw [List.mem_singleton.1 hu]at hp;first|exact hw b hb b hp rfl|exact hw b hp b hb rfl)⟩)
              exact⟨.inr (.inr ⟨_,List.mem_singleton.2 rfl,rfl,rfl⟩),trivial⟩
            cbv
            clear h_ s_ l_ hD
            revert D'
            intro D s_ h_ l_
            rw [ez]
            obtain⟨x,hx,s'⟩:=Ej s_
            rw [s']
            have xo:=hs.step (r:=rO kc l0 l1) hj hc he (e':=x) (by rw [hx,<-DX xw h6,xg,xh,xn,hS];rfl) (by rw [hx];rfl) (by rw [hx];rfl) (by rw [hx];rfl)
            rw [hB]
            refine⟨(z+1,xz,_),⟨_,xo,?_,?_,by simp only;rw [hQ];exact Int.le_trans h8 (by have:=jj [⟨l0,l1⟩] kc;exact this)⟩,xv,Wk.weak (wk1 ⟨⟨_,rfl,rfl,bS xo.bare⟩,trivial⟩ zr3)⟩
            ·simp only
             rw [hQ,zqC]
             exact hR
            ·simp only
             rw [hQ]
             exact hK
theorem xk{x:List AC}(h:nZ x l):x.length=64:=by
 obtain⟨u0,u2,u3,u4,u5,u6,u7,u8,u9,ha,hb,hc,hd,hf,hg,hh,hi,hj,hk,hl,hm,hn,ho,hp,hq,hr,hs,ht,hu,hv,hw,hx,hy,hz,hA,hB,hC,hD,hE,hF,hG,hH,hI,hJ,hK,hL,hM,hN,hO,hP,hQ,hR,hS,hT,hU,hV,hW,hX,hY,hZ,h0,h1,F0,F1,he,-⟩:=h
 rw [he];rfl
theorem yp(x:af)(hs:x.small):nZ x.ac (x.kids.length,x.table.rules.length):=by
 obtain⟨a0,a1,⟨a2,a3,a4,a5,a6,a7,a8,a9,hc,hd,he,⟨hf,hg⟩,⟨hh,hi⟩,⟨hj,hk⟩,⟨hl,hm⟩,⟨hn,ho⟩,⟨hp,hq⟩,⟨hr,ht⟩,hu,⟨⟨hv,hw⟩,⟨hx,hy⟩,⟨hz,hA⟩,⟨hB,hC⟩,⟨hD,hE⟩,⟨hF,hG⟩⟩,⟨⟨hH,hI⟩,⟨hJ,hK⟩,⟨hL,hM⟩,⟨hN,hO⟩,⟨hP,hQ⟩,⟨hR,hS⟩⟩,⟨hT,hU,hV,hW⟩,⟨hX,hY,hZ,h0⟩,h1,h2⟩,h3,⟨h4⟩⟩:=x
 obtain⟨hb,ha,-⟩:=hs
 exact⟨_,_,_,_,_,_,_,_,_,_,_,_,_,_,_,_,_,_,_,_,_,_,_,_,_,_,_,_,_,_,_,_,_,_,_,_,_,_,_,_,_,_,_,_,_,_,_,_,_,_,_,_,_,_,_,_,_,_,_,_,_,_,_,_,rfl,⟨by simp [vw],by simpa [vw]using hb,qV _ _,Br (c:=ah) (k:=1) fun _=>rfl⟩,⟨by simp [vw],by simpa [vw]using ha,qV _ _,Br (c:=aI.c) (k:=3) fun _=>rfl⟩⟩
theorem rY(k0:Int)(b0:List Nat)(V0:LLA)(ls0:List (Nat×Nat))(hV0:V0.length=ls0.length)(hl0:V0.length<=1048576)(hok0:∀(i:Nat)(x:List AC)(l:Nat×Nat),V0[i]? =some x->ls0[i]? =some l->nZ x l)
  (hnd:b0.Nodup) (hk0:0<=k0) (hk1:db k0 ls0<=1152921504606846976):
  DG prog 14 [.agg [.fv b0 V0],ai k0] [(b0,V0,dp k0 ls0)] (.int .i64 (db k0 ls0)):=by
 have he:=qv k0 b0 V0 ls0 hV0 hl0 hok0 hnd hk0 hk1
 have hf:∃k:Nat,(∀x∈V0,x.length=k)/\∀x∈dp k0 ls0,x.length=k:=⟨64,fun x hx=>by
  obtain⟨i,hi,rfl⟩:=List.getElem_of_mem hx
  exact xk (hok0 i _ _ (zqc hi) (zqc (by omega))),pK ls0 k0⟩
 have hh:(dp k0 ls0).length=V0.length:=by rw [jt,hV0]
 clear hok0
 obtain⟨R0,ha⟩:=nmE (dp k0 ls0)
 obtain⟨K1,hc⟩:=nmE (db k0 ls0)
 rw [<-ha,<-hc]at he
 rw [<-ha]at hf hh
 rw [<-ha,<-hc]
 clear ha hc hk1
 refine Cx (fun u hu=> ?_) ?_
 ·rw [List.mem_singleton.1 hu];exact⟨hf,hh⟩
 obtain⟨β,hβ⟩:∃β:BP,β=⟨0,fun b=>∃u∈[(b0,V0,R0)],b∈u.1⟩:=⟨_,rfl⟩
 have hm:∀b∈b0,β.ex b:=by rw [hβ];exact fun b hb=>⟨_,List.mem_cons_self ..,hb⟩
 rw [<-hβ]
 clear hβ
 refine xI (h:=[]) [(1,.hand)] [] (c:=aK f14) ay func14 (by kernel_rfl) (by kernel_rfl) (bl (by rfl)) (by kernel_rfl) fun g hn hd F hj hk hg hF=> ?_
 cbv
 refine oD hg hk ay 3 (by kernel_rfl) (fun mk hl=> ?_)
 cbv
 subst hl
 refine⟨_,_,_,[(b0,V0,R0)],_,[(2,.p 0),(4,.i 0)],[.bx 32 1 [.fv b0 R0]],rfl,rfl,rfl,rfl,rfl,he,fun u hu b hb=>hm b (by rw [List.mem_singleton.1 hu]at hb;exact hb),fun u hu=> ?_,⟨.inr (.inl zr1),.inr (.inl zr1),trivial⟩,⟨⟨rfl,rfl,.inr (.inr ⟨_,List.mem_singleton.2 rfl,rfl,rfl⟩),trivial⟩,trivial⟩,?_⟩
 ·rw [List.mem_singleton.1 hu];exact⟨_,List.mem_cons_self ..,List.mem_singleton.2 rfl⟩
 cbv
 refine J6 hF 0 _ _ [.fv b0 R0] rfl rfl (fun u hu=> ?_)
 rw [List.mem_singleton.1 hu];exact List.mem_cons_self ..
theorem lZ:∀(ls:List (Nat×Nat))(k:Int),(∀l∈ls,l.1<=1048576/\l.2<=1048576)->db k ls<=k+4194366*(ls.length:Int)
 | [],k,_=>by simp [db]
 |l::ls,k,h=>by
  have h1:=lZ ls (eX k l.1 l.2) fun l' hl=>h l' (List.mem_cons_of_mem _ hl)
  obtain⟨h2,h3⟩:=h l (List.mem_cons_self ..)
  unfold db
  unfold eX at h1⊢
  simp only [zqx]
  omega
theorem yv(ns:List af)(hl:ns.length<=1048576)(hs:∀y∈ns,af.small y):∃(R0:LLA)(K:Int),0<=K/\K<=1152921504606846976/\∀b0:List Nat,b0.Nodup->DG prog 14 [.agg [.fv b0 (vwA af.ac ns)],ai 1] [(b0,vwA af.ac ns,R0)] (.int .i64 K):=by
 have k0:=jj (ns.map fun m=>(m.kids.length,m.table.rules.length)) 1
 have k2:=lZ (ns.map fun m=>(m.kids.length,m.table.rules.length)) 1 (fun l hl=>by
  obtain⟨m,hm,rfl⟩:=List.mem_map.1 hl
  have:=hs m hm
  obtain⟨a0,a1,⟨a2,a3,a4,a5,a6,a7,a8,a9,hc,hd,he,⟨hf,hg⟩,⟨hh,hi⟩,⟨hj,hk⟩,⟨hn,ho⟩,⟨hp,hq⟩,⟨hr,ht⟩,⟨hu,hv⟩,hw,⟨⟨hy,hz⟩,⟨hA,hB⟩,⟨hC,hD⟩,⟨hE,hF⟩,⟨hG,hH⟩,⟨hI,hJ⟩⟩,⟨⟨hK,hL⟩,⟨hM,hN⟩,⟨hO,hP⟩,⟨hQ,hR⟩,⟨hS,hT⟩,⟨hU,hV⟩⟩,⟨hW,hX,hY,hZ⟩,⟨h0,h1,h2,h3⟩,h4,h5⟩,h6,⟨h7⟩⟩:=m
  exact⟨this.1,this.2.1⟩)
 rw [zql]at k2
 refine⟨_,_,Int.le_trans (by decide) k0,by omega,fun b0 hb=>rY 1 b0 _ (ns.map fun m=>(m.kids.length,m.table.rules.length)) (by simp [vwA]) (by simpa [vwA]using hl) (fun i x l hx hl=> ?_) hb (by decide) (by omega)⟩
 simp only [vwA,zqi,zqj]at hx hl
 obtain⟨m,hm,rfl⟩:=hx
 obtain⟨m',ha,rfl⟩:=hl
 rw [hm]at ha
 cases ha
 exact yp m (hs m (zqd hm))
section
variable {P:Program}{n0 N:Nat}{g:Gd}
variable {K:AV->EH->Prop}{f:FuncId}{args args':List AT}
theorem Ak{β:BP}(hg:g=G0 P n0 N){h:EH}{ab:AB}(hc:cV P f args' fun res hd=>res= .o 0/\hd=[ab])(ha:qD (toH h) args args')(hp:oQ ab.es=true)
  (hK:K (.t (.c (.own (lJ h)))) (h++[.rw ab])):g .C f h args K:=
 IT hg hc ha fun res hd hb=>by
  obtain⟨rfl,rfl⟩:=hb
  refine⟨rfl,fun hf he=> ?_,[.rw ab],?_,?_⟩
  ·obtain rfl:=List.mem_singleton.1 he
   exact jU hp _ _
  ·simp only [zqA,List.map_nil,fd (cu hp)];rfl
  ·rw [dh]at hK;rw [bU];exact hK
theorem xL{β:BP}(hg:g=G0 P n0 N){h:EH}{n:Nat}{ab:AB}(hc:cV P f args' fun res hb=>res= .o 0/\hb=[ab])(ha:qD (toH h) args args')(hp:oQ ab.es=true)
  (hK:K (.o n) [.rw ab]):g .PC f h n args K:=
 IR hg hc ha rfl (fun he hd=>by
  obtain rfl:=List.mem_singleton.1 hd
  exact jU hp _ _) [.rw ab] (by simp only [zqA,List.map_nil,fd (cu hp)];rfl) hK
theorem Con.toB{β:BP}{h:AH}{args:List AT}{Post:AV->AH->Prop}(hc: @Con bp0 P f h args Post):Con P f h args Post:=
 ⟨hc.1,fun F w m vs hH hl ha=>(hc.2 F w m vs (hH.bp (Nat.zero_le _)) hl ha).mono fun e w'⟨v,res,h',m',F',he,hp,hG,hs,hv⟩=>by
  refine⟨v,res,h',m',F',he,hp,hG,?_,hv⟩
  obtain⟨h1,h2,h3,h4,h5,h6,h7,h8⟩:=hs
  exact⟨h1.bp (Nat.le_trans hH.lo h6),h2,h3,h4,h5,h6,h7,h8⟩⟩
theorem IW{β:BP}(hg:g=G0 P n0 N){H:EH}{args:List AT}(r:Nat){ab ab':AB}{R k:Int}
  (hc: @Con bp0 P f (toH [.rw ab]) [.c (.own 0),ai k] fun res h'=>∃eh,toH eh=h'/\(res= .i R/\eh=[.rw ab'])) (hr:nth H r=some (.rw ab)) (hp:aB ab.es=true) (hp':aB ab'.es=true) (ha:args=[.c (.own r),ai k])
  (hK:K (.t (.c (.J R))) (Bs H r (.rw ab'))):g .C f H args K:=by
 subst ha
 have hb:r<H.length:=by rw [fI]at hr;exact(List.getElem?_eq_some_iff.1 hr).1
 refine De hg [r] (Con.toB hc) (by simp) (by simpa using hb) ⟨⟨ab,ab,rfl,by rw [hr];rfl,rfl,rfl,.inl ⟨rfl,hp⟩⟩,trivial⟩ zr2 fun res eh⟨h1,h2⟩=> ?_
 subst h1 h2
 rw [m7]at hK
 simp only [dg,EE.mv,H7 hp',List.map_nil,List.append_nil]
 exact hK
end
theorem jc{n0 N:Nat}{β:BP}{g:Gd}(hg:g=G0 P n0 N){a b d c e C:Int}(h0:0<=a)(hM:a+C<=1152921504606846976)(hb:b=a+c)(hd:d=a+e)(he:e=c+1)(h1:0<=c)(h2:c<=C):g .w .add .i64 b 1=d:=by
 rw [aJ hg,aq _ (by omega)];omega
def fQ(k0:Int)(n:Nat):List ar:=(List.range n).map fun i:Nat=>⟨(k0+7*(i:Int)),(k0+7*(i:Int))+1,(k0+7*(i:Int))+2,m3 ((k0+7*(i:Int))+3),m3 ((k0+7*(i:Int))+4),(k0+7*(i:Int))+5,(k0+7*(i:Int))+6⟩
theorem pQ{k0 z kc:Int}{n:Nat}{M:Int}(hM:M=(n:Int))(h0:0<=z)(h1:z<M)(hk:kc=k0+7*z):(vw ar.c (fQ k0 n))[z.toNat]? =some ([.J kc,.J (kc+1),.J (kc+2),.B (m3 (kc+3)),.B (m3 (kc+4)),.J (kc+5),.J (kc+6)]):=by
 subst hk
 have hz:z.toNat<n:=by rw [hM]at h1;omega
 refine(ba (x:=⟨(k0+7*z),(k0+7*z)+1,(k0+7*z)+2,m3 ((k0+7*z)+3),m3 ((k0+7*z)+4),(k0+7*z)+5,(k0+7*z)+6⟩) ?_).trans rfl
 rw [fQ,zqi,List.getElem?_range hz,Option.map_some,Int.toNat_of_nonneg h0]
theorem qq(k0:Int)(es:LLA)(hk:∀e∈es,e.length=7)(hp:aB es=true)(hl:es.length<=1048576)(hk0:0<=k0)(hk1:k0<=1000000000000):
  Con prog 25 (toH [.rw ⟨96,7,es⟩]) [.c (.own 0),ai k0] fun res h'=>∃eh,toH eh=h'/\(res= .i (k0+7*aM es)/\eh=[.rw ⟨96,7,vw ar.c (fQ k0 es.length)⟩]):=by
 obtain⟨V,hV⟩:=nmE (vw ar.c (fQ k0 es.length))
 have hM:V.length=es.length:=by rw [hV,av,fQ];simp
 have hL:aM V=aM es:=by rw [aj,aj,hM]
 have hW:aM V<=1048576:=by rw [aj];omega
 have pV:=pmV hV
 have hU:0<=aM V:=by rw [aj];omega
 have hX:aM V=(es.length:Int):=by rw [hL,aj]
 have hZ:qT 7 V es 0:=⟨Int.le_refl 0,hU,hM.symm,hk,hp,fun i hi=>by simp at hi⟩
 rw [<-hV,<-hL]
 refine pi (c:=aK f25) ay func25 (by kernel_rfl) (by kernel_rfl) (bl (by rfl)) (by kernel_rfl) fun g F hg hF=> ?_
 cbv
 refine rR hg ay (by kernel_rfl) (fun s:Int×Int×LLA=>[(0,.o 0),(1,.i s.2.1),(5,.i s.1)]) (fun s=>[.rw ⟨96,7,s.2.2⟩]) (fun s=>qT 7 V s.2.2 s.1/\s.2.1=k0+7*s.1) (fun s=>(aM V).toNat-s.1.toNat)
  (0,k0,es) [some 0] ⟨hZ,by simp only;omega⟩ (wk1 ⟨⟨_,rfl,rfl,hp⟩,trivial⟩ zr3) (fun s B hs hB=> ?_)
 obtain⟨z,kc,E⟩:=s
 obtain⟨hs,hO⟩:=hs
 simp only at hs hO
 have h0:=hs.z0
 have h1:=hs.z1
 have h4:=hs.len
 have hf:aM E=aM V:=by rw [aj,aj,hs.len]
 cbv
 cases hc:g .q .lss z (g .ln E)
 ·rw [bg hg,bA hg,hf,zqo]at hc
  cbv
  obtain rfl:=hs.done hc
  refine Eu hF pV ⟨_,rfl,?_,rfl⟩
  show AV.t (ai kc)=_
  rw [show kc=k0+7*aM E by omega]
 ·rw [bg hg,bA hg,hf,zqp]at hc
  cbv
  obtain⟨j,hj⟩:=nmE z.toNat
  have hN:j<E.length:=yx h0 (by rw [hf];exact hc) hj
  obtain⟨e,he,hY⟩:=hs.mem hN
  have h5:e.all du=true:=List.all_eq_true.1 hs.pl e (zqd he)
  obtain⟨b0,b1,b2,b3,b4,b5,b6,rfl⟩:∃b0 b1 b2 b3 b4 b5 b6,e=[b0,b1,b2,b3,b4,b5,b6]:=by
   match e,hY with
   | [b0,b1,b2,b3,b4,b5,b6],_=>exact⟨b0,b1,b2,b3,b4,b5,b6,rfl⟩
  have hy:=pQ hX h0 hc hO
  rw [<-hV]at hy
  have ha:0<=kc:=by omega
  have hb:kc+100<=1152921504606846976:=by omega
  obtain⟨E0,hd⟩:=nmE E
  have l0:j<E0.length:=by rw [hd];exact hN
  have hu:=he
  rw [<-hd]at hu⊢
  have ez:g .w .add .i64 z 1=z+1:=by rw [aJ hg,aq _ (by omega)]
  have g0:kc+7=k0+7*(z+1):=by omega
  have g2:(aM V).toNat-(z+1).toNat<(aM V).toNat-z.toNat:=by omega
  obtain⟨q0,hm⟩:=nmE (kc+1)
  obtain⟨q1,hn⟩:=nmE (kc+2)
  obtain⟨q2,ho⟩:=nmE (kc+3)
  obtain⟨q3,hq⟩:=nmE (kc+4)
  obtain⟨q4,hr⟩:=nmE (kc+5)
  obtain⟨q5,ht⟩:=nmE (kc+6)
  obtain⟨q6,hP⟩:=nmE (kc+7)
  rw [<-hP]at g0
  have e0:=jc hg ha hb (Int.add_zero _).symm hm rfl (by decide) (by decide)
  have e1:=jc hg ha hb hm hn rfl (by decide) (by decide)
  have e2:=jc hg ha hb hn ho rfl (by decide) (by decide)
  have e3:=jc hg ha hb ho hq rfl (by decide) (by decide)
  obtain⟨t3,hR⟩:=nmE (m3 q2)
  have h2:g .q .eql (g .w .rem .i64 q2 3) 0=t3:=by rw [hR,xy hg,bm hg];rfl
  have e4:=jc hg ha hb hq hr rfl (by decide) (by decide)
  obtain⟨t4,hS⟩:=nmE (m3 q3)
  have h3:g .q .eql (g .w .rem .i64 q3 3) 0=t4:=by rw [hS,xy hg,bm hg];rfl
  have e5:=jc hg ha hb hr ht rfl (by decide) (by decide)
  have e6:=jc hg ha hb ht hP rfl (by decide) (by decide)
  refine Bf hg h0 hj l0 ?_
  cbv
  refine⟨[b0,b1,b2,b3,b4,b5,b6],hu,?_⟩
  cbv
  generalize hG1:g .st _ _ _=E1
  have hD:E1=g .st E0 j [.J kc,b1,b2,b3,b4,b5,b6]:=hG1.symm
  have hv:E1[j]? =some [.J kc,b1,b2,b3,b4,b5,b6]:=by rw [hD,i7 hg];exact List.getElem?_set_self l0
  have l1:j<E1.length:=(List.getElem?_eq_some_iff.1 hv).1
  try rw [e0]
  cbv
  refine Bf hg h0 hj l1 ?_
  cbv
  refine⟨[.J kc,b1,b2,b3,b4,b5,b6],hv,?_⟩
  cbv
  generalize hG2:g .st _ _ _=E2
  have hE:E2=g .st E1 j [.J kc,.J q0,b2,b3,b4,b5,b6]:=hG2.symm
  have hw:E2[j]? =some [.J kc,.J q0,b2,b3,b4,b5,b6]:=by rw [hE,i7 hg];exact List.getElem?_set_self l1
  have l2:j<E2.length:=(List.getElem?_eq_some_iff.1 hw).1
  try rw [e1]
  cbv
  refine Bf hg h0 hj l2 ?_
  cbv
  refine⟨[.J kc,.J q0,b2,b3,b4,b5,b6],hw,?_⟩
  cbv
  generalize hG3:g .st _ _ _=E3
  have hG:E3=g .st E2 j [.J kc,.J q0,.J q1,b3,b4,b5,b6]:=hG3.symm
  have hx:E3[j]? =some [.J kc,.J q0,.J q1,b3,b4,b5,b6]:=by rw [hG,i7 hg];exact List.getElem?_set_self l2
  have l3:j<E3.length:=(List.getElem?_eq_some_iff.1 hx).1
  try rw [e2]
  cbv
  refine DA hg (by decide) ?_
  cbv
  rw [h2]
  cbv
  refine Bf hg h0 hj l3 ?_
  cbv
  refine⟨[.J kc,.J q0,.J q1,b3,b4,b5,b6],hx,?_⟩
  cbv
  generalize hG4:g .st _ _ _=E4
  have hH:E4=g .st E3 j [.J kc,.J q0,.J q1,.B t3,b4,b5,b6]:=hG4.symm
  have hz:E4[j]? =some [.J kc,.J q0,.J q1,.B t3,b4,b5,b6]:=by rw [hH,i7 hg];exact List.getElem?_set_self l3
  have l4:j<E4.length:=(List.getElem?_eq_some_iff.1 hz).1
  try rw [e3]
  cbv
  refine DA hg (by decide) ?_
  cbv
  rw [h3]
  cbv
  refine Bf hg h0 hj l4 ?_
  cbv
  refine⟨[.J kc,.J q0,.J q1,.B t3,b4,b5,b6],hz,?_⟩
  cbv
  generalize hG5:g .st _ _ _=E5
  have hI:E5=g .st E4 j [.J kc,.J q0,.J q1,.B t3,.B t4,b5,b6]:=hG5.symm
  have hA:E5[j]? =some [.J kc,.J q0,.J q1,.B t3,.B t4,b5,b6]:=by rw [hI,i7 hg];exact List.getElem?_set_self l4
  have l5:j<E5.length:=(List.getElem?_eq_some_iff.1 hA).1
  try rw [e4]
  cbv
  refine Bf hg h0 hj l5 ?_
  cbv
  refine⟨[.J kc,.J q0,.J q1,.B t3,.B t4,b5,b6],hA,?_⟩
  cbv
  generalize hG6:g .st _ _ _=E6
  have hJ:E6=g .st E5 j [.J kc,.J q0,.J q1,.B t3,.B t4,.J q4,b6]:=hG6.symm
  have hC:E6[j]? =some [.J kc,.J q0,.J q1,.B t3,.B t4,.J q4,b6]:=by rw [hJ,i7 hg];exact List.getElem?_set_self l5
  have l6:j<E6.length:=(List.getElem?_eq_some_iff.1 hC).1
  try rw [e5]
  cbv
  refine Bf hg h0 hj l6 ?_
  cbv
  refine⟨[.J kc,.J q0,.J q1,.B t3,.B t4,.J q4,b6],hC,?_⟩
  cbv
  generalize hG7:g .st _ _ _=E7
  have hK:E7=g .st E6 j [.J kc,.J q0,.J q1,.B t3,.B t4,.J q4,.J q5]:=hG7.symm
  have hT:E7[j]? =some [.J kc,.J q0,.J q1,.B t3,.B t4,.J q4,.J q5]:=by rw [hK,i7 hg];exact List.getElem?_set_self l6
  have l7:j<E7.length:=(List.getElem?_eq_some_iff.1 hT).1
  try rw [e6]
  cbv
  rw [ez]
  have hh:E7=E.set j [.J kc,.J q0,.J q1,.B t3,.B t4,.J q4,.J q5]:=by rw [hK,hJ,hI,hH,hG,hE,hD,hd];simp only [i7 hg,List.set_set]
  rw [hh]
  subst hR hS
  have hQ:=hs.step hc hj hy rfl rfl
  subst hm hn ho hq hr ht
  exact Hk hB (z+1,q6,_) [some 0] (wk1 ⟨⟨_,rfl,rfl,hQ.pl⟩,trivial⟩ zr3) ⟨hQ,g0⟩ g2
theorem qx(k0:Int)(n:Nat)(hl:n<=1048576)(hk0:0<=k0)(hk1:k0<=1000000000000):PC0 26 [.c (.view (vw ar.c (fQ k0 n))),ai k0] (.i (k0+7*(n:Int))):=by
 obtain⟨V,hV⟩:=nmE (vw ar.c (fQ k0 n))
 have hp:V.length=n:=by rw [hV,av,fQ];simp
 obtain⟨M,hM⟩:∃M:Int,M=(n:Int):=⟨_,rfl⟩
 have hk:aM V=M:=by rw [aj,hp,hM]
 have hu:M<=1048576:=by omega
 have ho:0<=M:=by omega
 rw [<-hV,<-hM]
 refine ae (aK f26) ay func26 fun g F hg hF=> ?_
 cbv
 refine bO hg ay (by kernel_rfl) (fun s:Int×Int=>[(0,.v V),(1,.i s.2),(5,.i s.1)]) (fun _=>[]) (fun s=>0<=s.1/\s.1<=M/\s.2=k0+7*s.1) (fun s=>M.toNat-s.1.toNat)
  (0,k0) [] ⟨Int.le_refl 0,ho,by simp only;omega⟩ (wk0 zr3) (fun s B hs hB=> ?_)
 obtain⟨z,kc⟩:=s
 obtain⟨h0,h1,h2⟩:=hs
 simp only at h0 h1 h2
 cbv
 cases hc:g .q .lss z (g .ln V)
 ·rw [bg hg,bA hg,hk,zqo]at hc
  cbv
  exact aU hF (by rw [h2,show z=M by omega])
 ·rw [bg hg,bA hg,hk,zqp]at hc
  cbv
  have hy:=pQ hM h0 hc h2
  rw [<-hV]at hy
  have ha:0<=kc:=by omega
  have hb:kc+100<=1152921504606846976:=by omega
  obtain⟨q0,hd⟩:=nmE (kc+1)
  obtain⟨q1,he⟩:=nmE (kc+2)
  obtain⟨q2,hf⟩:=nmE (kc+3)
  obtain⟨q3,hh⟩:=nmE (kc+4)
  obtain⟨q4,hi⟩:=nmE (kc+5)
  obtain⟨q5,hj⟩:=nmE (kc+6)
  obtain⟨q6,hq⟩:=nmE (kc+7)
  rw [<-hd,<-he,<-hf,<-hh,<-hi,<-hj]at hy
  have e0:=jc hg ha hb (Int.add_zero _).symm hd rfl (by decide) (by decide)
  have n0:g .q .neq kc kc=false:=by rw [bj hg];simp
  have e1:=jc hg ha hb hd he rfl (by decide) (by decide)
  have n1:g .q .neq q0 q0=false:=by rw [bj hg];simp
  have e2:=jc hg ha hb he hf rfl (by decide) (by decide)
  have n2:g .q .neq q1 q1=false:=by rw [bj hg];simp
  have e3:=jc hg ha hb hf hh rfl (by decide) (by decide)
  obtain⟨t3,hm⟩:=nmE (m3 q2)
  have hr:g .q .eql (g .w .rem .i64 q2 3) 0=t3:=by rw [hm,xy hg,bm hg];rfl
  have n3:g .qb .neq t3 t3=false:=by rw [eY hg];simp
  rw [<-hm]at hy
  have e4:=jc hg ha hb hh hi rfl (by decide) (by decide)
  obtain⟨t4,hn⟩:=nmE (m3 q3)
  have ht:g .q .eql (g .w .rem .i64 q3 3) 0=t4:=by rw [hn,xy hg,bm hg];rfl
  have n4:g .qb .neq t4 t4=false:=by rw [eY hg];simp
  rw [<-hn]at hy
  have e5:=jc hg ha hb hi hj rfl (by decide) (by decide)
  have n5:g .q .neq q4 q4=false:=by rw [bj hg];simp
  have e6:=jc hg ha hb hj hq rfl (by decide) (by decide)
  have n6:g .q .neq q5 q5=false:=by rw [bj hg];simp
  refine goX hg _ h0 hy rfl ?_
  cbv
  rw [n0]
  cbv
  rw [e0]
  cbv
  refine goX hg _ h0 hy rfl ?_
  cbv
  rw [n1]
  cbv
  rw [e1]
  cbv
  refine goX hg _ h0 hy rfl ?_
  cbv
  rw [n2]
  cbv
  rw [e2]
  cbv
  repeat'((first|refine goX hg _ h0 hy rfl ?_|refine DA hg (by decide) ?_|rw [hr]);cbv)
  rw [n3]
  cbv
  rw [e3]
  cbv
  repeat'((first|refine goX hg _ h0 hy rfl ?_|refine DA hg (by decide) ?_|rw [ht]);cbv)
  rw [n4]
  cbv
  rw [e4]
  cbv
  refine goX hg _ h0 hy rfl ?_
  cbv
  rw [n5]
  cbv
  rw [e5]
  cbv
  refine goX hg _ h0 hy rfl ?_
  cbv
  rw [n6]
  cbv
  rw [e6]
  cbv
  have ez:g .w .add .i64 z 1=z+1:=by rw [aJ hg,aq _ (by omega)]
  try rw [ez]
  exact ib hB (z+1,q6) [] (wk0 zr3) ⟨by simp only;omega,by simp only;omega,by simp only;omega⟩ (by show M.toNat-(z+1).toNat<M.toNat-z.toNat;omega)
end Go.Proofs.YtkicjdeddpihaaaGreat
