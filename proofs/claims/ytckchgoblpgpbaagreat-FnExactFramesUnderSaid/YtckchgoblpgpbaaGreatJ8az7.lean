/- A part. -/
import Derived.Test.YtckchgoblpgpbaaGreatJ8az
set_option linter.all false
set_option maxHeartbeats 80000000
namespace Go.Proofs.YtckchgoblpgpbaaGreat
open Go.ChangeShapes Go.WideShapes Go.ChangeAt Go.RowKit Am Go.Proofs.Tryz
set_option maxRecDepth 100000
section
variable {ns:List ae}{n:Int}
def ae.acT(x:ae)(b1 b63:List Nat):List AC:=
 match x with
 |⟨a0,a1,a2,a62,⟨a63⟩⟩=>(List.append [.imm (.int .i64 a0),.fv b1 (vw ak a1)] (List.append (lc (ah.c a2)) [.imm (.bool a62),.fv b63 (vw aC.c a63)]))
theorem tW(x:jW)(hs:x.small):Cq prog 119 [.agg x.ac] fun lo res hc=>(∃b,res= .t (.agg [.fv b (vw aC.c x.rules)])/\nx lo b)/\dv res=true/\hc=[]:=by
 obtain⟨a0⟩:=x
 obtain⟨hj,-⟩:=hs
 show Cq _ _ [.agg [.view (vw aC.c a0)]] (fun lo res hc=>(∃b,res= .t (.agg [.fv b (vw aC.c a0)])/\nx lo b)/\dv res=true/\hc=[])
 have c0:=Eu (np a0 hj)
 obtain⟨he,ha⟩:=nmE (vw aC.c a0)
 have hf:=lmV ha
 have hb:=imV ha
 rw [<-ha]at c0
 rw [<-ha]
 refine qS ([]) ([]) (c:=jD f119) bq func119 (by kernel_rfl) (by kernel_rfl) (by rfl) (by kernel_rfl) fun β g hk hd F hi hl hg hF=> ?_
 cbv
 repeat'(refine bH hg c0 (bn rfl) hb ?_;cbv)
 refine HX hF fun bl hh=>⟨[.agg [.fv (hd1 (bl 3) he) he]],.agg (.cons (rN (r:=3) (ab:=⟨_,_,he⟩) rfl hb) .nil) .nil,⟨_,rfl,sU hh (r:=3) (ab:=⟨_,_,he⟩) rfl⟩,rfl,rfl⟩
theorem ww(x:ae)(hs:x.small):Cq prog 80 [.agg x.ac] fun lo res ha=>(∃b1 b63,res= .t (.agg (x.acT b1 b63))/\nx lo (b1++b63))/\dv res=true/\ha=[]:=by
 obtain⟨a0,a1,a2,hk,⟨he⟩⟩:=x
 obtain⟨hq,hl,-⟩:=hs
 show Cq _ _ [.agg (List.append [.J a0,.view (vw ak a1)] (List.append (lc (ah.c a2)) [.B hk,.view (vw aC.c he)]))] (fun lo res ha=>(∃b1 b63,res= .t (.agg (List.append [.J a0,.fv b1 (vw ak a1)] (List.append (lc (ah.c a2)) [.B hk,.fv b63 (vw aC.c he)])))/\nx lo (b1++b63))/\dv res=true/\ha=[])
 have c1:=Eu (oC a1 hq)
 have hj:=tW ⟨he⟩ ⟨hl,zpt⟩
 replace hj:Cq prog 119 [.agg [.view (vw aC.c he)]] (fun lo res ha=>(∃b,res= .t (.agg [.fv b (vw aC.c he)])/\nx lo b)/\dv res=true/\ha=[]):=hj
 obtain⟨hi,hb⟩:=nmE (vw ak a1)
 have hm:=lmV hb
 have hh:=imV hb
 obtain⟨hf,hc⟩:=nmE (vw aC.c he)
 rw [<-hb]at c1
 rw [<-hc]at hj
 rw [<-hb,<-hc]
 refine qS ([]) ([]) (c:=jD f80) bq func80 (by kernel_rfl) (by kernel_rfl) (by rfl) (by kernel_rfl) fun β g hr hd F hp ht hg hF=> ?_
 cbv
 repeat'((first|refine bH hg c1 (bn rfl) hh ?_|refine fV hg (jx (a2:ah)) rfl rfl ?_);cbv)
 refine BC hg hj (gV rfl) (fun lo res h1 h2 h3⟨b63,hres,hn⟩=> ?_)
 subst hres
 clear h2 h3
 cbv
 refine HX hF fun bl ho=>⟨[.agg (List.append [.J a0,.fv (hd1 (bl 3) hi) hi] (List.append (lc (ah.c a2)) [.B hk,.fv b63 hf]))],.agg (by repeat'(first|exact .nil|refine .cons ?_ ?_|exact .imm _|exact .fv _ _|exact rN (r:=3) (ab:=⟨_,_,hi⟩) rfl hh)) .nil,⟨_,_,rfl,(FN ho (r:=3) (ab:=⟨_,_,hi⟩) rfl (zpa.2 rfl) (ps:=b63) (ys:=hf) (by simp [AT.cells]) (hn.mono h1)).swap⟩,rfl,rfl⟩
theorem tY(xs:List ae)(hl:xs.length<=1048576)(hs:∀y∈xs,y.small):Cq prog 51 [.c (.view (vwA ae.ac xs))] fun lo res he=>(∃bs,res= .t (.c (.fv bs (vwA ae.ac xs)))/\nx lo bs)/\dv res=true/\he=[]:=by
 obtain⟨V,hV⟩:=nmE (vwA ae.ac xs)
 have hw:V.length=xs.length:=by rw [hV,bu]
 have hy:aN V=(xs.length:Int):=by rw [ao];omega
 have hG:aN V<=1048576:=by omega
 rw [<-hV]
 refine qS ([]) ([]) (c:=jD f51) bq func51 (by kernel_rfl) (by kernel_rfl) (by rfl) (by kernel_rfl) fun β g hE hd F hr hA hg hF=> ?_
 cbv
 refine GI hg (by decide) (by rw [hw];exact hl) ?_
 cbv
 have hu:qP 64 V (List.replicate (g .ln V).toNat xq) 0 β.lo:=qP.start rfl rfl (bz hg V)
 refine gu [] [] hr hA hg bq (by kernel_rfl) (fun s:Int×LLA=>[(0,.v V),(3,.o 0),(4,.i s.1)]) (fun s=>[.rw ⟨69,64,s.2⟩]) (fun s=>qP 64 V s.2 s.1 β.lo) (fun s=>(aN V).toNat-s.1.toNat)
  (0,g .rp (g .ln V) xq) ?_ (Wk.weak (wkS [0] (by decide) ⟨⟨_,rfl,rfl,?_⟩,zpt⟩ zr3)) (fun s B ha hB=> ?_)
 ·simp only [zy hg];exact hu
 ·simp only [zy hg];exact bR hu.bare
 ·obtain⟨z,es⟩:=s
  simp only at ha
  have h0:=ha.z0
  have h1:=ha.z1
  have hh:=ha.len
  cbv
  cases hc:g .q .lss z (g .ln V)
  ·cbv
   rw [ba hg,bz hg,zqo]at hc
   have hq:=ha.all hc
   refine HX hF fun bl hz=>⟨[.c (.fv (hd1 (bl 0) es++fpE es) V)],.c (by have:=p6 (bl:=bl) (h:=toH [.rw ⟨69,64,es⟩]) (r:=0) (ab:=⟨69,64,es⟩) rfl ha.bare;rw [hq]at this;exact this) .nil,⟨_,rfl,Ig hz (r:=0) (ab:=⟨_,_,es⟩) rfl ha.new⟩,rfl,rfl⟩
  ·cbv
   rw [ba hg,bz hg,zqp]at hc
   obtain⟨x,hx⟩:=qM (xs:=xs) h0 (ii hy hc)
   have hD:=hs x (zqd hx)
   have hi:V[z.toNat]? =some x.ac:=by rw [hV];exact iq hx
   have cx:=ww x hD
   obtain⟨a0,a1,a2,hk,⟨hm⟩⟩:=x
   replace hi:V[z.toNat]? =some (List.append [.J a0,.view (vw ak a1)] (List.append (lc (ah.c a2)) [.B hk,.view (vw aC.c hm)])):=hi
   replace cx:Cq _ _ [.agg (List.append [.J a0,.view (vw ak a1)] (List.append (lc (ah.c a2)) [.B hk,.view (vw aC.c hm)]))] (fun lo res he=>(∃b1 b63,res= .t (.agg (List.append [.J a0,.fv b1 (vw ak a1)] (List.append (lc (ah.c a2)) [.B hk,.fv b63 (vw aC.c hm)])))/\nx lo (b1++b63))/\dv res=true/\he=[]):=cx
   obtain⟨hv,hp⟩:=nmE (vw ak a1)
   obtain⟨ho,hf⟩:=nmE (vw aC.c hm)
   rw [<-hp,<-hf]at hi cx
   refine goX hg _ h0 hi rfl ?_
   cbv
   refine BC hg cx (gV rfl) (fun lo res q1 q2 q3⟨b1,b63,hres,hn⟩=> ?_)
   subst hres
   have hC:∀b∈fpE es,b<lo:=fun b hb=>q2 b (zpx _ hb)
   clear q2 q3
   cbv
   obtain⟨j,hj⟩:=nmE z.toNat
   refine zx hg h0 hj (sj h0 (AY hh hc) hj) ?_
   cbv
   refine goN hg (ha.mem (sj h0 (AY hh hc) hj)) ?_
   cbv
   have h2:g .w .add .i64 z 1=z+1:=by rw [aG hg,aq _ (by omega)]
   rw [h2,jC hg]
   have ht:=ha.step (y:=(List.append [.J a0,.fv b1 hv] (List.append (lc (ah.c a2)) [.B hk,.fv b63 ho]))) hc hj hi rfl rfl rfl q1 (by simpa [fpL,fpC,show List.flatMap fpC (lc (ah.c a2))=[]from rfl]using hn) hC
   rw [hB]
   exact⟨(z+1,_),ht,by show(aN V).toNat-(z+1).toNat<(aN V).toNat-z.toNat;omega,Wk.weak (wkS [0] (by decide) ⟨⟨_,rfl,rfl,bR ht.bare⟩,zpt⟩ zr3)⟩
theorem wt(x:i8)(hs:x.small):Cq prog 17 [.agg x.ac] fun lo res ha=>(∃b,res= .t (.agg [.fv b (vwA ae.ac x.nodes)])/\nx lo b)/\dv res=true/\ha=[]:=by
 obtain⟨a0⟩:=x
 obtain⟨he,hf,-⟩:=hs
 show Cq _ _ [.agg [.view (vwA ae.ac a0)]] (fun lo res ha=>(∃b,res= .t (.agg [.fv b (vwA ae.ac a0)])/\nx lo b)/\dv res=true/\ha=[])
 have c0:=tY a0 he hf
 obtain⟨hh,hb⟩:=nmE (vwA ae.ac a0)
 rw [<-hb]at c0
 rw [<-hb]
 refine qS ([]) ([]) (c:=jD f17) bq func17 (by kernel_rfl) (by kernel_rfl) (by rfl) (by kernel_rfl) fun β g hi hd F hc hj hg hF=> ?_
 cbv
 refine BC hg c0 (gV rfl) (fun lo res h1 h2 h3⟨b,hres,hn⟩=> ?_)
 subst hres
 clear h2 h3
 cbv
 exact KE hF rfl ⟨⟨b,rfl,hn.mono h1⟩,rfl,rfl⟩
theorem tJ(xs:List ag)(hl:xs.length<=1048576)(n:Int):PC0 92 [.c (.view (vw ag.c xs)),ai n] (.tup [.agg [.imm (.int .i64 (frF n xs).1.node),.imm (.int .i64 (frF n xs).1.x),.imm (.int .i64 (frF n xs).1.y),.imm (.int .i64 (frF n xs).1.wide),.imm (.int .i64 (frF n xs).1.high)],.c (.imm (.bool (frF n xs).2))]):=by
 obtain⟨r,hr⟩:=nmE (frF n xs)
 rw [<-hr]
 obtain⟨⟨r0,r1,r2,r3,r4⟩,t⟩:=r
 simp only
 obtain⟨V,hV⟩:=nmE (vw ag.c xs)
 have ha:=lmV hV
 rw [<-hV]
 refine aV func92 fun g F hg hF=> ?_
 cbv
 refine aQ hg bq (by kernel_rfl) V (fun x=>lc (ag.c x)) xs hV hl (fun z(s:Unit)=>[(0,.v V),(1,.i (n)),(4,.p 0),(5,.t (abl (false))),(6,.i (z))]) (fun z(s:Unit)=>[.bx 45 5 [.J 0,.J 0,.J 0,.J 0,.J 0]]) (fun z(s:Unit)=>True) (fun(s:Unit) rest=>frF n rest) (((⟨r0,r1,r2,r3,r4⟩:ag),t)) () hr.symm trivial (Wk.weak (wkG [some _] zr5 ⟨wqE rfl rfl,zpt⟩ (by decide) aB)) (fun z s B hz h0 hi he=> ?_) (fun z s x rest B z0 z1 z2 hx hy h0 hi hc e1 hB=> ?_)
 ·cbv
  rw [he]
  cbv
  obtain⟨⟨rfl,rfl,rfl,rfl,rfl⟩,rfl⟩:((0:Int)=r0/\(0:Int)=r1/\(0:Int)=r2/\(0:Int)=r3/\(0:Int)=r4)/\false=t:=by simpa [frF]using h0
  exact gf hF rfl ⟨rfl,rfl⟩
 ·obtain⟨a0,a1,a2,a3,a4⟩:=x
  replace h0:(if a0=n then((⟨a0,a1,a2,a3,a4⟩:ag),true)else frF n rest)=((⟨r0,r1,r2,r3,r4⟩:ag),t):=h0
  cbv;rw [hc];cbv;refine goX hg _ z0 hy rfl ?_;cbv
  cases e:g .q .eql a0 n
  case false=>
   rw [bj hg,zqr]at e
   rw [if_neg e]at h0
   cbv
   rw [e1]
   exact hB (()) _ _ ⟨h0,zpt⟩ (Wk.weak (wkG [some _] zr5 ⟨wqE rfl rfl,zpt⟩ (by decide) aB))
  rw [bj hg,beq_iff_eq]at e
  rw [if_pos e]at h0
  cbv
  refine goX hg _ z0 hy rfl ?_
  cbv
  obtain⟨⟨rfl,rfl,rfl,rfl,rfl⟩,rfl⟩:(a0=r0/\a1=r1/\a2=r2/\a3=r3/\a4=r4)/\true=t:=by simpa using h0
  exact gf hF rfl ⟨rfl,rfl⟩
end
def se(k:Int)(l0:Nat)(l1:Nat):List AC:=(.J (k):: .view (vw ak (gM (k+1) l0)):: .J (k+1+1*((l0:Nat):Int)):: .J (k+1+1*((l0:Nat):Int)+1):: .J (k+1+1*((l0:Nat):Int)+2):: .J (k+1+1*((l0:Nat):Int)+3):: .J (k+1+1*((l0:Nat):Int)+4):: .J (k+1+1*((l0:Nat):Int)+5):: .B (m3 (k+1+1*((l0:Nat):Int)+6)):: .B (m3 (k+1+1*((l0:Nat):Int)+7)):: .J (k+1+1*((l0:Nat):Int)+8):: .J (k+1+1*((l0:Nat):Int)+9):: .J (k+1+1*((l0:Nat):Int)+10):: .J (k+1+1*((l0:Nat):Int)+11):: .J (k+1+1*((l0:Nat):Int)+12):: .J (k+1+1*((l0:Nat):Int)+13):: .J (k+1+1*((l0:Nat):Int)+14):: .J (k+1+1*((l0:Nat):Int)+15):: .J (k+1+1*((l0:Nat):Int)+16):: .J (k+1+1*((l0:Nat):Int)+17):: .J (k+1+1*((l0:Nat):Int)+18):: .J (k+1+1*((l0:Nat):Int)+19):: .J (k+1+1*((l0:Nat):Int)+20):: .J (k+1+1*((l0:Nat):Int)+21):: .J (k+1+1*((l0:Nat):Int)+22):: .J (k+1+1*((l0:Nat):Int)+23):: .J (k+1+1*((l0:Nat):Int)+24):: .J (k+1+1*((l0:Nat):Int)+25):: .J (k+1+1*((l0:Nat):Int)+26):: .J (k+1+1*((l0:Nat):Int)+27):: .J (k+1+1*((l0:Nat):Int)+28):: .J (k+1+1*((l0:Nat):Int)+29):: .J (k+1+1*((l0:Nat):Int)+30):: .J (k+1+1*((l0:Nat):Int)+31):: .J (k+1+1*((l0:Nat):Int)+32):: .J (k+1+1*((l0:Nat):Int)+33):: .J (k+1+1*((l0:Nat):Int)+34):: .J (k+1+1*((l0:Nat):Int)+35):: .J (k+1+1*((l0:Nat):Int)+36):: .J (k+1+1*((l0:Nat):Int)+37):: .J (k+1+1*((l0:Nat):Int)+38):: .J (k+1+1*((l0:Nat):Int)+39):: .J (k+1+1*((l0:Nat):Int)+40):: .J (k+1+1*((l0:Nat):Int)+41):: .J (k+1+1*((l0:Nat):Int)+42):: .J (k+1+1*((l0:Nat):Int)+43):: .J (k+1+1*((l0:Nat):Int)+44):: .J (k+1+1*((l0:Nat):Int)+45):: .J (k+1+1*((l0:Nat):Int)+46):: .J (k+1+1*((l0:Nat):Int)+47):: .J (k+1+1*((l0:Nat):Int)+48):: .J (k+1+1*((l0:Nat):Int)+49):: .J (k+1+1*((l0:Nat):Int)+50):: .J (k+1+1*((l0:Nat):Int)+51):: .J (k+1+1*((l0:Nat):Int)+52):: .J (k+1+1*((l0:Nat):Int)+53):: .J (k+1+1*((l0:Nat):Int)+54):: .J (k+1+1*((l0:Nat):Int)+55):: .J (k+1+1*((l0:Nat):Int)+56):: .J (k+1+1*((l0:Nat):Int)+57):: .J (k+1+1*((l0:Nat):Int)+58):: .J (k+1+1*((l0:Nat):Int)+59):: .B (m3 (k+1+1*((l0:Nat):Int)+60)):: .view (vw aC.c (fG (k+1+1*((l0:Nat):Int)+61) l1))::[])
def fg(k:Int)(l0:Nat)(l1:Nat):Int:=k+1+1*((l0:Nat):Int)+61+3*((l1:Nat):Int)
theorem zg(k:Int)(l0:Nat)(l1:Nat):fg k l0 l1=k+62+1*((l0:Nat):Int)+3*((l1:Nat):Int):=by unfold fg;omega
def dt:Int->List (Nat×Nat)->LLA
 |_,[]=>[]
 |k,⟨l0,l1⟩::ls=>se k l0 l1::dt (fg k l0 l1) ls
def dc:Int->List (Nat×Nat)->Int
 |k,[]=>k
 |k,⟨l0,l1⟩::ls=>dc (fg k l0 l1) ls
theorem jj:∀(ls:List (Nat×Nat))(k:Int),k<=dc k ls
 | [],k=>zpc k
 |⟨l0,l1⟩::ls,k=>by have:=jj ls (fg k l0 l1);unfold fg at this;unfold dc fg;omega
theorem ju:∀(ls:List (Nat×Nat))(k:Int),(dt k ls).length=ls.length
 | [],k=>rfl
 |⟨l0,l1⟩::ls,k=>by simp [dt,ju ls]
theorem p9:∀(ls:List (Nat×Nat))(k:Int),∀x∈dt k ls,x.length=64
 | [],k,x,hx=>by simp [dt]at hx
 |⟨l0,l1⟩::ls,k,x,hx=>by
  rcases zph.1 hx with h|h
  ·rw [h];rfl
  ·exact p9 ls _ x h
theorem EV{kc q0 q1 q62 q63:Int}{l0:Nat}{l1:Nat}(hkc:0<=kc)(hkb:kc+62+1*((l0:Nat):Int)+3*((l1:Nat):Int)<=1152921504606846976)(hq0:q0=kc+1)(hq1:q1=q0+1*((l0:Nat):Int))(hq62:q62=q1+61)(hq63:q63=q62+3*((l1:Nat):Int)):q63=fg kc l0 l1/\(0<=kc/\kc+1<=1152921504606846976)/\(0<=q1/\q1+61<=1152921504606846976)/\(0<=q63/\q63+0<=1152921504606846976):=by
 unfold fg
 refine⟨?_,?_,?_,?_⟩<;>omega
def ow(x:List AC)(l:Nat×Nat):Prop:=∃u0 u2 u3 u4 u5 u6 u7 u8 u9 u10 u11 u12 u13 u14 u15 u16 u17 u18 u19 u20 u21 u22 u23 u24 u25 u26 u27 u28 u29 u30 u31 u32 u33 u34 u35 u36 u37 u38 u39 u40 u41 u42 u43 u44 u45 u46 u47 u48 u49 u50 u51 u52 u53 u54 u55 u56 u57 u58 u59 u60 u61 u62 F0 F1,x=(.imm u0:: .view F0:: .imm u2:: .imm u3:: .imm u4:: .imm u5:: .imm u6:: .imm u7:: .imm u8:: .imm u9:: .imm u10:: .imm u11:: .imm u12:: .imm u13:: .imm u14:: .imm u15:: .imm u16:: .imm u17:: .imm u18:: .imm u19:: .imm u20:: .imm u21:: .imm u22:: .imm u23:: .imm u24:: .imm u25:: .imm u26:: .imm u27:: .imm u28:: .imm u29:: .imm u30:: .imm u31:: .imm u32:: .imm u33:: .imm u34:: .imm u35:: .imm u36:: .imm u37:: .imm u38:: .imm u39:: .imm u40:: .imm u41:: .imm u42:: .imm u43:: .imm u44:: .imm u45:: .imm u46:: .imm u47:: .imm u48:: .imm u49:: .imm u50:: .imm u51:: .imm u52:: .imm u53:: .imm u54:: .imm u55:: .imm u56:: .imm u57:: .imm u58:: .imm u59:: .imm u60:: .imm u61:: .imm u62:: .view F1::[])/\(F0.length=l.1/\F0.length<=1048576/\qd F0=true/\∀y∈F0,y.length=1)/\(F1.length=l.2/\F1.length<=1048576/\qd F1=true/\∀y∈F1,y.length=3)
section
variable {l:Nat×Nat}
theorem zf{x:List AC}(h:ow x l):x.all dat=true/\x.length=64:=by
 obtain⟨u0,u2,u3,u4,u5,u6,u7,u8,u9,ha,hb,hc,hd,he,hf,hg,hh,hi,hj,hk,hl,hm,hn,ho,hp,hq,hr,hs,ht,hu,hv,hw,hx,hy,hz,hA,hB,hC,hD,hE,hF,hG,hH,hI,hJ,hK,hL,hM,hN,hO,hP,hQ,hR,hS,hT,hU,hV,hW,hX,hY,hZ,h0,F0,F1,rfl,-⟩:=h
 exact⟨rfl,rfl⟩
theorem CX{e v:List AC}{u:Value}(h:e.map vwC= .imm u::v)(hb:e.all ip=true):∃e',e= .imm u::e'/\e'.map vwC=v/\e'.all ip=true:=by
 match e,h,hb with
 |x::e,h,hb=>
  rw [zqA,List.cons.injEq]at h
  rw [zqD,zqs]at hb
  exact⟨e,by rw [FU hb.1 h.1],h.2,hb.2⟩
theorem Gl{e v:List AC}{F:LLA}(h:e.map vwC= .view F::v)(hb:e.all ip=true):∃B e',e= .fv B F::e'/\e'.map vwC=v/\e'.all ip=true:=by
 match e,h,hb with
 |x::e,h,hb=>
  rw [zqA,List.cons.injEq]at h
  rw [zqD,zqs]at hb
  obtain⟨B,hB⟩:=Ii hb.1 h.1
  exact⟨B,e,by rw [hB],h.2,hb.2⟩
variable {r:List AC}
theorem DX{D:LLA}{j:Nat}(h:D[j]? =some r)(i:Nat)(c:AC):∃x,x=r.set i c:=⟨_,rfl⟩
theorem Fg{D E:LLA}{j:Nat}(h:D=E.set j r):∃x,x=r/\D=E.set j x:=⟨_,rfl,h⟩
def mkF(q:Int):Nat->Int
 |0=>q
 |i+1=>wrap64 (mkF q i+1)
theorem EZ{P:Program}{n0 N:Nat}{β:BP}{g:Gd}(hg:g=G0 P n0 N)(q:Int)(i:Nat):g .w .add .i64 (mkF q i) 1=mkF q (i+1):=by rw [aG hg];rfl
theorem Gr{q:Int}(h0:0<=q)(hC:q+61<=1152921504606846976):∀i:Nat,i<=61->mkF q i=q+(i:Int)
 |0,_=>by simp [mkF]
 |i+1,h=>by rw [mkF,Gr h0 hC i (by omega),aq _ (by omega)];omega
def IX(k:Int)(A B:LLA)(f:Nat->Int):List AC:= .J k:: .view A:: .J (f 0)::((List.range 60).map (fun i=>if i=5\/i=6\/i=59 then .B (m3 (f (i+1)))else .J (f (i+1)))++[.view B])
theorem EN{kc q:Int}{l0 l1:Nat}{f:Nat->Int}(hq:q=kc+1+1*((l0:Nat):Int))(h:∀i:Nat,i<=61->f i=q+(i:Int)):IX kc (vw ak (gM (kc+1) l0)) (vw aC.c (fG (f 61) l1)) f=se kc l0 l1:=by
 have e0:f 0=q:=by rw [h 0 (by decide)];exact Int.add_zero q
 have e1:∀i∈List.range 60,f (i+1)=q+((i+1:Nat):Int):=fun i hi=>h _ (by have:=List.mem_range.1 hi;omega)
 have e2:f 61=q+61:=h 61 (by decide)
 rw [IX,e0,e2,zpl (g:=fun i=>if i=5\/i=6\/i=59 then AC.imm (.bool (m3 (q+((i+1:Nat):Int))))else .J (q+((i+1:Nat):Int))) fun i hi=>by rw [e1 i hi]]
 subst hq
 rfl
theorem qD(k0:Int):PC0 57 [.c (.view []),ai k0] (.i k0):=by
 refine rU [(6,.hand),(129,.hand),(14,.hand),(26,.hand),(38,.hand),(50,.hand),(62,.hand),(74,.hand),(86,.hand),(98,.hand),(110,.hand),(122,.hand)] func57 fun g hc hd F ha hb hg hF=> ?_
 cbv
 refine gu [(6,.hand),(129,.hand),(14,.hand),(26,.hand),(38,.hand),(50,.hand),(62,.hand),(74,.hand),(86,.hand),(98,.hand),(110,.hand),(122,.hand)] [] ha hb hg bq (by kernel_rfl) (fun _:Unit=>[(0,.t (.c (.view []))),(1,.i k0),(5,.i 0)]) (fun _=>[]) (fun _=>True) (fun _=>0) () trivial (Wk.weak (wk0 zr3)) (fun s B _ hB=> ?_)
 cbv
 have e:g .q .lss 0 (g .ln [])=false:=by rw [ba hg,bz hg];rfl
 rw [e]
 cbv
 exact aO hF rfl
theorem qC(k0:Int)(bs:List Nat)(V:LLA)(ls:List (Nat×Nat))(hV:V.length=ls.length)(hl:V.length<=1048576)(hok:∀(i:Nat)(x:List AC)(l:Nat×Nat),V[i]? =some x->ls[i]? =some l->ow x l)(hnd:bs.Nodup)(hk0:0<=k0)(hk1:dc k0 ls<=1152921504606846976):
  Er prog 57 [.c (.fv bs V),ai k0] [(bs,V,dt k0 ls)] (.int .i64 (dc k0 ls)):=by
 by_cases hne:V=[]
 ·subst hne
  obtain rfl:ls=[]:=zqv (by simpa using hV.symm)
  exact wk (qD k0)
 have xi:∀x∈V,x.all dat=true/\x.length=64:=fun x hx=>by
  obtain⟨i,hi,rfl⟩:=zpi hx
  exact zf (hok i _ _ (zqc hi) (zqc (by omega)))
 have dV:=fun x hx=>(xi x hx).1
 have kV:=fun x hx=>(xi x hx).2
 refine xW (by kernel_rfl) hne kV dV hnd (by rw [ju,hV]) fun hy ty es xc ht e1 e2 e3 e4=> ?_
 clear hnd xc
 obtain⟨β,hβ⟩:∃β:BP,β=⟨0,fun b=>b∈hy⟩:=⟨_,rfl⟩
 have xj:∀b∈hy,β.ex b:=by rw [hβ];exact fun _ h=>h
 rw [<-hβ]
 clear hβ
 have xz:0<=aN V:=by rw [ao];omega
 have xr:aN V<=1048576:=by rw [ao];omega
 refine yt (h:=[.rw ⟨ty,64,es⟩]) [(6,.hand),(129,.hand),(14,.hand),(26,.hand),(38,.hand),(50,.hand),(62,.hand),(74,.hand),(86,.hand),(98,.hand),(110,.hand),(122,.hand)] [] (c:=jD f57) bq func57 (by kernel_rfl) (by kernel_rfl) (bl (by rfl)) (by kernel_rfl) fun g xy hd F ha hn hg hF=> ?_
 cbv
 refine gu [(6,.hand),(129,.hand),(14,.hand),(26,.hand),(38,.hand),(50,.hand),(62,.hand),(74,.hand),(86,.hand),(98,.hand),(110,.hand),(122,.hand)] [] ha hn hg bq (by kernel_rfl) (fun s:Int×Int×LLA=>[(0,.o 0),(1,.i s.2.1),(5,.i s.1)]) (fun s=>[.rw ⟨ty,64,s.2.2⟩]) (fun s=>∃R,Ed 64 V R s.2.2 s.1 hy/\dt k0 ls=R++dt s.2.1 (ls.drop s.1.toNat)/\dc k0 ls=dc s.2.1 (ls.drop s.1.toNat)/\0<=s.2.1) (fun s=>(aN V).toNat-s.1.toNat)
  (0,k0,es) ⟨[],Ed.start e1 e2 e3 e4,rfl,rfl,hk0⟩ (Wk.weak (wk1 ⟨⟨_,rfl,rfl,bR e3⟩,zpt⟩ zr3)) (fun s B hs hB=> ?_)
 clear e1 e2 e3 e4
 obtain⟨z,kc,E⟩:=s
 obtain⟨R,hs,hR,hK,h8⟩:=hs
 simp only at hs hR hK h8
 have h0:=hs.z0
 have h1:=hs.z1
 have xe:aN E=aN V:=by rw [ao,ao,hs.len]
 cbv
 cases hc:g .q .lss z (g .ln E)
 ·rw [ba hg,bz hg,xe,zqo]at hc
  cbv
  have h4:=hs.all hc
  have h5:ls.drop z.toNat=[]:=by rw [ao]at hc;exact List.drop_eq_nil_of_le (by omega)
  rw [h5]at hR hK
  have xq:dt k0 ls=R:=by rw [hR];exact zpr R
  have xp:dc k0 ls=kc:=hK
  rw [xq,xp]at hF
  exact Ft hF (bR hs.bare) ⟨rfl,E,rfl,h4,hs.fp,hs.bare⟩
 ·rw [ba hg,bz hg,xe,zqp]at hc
  cbv
  obtain⟨j,hj⟩:=nmE z.toNat
  have xt:j<V.length:=by rw [hj];rw [ao]at hc;omega
  have hk:j<E.length:=by rw [hs.len];exact xt
  obtain⟨e,v,he,hv,hq,hr,xs⟩:=hs.at_ hj hc
  obtain⟨l,xl⟩:∃l,ls[j]? =some l:=⟨_,zqc (by omega)⟩
  have h5:ls.drop z.toNat=l::ls.drop (z+1).toNat:=by
   rw [<-hj,show(z+1).toNat=j+1 by omega]
   have hM:j<ls.length:=by omega
   rw [List.drop_eq_getElem_cons hM,<-Option.some.inj ((zqc hM).symm.trans xl)]
  rw [h5]at hR hK
  obtain⟨u0,u2,u3,u4,u5,u6,u7,u8,u9,xA,xB,xC,xD,xE,xF,xG,xH,xI,xJ,xK,xL,xM,xN,xO,xP,xQ,xR,xS,xT,xU,xV,xX,xY,xZ,x0,x1,x2,x3,x4,x5,x6,x7,x8,x9,ya,yb,yc,yd,ye,yf,yg,yh,yi,yj,yk,yl,ym,yn,yo,yp,yq,yr,F0,F1,xw,⟨hH,hY,hU,hW⟩,⟨hI,h3,hZ,h2⟩⟩:=hok j v l hv xl
  subst xw
  obtain⟨l0,l1⟩:=l
  simp only at hH hI
  subst hH hI
  obtain⟨l0,hN⟩:=nmE F0.length
  obtain⟨l1,hO⟩:=nmE F1.length
  rw [<-hN,<-hO]at hR hK
  obtain⟨e,rfl,hq,hr⟩:=CX hq hr
  obtain⟨B0,e,rfl,hq,hr⟩:=Gl hq hr
  iterate 61 obtain⟨e,rfl,hq,hr⟩:=CX hq hr
  obtain⟨B1,e,rfl,hq,hr⟩:=Gl hq hr
  obtain rfl:=List.map_eq_nil_iff.1 hq
  clear hq hr xs
  have xa:=vd (by rw [hs.fp];exact ht) he
  have hL:=fun b(hb:b∈fpL _)=>hs.fp▸DJ he hb
  have xb:(B0++B1).Nodup:=by simpa [fpL,fpC]using xa
  obtain⟨hC,hE,hw⟩:=List.nodup_append.1 xb
  obtain⟨D,hD⟩:=nmE E
  have l_:j<D.length:=by rw [hD];exact hk
  have h_:=he
  have s_:=hD.trans (EG he).symm
  rw [<-hD]at h_⊢
  have ez:g .w .add .i64 z 1=z+1:=by rw [aG hg,aq _ (by omega)]
  have xu:(aN V).toNat-(z+1).toNat<(aN V).toNat-z.toNat:=by omega
  have hJ:=jj (ls.drop (z+1).toNat) (fg kc l0 l1)
  have xf:dc (fg kc l0 l1) (ls.drop (z+1).toNat)<=1152921504606846976:=by rw [show dc (fg kc l0 l1) (ls.drop (z+1).toNat)=dc k0 ls from hK.symm];exact hk1
  have xk:kc+62+1*((l0:Nat):Int)+3*((l1:Nat):Int)<=1152921504606846976:=by rw [<-zg];exact zpv hJ xf
  obtain⟨q0,hS⟩:=nmE (kc+1)
  obtain⟨q1,hT⟩:=nmE (q0+1*((l0:Nat):Int))
  obtain⟨hQ,hz,hA,xd⟩:=EV h8 xk hS hT rfl rfl
  clear xk hJ xf
  have e0:=Ku hg hz.1 hz.2 (Int.add_zero _).symm hS rfl (by decide) (by decide)
  obtain⟨m,xm⟩:=nmE m3
  have em:∀x,g .q .eql (g .w .rem .i64 x 3) 0=m x:=fun x=>by rw [xm,Fk hg,bj hg];rfl
  have h6:=Gr hA.1 hA.2
  have f0:q1=mkF q1 0:=rfl
  have ew:=EZ hg q1
  generalize hf:mkF q1=f at h6 f0 ew
  have xv:q1=kc+1+1*((l0:Nat):Int):=by rw [hT,hS]
  rw [f0]at hT
  have xo:f 61=q1+61:=h6 61 (zpk _)
  obtain⟨xx,hP⟩:=nmE (f 61+3*((l1:Nat):Int))
  rw [<-xo,<-hP]at hQ
  generalize hC59:Code.seq (Code.region 123 _ _) _=C59
  generalize hC53:Code.seq (Code.region 111 _ _) _=C53
  generalize hC47:Code.seq (Code.region 99 _ _) _=C47
  generalize hC41:Code.seq (Code.region 87 _ _) _=C41
  generalize hC35:Code.seq (Code.region 75 _ _) _=C35
  generalize hC29:Code.seq (Code.region 63 _ _) _=C29
  generalize hC23:Code.seq (Code.region 51 _ _) _=C23
  generalize hC17:Code.seq (Code.region 39 _ _) _=C17
  generalize hC11:Code.seq (Code.region 27 _ _) _=C11
  generalize hC5:Code.seq (Code.region 15 _ _) _=C5
  iterate 1 ((try(rw [ew];cbv));refine zx hg h0 hj l_ ?_;cbv;refine⟨_,h_,?_⟩;cbv;generalize hG:g .st _ _ _=D;generalize hX:tR _ _ _=x at hG;cbv at hX;subst hX;obtain⟨s',h',l'⟩:=ib hg hG s_ hk;clear hG s_ h_ l_;revert s' h' l';intro s_ h_ l_)
  rw [e0]
  cbv
  have ho:∀x∈D,x.all ip=true:=fun x hx=>by
   rw [s_]at hx
   rcases List.mem_or_eq_of_mem_set hx with h|h
   ·exact hs.bare x h
   ·rw [h];rfl
  have h7:fpE D=hy:=by rw [s_];exact(rf he (by rfl)).trans hs.fp
  have hm:=sw q0 B0 F0 hY hW hU hC (by omega) (by omega)
  rw [<-hN]at hm
  rw [<-hT]at hm
  obtain⟨M0,xg⟩:=nmE ((vw ak (gM q0 l0)))
  rw [<-xg]at hm
  refine oS hg hn bq 6 (by kernel_rfl) (fun mk h9=> ?_)
  cbv
  refine zx hg h0 hj l_ ?_
  cbv
  refine⟨_,h_,?_⟩
  cbv
  subst h9
  obtain⟨x,hx⟩:=DX h_ 1 (.fv B0 M0)
  cbv at hx
  obtain⟨D',hD⟩:=nmE (D.set j x)
  subst hx
  obtain⟨s',h',l'⟩:=Aq hD s_ hk
  refine⟨_,_,_,[(B0,F0,M0)],_,[(0,.o 0),(1,.i (q0)),(5,.i z)],[.rw ⟨ty,64,D'⟩],rfl,rfl,rfl,rfl,rfl,hm,fun u hu b hb=> ?_,fun u hu=> ?_,⟨.inr (.inl zr1),.inr (.inl zr1),.inr (.inl zr1),zpt⟩,⟨?_,zpt⟩,?_⟩
  ·rw [zpa.1 hu]at hb
   exact xj b (hL b (by simp [fpL,fpC];first|exact hb|exact .inl hb|exact .inr hb))
  ·rw [zpa.1 hu]
   exact⟨_,zpd ..,zpa.2 rfl⟩
  ·rw [hD]
   refine Gg h_ ho (by rw [h7];exact ht) (fun u hu b hb=> ?_) ?_
   ·rw [zpa.1 hu]at hb
    simp [fpL,fpC];first|exact hb|exact .inl hb|exact .inr hb
   ·iterate 63
     refine⟨?_,?_⟩
     first|exact .inr (.inl zr1)|exact .inr (.inr ⟨_,zpa.2 rfl,rfl,rfl⟩)|exact .inr (.inl ⟨rfl,fun b hb u hu hp=>(by rw [zpa.1 hu]at hp;first|exact hw b hb b hp rfl|exact hw b hp b hb rfl)⟩)
    exact⟨.inr (.inl ⟨rfl,fun b hb u hu hp=>(by rw [zpa.1 hu]at hp;first|exact hw b hb b hp rfl|exact hw b hp b hb rfl)⟩),zpt⟩
  cbv
  clear h_ s_ l_ hD
  revert D'
  intro D s_ h_ l_
  iterate 4 ((try(rw [ew];cbv));refine zx hg h0 hj l_ ?_;cbv;refine⟨_,h_,?_⟩;cbv;generalize hG:g .st _ _ _=D;generalize hX:tR _ _ _=x at hG;cbv at hX;subst hX;obtain⟨s',h',l'⟩:=ib hg hG s_ hk;clear hG s_ h_ l_;revert s' h' l';intro s_ h_ l_)
  refine gU [] [] ha hn hg bq [(0,.o 0),(1,.i (f 4)),(5,.i z)] [.rw ⟨ty,64,D⟩] (by kernel_rfl) (fun B' hh=> ?_) ?_
  ·cbv
   rw [ew]
   exact hh _ _ (Wk.weak (wk1 ⟨⟨_,rfl,rfl,by rw [s_];exact ep (bR hs.bare) rfl⟩,zpt⟩ zr3))
  as_aux_lemma=>
   subst hC5
   cbv
   iterate 6 ((try(rw [ew];cbv));(try(refine Ix hg (by decide) ?_;cbv;rw [em];cbv));refine zx hg h0 hj l_ ?_;cbv;refine⟨_,h_,?_⟩;cbv;generalize hG:g .st _ _ _=D;generalize hX:tR _ _ _=x at hG;cbv at hX;subst hX;obtain⟨s',h',l'⟩:=ib hg hG s_ hk;clear hG s_ h_ l_;revert s' h' l';intro s_ h_ l_)
   refine gU [] [] ha hn hg bq [(0,.o 0),(1,.i (f 10)),(5,.i z)] [.rw ⟨ty,64,D⟩] (by kernel_rfl) (fun B' hh=> ?_) ?_
   ·cbv
    rw [ew]
    exact hh _ _ (Wk.weak (wk1 ⟨⟨_,rfl,rfl,by rw [s_];exact ep (bR hs.bare) rfl⟩,zpt⟩ zr3))
   as_aux_lemma=>
    subst hC11
    cbv
    iterate 6 ((try(rw [ew];cbv));refine zx hg h0 hj l_ ?_;cbv;refine⟨_,h_,?_⟩;cbv;generalize hG:g .st _ _ _=D;generalize hX:tR _ _ _=x at hG;cbv at hX;subst hX;obtain⟨s',h',l'⟩:=ib hg hG s_ hk;clear hG s_ h_ l_;revert s' h' l';intro s_ h_ l_)
    refine gU [] [] ha hn hg bq [(0,.o 0),(1,.i (f 16)),(5,.i z)] [.rw ⟨ty,64,D⟩] (by kernel_rfl) (fun B' hh=> ?_) ?_
    ·cbv
     rw [ew]
     exact hh _ _ (Wk.weak (wk1 ⟨⟨_,rfl,rfl,by rw [s_];exact ep (bR hs.bare) rfl⟩,zpt⟩ zr3))
    as_aux_lemma=>
     subst hC17
     cbv
     iterate 6 ((try(rw [ew];cbv));refine zx hg h0 hj l_ ?_;cbv;refine⟨_,h_,?_⟩;cbv;generalize hG:g .st _ _ _=D;generalize hX:tR _ _ _=x at hG;cbv at hX;subst hX;obtain⟨s',h',l'⟩:=ib hg hG s_ hk;clear hG s_ h_ l_;revert s' h' l';intro s_ h_ l_)
     refine gU [] [] ha hn hg bq [(0,.o 0),(1,.i (f 22)),(5,.i z)] [.rw ⟨ty,64,D⟩] (by kernel_rfl) (fun B' hh=> ?_) ?_
     ·cbv
      rw [ew]
      exact hh _ _ (Wk.weak (wk1 ⟨⟨_,rfl,rfl,by rw [s_];exact ep (bR hs.bare) rfl⟩,zpt⟩ zr3))
     as_aux_lemma=>
      subst hC23
      cbv
      iterate 6 ((try(rw [ew];cbv));refine zx hg h0 hj l_ ?_;cbv;refine⟨_,h_,?_⟩;cbv;generalize hG:g .st _ _ _=D;generalize hX:tR _ _ _=x at hG;cbv at hX;subst hX;obtain⟨s',h',l'⟩:=ib hg hG s_ hk;clear hG s_ h_ l_;revert s' h' l';intro s_ h_ l_)
      refine gU [] [] ha hn hg bq [(0,.o 0),(1,.i (f 28)),(5,.i z)] [.rw ⟨ty,64,D⟩] (by kernel_rfl) (fun B' hh=> ?_) ?_
      ·cbv
       rw [ew]
       exact hh _ _ (Wk.weak (wk1 ⟨⟨_,rfl,rfl,by rw [s_];exact ep (bR hs.bare) rfl⟩,zpt⟩ zr3))
      as_aux_lemma=>
       subst hC29
       cbv
       iterate 6 ((try(rw [ew];cbv));refine zx hg h0 hj l_ ?_;cbv;refine⟨_,h_,?_⟩;cbv;generalize hG:g .st _ _ _=D;generalize hX:tR _ _ _=x at hG;cbv at hX;subst hX;obtain⟨s',h',l'⟩:=ib hg hG s_ hk;clear hG s_ h_ l_;revert s' h' l';intro s_ h_ l_)
       refine gU [] [] ha hn hg bq [(0,.o 0),(1,.i (f 34)),(5,.i z)] [.rw ⟨ty,64,D⟩] (by kernel_rfl) (fun B' hh=> ?_) ?_
       ·cbv
        rw [ew]
        exact hh _ _ (Wk.weak (wk1 ⟨⟨_,rfl,rfl,by rw [s_];exact ep (bR hs.bare) rfl⟩,zpt⟩ zr3))
       as_aux_lemma=>
        subst hC35
        cbv
        iterate 6 ((try(rw [ew];cbv));refine zx hg h0 hj l_ ?_;cbv;refine⟨_,h_,?_⟩;cbv;generalize hG:g .st _ _ _=D;generalize hX:tR _ _ _=x at hG;cbv at hX;subst hX;obtain⟨s',h',l'⟩:=ib hg hG s_ hk;clear hG s_ h_ l_;revert s' h' l';intro s_ h_ l_)
        refine gU [] [] ha hn hg bq [(0,.o 0),(1,.i (f 40)),(5,.i z)] [.rw ⟨ty,64,D⟩] (by kernel_rfl) (fun B' hh=> ?_) ?_
        ·cbv
         rw [ew]
         exact hh _ _ (Wk.weak (wk1 ⟨⟨_,rfl,rfl,by rw [s_];exact ep (bR hs.bare) rfl⟩,zpt⟩ zr3))
        as_aux_lemma=>
         subst hC41
         cbv
         iterate 6 ((try(rw [ew];cbv));refine zx hg h0 hj l_ ?_;cbv;refine⟨_,h_,?_⟩;cbv;generalize hG:g .st _ _ _=D;generalize hX:tR _ _ _=x at hG;cbv at hX;subst hX;obtain⟨s',h',l'⟩:=ib hg hG s_ hk;clear hG s_ h_ l_;revert s' h' l';intro s_ h_ l_)
         refine gU [] [] ha hn hg bq [(0,.o 0),(1,.i (f 46)),(5,.i z)] [.rw ⟨ty,64,D⟩] (by kernel_rfl) (fun B' hh=> ?_) ?_
         ·cbv
          rw [ew]
          exact hh _ _ (Wk.weak (wk1 ⟨⟨_,rfl,rfl,by rw [s_];exact ep (bR hs.bare) rfl⟩,zpt⟩ zr3))
         as_aux_lemma=>
          subst hC47
          cbv
          iterate 6 ((try(rw [ew];cbv));refine zx hg h0 hj l_ ?_;cbv;refine⟨_,h_,?_⟩;cbv;generalize hG:g .st _ _ _=D;generalize hX:tR _ _ _=x at hG;cbv at hX;subst hX;obtain⟨s',h',l'⟩:=ib hg hG s_ hk;clear hG s_ h_ l_;revert s' h' l';intro s_ h_ l_)
          refine gU [] [] ha hn hg bq [(0,.o 0),(1,.i (f 52)),(5,.i z)] [.rw ⟨ty,64,D⟩] (by kernel_rfl) (fun B' hh=> ?_) ?_
          ·cbv
           rw [ew]
           exact hh _ _ (Wk.weak (wk1 ⟨⟨_,rfl,rfl,by rw [s_];exact ep (bR hs.bare) rfl⟩,zpt⟩ zr3))
          as_aux_lemma=>
           subst hC53
           cbv
           iterate 6 ((try(rw [ew];cbv));refine zx hg h0 hj l_ ?_;cbv;refine⟨_,h_,?_⟩;cbv;generalize hG:g .st _ _ _=D;generalize hX:tR _ _ _=x at hG;cbv at hX;subst hX;obtain⟨s',h',l'⟩:=ib hg hG s_ hk;clear hG s_ h_ l_;revert s' h' l';intro s_ h_ l_)
           refine gU [] [] ha hn hg bq [(0,.o 0),(1,.i (f 58)),(5,.i z)] [.rw ⟨ty,64,D⟩] (by kernel_rfl) (fun B' hh=> ?_) ?_
           ·cbv
            rw [ew]
            exact hh _ _ (Wk.weak (wk1 ⟨⟨_,rfl,rfl,by rw [s_];exact ep (bR hs.bare) rfl⟩,zpt⟩ zr3))
           as_aux_lemma=>
            subst hC59
            cbv
            iterate 3 ((try(rw [ew];cbv));(try(refine Ix hg (by decide) ?_;cbv;rw [em];cbv));refine zx hg h0 hj l_ ?_;cbv;refine⟨_,h_,?_⟩;cbv;generalize hG:g .st _ _ _=D;generalize hX:tR _ _ _=x at hG;cbv at hX;subst hX;obtain⟨s',h',l'⟩:=ib hg hG s_ hk;clear hG s_ h_ l_;revert s' h' l';intro s_ h_ l_)
            rw [ew]
            cbv
            have ho:∀x∈D,x.all ip=true:=fun x hx=>by
             rw [s_]at hx
             rcases List.mem_or_eq_of_mem_set hx with h|h
             ·exact hs.bare x h
             ·rw [h];rfl
            have h7:fpE D=hy:=by rw [s_];exact(rf he (by rfl)).trans hs.fp
            have hm:=qz (f 61) B1 F1 h3 h2 hZ hE (by omega) (by omega)
            rw [<-hO]at hm
            rw [<-hP]at hm
            obtain⟨M1,xh⟩:=nmE ((vw aC.c (fG (f 61) l1)))
            rw [<-xh]at hm
            refine oS hg hn bq 7 (by kernel_rfl) (fun mk h9=> ?_)
            cbv
            refine zx hg h0 hj l_ ?_
            cbv
            refine⟨_,h_,?_⟩
            cbv
            subst h9
            obtain⟨x,hx⟩:=DX h_ 63 (.fv B1 M1)
            cbv at hx
            obtain⟨D',hD⟩:=nmE (D.set j x)
            subst hx
            obtain⟨s',h',l'⟩:=Aq hD s_ hk
            refine⟨_,_,_,[(B1,F1,M1)],_,[(0,.o 0),(1,.i (f 61)),(5,.i z)],[.rw ⟨ty,64,D'⟩],rfl,rfl,rfl,rfl,rfl,hm,fun u hu b hb=> ?_,fun u hu=> ?_,⟨.inr (.inl zr1),.inr (.inl zr1),.inr (.inl zr1),zpt⟩,⟨?_,zpt⟩,?_⟩
            ·rw [zpa.1 hu]at hb
             exact xj b (hL b (by simp [fpL,fpC];first|exact hb|exact .inl hb|exact .inr hb))
            ·rw [zpa.1 hu]
             exact⟨_,zpd ..,zpa.2 rfl⟩
            ·rw [hD]
             refine Gg h_ ho (by rw [h7];exact ht) (fun u hu b hb=> ?_) ?_
             ·rw [zpa.1 hu]at hb
              simp [fpL,fpC];first|exact hb|exact .inl hb|exact .inr hb
             ·iterate 63
               refine⟨?_,?_⟩
               first|exact .inr (.inl zr1)|exact .inr (.inr ⟨_,zpa.2 rfl,rfl,rfl⟩)|exact .inr (.inl ⟨rfl,fun b hb u hu hp=>(by rw [zpa.1 hu]at hp;first|exact hw b hb b hp rfl|exact hw b hp b hb rfl)⟩)
              exact⟨.inr (.inr ⟨_,zpa.2 rfl,rfl,rfl⟩),zpt⟩
            cbv
            clear h_ s_ l_ hD
            revert D'
            intro D s_ h_ l_
            rw [ez]
            obtain⟨x,hx,s'⟩:=Fg s_
            rw [s']
            have xn:=hs.step (r:=se kc l0 l1) hj hc he (e':=x) (by rw [hx,<-EN xv h6,xg,xh,xm,hS];rfl) (by rw [hx];rfl) (by rw [hx];rfl) (by rw [hx];rfl)
            rw [hB]
            refine⟨(z+1,xx,_),⟨_,xn,?_,?_,by simp only;rw [hQ];exact zpv h8 (by have:=jj [⟨l0,l1⟩] kc;exact this)⟩,xu,Wk.weak (wk1 ⟨⟨_,rfl,rfl,bR xn.bare⟩,zpt⟩ zr3)⟩
            ·simp only
             rw [hQ,zqC]
             exact hR
            ·simp only
             rw [hQ]
             exact hK
theorem xU{x:List AC}(h:ow x l):x.length=64:=by
 obtain⟨u0,u2,u3,u4,u5,u6,u7,u8,u9,ha,hb,hc,hd,hf,hg,hh,hi,hj,hk,hl,hm,hn,ho,hp,hq,hr,hs,ht,hu,hv,hw,hx,hy,hz,hA,hB,hC,hD,hE,hF,hG,hH,hI,hJ,hK,hL,hM,hN,hO,hP,hQ,hR,hS,hT,hU,hV,hW,hX,hY,hZ,h0,h1,F0,F1,he,-⟩:=h
 rw [he];rfl
theorem ze(x:ae)(hs:x.small):ow x.ac (x.kids.length,x.table.rules.length):=by
 obtain⟨a0,a1,⟨a2,a3,a4,a5,a6,a7,a8,a9,hc,hd,he,⟨hf,hg⟩,⟨hh,hi⟩,⟨hj,hk⟩,⟨hl,hm⟩,⟨hn,ho⟩,⟨hp,hq⟩,⟨hr,ht⟩,hu,⟨⟨hv,hw⟩,⟨hx,hy⟩,⟨hz,hA⟩,⟨hB,hC⟩,⟨hD,hE⟩,⟨hF,hG⟩⟩,⟨⟨hH,hI⟩,⟨hJ,hK⟩,⟨hL,hM⟩,⟨hN,hO⟩,⟨hP,hQ⟩,⟨hR,hS⟩⟩,⟨hT,hU,hV,hW⟩,⟨hX,hY,hZ,h0⟩,h1,h2⟩,h3,⟨h4⟩⟩:=x
 obtain⟨hb,ha,-⟩:=hs
 exact⟨_,_,_,_,_,_,_,_,_,_,_,_,_,_,_,_,_,_,_,_,_,_,_,_,_,_,_,_,_,_,_,_,_,_,_,_,_,_,_,_,_,_,_,_,_,_,_,_,_,_,_,_,_,_,_,_,_,_,_,_,_,_,_,_,rfl,⟨by simp [vw],by simpa [vw]using hb,xv _ _,xj (c:=ak) (k:=1) fun _=>rfl⟩,⟨by simp [vw],by simpa [vw]using ha,xv _ _,xj (c:=aC.c) (k:=3) fun _=>rfl⟩⟩
theorem sv(k0:Int)(b0:List Nat)(V0:LLA)(ls0:List (Nat×Nat))(hV0:V0.length=ls0.length)(hl0:V0.length<=1048576)(hok0:∀(i:Nat)(x:List AC)(l:Nat×Nat),V0[i]? =some x->ls0[i]? =some l->ow x l)
  (hnd:b0.Nodup) (hk0:0<=k0) (hk1:dc k0 ls0<=1152921504606846976):
  Er prog 24 [.agg [.fv b0 V0],ai k0] [(b0,V0,dt k0 ls0)] (.int .i64 (dc k0 ls0)):=by
 have he:=qC k0 b0 V0 ls0 hV0 hl0 hok0 hnd hk0 hk1
 have hf:∃k:Nat,(∀x∈V0,x.length=k)/\∀x∈dt k0 ls0,x.length=k:=⟨64,fun x hx=>by
  obtain⟨i,hi,rfl⟩:=zpi hx
  exact xU (hok0 i _ _ (zqc hi) (zqc (by omega))),p9 ls0 k0⟩
 have hh:(dt k0 ls0).length=V0.length:=by rw [ju,hV0]
 clear hok0
 obtain⟨R0,ha⟩:=nmE (dt k0 ls0)
 obtain⟨K1,hc⟩:=nmE (dc k0 ls0)
 rw [<-ha,<-hc]at he
 rw [<-ha]at hf hh
 rw [<-ha,<-hc]
 clear ha hc hk1
 refine Dk (fun u hu=> ?_) ?_
 ·rw [zpa.1 hu];exact⟨hf,hh⟩
 obtain⟨β,hβ⟩:∃β:BP,β=⟨0,fun b=>∃u∈[(b0,V0,R0)],b∈u.1⟩:=⟨_,rfl⟩
 have hm:∀b∈b0,β.ex b:=by rw [hβ];exact fun b hb=>⟨_,zpd ..,hb⟩
 rw [<-hβ]
 clear hβ
 refine yt (h:=[]) [(1,.hand)] [] (c:=jD f24) bq func24 (by kernel_rfl) (by kernel_rfl) (bl (by rfl)) (by kernel_rfl) fun g hn hd F hj hk hg hF=> ?_
 cbv
 refine oS hg hk bq 3 (by kernel_rfl) (fun mk hl=> ?_)
 cbv
 subst hl
 refine⟨_,_,_,[(b0,V0,R0)],_,[(2,.p 0),(4,.i 0)],[.bx 28 1 [.fv b0 R0]],rfl,rfl,rfl,rfl,rfl,he,fun u hu b hb=>hm b (by rw [zpa.1 hu]at hb;exact hb),fun u hu=> ?_,⟨.inr (.inl zr1),.inr (.inl zr1),zpt⟩,⟨⟨rfl,rfl,.inr (.inr ⟨_,zpa.2 rfl,rfl,rfl⟩),zpt⟩,zpt⟩,?_⟩
 ·rw [zpa.1 hu];exact⟨_,zpd ..,zpa.2 rfl⟩
 cbv
 refine K8 hF 0 _ _ [.fv b0 R0] rfl rfl (fun u hu=> ?_)
 rw [zpa.1 hu];exact zpd ..
theorem mB:∀(ls:List (Nat×Nat))(k:Int),(∀l∈ls,l.1<=1048576/\l.2<=1048576)->dc k ls<=k+4194366*(ls.length:Int)
 | [],k,_=>by simp [dc]
 |l::ls,k,h=>by
  have h1:=mB ls (fg k l.1 l.2) fun l' hl=>h l' (zpe _ hl)
  obtain⟨h2,h3⟩:=h l (zpd ..)
  unfold dc
  unfold fg at h1⊢
  simp only [zqx]
  omega
theorem zi(ns:List ae)(hl:ns.length<=1048576)(hs:∀y∈ns,ae.small y):∃(R0:LLA)(K:Int),0<=K/\K<=1152921504606846976/\∀b0:List Nat,b0.Nodup->Er prog 24 [.agg [.fv b0 (vwA ae.ac ns)],ai 1] [(b0,vwA ae.ac ns,R0)] (.int .i64 K):=by
 have k0:=jj (ns.map fun m=>(m.kids.length,m.table.rules.length)) 1
 have k2:=mB (ns.map fun m=>(m.kids.length,m.table.rules.length)) 1 (fun l hl=>by
  obtain⟨m,hm,rfl⟩:=List.mem_map.1 hl
  have:=hs m hm
  obtain⟨a0,a1,⟨a2,a3,a4,a5,a6,a7,a8,a9,hc,hd,he,⟨hf,hg⟩,⟨hh,hi⟩,⟨hj,hk⟩,⟨hn,ho⟩,⟨hp,hq⟩,⟨hr,ht⟩,⟨hu,hv⟩,hw,⟨⟨hy,hz⟩,⟨hA,hB⟩,⟨hC,hD⟩,⟨hE,hF⟩,⟨hG,hH⟩,⟨hI,hJ⟩⟩,⟨⟨hK,hL⟩,⟨hM,hN⟩,⟨hO,hP⟩,⟨hQ,hR⟩,⟨hS,hT⟩,⟨hU,hV⟩⟩,⟨hW,hX,hY,hZ⟩,⟨h0,h1,h2,h3⟩,h4,h5⟩,h6,⟨h7⟩⟩:=m
  exact⟨this.1,this.2.1⟩)
 rw [zql]at k2
 refine⟨_,_,zpv (by decide) k0,by omega,fun b0 hb=>sv 1 b0 _ (ns.map fun m=>(m.kids.length,m.table.rules.length)) (by simp [vwA]) (by simpa [vwA]using hl) (fun i x l hx hl=> ?_) hb (by decide) (by omega)⟩
 simp only [vwA,zqi,zqj]at hx hl
 obtain⟨m,hm,rfl⟩:=hx
 obtain⟨m',ha,rfl⟩:=hl
 rw [hm]at ha
 cases ha
 exact ze m (hs m (zqd hm))
end
end Go.Proofs.YtckchgoblpgpbaaGreat
