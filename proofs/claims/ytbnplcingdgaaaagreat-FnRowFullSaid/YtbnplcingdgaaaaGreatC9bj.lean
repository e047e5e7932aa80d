/- The law of columns: its walk. -/
import Derived.Test.YtbnplcingdgaaaaGreatC9bi
set_option linter.unusedVariables false
set_option linter.unusedSimpArgs false
set_option maxHeartbeats 32000000
namespace Go.Proofs.YtbnplcingdgaaaaGreat
open Go.ChangeShapes Go.WideShapes Go.ChangeAt Go.RowKit Am Go.Proofs.Tryz
set_option maxRecDepth 100000
variable {g:Gd}
theorem DA{n0 N:Nat}(hg:g=G0 prog n0 N)(a0 a1 a2 a3 a4 b0 b1 b2 b3 b4:Int){K:Bool->Prop}(hK:K (!(decide ((⟨a0,a1,a2,a3,a4⟩:aG)=⟨b0,b1,b2,b3,b4⟩)))):
  g .E .neq 50 [.J a0,.J a1,.J a2,.J a3,.J a4] [.J b0,.J b1,.J b2,.J b3,.J b4] K:=by
 subst hg
 refine⟨by kernel_rfl,⟨_,Tryz.underlying50⟩,[.int .i64 a0,.int .i64 a1,.int .i64 a2,.int .i64 a3,.int .i64 a4],[.int .i64 b0,.int .i64 b1,.int .i64 b2,.int .i64 b3,.int .i64 b4],_,rfl,rfl,?_,hK⟩
 have h1:eqT prog 8 50 [.int .i64 a0,.int .i64 a1,.int .i64 a2,.int .i64 a3,.int .i64 a4] [.int .i64 b0,.int .i64 b1,.int .i64 b2,.int .i64 b3,.int .i64 b4]=some ((a0==b0)&&((a1==b1)&&((a2==b2)&&((a3==b3)&&((a4==b4)&&true))))):=by
  rfl
 rw [h1]
 congr 1
 rw [Bool.eq_iff_iff]
 simp
variable {ps:List Int}{W:LLA}
theorem B7(hW:W=vw aj ps)(hl:ps.length=12)(i:Nat)(hi:i<12):W[i]? =some [.J (plc ps i)]:=by
 rw [hW]
 refine bu (c:=aj) (x:=plc ps i) ?_
 unfold plc
 rw [zqc (by omega)]
 rfl
def zw(ps:List Int)(n:Nat)(k:Int):LLA:=if k=0 then []else if k=1 then [[.view (vwA af.ac (fA ps 0 n))]]else [[.view (vwA af.ac (fA ps 0 n))],[.view (vwA af.ac (fA ps 1 n))]]
variable {Q:Exit->List (Nat×AV)->EH->Prop}{K:Int}
theorem Bb(hg:g= @G0 bp0 prog 0 Tryz.f3.ntmps)(hp:∀x∈ps,0<=x/\x<10000){p:Nat->Int}(hpp:p=plc ps)(hWa:∀i:Nat,i<12->W[i]? =some [.J (p i)])(hK:K=1+(p 3).tmod 3){es:LLA}(pE:aN es=true){T0:LLA}(hT0:T0=vwA af.ac (jN [] (ma ps 0)))
  (hQ:∀(E:LLA),E=vwA af.ac (fA ps 0 K.toNat)->Q (.exit 2) [(65,.t (abl (false))),(64,.i (K)),(63,.i (g .w .rem .i64 (p 3) 3)),(62,.i (p 3)),(61,.t (.c (.eptr [.J (p 3)] 0))),(60,.v W),(59,.i (K)),(3,.v W),(4,.o 0),(5,.i (0)),(7,.p 1),(9,.i (K))] [.rw ⟨38,1,es⟩,.bx 38 1 [.view E]]):
  g .L (je (aP Tryz.f3) 1) Q [(3,.v W),(4,.o 0),(5,.i (0)),(7,.p 1),(9,.i (0))] [.rw ⟨38,1,es⟩,.bx 38 1 [.view T0]]:=by
 have bd:=fun(i:Nat){m:Int}(hm:0<m)=>gR hp i hm
 rw [<-hpp]at bd
 have b3:=bd 3 (m:=3) (by decide)
 have hG:1<=K/\K<=3:=by omega
 have hu:=fN
 have hc:=fun n=>ix n
 have x3:W[(3:Int).toNat]? =some [.J (p 3)]:=hWa 3 (by decide)
 have hw:=jJ [] (by simp) (by simp) (ma ps 0)
 have eK:g .w .add .i64 1 (g .w .rem .i64 (p 3) 3)=K:=by rw [aJ hg,gI hg,hK];exact aw _ (by omega)
 have tq:g .q .eql 0 1=false:=by rw [bB hg];rfl
 obtain⟨hF,ha⟩:=nmE (wO prog)
 obtain⟨hd,hj⟩:=nmE (@hd0 bp0 prog 0 Tryz.f3.ntmps)
 clear b3 hK
 refine fB [(19,.hand),(28,.hand)] [] ha hj hg aC (by kernel_rfl) (fun s:Int×LLA=>[(3,.v W),(4,.o 0),(5,.i (0)),(7,.p 1),(9,.i (s.1))]) (fun s=>[.rw ⟨38,1,es⟩,.bx 38 1 [.view s.2]]) (fun s=>0<=s.1/\s.1<=K/\s.2=vwA af.ac (fA ps 0 s.1.toNat)) (fun s=>3-s.1.toNat)
  (0,T0) ⟨by simp,by simp only;omega,hT0⟩ (Wk.weak (wkG [some _,some _] zr5 ⟨wqE rfl pE,wqE rfl rfl,trivial⟩ (by decide) aq)) (fun s B2 hE hD=> ?_)
 obtain⟨z,E⟩:=s
 obtain⟨z0,z1,z2⟩:=hE
 dsimp only at z0 z1 z2
 have tz:g .q .lss z K=decide (z<K):=bD hg _ _
 by_cases hz:z<K
 ·rw [zqu hz]at tz
  have ez:g .w .add .i64 z 1=z+1:=by rw [aJ hg];exact wr1 (by omega) (by omega)
  have e4:g .w .add .i64 z 4=z+4:=by rw [aJ hg];exact aw _ (by omega)
  have e2:g .w .add .i64 z 2=z+2:=by rw [aJ hg];exact aw _ (by omega)
  obtain⟨m,hm⟩:=nmE z.toNat
  have hH:m<3:=by omega
  have y4:W[(z+4).toNat]? =some [.J (p (m+4))]:=by rw [show(z+4).toNat=m+4 by omega];exact hWa _ (by omega)
  have y1:W[(z+1).toNat]? =some [.J (p (m+1))]:=by rw [show(z+1).toNat=m+1 by omega];exact hWa _ (by omega)
  have y2:W[(z+2).toNat]? =some [.J (p (m+2))]:=by rw [show(z+2).toNat=m+2 by omega];exact hWa _ (by omega)
  have hb:=kz (fI ps 0) _ hw.1 hw.2 m
  change(fA ps 0 m).length<=1048576/\∀y∈fA ps 0 m,af.small y at hb
  have cA:=eB _ hb.1 hb.2 (fI ps 0 m)
  have hn:=jJ _ hb.1 hb.2 (fI ps 0 m)
  have cI:=gQ _ hn.1 hn.2 1 (nv (fA ps 0 m) (fI ps 0 m)) z
  have hy:vwA af.ac (inN (jN (fA ps 0 m) (fI ps 0 m)) 1 (nv (fA ps 0 m) (fI ps 0 m)) z)=vwA af.ac (fA ps 0 (z+1).toNat):=by
   obtain rfl:z=(m:Int):=by omega
   rw [show((m:Int)+1).toNat=m+1 by omega]
   rfl
  rw [hy]at cI
  obtain⟨M3,hv⟩:=nmE (vwA af.ac (fA ps 0 (z+1).toNat))
  obtain⟨M2,hf⟩:=nmE (vwA af.ac (jN (fA ps 0 m) (fI ps 0 m)))
  obtain⟨n2,hl⟩:=nmE (nv (fA ps 0 m) (fI ps 0 m))
  obtain⟨k2,hx⟩:=nmE (inI (jN (fA ps 0 m) (fI ps 0 m)) 1 (nv (fA ps 0 m) (fI ps 0 m)) z)
  obtain⟨gr,hh⟩:=nmE ((p (m+4)).tmod 3)
  obtain⟨sh,ho⟩:=nmE ((p (m+4)).tmod 2)
  obtain⟨wa,hr⟩:=nmE ((p (m+1)).tmod 300)
  obtain⟨hi,hk⟩:=nmE ((p (m+2)).tmod 90)
  have eX:fI ps 0 m=d9 gr sh wa hi:=by rw [hh,ho,hr,hk,hpp];rfl
  rw [<-hm]at z2
  rw [<-hx,<-hv,<-hf,<-hl]at cI
  rw [<-z2,<-hf,<-hl,eX]at cA
  have r3:g .w .rem .i64 (p (m+4)) 3=gr:=by rw [gI hg,hh]
  have r2:g .w .rem .i64 (p (m+4)) 2=sh:=by rw [gI hg,ho]
  have ra:g .w .rem .i64 (p (m+1)) 300=wa:=by rw [gI hg,hr]
  have rb:g .w .rem .i64 (p (m+2)) 90=hi:=by rw [gI hg,hk]
  obtain⟨v4,hC⟩:=nmE (p (m+4))
  obtain⟨v1,hA⟩:=nmE (p (m+1))
  obtain⟨v2,hB⟩:=nmE (p (m+2))
  rw [<-hC]at y4 r3 r2
  rw [<-hA]at y1 ra
  rw [<-hB]at y2 rb
  have hs:=hc wa
  have ht:=hc hi
  clear hf hl hx hy hb hn eX hh ho hr hk hC hA hB hc
  cbv
  (repeat'((first|rw [tz]|rw [eK]|refine goX hg _ (by omega) x3 rfl ?_|refine uw hg (by decide) ?_);cbv))
  refine fu [] [] ha hj hg aC [(3,.v W),(4,.o 0),(5,.i (0)),(7,.p 1),(9,.i (z)),(10,.p 2)] [.rw ⟨38,1,es⟩,.bx 38 1 [.view E],.bx 34 60 (lc (ah.c mH))] (by kernel_rfl) (fun B' he=> ?_) ?_
  ·cbv
   repeat'((first|refine ad hg hu ?_|refine aa hg hu ?_);cbv)
   skip
   exact he _ _ (Wk.weak (wkG [some _,some _,some _] zr6 ⟨wqE rfl pE,wqE rfl rfl,wqE rfl rfl,trivial⟩ (by decide) aq))
  cbv
  (repeat'((first|rw [tq]|rw [e4]|rw [ez]|rw [e2]|rw [r3]|rw [r2]|rw [ra]|rw [rb]|refine ad hg hs ?_|refine aa hg hs ?_|refine ad hg ht ?_|refine aa hg ht ?_|refine goX hg _ (by omega) y4 rfl ?_|refine goX hg _ (by omega) y1 rfl ?_|refine goX hg _ (by omega) y2 rfl ?_|refine uw hg (by decide) ?_);cbv))
  refine fu [] [] ha hj hg aC [(3,.v W),(4,.o 0),(5,.i (0)),(7,.p 1),(9,.i (z)),(11,.i (n2))] [.rw ⟨38,1,es⟩,.bx 38 1 [.view M2]] (by kernel_rfl) (fun B' he=> ?_) ?_
  ·cbv
   repeat'((first|refine ad hg cA ?_|refine aa hg cA ?_);cbv)
   skip
   exact he _ _ (Wk.weak (wkG [some _,some _] zr6 ⟨wqE rfl pE,wqE rfl rfl,trivial⟩ (by decide) aq))
  cbv
  repeat'((first|refine ad hg cI ?_|refine aa hg cI ?_);cbv)
  rw [ez]
  skip
  subst hD
  exact⟨(z+1,M3),⟨by simp only;omega,by simp only;omega,hv⟩,by simp only;omega,Wk.weak (wkG [some _,some _] zr5 ⟨wqE rfl pE,wqE rfl rfl,trivial⟩ (by decide) aq)⟩
 ·rw [zqt hz]at tz
  obtain rfl:z=K:=by omega
  have hq:=hQ E z2
  cbv
  (repeat'((first|rw [tz]|rw [eK]|refine goX hg _ (by omega) x3 rfl ?_|refine uw hg (by decide) ?_);cbv))
  exact hq
theorem Ba(hg:g= @G0 bp0 prog 0 Tryz.f3.ntmps)(hp:∀x∈ps,0<=x/\x<10000){p:Nat->Int}(hpp:p=plc ps)(hWa:∀i:Nat,i<12->W[i]? =some [.J (p i)])(hK:K=1+(p 3).tmod 3){es:LLA}(pE:aN es=true){T0:LLA}(hT0:T0=vwA af.ac (jN [] (ma ps 1)))
  (hQ:∀(E:LLA),E=vwA af.ac (fA ps 1 K.toNat)->Q (.exit 2) [(65,.t (abl (false))),(64,.i (K)),(63,.i (g .w .rem .i64 (p 3) 3)),(62,.i (p 3)),(61,.t (.c (.eptr [.J (p 3)] 0))),(60,.v W),(59,.i (K)),(3,.v W),(4,.o 0),(5,.i (1)),(7,.p 1),(9,.i (K))] [.rw ⟨38,1,es⟩,.bx 38 1 [.view E]]):
  g .L (je (aP Tryz.f3) 1) Q [(3,.v W),(4,.o 0),(5,.i (1)),(7,.p 1),(9,.i (0))] [.rw ⟨38,1,es⟩,.bx 38 1 [.view T0]]:=by
 have bd:=fun(i:Nat){m:Int}(hm:0<m)=>gR hp i hm
 rw [<-hpp]at bd
 have b3:=bd 3 (m:=3) (by decide)
 have hG:1<=K/\K<=3:=by omega
 have hu:=fN
 have hc:=fun n=>ix n
 have x3:W[(3:Int).toNat]? =some [.J (p 3)]:=hWa 3 (by decide)
 have hw:=jJ [] (by simp) (by simp) (ma ps 1)
 have eK:g .w .add .i64 1 (g .w .rem .i64 (p 3) 3)=K:=by rw [aJ hg,gI hg,hK];exact aw _ (by omega)
 have tq:g .q .eql 1 1=true:=by rw [bB hg];rfl
 obtain⟨hF,ha⟩:=nmE (wO prog)
 obtain⟨hd,hj⟩:=nmE (@hd0 bp0 prog 0 Tryz.f3.ntmps)
 clear b3 hK
 refine fB [(19,.hand),(28,.hand)] [] ha hj hg aC (by kernel_rfl) (fun s:Int×LLA=>[(3,.v W),(4,.o 0),(5,.i (1)),(7,.p 1),(9,.i (s.1))]) (fun s=>[.rw ⟨38,1,es⟩,.bx 38 1 [.view s.2]]) (fun s=>0<=s.1/\s.1<=K/\s.2=vwA af.ac (fA ps 1 s.1.toNat)) (fun s=>3-s.1.toNat)
  (0,T0) ⟨by simp,by simp only;omega,hT0⟩ (Wk.weak (wkG [some _,some _] zr5 ⟨wqE rfl pE,wqE rfl rfl,trivial⟩ (by decide) aq)) (fun s B2 hE hD=> ?_)
 obtain⟨z,E⟩:=s
 obtain⟨z0,z1,z2⟩:=hE
 dsimp only at z0 z1 z2
 have tz:g .q .lss z K=decide (z<K):=bD hg _ _
 by_cases hz:z<K
 ·rw [zqu hz]at tz
  have ez:g .w .add .i64 z 1=z+1:=by rw [aJ hg];exact wr1 (by omega) (by omega)
  have e4:g .w .add .i64 z 4=z+4:=by rw [aJ hg];exact aw _ (by omega)
  have e2:g .w .add .i64 z 2=z+2:=by rw [aJ hg];exact aw _ (by omega)
  obtain⟨m,hm⟩:=nmE z.toNat
  have hH:m<3:=by omega
  have y4:W[(z+4).toNat]? =some [.J (p (m+4))]:=by rw [show(z+4).toNat=m+4 by omega];exact hWa _ (by omega)
  have y1:W[(z+1).toNat]? =some [.J (p (m+1))]:=by rw [show(z+1).toNat=m+1 by omega];exact hWa _ (by omega)
  have y2:W[(z+2).toNat]? =some [.J (p (m+2))]:=by rw [show(z+2).toNat=m+2 by omega];exact hWa _ (by omega)
  have hb:=kz (fI ps 1) _ hw.1 hw.2 m
  change(fA ps 1 m).length<=1048576/\∀y∈fA ps 1 m,af.small y at hb
  have cA:=eB _ hb.1 hb.2 (fI ps 1 m)
  have hn:=jJ _ hb.1 hb.2 (fI ps 1 m)
  have cI:=gQ _ hn.1 hn.2 1 (nv (fA ps 1 m) (fI ps 1 m)) z
  have hy:vwA af.ac (inN (jN (fA ps 1 m) (fI ps 1 m)) 1 (nv (fA ps 1 m) (fI ps 1 m)) z)=vwA af.ac (fA ps 1 (z+1).toNat):=by
   obtain rfl:z=(m:Int):=by omega
   rw [show((m:Int)+1).toNat=m+1 by omega]
   rfl
  rw [hy]at cI
  obtain⟨M3,hv⟩:=nmE (vwA af.ac (fA ps 1 (z+1).toNat))
  obtain⟨M2,hf⟩:=nmE (vwA af.ac (jN (fA ps 1 m) (fI ps 1 m)))
  obtain⟨n2,hl⟩:=nmE (nv (fA ps 1 m) (fI ps 1 m))
  obtain⟨k2,hx⟩:=nmE (inI (jN (fA ps 1 m) (fI ps 1 m)) 1 (nv (fA ps 1 m) (fI ps 1 m)) z)
  obtain⟨gr,hh⟩:=nmE ((p (m+4)).tmod 3)
  obtain⟨sh,ho⟩:=nmE ((p (m+4)).tmod 2)
  obtain⟨wa,hr⟩:=nmE ((p (m+1)).tmod 300)
  obtain⟨hi,hk⟩:=nmE ((p (m+2)).tmod 90)
  have eX:fI ps 1 m=d9 gr sh hi wa:=by rw [hh,ho,hr,hk,hpp];rfl
  rw [<-hm]at z2
  rw [<-hx,<-hv,<-hf,<-hl]at cI
  rw [<-z2,<-hf,<-hl,eX]at cA
  have r3:g .w .rem .i64 (p (m+4)) 3=gr:=by rw [gI hg,hh]
  have r2:g .w .rem .i64 (p (m+4)) 2=sh:=by rw [gI hg,ho]
  have ra:g .w .rem .i64 (p (m+1)) 300=wa:=by rw [gI hg,hr]
  have rb:g .w .rem .i64 (p (m+2)) 90=hi:=by rw [gI hg,hk]
  obtain⟨v4,hC⟩:=nmE (p (m+4))
  obtain⟨v1,hA⟩:=nmE (p (m+1))
  obtain⟨v2,hB⟩:=nmE (p (m+2))
  rw [<-hC]at y4 r3 r2
  rw [<-hA]at y1 ra
  rw [<-hB]at y2 rb
  have hs:=hc wa
  have ht:=hc hi
  clear hf hl hx hy hb hn eX hh ho hr hk hC hA hB hc
  cbv
  (repeat'((first|rw [tz]|rw [eK]|refine goX hg _ (by omega) x3 rfl ?_|refine uw hg (by decide) ?_);cbv))
  refine fu [] [] ha hj hg aC [(3,.v W),(4,.o 0),(5,.i (1)),(7,.p 1),(9,.i (z)),(10,.p 2)] [.rw ⟨38,1,es⟩,.bx 38 1 [.view E],.bx 34 60 (lc (ah.c mH))] (by kernel_rfl) (fun B' he=> ?_) ?_
  ·cbv
   repeat'((first|refine ad hg hu ?_|refine aa hg hu ?_);cbv)
   skip
   exact he _ _ (Wk.weak (wkG [some _,some _,some _] zr6 ⟨wqE rfl pE,wqE rfl rfl,wqE rfl rfl,trivial⟩ (by decide) aq))
  cbv
  (repeat'((first|rw [tq]|rw [e4]|rw [ez]|rw [e2]|rw [r3]|rw [r2]|rw [ra]|rw [rb]|refine ad hg hs ?_|refine aa hg hs ?_|refine ad hg ht ?_|refine aa hg ht ?_|refine goX hg _ (by omega) y4 rfl ?_|refine goX hg _ (by omega) y1 rfl ?_|refine goX hg _ (by omega) y2 rfl ?_|refine uw hg (by decide) ?_);cbv))
  refine fu [] [] ha hj hg aC [(3,.v W),(4,.o 0),(5,.i (1)),(7,.p 1),(9,.i (z)),(11,.i (n2))] [.rw ⟨38,1,es⟩,.bx 38 1 [.view M2]] (by kernel_rfl) (fun B' he=> ?_) ?_
  ·cbv
   repeat'((first|refine ad hg cA ?_|refine aa hg cA ?_);cbv)
   skip
   exact he _ _ (Wk.weak (wkG [some _,some _] zr6 ⟨wqE rfl pE,wqE rfl rfl,trivial⟩ (by decide) aq))
  cbv
  repeat'((first|refine ad hg cI ?_|refine aa hg cI ?_);cbv)
  rw [ez]
  skip
  subst hD
  exact⟨(z+1,M3),⟨by simp only;omega,by simp only;omega,hv⟩,by simp only;omega,Wk.weak (wkG [some _,some _] zr5 ⟨wqE rfl pE,wqE rfl rfl,trivial⟩ (by decide) aq)⟩
 ·rw [zqt hz]at tz
  obtain rfl:z=K:=by omega
  have hq:=hQ E z2
  cbv
  (repeat'((first|rw [tz]|rw [eK]|refine goX hg _ (by omega) x3 rfl ?_|refine uw hg (by decide) ?_);cbv))
  exact hq
theorem AY(hg:g= @G0 bp0 prog 0 Tryz.f3.ntmps)(hp:∀x∈ps,0<=x/\x<10000){p:Nat->Int}(hpp:p=plc ps)(hWa:∀i:Nat,i<12->W[i]? =some [.J (p i)])(hK:K=1+(p 3).tmod 3)
  (hQ:∀(es:LLA),es=zw ps K.toNat 2->Q (.exit 0) [(24,.t (abl (false))),(23,.i (2)),(3,.v W),(4,.o 0),(5,.i (2))] [.rw ⟨38,1,es⟩]):
  g .L (je (aP Tryz.f3) 0) Q [(3,.v W),(4,.o 0),(5,.i (0))] [.rw ⟨38,1,[]⟩]:=by
 have bd:=fun(i:Nat){m:Int}(hm:0<m)=>gR hp i hm
 rw [<-hpp]at bd
 have b0:=bd 0 (m:=6) (by decide)
 have b1:=bd 1 (m:=4) (by decide)
 have b2:=bd 2 (m:=20) (by decide)
 have hh:=fN
 have x0:W[(0:Int).toNat]? =some [.J (p 0)]:=hWa 0 (by decide)
 have x1:W[(1:Int).toNat]? =some [.J (p 1)]:=hWa 1 (by decide)
 have x2:W[(2:Int).toNat]? =some [.J (p 2)]:=hWa 2 (by decide)
 obtain⟨hl,ha⟩:=nmE (wO prog)
 obtain⟨hd,hf⟩:=nmE (@hd0 bp0 prog 0 Tryz.f3.ntmps)
 refine fB [(8,.hand),(15,.hand),(19,.hand),(28,.hand)] [] ha hf hg aC (by kernel_rfl) (fun s:Int×LLA=>[(3,.v W),(4,.o 0),(5,.i (s.1))]) (fun s=>[.rw ⟨38,1,s.2⟩]) (fun s=>(s.1=0\/s.1=1\/s.1=2)/\s.2=zw ps K.toNat s.1) (fun s=>2-s.1.toNat)
  (0,[]) ⟨.inl rfl,rfl⟩ (Wk.weak (wkG [some _] zr3 ⟨wqE rfl rfl,trivial⟩ (by decide) aq)) (fun s B hs hB=> ?_)
 obtain⟨k,es⟩:=s
 obtain⟨h0,h1⟩:=hs
 dsimp only at h0 h1
 have pE:aN es=true:=by rw [h1];unfold zw;split<;>(try split)<;>rfl
 have hk:es.length<=1048576:=by rw [h1];unfold zw;split<;>(try split)<;>simp
 by_cases hk2:k<2
 ·have tk:g .q .lss k 2=true:=by rw [bD hg];exact zqu hk2
  obtain⟨J,hJ⟩:=nmE (1+(p 0).tmod 6)
  obtain⟨I,hI⟩:=nmE (1+(p 1).tmod 4)
  obtain⟨G,hG⟩:=nmE ((p 2).tmod 20)
  have eJ:g .w .add .i64 1 (g .w .rem .i64 (p 0) 6)=J:=by rw [aJ hg,gI hg,hJ];exact aw _ (by omega)
  have eI:g .w .add .i64 1 (g .w .rem .i64 (p 1) 4)=I:=by rw [aJ hg,gI hg,hI];exact aw _ (by omega)
  have eG:g .w .rem .i64 (p 2) 20=G:=by rw [gI hg,hG]
  clear b0 b1 b2 bd
  have hi:k=0\/k=1:=by omega
  rcases hi with rfl|rfl
  ·have cS:=sT (eB [] (by simp) (by simp) (ma ps 0))
   have eS:ma ps 0=ic 1 J I G:=by rw [hJ,hI,hG,hpp];rfl
   obtain⟨T0,he⟩:=nmE (vwA af.ac (jN [] (ma ps 0)))
   obtain⟨I0,hc⟩:=nmE (nv [] (ma ps 0))
   rw [<-he,<-hc,eS]at cS
   have tq:g .q .eql 0 1=false:=by rw [bB hg];rfl
   have ek:g .w .add .i64 0 1=1:=by rw [aJ hg];exact(wr1 (by decide) (by decide))
   clear eS hc
   cbv
   (repeat'(rw [tk];cbv))
   refine fu [] [] ha hf hg aC [(3,.v W),(4,.o 0),(5,.i (0)),(6,.p 1)] [.rw ⟨38,1,es⟩,.bx 34 60 (lc (ah.c mH))] (by kernel_rfl) (fun B' hb=> ?_) ?_
   ·cbv
    repeat'((first|refine ad hg hh ?_|refine aa hg hh ?_);cbv)
    skip
    exact hb _ _ (Wk.weak (wkG [some _,some _] zr4 ⟨wqE rfl pE,wqE rfl rfl,trivial⟩ (by decide) aq))
   cbv
   (repeat'((first|rw [tq]|rw [eJ]|rw [eI]|rw [eG]|refine goX hg _ (by omega) x0 rfl ?_|refine goX hg _ (by omega) x1 rfl ?_|refine goX hg _ (by omega) x2 rfl ?_|refine uw hg (by decide) ?_);cbv))
   refine fu [] [] ha hf hg aC [(3,.v W),(4,.o 0),(5,.i (0)),(7,.p 1)] [.rw ⟨38,1,es⟩,.bx 38 1 [.view T0]] (by kernel_rfl) (fun B' hb=> ?_) ?_
   ·cbv
    repeat'((first|refine ad hg cS ?_|refine aa hg cS ?_);cbv)
    skip
    exact hb _ _ (Wk.weak (wkG [some _,some _] zr4 ⟨wqE rfl pE,wqE rfl rfl,trivial⟩ (by decide) aq))
   cbv
   refine iu hg (je (aP Tryz.f3) 1) (by kernel_rfl) [(3,.v W),(4,.o 0),(5,.i (0)),(7,.p 1),(9,.i (0))] [.rw ⟨38,1,es⟩,.bx 38 1 [.view T0]] (Wk.weak (wkG [some _,some _] zr5 ⟨wqE rfl pE,wqE rfl rfl,trivial⟩ (by decide) aq)) ?_
   refine Bb hg hp hpp hWa hK pE he fun E hE=> ?_
   cbv
   refine fH hg rfl (by decide) hk ?_
   cbv
   rw [ek,jt hg]
   have hn:es++[[.view E]]=zw ps K.toNat 1:=by rw [h1,hE];rfl
   have hj:aN (es++[[.view E]])=true:=by rw [hn];unfold zw;split<;>(try split)<;>rfl
   skip
   subst hB
   exact⟨(1,es++[[.view E]]),⟨by simp,hn⟩,by simp,Wk.weak (wkG [some _] zr3 ⟨wqE rfl hj,trivial⟩ (by decide) aq)⟩
  ·have cS:=sT (eB [] (by simp) (by simp) (ma ps 1))
   have eS:ma ps 1=ic 2 J I G:=by rw [hJ,hI,hG,hpp];rfl
   obtain⟨T0,he⟩:=nmE (vwA af.ac (jN [] (ma ps 1)))
   obtain⟨I0,hc⟩:=nmE (nv [] (ma ps 1))
   rw [<-he,<-hc,eS]at cS
   have tq:g .q .eql 1 1=true:=by rw [bB hg];rfl
   have ek:g .w .add .i64 1 1=2:=by rw [aJ hg];exact(wr1 (by decide) (by decide))
   clear eS hc
   cbv
   (repeat'(rw [tk];cbv))
   refine fu [] [] ha hf hg aC [(3,.v W),(4,.o 0),(5,.i (1)),(6,.p 1)] [.rw ⟨38,1,es⟩,.bx 34 60 (lc (ah.c mH))] (by kernel_rfl) (fun B' hb=> ?_) ?_
   ·cbv
    repeat'((first|refine ad hg hh ?_|refine aa hg hh ?_);cbv)
    skip
    exact hb _ _ (Wk.weak (wkG [some _,some _] zr4 ⟨wqE rfl pE,wqE rfl rfl,trivial⟩ (by decide) aq))
   cbv
   (repeat'((first|rw [tq]|rw [eJ]|rw [eI]|rw [eG]|refine goX hg _ (by omega) x0 rfl ?_|refine goX hg _ (by omega) x1 rfl ?_|refine goX hg _ (by omega) x2 rfl ?_|refine uw hg (by decide) ?_);cbv))
   refine fu [] [] ha hf hg aC [(3,.v W),(4,.o 0),(5,.i (1)),(7,.p 1)] [.rw ⟨38,1,es⟩,.bx 38 1 [.view T0]] (by kernel_rfl) (fun B' hb=> ?_) ?_
   ·cbv
    repeat'((first|refine ad hg cS ?_|refine aa hg cS ?_);cbv)
    skip
    exact hb _ _ (Wk.weak (wkG [some _,some _] zr4 ⟨wqE rfl pE,wqE rfl rfl,trivial⟩ (by decide) aq))
   cbv
   refine iu hg (je (aP Tryz.f3) 1) (by kernel_rfl) [(3,.v W),(4,.o 0),(5,.i (1)),(7,.p 1),(9,.i (0))] [.rw ⟨38,1,es⟩,.bx 38 1 [.view T0]] (Wk.weak (wkG [some _,some _] zr5 ⟨wqE rfl pE,wqE rfl rfl,trivial⟩ (by decide) aq)) ?_
   refine Ba hg hp hpp hWa hK pE he fun E hE=> ?_
   cbv
   refine fH hg rfl (by decide) hk ?_
   cbv
   rw [ek,jt hg]
   have hn:es++[[.view E]]=zw ps K.toNat 2:=by rw [h1,hE];rfl
   have hj:aN (es++[[.view E]])=true:=by rw [hn];unfold zw;split<;>(try split)<;>rfl
   skip
   subst hB
   exact⟨(2,es++[[.view E]]),⟨by simp,hn⟩,by simp,Wk.weak (wkG [some _] zr3 ⟨wqE rfl hj,trivial⟩ (by decide) aq)⟩
 ·obtain rfl:k=2:=by omega
  have tk:g .q .lss 2 2=false:=by rw [bD hg];rfl
  have hq:=hQ es h1
  cbv
  (repeat'(rw [tk];cbv))
  exact hq
theorem mW(bs:List Int)(hbl:bs.length<=9223372036854775807):PC0 3 [.c (.view (vw qa bs))] (.t (abl true)):=by
 have cg:=ut bs
 by_cases h6:bs.length<=1048576
 case neg=>
  rw [zqu (by omega)]at cg
  obtain⟨V,hV⟩:=nmE (vw qa bs)
  rw [<-hV]at cg⊢
  refine ae (aP Tryz.f3) aC Tryz.func3 fun g F hg hF=> ?_
  cbv
  (first|refine ad hg (cg) ?_|refine aa hg (cg) ?_);cbv
  exact aY hF rfl
 rw [zqt (by omega)]at cg
 have c2:=kF bs h6
 have hE:=fN
 have hG:=fun n=>ix n
 obtain⟨V,hV⟩:=nmE (vw qa bs)
 rw [<-hV]at cg c2⊢
 refine jY ([(8,.hand),(15,.hand),(19,.hand),(28,.hand),(33,.hand),(34,.hand)]) ([]) (c:=aP Tryz.f3) aC Tryz.func3 (by kernel_rfl) (by kernel_rfl) (by rfl) (by kernel_rfl) fun g hQ hd F hx hy hg hF=> ?_
 cbv
 (first|refine ad hg (cg) ?_|refine aa hg (cg) ?_);cbv
 refine p9 hg (ee c2 rfl fun res hP hq=> ?_)
 obtain⟨⟨ps,hO,hp,rfl⟩,rfl⟩:=hq
 obtain⟨W,hW⟩:=nmE (vw aj ps)
 have hb:=fun i hi=>B7 hW hO i hi
 have bd:=fun(i:Nat){m:Int}(hm:0<m)=>gR hp i hm
 rw [<-hW]
 obtain⟨p,he⟩:∃p:Nat->Int,p=plc ps:=⟨_,rfl⟩
 obtain⟨K,hK⟩:∃K:Int,K=1+(p 3).tmod 3:=⟨_,rfl⟩
 have hR:1<=K/\K<=3:=by
  have:=bd 3 (m:=3) (by decide)
  rw [<-he]at this
  omega
 rw [<-he]at hb
 obtain⟨A,hA⟩:=nmE ((p 7).tmod 900)
 obtain⟨B,hB⟩:=nmE ((p 6).tmod 200)
 have b7:=bd 7 (m:=900) (by decide)
 have b6:=bd 6 (m:=200) (by decide)
 rw [<-he]at b7 b6
 rw [<-hA]at b7
 rw [<-hB]at b6
 have x6:W[(6:Int).toNat]? =some [.J (p 6)]:=hb 6 (by decide)
 have x7:W[(7:Int).toNat]? =some [.J (p 7)]:=hb 7 (by decide)
 have r7:g .w .rem .i64 (p 7) 900=A:=by rw [gI hg,hA]
 have r6:g .w .rem .i64 (p 6) 200=B:=by rw [gI hg,hB]
 have hn:K.toNat=1\/K.toNat=2\/K.toNat=3:=by omega
 have hc:=AZ hp hn (A:=A) (B:=B) (by omega) (by omega)
 have s0:=jJ [] (by simp) (by simp) (ma ps 0)
 have s1:=jJ [] (by simp) (by simp) (ma ps 1)
 have t0:=kz (fI ps 0) _ s0.1 s0.2 K.toNat
 have t1:=kz (fI ps 1) _ s1.1 s1.2 K.toNat
 change(fA ps 0 K.toNat).length<=1048576/\∀y∈fA ps 0 K.toNat,af.small y at t0
 change(fA ps 1 K.toNat).length<=1048576/\∀y∈fA ps 1 K.toNat,af.small y at t1
 have cx:=iz _ t0.1 t0.2 1 3 A 3 B false
 have cy:=iz _ t1.1 t1.2 1 3 B 3 A false
 obtain⟨V0,ht⟩:=nmE (vwA af.ac (fA ps 0 K.toNat))
 obtain⟨V1,hu⟩:=nmE (vwA af.ac (fA ps 1 K.toNat))
 obtain⟨bx,hv⟩:=nmE (sbO (fA ps 0 K.toNat) 1 ⟨3,A⟩ ⟨3,B⟩ false)
 obtain⟨hD,hw⟩:=nmE (sbO (fA ps 1 K.toNat) 1 ⟨3,B⟩ ⟨3,A⟩ false)
 rw [<-hv,<-hw]at hc
 rw [<-hv,<-ht]at cx
 rw [<-hw,<-hu]at cy
 obtain⟨l1,l2,l3,l4⟩:=hc
 obtain⟨xw,xh,xb,fr⟩:=bx
 obtain⟨yw,yh,yb,er⟩:=hD
 dsimp only at l1 l2 l3 l4
 subst l2 l3 l4
 obtain⟨FR,ho⟩:=nmE (vw aG.c fr)
 obtain⟨ER,hk⟩:=nmE (vw aG.c (fr.map TR))
 have hr:aD FR=K:=by rw [ho,az,ak,l1];omega
 have hH:aD ER=K:=by rw [hk,az,ak,zql,l1];omega
 have hM:∀z:Int,0<=z->z<K->∃f,fr[z.toNat]? =some f:=fun z z0 z1=>⟨_,zqc (by omega)⟩
 replace cx:PC0 13 [.agg [.view V0],ai 1,agP ⟨3,A⟩,agP ⟨3,B⟩,abl false] (.t (.agg [.J xw,.J xh,.J xb,.view FR])):=by rw [ho];exact cx
 replace cy:PC0 13 [.agg [.view V1],ai 1,agP ⟨3,B⟩,agP ⟨3,A⟩,abl false] (.t (.agg [.J xh,.J xw,.J yb,.view ER])):=by rw [hk];exact cy
 refine⟨[],rfl,?_⟩
 cbv
 refine iu hg (je (aP Tryz.f3) 0) (by kernel_rfl) [(3,.v W),(4,.o 0),(5,.i (0))] [.rw ⟨38,1,[]⟩] (Wk.weak (wkG [some _] zr3 ⟨wqE rfl rfl,trivial⟩ (by decide) aq)) ?_
 refine AY hg hp he hb hK fun es ha=> ?_
 replace ha:es=[[.view V0],[.view V1]]:=by rw [ha,ht,hu];rfl
 have hC:aD es=2:=by rw [ha];rfl
 have hI:es[(0:Int).toNat]? =some [.view V0]:=by rw [ha];rfl
 have hJ:es[(1:Int).toNat]? =some [.view V1]:=by rw [ha];rfl
 have pE:aN es=true:=by rw [ha];rfl
 clear ha ht hu hv hw s0 s1 t0 t1 hn hA hB bd hb hK hE hG
 cbv
 (repeat'((first|rw [r7]|rw [r6]|refine goX hg _ (by omega) x7 rfl ?_|refine goX hg _ (by omega) x6 rfl ?_|refine uw hg (by decide) ?_);cbv))
 refine i8 hg hy aC [0,3,4] (.op 1 [2] (.op 5 [] (.op 6 [] (.op 7 [] .done .none) .none) (.op 6 [] (.op 5 [] (.op 7 [] .done .none) .none) .none)) (.op 6 [] (.op 1 [2] (.op 5 [] (.op 7 [] .done .none) .none) .none) .none)) (by kernel_rfl) (by kernel_rfl) (S:=Unit) (fun _=>True) (fun _=>[(4,.o 0),(12,.p 1),(13,.p 2),(14,.p 3)]) (fun _=>[.rw ⟨38,1,es⟩,.bx 44 2 [.J 3,.J A],.bx 44 2 [.J 3,.J B],.bx 47 4 [.J xw,.J xh,.J xb,.view FR]]) (fun BL hh=> ?_) (fun _ _=> ?_)
 ·cbv
  ((repeat'(first|exact trivial|exact rfl|refine And.intro ?_ ?_|((first|refine ad hg cx ?_|refine aa hg cx ?_);cbv)|(refine goY hg (by decide) (by rw [hC];decide) fun j hj hl=> ?_;(try cbv))|(refine Exists.intro _ (And.intro (by rw [hj];exact hI) ?_);(try cbv)))))
  all_goals
   exact hh () trivial _ _ (Wk.weak (wkG [some 0,some 1,some 2,some 3] zr4 ⟨wqE rfl pE,wqE rfl rfl,wqE rfl rfl,wqE rfl rfl,trivial⟩ (by decide) aq))
 cbv
 refine i8 hg hy aC [0,3,4] (.op 1 [2] (.op 5 [] (.op 6 [] (.op 7 [] .done .none) .none) (.op 6 [] (.op 5 [] (.op 7 [] .done .none) .none) .none)) (.op 6 [] (.op 1 [2] (.op 5 [] (.op 7 [] .done .none) .none) .none) .none)) (by kernel_rfl) (by kernel_rfl) (S:=Unit) (fun _=>True) (fun _=>[(14,.p 0),(15,.p 1)]) (fun _=>[.bx 47 4 [.J xw,.J xh,.J xb,.view FR],.bx 47 4 [.J xh,.J xw,.J yb,.view ER]]) (fun BL hh=> ?_) (fun _ _=> ?_)
 ·cbv
  ((repeat'(first|exact trivial|exact rfl|refine And.intro ?_ ?_|((first|refine ad hg cy ?_|refine aa hg cy ?_);cbv)|(refine goY hg (by decide) (by rw [hC];decide) fun j hj hl=> ?_;(try cbv))|(refine Exists.intro _ (And.intro (by rw [hj];exact hJ) ?_);(try cbv)))))
  all_goals
   exact hh () trivial _ _ (Wk.weak (wkG [some 3,some 4] zr2 ⟨wqE rfl rfl,wqE rfl rfl,trivial⟩ (by decide) aq))
 have q0:g .q .eql (g .ln FR) 0=false:=by rw [bB hg,bH hg,hr];exact zqt (by omega)
 have q1:g .q .neq (g .ln FR) (g .ln ER)=false:=by rw [dF hg,bH hg,bH hg,hr,hH];simp
 have u1:g .q .eql xw xw=true:=by rw [bB hg];simp
 have u2:g .q .eql xh xh=true:=by rw [bB hg];simp
 cbv
 (repeat'((first|rw [q0]|rw [q1]);cbv))
 refine fB [] [] hx hy hg aC (by kernel_rfl) (fun s:Int=>[(14,.p 0),(15,.p 1),(16,.i (s))]) (fun s=>[.bx 47 4 [.J xw,.J xh,.J xb,.view FR],.bx 47 4 [.J xh,.J xw,.J yb,.view ER]]) (fun s=>0<=s/\s<=K) (fun s=>3-s.toNat)
  0 ⟨by simp,by omega⟩ (Wk.weak (wkG [some _,some _] zr3 ⟨wqE rfl rfl,wqE rfl rfl,trivial⟩ (by decide) aq)) (fun z B hs hB=> ?_)
 obtain⟨z0,z1⟩:=hs
 have tz:g .q .lss z (g .ln FR)=decide (z<K):=by rw [bD hg,bH hg,hr]
 by_cases hz:z<K
 ·rw [zqu hz]at tz
  obtain⟨f,hf⟩:=hM z z0 hz
  obtain⟨fn,fx,fy,fw,fh⟩:=f
  have hN:FR[z.toNat]? =some [.J fn,.J fx,.J fy,.J fw,.J fh]:=by rw [ho];exact bu hf
  have hL:ER[z.toNat]? =some [.J fn,.J fy,.J fx,.J fh,.J fw]:=by rw [hk];exact bu (x:=TR ⟨fn,fx,fy,fw,fh⟩) (by rw [zqi,hf];rfl)
  have ez:g .w .add .i64 z 1=z+1:=by rw [aJ hg];exact wr1 (by omega) (by omega)
  cbv
  (repeat'((first|rw [tz]|rw [ez]|refine goX hg _ (by omega) hN rfl ?_|refine goX hg _ (by omega) hL rfl ?_|refine DA hg fn fy fx fh fw fn fy fx fh fw ?_;rw [zqu rfl]);cbv))
  skip
  subst hB
  exact⟨z+1,⟨by omega,by omega⟩,by omega,Wk.weak (wkG [some _,some _] zr3 ⟨wqE rfl rfl,wqE rfl rfl,trivial⟩ (by decide) aq)⟩
 ·rw [zqt hz]at tz
  cbv
  (repeat'((first|rw [tz]|rw [u1]|rw [u2]);cbv))
  exact aY hF rfl
end Go.Proofs.YtbnplcingdgaaaaGreat
