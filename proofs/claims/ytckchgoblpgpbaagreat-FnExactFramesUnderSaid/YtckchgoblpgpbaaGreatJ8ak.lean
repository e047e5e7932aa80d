/- A part of AM, a framework of the prover own: functions of any program as maps of data. -/
import Derived.Test.YtckchgoblpgpbaaGreatJ8aj
set_option linter.unusedVariables false
set_option linter.unusedSimpArgs false
namespace Go.Proofs.YtckchgoblpgpbaaGreat.Am
open Go.RowKit
def uA:Nat->Code->Code
 |n+1,.seq _ y=>uA n y
 |_,c=>c
def J4(ets:ET)(lts:LT)(eff:EF)(hd:HF)(g:Gd)(tab:List (TypeId×TI)):Nat->Code->(Exit->List (Nat×AV)->EH->Prop)->(List (Nat×AV)->EH->Prop)->List (Nat×AV)->EH->Prop
 |0,_,_,B,l,h=>B l h
 |n+1,c,Q,B,l,h=>match c with
  | .seq x y=>jM ets lts eff hd g tab x (fun e l h=>match e with| .normal=>J4 ets lts eff hd g tab n y Q B l h|e=>Q e l h) l h
  |_=>False
section
variable {P:Program}{tab:List (TypeId × TI)}{n0 N:Nat}
theorem qh{ets:ET}{lts:LT}:∀(n:Nat)(c:Code),dh ets lts N c=true->dh ets lts N (uA n c)=true
 |0,c,h=>by unfold uA;exact h
 |n+1,c,h=>by
  cases c with
  |seq x y=>
   simp only [dh,zqs]at h
   unfold uA
   exact qh n y h.2
  |_=>exact h
theorem uM{β:BP}(hf:fL P tab){ets:ET}{lts:LT}{Q:Exit->List (Nat×AV)->EH->Prop}{B:List (Nat×AV)->EH->Prop}:∀(n:Nat)(c:Code)(l:List (Nat×AV))(h:EH),dh ets lts N c=true->
  (∀l h,B l h->VC P n0 N (uA n c) (QE Q) (lkT l) (toH h))->J4 ets lts (Ci P) (hd0 P n0 N) (G0 P n0 N) tab n c Q B l h->VC P n0 N c (QE Q) (lkT l) (toH h)
 |0,c,l,h,_,hB,hp=>by have:=hB l h hp;unfold uA at this;exact this
 |n+1,c,l,h,ho,hB,hp=>by
  unfold J4 at hp
  split at hp
  ·rename_i x y
   simp only [dh,zqs]at ho
   refine zZ (fD (fun e T h hq=> ?_) (dd hf x _ l h ho.1 hp))
   obtain⟨l',eh,rfl,rfl,hq⟩:=hq
   cases e<;>first
    |exact⟨l',eh,rfl,rfl,hq⟩
    |exact uM hf n y l' eh ho.2 (fun l h hb=>by have:=hB l h hb;unfold uA at this;exact this) hq
  ·exact hp.elim
end
def rbT(p:Nat):AT->AT
 | .c x=> .c (HA p x)
 | .agg xs=> .agg (xs.map (HA p))
def rbV(p:Nat):AV->AV
 | .t x=> .t (rbT p x)
 | .tup xs=> .tup (xs.map (rbT p))
def rbB(p:Nat)(ab:AB):AB:=⟨ab.ty,ab.k,ab.es.map (·.map (HA p))⟩
def rbA(p:Nat):AE->AE
 | .live ab=> .live (rbB p ab)
 |e=>e
def rbE(p:Nat):EE->EE
 | .bx t k x=> .bx t k (x.map (HA p))
 | .rw ab=> .rw (rbB p ab)
 | .gn=> .gn
def rbL(p:Nat):List (Nat×AV)->List (Nat×AV)
 | []=>[]
 |(k,v)::l=>(k,rbV p v)::rbL p l
def rbH(p:Nat):EH->EH
 | []=>[]
 |e::h=>rbE p e::rbH p h
theorem yZ(p:Nat):∀h:EH,toH (rbH p h)=(toH h).map (rbA p)
 | []=>rfl
 |e::h=>by
  have:=yZ p h
  simp only [toH,rbH,zqA]at this⊢
  rw [this]
  cases e<;>rfl
theorem Gm(p:Nat):∀(l:List (Nat×AV))(d:Nat),lkT (rbL p l) d=rbV p (lkT l d)
 | [],d=>rfl
 |(k,v)::l,d=>by
  simp only [rbL,lkT]
  by_cases hd:d=k
  ·rw [if_pos hd,if_pos hd]
  ·rw [if_neg hd,if_neg hd];exact Gm p l d
section
variable {P:Program}{F:Nat->Prop}{w:World}{m:AM}{h:AH}{p:Nat}
variable {r:Nat}
theorem qV{ab':AB}(hr:(h.map (rbA p))[r]? =some (.live ab')):∃ab,h[r]? =some (.live ab)/\ab'=rbB p ab:=by
 rw [zqi]at hr
 cases he:h[r]? with
 |none=>rw [he]at hr;cases hr
 |some e=>
  rw [he]at hr
  cases e with
  |live ab=>exact⟨ab,rfl,by simpa [rbA]using hr.symm⟩
  |gone=>cases hr
  |hole=>cases hr
theorem AG{ab:AB}(hr:h[r]? =some (.live ab)):(h.map (rbA p))[r]? =some (.live (rbB p ab)):=by rw [zqi,hr];rfl
theorem qW:(h.map (rbA p))[r]? =some .gone↔h[r]? =some .gone:=by
 rw [zqi]
 cases he:h[r]? with
 |none=>simp
 |some e=>cases e<;>simp [rbA]
theorem RC.reb(hF:∀b,F b->b<p){c:AC}{v:Value}(hc:RC F w m h c v):RC F w m (h.map (rbA p)) (HA p c) v:=by
 have len:∀ab:AB,(rbB p ab).es.length=ab.es.length:=fun ab=>by simp [rbB]
 cases c with
 |imm u=>exact hc
 |view xs=>exact RP.ext (fun b hb=>⟨hb,hF b hb⟩) (fun _ _=>rfl) hc
 |own r=>
  rcases hc with hg|⟨ab,h1,h2⟩
  ·exact .inl (qW.2 hg)
  ·refine .inr ⟨rbB p ab,AG h1,?_⟩
   rw [len];exact h2
 |sub r lo n=>
  rcases hc with hg|⟨ab,c,q,h1,h2,h3,h4,h5,h6⟩
  ·exact .inl (qW.2 hg)
  ·exact .inr ⟨rbB p ab,c,q,AG h1,by rw [len];exact h2,h3,h4,h5,h6⟩
 |ptr r i off=>
  rcases hc with hg|⟨ab,b,cap,h1,h2,h3⟩
  ·exact .inl (qW.2 hg)
  ·exact .inr ⟨rbB p ab,b,cap,AG h1,h2,h3⟩
 |eptr cs off=>exact hc
 |clo g rs=>
  refine RCl.mono (fun r u hu=> ?_) hc
  rcases hu with hg|⟨ab,b,cap,h1,h2,h3⟩
  ·exact .inl (qW.2 hg)
  ·exact .inr ⟨rbB p ab,b,cap,AG h1,h2,h3⟩
 |fv bs xs=>exact hc
 |old q xs=>exact hc
 |dead=>trivial
theorem RT.reb(hF:∀b,F b->b<p){x:AT}{v:Value}(hc:RT F w m h x v):RT F w m (h.map (rbA p)) (rbT p x) v:=by
 cases x with
 |c y=>exact RC.reb hF hc
 |agg xs=>
  obtain⟨vs,h1,h2,h3⟩:=hc
  refine⟨vs,h1,by simp [h2],fun j y hj=> ?_⟩
  rw [zqi]at hj
  cases hx:xs[j]? with
  |none=>rw [hx]at hj;cases hj
  |some z=>
   rw [hx]at hj
   cases hj
   obtain⟨u,hu,ho,hr⟩:=h3 j z hx
   exact⟨u,hu,ho,RC.reb hF hr⟩
theorem RV.reb(hF:∀b,F b->b<p){x:AV}{v:Value}(hc:RV F w m h x v):RV F w m (h.map (rbA p)) (rbV p x) v:=by
 cases x with
 |t y=>exact RT.reb hF hc
 |tup xs=>
  obtain⟨vs,h1,h2,h3⟩:=hc
  refine⟨vs,h1,by simp [h2],fun j y hj=> ?_⟩
  rw [zqi]at hj
  cases hx:xs[j]? with
  |none=>rw [hx]at hj;cases hj
  |some z=>
   rw [hx]at hj
   cases hj
   obtain⟨u,hu,hr⟩:=h3 j z hx
   exact⟨u,hu,RT.reb hF hr⟩
theorem RB.reb(hF:∀b,F b->b<p){b cap:Nat}{ab:AB}(hb:RB F w m h b cap ab):RB F w m (h.map (rbA p)) b cap (rbB p ab):=by
 obtain⟨cur,h1,h2,h3,h4,h5⟩:=hb
 refine⟨cur,h1,h2,by simpa [rbB]using h3,h4,fun i x hx=> ?_⟩
 simp only [rbB,zqi,zqj]at hx
 obtain⟨y,hy,rfl⟩:=hx
 obtain⟨k1,k2⟩:=h5 i y hy
 refine⟨by simpa [rbB]using k1,fun j c hc=> ?_⟩
 rw [zqi]at hc
 cases hx:y[j]? with
 |none=>rw [hx]at hc;cases hc
 |some z=>
  rw [hx]at hc
  cases hc
  obtain⟨u,hu,ho,hr⟩:=k2 j z hx
  exact⟨u,hu,ho,RC.reb hF hr⟩
theorem RH.reb{β:BP}(hH:RH F w m h)(hF:∀b,F b->b<p):RH F w m (h.map (rbA p)):=by
 obtain⟨h1,h2,h3,h4,h5⟩:=hH
 refine⟨fun r ha hr=> ?_,fun r r' ab ha b c c' hr hc hm hb=> ?_,by simpa using h3,h4,h5⟩
 ·obtain⟨ab,hr0,rfl⟩:=qV hr
  rcases h1 r ab hr0 with⟨e1,e2⟩|⟨b,cap,e1,e2,e3⟩
  ·exact .inl ⟨e1,by simpa [rbB]using e2⟩
  ·exact .inr ⟨b,cap,e1,e2,RB.reb hF e3⟩
 ·obtain⟨a1,hr0,-⟩:=qV hr
  obtain⟨a2,hr1,-⟩:=qV hc
  exact h2 r r' a1 a2 b c c' hr0 hr1 hm hb
end
theorem gD.bp{β β':BP}{F:Nat->Prop}{w w':World}{m m':AM}{h h':AH}(hx:∀b,β'.ex b↔β.ex b)(hs: @gD β F w m h w' m' h')(hl:β'.lo<=w'.heap.size): @gD β' F w m h w' m' h':=by
 obtain⟨h1,h2,h3,h4,h5,h6,h7,h8,h9⟩:=hs
 exact⟨h1.bp hl,h2,h3,h4,h5,h6,fun b a1 a2 a3=>h7 b a1 a2 (fun h=>a3 ((hx b).2 h)),h8,h9⟩
theorem CE{P:Program}{N:Nat}{β:BP}{c:Code}{Q:Exit->(Nat->AV)->AH->Prop}{l:List (Nat×AV)}{h:EH}(hv:∀p,β.lo<=p-> @VC ⟨p,β.ex⟩ P 0 N c Q (lkT (rbL p l)) (toH (rbH p h))):VC P 0 N c Q (lkT l) (toH h):=by
 intro F w0 m0 h0 a w m hn r
 obtain rfl:=zqv hn
 have hd:∀(r:Nat)(ab:AB)(b c:Nat),([]:AH)[r]? =some (.live ab)->m0[r]? =some (some (b,c))->False:=fun r ab b c h=>by simp at h
 obtain⟨tm,st,df,sz⟩:=r
 have hF:∀b,F b->b<w.heap.size:=st.hp.old
 have ha:β.lo<=w.heap.size:=st.hp.lo
 have st0: @gD β F w0 m0 [] w m ((toH h).map (rbA w.heap.size)):=by
  obtain⟨h1,h2,h3,h4,h5,h6,h7,h8,h9⟩:=st
  refine⟨h1.reb hF,fun r=>⟨fun h=>by simp at h,fun ab h=>by simp at h⟩,h3,h4,h5,h6,h7,fun r hc b c hr hm=> ?_,h9⟩
  obtain⟨ab,hr0,-⟩:=qV hr
  exact h8 r ab b c hr0 hm
 have r': @Rel ⟨w.heap.size,β.ex⟩ F w0 m0 [] N (lkT (rbL w.heap.size l)) (toH (rbH w.heap.size h)) a w m:=by
  refine @Rel.mk ⟨w.heap.size,β.ex⟩ F w0 m0 [] N _ _ a w m (fun d=> ?_) ?_ df sz
  ·rw [Gm,yZ];exact RV.reb hF (tm d)
  ·rw [yZ];exact gD.bp (β:=β) (fun _=>Iff.rfl) st0 (zpk _)
 refine Code.wp_mono (fun e a' w'⟨T',h',m',F1,hq,hG,r1⟩=> ?_) (hv w.heap.size ha F w0 m0 [] a w m rfl r')
 obtain⟨t1,s1,d1,z1⟩:=r1
 have hb:w.heap.size<=w'.heap.size:= @RH.lo ⟨w.heap.size,β.ex⟩ _ _ _ _ (@gD.hp ⟨w.heap.size,β.ex⟩ _ _ _ _ _ _ _ s1)
 exact⟨T',h',m',F1,hq,hG, @Rel.mk β F1 w0 m0 [] N T' h' a' w' m' t1 (gD.bp (β:=⟨w.heap.size,β.ex⟩) (β':=β) (fun _=>Iff.rfl) s1 (zpb ha hb)) d1 z1⟩
section
variable {P:Program}{tab:List (TypeId × TI)}
theorem HH(k:Nat)(ets:ET)(lts:LT)(Φ:Prop){f:FuncId}{fn:Func}{c:Code}{args:Nat->List AT}(l1:Nat->List (Nat×AV))(h1:Nat->EH)(hfit:fL P tab)(hf:P.funcs[f]? =some fn)(hb:fn.body=some c)(hnm:(fn.name== "runtime.NumGoroutine")=false)(hn:∀lo,Nat.ble (args lo).length fn.ntmps=true)
  (hok:dh ets lts fn.ntmps c=true)
  (hv1:∀(β:BP)(g:Gd)(eff:EF)(hd:HF)(F:List AT->EH->Prop)(B:List (Nat×AV)->EH->Prop),(∀b,BP.lo<=b->BP.ex b)->eff=Ci P->hd=hd0 P 0 fn.ntmps->g=G0 P 0 fn.ntmps->F=(fun xs eh=>xs=[.c (.B true)])->(Φ->∀l' h',qN 0 fn.ntmps (lkT l') (toH h') (l1 β.lo) (toH (h1 β.lo))->B l' h')->J4 ets lts eff hd g tab k c (zF tab fn.results.toList F) B (sV (args β.lo) 0) [])
  (hv2:∀(β:BP)(lo:Nat)(g:Gd)(eff:EF)(hd:HF)(F:List AT->EH->Prop),Φ->lo<=β.lo->(∀b,BP.lo<=b->BP.ex b)->eff=Ci P->hd=hd0 P 0 fn.ntmps->g=G0 P 0 fn.ntmps->F=(fun xs eh=>xs=[.c (.B true)])->jM ets lts eff hd g tab (uA k c) (zF tab fn.results.toList F) (rbL β.lo (l1 lo)) (rbH β.lo (h1 lo)))
  {w:World} {vs:List Value} (hl:vs.length=(args w.heap.size).length) (ha:∀(j:Nat)(x:AT),(args w.heap.size)[j]? =some x->∃v,vs[j]? =some v/\RT (fun b=>b<w.heap.size) w [] [] x v):
  Calls P f vs.toArray w fun e w'=>e= .returned (.bool true)/\Below w.heap.size w w':=by
 let β0:BP:=⟨w.heap.size,fun b=>w.heap.size<=b⟩
 refine Fc (β:=β0) hf hb hnm (bl (hn w.heap.size)) rfl (fun _ h=>h) ?_ hl ha
 have rest:∀l' h',(Φ/\ @qN β0 0 fn.ntmps (lkT l') (toH h') (l1 w.heap.size) (toH (h1 w.heap.size)))-> @VC β0 P 0 fn.ntmps (uA k c) (QE (zF tab fn.results.toList (fun xs eh=>xs=[.c (.B true)]))) (lkT l') (toH h'):=fun l' h'⟨hΦ,hw⟩=>by
  have hg:=CE (β:=β0) (c:=uA k c) (l:=l1 w.heap.size) (h:=h1 w.heap.size) (fun p hp=>dd (β:=⟨p,β0.ex⟩) hfit _ _ _ _ (qh k c hok) (hv2 ⟨p,β0.ex⟩ w.heap.size _ _ _ _ hΦ hp (fun b hb=>zpb hp hb) rfl rfl rfl rfl))
  intro F w0 m0 h0 a w1 m hc r
  obtain⟨F2,m2,he,r2⟩:=hw F w0 m0 h0 a w1 m hc r
  exact Code.wp_mono (fun e a w hm=>kO.grow he hm) (hg F2 w0 m0 h0 a w1 m2 hc r2)
 refine jI (β:=β0) (T':=lkT (sV (args w.heap.size) 0)) (fun d=> ?_) (fD (fun e T h hq=> ?_) (uM (β:=β0) hfit k c _ [] hok rest (hv1 β0 _ _ _ _ _ (fun _ h=>h) rfl rfl rfl rfl (fun hΦ l' h' hw=>⟨hΦ,hw⟩))))
 ·rcases nH (args w.heap.size) 0 d with h1|⟨x,h1,h2,h3⟩
  ·exact .inl h1
  ·refine .inr ?_
   rw [h3]
   simp only [Nat.sub_zero]at h1
   simp only [T0,h1]
 ·obtain⟨l,eh,rfl,rfl,hq⟩:=hq
  cases e<;>first
   |exact hq.elim
   |exact fN hfit _ _ hq
end
section
variable {P:Program}{tab:List (TypeId × TI)}{n0 N:Nat}
end
end Go.Proofs.YtckchgoblpgpbaaGreat.Am
