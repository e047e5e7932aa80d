/- A part of AM, a framework of the prover own: functions of any program as maps of data. -/
import Derived.Test.YtckchgoblpgpbaaGreatJ8ae
set_option linter.unusedVariables false
set_option linter.unusedSimpArgs false
namespace Go.Proofs.YtckchgoblpgpbaaGreat.Am
open Go.RowKit
def AC.seal(s:Nat->Option (LLA)):AC->AC
 | .own r=>match s r with|some es=> .view es|none=> .own r
 | .sub r l n=>match s r with|some _=> .dead|none=> .sub r l n
 | .ptr r i o=>match s r with|some _=> .dead|none=> .ptr r i o
 | .clo g rs=>match rs.all fun r=>(s r).isNone with|true=> .clo g rs|false=> .dead
 |c=>c
def AT.seal(s:Nat->Option (LLA)):AT->AT
 | .c x=> .c (x.seal s)
 | .agg xs=> .agg (xs.map (AC.seal s))
def AV.seal(s:Nat->Option (LLA)):AV->AV
 | .t x=> .t (x.seal s)
 | .tup xs=> .tup (xs.map (AT.seal s))
def AB.seal(s:Nat->Option (LLA))(ab:AB):AB:=⟨ab.ty,ab.k,ab.es.map (·.map (AC.seal s))⟩
def AE.seal(s:Nat->Option (LLA))(r:Nat):AE->AE
 | .live ab=>match s r with|some _=> .gone|none=> .live (ab.seal s)
 |e=>e
def oc(s:Nat->Option (LLA)):Nat->AH->AH
 |_,[]=>[]
 |r,e::es=>e.seal s r::oc s (r+1) es
theorem xJ(s:Nat->Option (LLA)):∀(h:AH)(r:Nat),(oc s r h).length=h.length
 | [],_=>rfl
 |e::es,r=>by simp [oc,xJ s es (r+1)]
theorem ka(s:Nat->Option (LLA)):∀(h:AH)(r i:Nat),(oc s r h)[i]? =(h[i]?).map (AE.seal s (r+i))
 | [],_,_=>rfl
 |e::es,r,0=>rfl
 |e::es,r,i+1=>by
  have:=ka s es (r+1) i
  simp only [oc,List.getElem?_cons_succ,this]
  rw [show r+1+i=r+(i+1) by omega]
variable {s:Nat->Option (LLA)}{h:AH}
theorem mM{r:Nat}{ab':AB}(hr:(oc s 0 h)[r]? =some (.live ab')):∃ab,h[r]? =some (.live ab)/\s r=none/\ab'=ab.seal s:=by
 rw [ka,Nat.zero_add,zqj]at hr
 obtain⟨e,he,hs⟩:=hr
 cases e with
 |live ab=>
  simp only [AE.seal]at hs
  split at hs
  ·cases hs
  ·rename_i h0;cases hs;exact⟨ab,he,h0,rfl⟩
 |gone=>cases hs
 |hole=>cases hs
section
variable {P:Program}{F:Nat->Prop}{w w0:World}{m m0:AM}{h h0:AH}{N n0:Nat}{T:Nat->AV}{a:Act}{s:Nat->Option (LLA)}
def yB(F:Nat->Prop)(m:AM)(s:Nat->Option (LLA))(b:Nat):Prop:=F b\/∃(r:Nat)(es:LLA)(c:Nat),s r=some es/\m[r]? =some (some (b,c))
def qi(h:AH)(s:Nat->Option (LLA)):Prop:=∀(r:Nat)(es:LLA),s r=some es->∃ab,h[r]? =some (.live ab)/\ab.es=es/\(∀x∈es,x.length=ab.k)/\∀x∈es,x.all dat=true
theorem RC.dat{c:AC}{v:Value}(hd:dat c=true)(hc:RC F w m h c v):RP F w c v:=by
 cases c<;>first|(unfold RP;exact hc;done)|exact hc|cases hd
theorem RC.sealed{β:BP}(hH:RH F w m h)(hs:qi h s){c:AC}{v:Value}(hc:RC F w m h c v):RC (yB F m s) w m (oc s 0 h) (c.seal s) v:=by
 have hF:∀b,F b->yB F m s b:=fun b hb=> .inl hb
 have gone:∀r:Nat,h[r]? =some .gone->(oc s 0 h)[r]? =some .gone:=fun r hr=>by rw [ka,hr];rfl
 have live:∀(r:Nat)(ab:AB),s r=none->h[r]? =some (.live ab)->(oc s 0 h)[r]? =some (.live (ab.seal s)):=fun r ab h1 hr=>by
  rw [ka,hr];simp only [Option.map_some,AE.seal,Nat.zero_add,h1]
 cases c with
 |imm u=>exact hc
 |view xs=>exact RP.ext hF (fun _ _=>rfl) hc
 |dead=>trivial
 |eptr cs o=>
  obtain⟨b,oo,h1,h2,h3⟩:=hc
  exact⟨b,oo,h1,hF b h2,RPL.ext hF (fun _ _=>rfl) h2 h3⟩
 |own r=>
  cases hsr:s r with
  |none=>
   simp only [AC.seal,hsr]
   rcases hc with hg|⟨ab,h1,h2⟩
   ·exact .inl (gone r hg)
   ·exact .inr ⟨ab.seal s,live r ab hsr h1,by simpa [AB.seal]using h2⟩
  |some es=>
   simp only [AC.seal,hsr]
   obtain⟨ab,hr,rfl,hk,hd⟩:=hs r es hsr
   show RP _ w (.view ab.es) v
   unfold RP
   rcases hc with hg|⟨ab',h1,⟨b,cap,h2,h3⟩|⟨h2,h3,h4⟩⟩
   ·rw [hr]at hg;cases hg
   ·rw [hr]at h1
    cases h1
    obtain⟨_,hh,cur,q1,q2,q3,q4,q5⟩:=hH.get hr hr h2
    have hb:yB F m s b:= .inr ⟨r,_,cap,hsr,h2⟩
    refine⟨some ⟨b,0,none⟩,cap,h3,q3,q4,.inr ⟨b,0,ab.k,rfl,hb,RPE.mk fun i x hx=> ?_⟩⟩
    refine⟨(q5 i x hx).1,RPL.mk fun j d hj=> ?_⟩
    obtain⟨u,hu,ho,hf⟩:=(q5 i x hx).2 j d hj
    have he:=zqf.1 (hd x (zqd hx)) d (zqd hj)
    refine⟨u,?_,ho,RP.ext hF (fun _ _=>rfl) (hf.dat he)⟩
    simp [World.cell?,q1,hu]
   ·rw [hr]at h1
    cases h1
    exact⟨none,0,by rw [h3];exact h4,by omega,by simp,.inl (zqv h3)⟩
 |sub r l k=>
  cases hsr:s r with
  |none=>
   simp only [AC.seal,hsr]
   rcases hc with hg|⟨ab,c,p,h1,h2,h7,h8,h9,h10⟩
   ·exact .inl (gone r hg)
   ·exact .inr ⟨ab.seal s,c,p,live r ab hsr h1,by simpa [AB.seal]using h2,h7,h8,h9,h10⟩
  |some es=>simp only [AC.seal,hsr];trivial
 |ptr r i o=>
  cases hsr:s r with
  |none=>
   simp only [AC.seal,hsr]
   rcases hc with hg|⟨ab,b,cap,h1,h2,h3⟩
   ·exact .inl (gone r hg)
   ·exact .inr ⟨ab.seal s,b,cap,live r ab hsr h1,h2,h3⟩
  |some es=>simp only [AC.seal,hsr];trivial
 |fv bs xs=>exact SP.ext (fun b _ hb=> .inl hb) (fun _ _ _=>rfl) hc
 |old p xs=>exact RP.ext (fun b hb=>⟨.inl hb.1,hb.2⟩) (fun _ _=>rfl) hc
 |clo g rs=>
  cases hsr:rs.all fun r=>(s r).isNone with
  |false=>simp only [AC.seal,hsr];trivial
  |true=>
   simp only [AC.seal,hsr]
   obtain⟨vs,h1,h2,h3⟩:=hc
   refine⟨vs,h1,h2,fun j r hj=> ?_⟩
   obtain⟨u,hu,hr⟩:=h3 j r hj
   have ha:s r=none:=by simpa using zqf.1 hsr r (zqd hj)
   refine⟨u,hu,?_⟩
   rcases hr with hg|⟨ab,b,cap,h4,h5,h6⟩
   ·exact .inl (gone r hg)
   ·exact .inr ⟨ab.seal s,b,cap,live r ab ha h4,h5,h6⟩
theorem RT.sealed{β:BP}(hH:RH F w m h)(hs:qi h s){c:AT}{v:Value}(hc:RT F w m h c v):RT (yB F m s) w m (oc s 0 h) (c.seal s) v:=by
 cases c with
 |c x=>exact RC.sealed hH hs hc
 |agg xs=>
  obtain⟨vs,h1,h2,h3⟩:=hc
  refine⟨vs,h1,by simpa using h2,fun j x hj=> ?_⟩
  simp only [zqi,zqj]at hj
  obtain⟨y,hy,rfl⟩:=hj
  obtain⟨u,hu,ho,hr⟩:=h3 j y hy
  exact⟨u,hu,ho,hr.sealed hH hs⟩
theorem RV.sealed{β:BP}(hH:RH F w m h)(hs:qi h s){c:AV}{v:Value}(hc:RV F w m h c v):RV (yB F m s) w m (oc s 0 h) (c.seal s) v:=by
 cases c with
 |t x=>exact RT.sealed hH hs hc
 |tup xs=>
  obtain⟨vs,h1,h2,h3⟩:=hc
  refine⟨vs,h1,by simpa using h2,fun j x hj=> ?_⟩
  simp only [zqi,zqj]at hj
  obtain⟨y,hy,rfl⟩:=hj
  obtain⟨u,hu,hr⟩:=h3 j y hy
  exact⟨u,hu,hr.sealed hH hs⟩
theorem RH.sealed{β:BP}(hH:RH F w m h)(hs:qi h s):RH (yB F m s) w m (oc s 0 h):=by
 refine⟨fun r ha hr=> ?_,fun r r' ab ha b c c' h1 h2 h3 h4=> ?_,by rw [xJ];exact hH.len,fun b hb=> ?_,hH.lo⟩
 ·obtain⟨ab,h1,h2,rfl⟩:=mM hr
  rcases hH.at_ r ab h1 with⟨h3,h4⟩|⟨b,cap,h3,h4,cur,q1,q2,q3,q4,q5⟩
  ·exact .inl ⟨h3,by simpa [AB.seal]using h4⟩
  ·refine .inr ⟨b,cap,h3,fun hb=> ?_,cur,q1,q2,by simpa [AB.seal]using q3,q4,fun i x hx=> ?_⟩
   ·rcases hb with hb|⟨r',es,c,h5,h6⟩
    ·exact h4 hb
    ·obtain⟨hc,g1,_⟩:=hs r' es h5
     have:=hH.inj r r' ab hc b cap c h1 g1 h3 h6
     subst this
     rw [h2]at h5;cases h5
   ·simp only [AB.seal,zqi,zqj]at hx
    obtain⟨y,hy,rfl⟩:=hx
    refine⟨by rw [zql];exact(q5 i y hy).1,fun j c hj=> ?_⟩
    simp only [zqi,zqj]at hj
    obtain⟨d,hd,rfl⟩:=hj
    obtain⟨u,hu,ho,he⟩:=(q5 i y hy).2 j d hd
    exact⟨u,hu,ho,he.sealed hH hs⟩
 ·obtain⟨a1,g1,_⟩:=mM h1
  obtain⟨a2,g2,_⟩:=mM h2
  exact hH.inj r r' a1 a2 b c c' g1 g2 h3 h4
 ·rcases hb with hb|⟨r,es,c,h1,h2⟩
  ·exact hH.old b hb
  ·obtain⟨ab,g1,_⟩:=hs r es h1
   exact(hH.lt g1 h2).2
theorem Rel.sealed{β:BP}(hs:qi h s)(r:Rel F w0 m0 h0 N T h a w m):fJ F (yB F m s) w0 m0 h0/\Rel (yB F m s) w0 m0 h0 N (fun d=>(T d).seal s) (oc s 0 h) a w m:=by
 refine⟨⟨fun b hb=> .inl hb,fun b hb=> ?_⟩,fun d=>(r.tm d).sealed r.st.hp hs,⟨r.st.hp.sealed hs,fun i=> ?_,r.st.os,r.st.tape,r.st.output,r.st.size,r.st.blk,fun i ab b c h1 h2=> ?_,r.st.szx⟩,r.df,r.sz⟩
 ·rcases hb with hb|⟨i,es,c,h1,h2⟩
  ·exact .inl hb
  ·obtain⟨ab,g1,_⟩:=hs i es h1
   rcases r.st.own i ab b c g1 h2 with h3|h3
   ·exact .inr (.inr h3)
   ·exact .inr (.inl h3)
 ·refine⟨fun hg=> ?_,fun ab hl=> ?_⟩
  ·have:=(r.st.keeps i).1 hg
   rw [ka,this];rfl
  ·rcases(r.st.keeps i).2 ab hl with hg|⟨ab',h1,h2,h3,h4⟩
   ·left;rw [ka,hg];rfl
   ·rw [ka,h1]
    simp only [Option.map_some,AE.seal,Nat.zero_add]
    cases hsi:s i with
    |some es=>exact .inl rfl
    |none=>exact .inr ⟨ab'.seal s,rfl,by simpa [AB.seal]using h2,by simpa [AB.seal]using h3,h4⟩
 ·obtain⟨a1,g1,_⟩:=mM h1
  exact r.st.own i a1 b c g1 h2
def qN [BP](n0 N:Nat)(T:Nat->AV)(h:AH)(l:List (Nat×AV))(h':AH):Prop:=
 ∀(F:Nat->Prop)(w0:World)(m0:AM)(h0:AH)(a:Act)(w:World)(m:AM),h0.length=n0->Rel F w0 m0 h0 N T h a w m->∃F' m',fJ F F' w0 m0 h0/\Rel F' w0 m0 h0 N (lkT l) h' a w m'
variable {l:List (Nat×AV)}
theorem Wk.weak{β:BP}{h':AH}{ρ:List (Option Nat)}(hw:Wk n0 T h l h' ρ):qN n0 N T h l h':=fun F w0 m0 h0 a w m hn r=>⟨F,_,fJ.refl _ _ _ _,r.rn hn hw⟩
theorem bK{β:BP}{h':AH}(s:Nat->Option (LLA))(hs:qi h s)(hw:qN n0 N (fun d=>(T d).seal s) (oc s 0 h) l h'):qN n0 N T h l h':=fun F w0 m0 h0 a w m hn r=>by
 obtain⟨hG,r1⟩:=r.sealed hs
 obtain⟨F',m',ha,r2⟩:=hw _ w0 m0 h0 a w m hn r1
 exact⟨F',m',hG.comp ha,r2⟩
theorem z6{β:BP}{S:Type}{Q:Exit->(Nat->AV)->AH->Prop}{c:Code}(Tf:S->List (Nat×AV))(hf:S->AH)(ok:S->Prop)(μ:S->Nat)(s0:S)(h0:ok s0)(hw:qN n0 N T h (Tf s0) (hf s0))
  (jD:∀s,ok s->VC P n0 N c (He (fun T' h'=>∃s',ok s'/\μ s'<μ s/\qN n0 N T' h' (Tf s') (hf s')) Q) (lkT (Tf s)) (hf s)):VC P n0 N (.loop c) Q T h:=fun F w0 m0 hb a w m hn r=>by
 obtain⟨F0,m1,hc,r0⟩:=hw F w0 m0 hb a w m hn r
 refine wp_loop_ghost (fun k a w=>∃s m F1,μ s=k/\ok s/\fJ F F1 w0 m0 hb/\Rel F1 w0 m0 hb N (lkT (Tf s)) (hf s) a w m) (μ s0) ⟨s0,m1,F0,rfl,h0,hc,r0⟩ ?_
 rintro k a w ⟨s,m,F1,rfl,hok,hG,r⟩
 refine Code.wp_mono (fun e a' w'⟨T',h',m',F2,hq,hG2,r'⟩=> ?_) (jD s hok F1 w0 m0 hb a w m hn r)
 have ha:=hG.comp hG2
 cases e with
 |normal=>
  obtain⟨s',h1,h2,h3⟩:=hq
  obtain⟨F4,m4,hd,r4⟩:=h3 F2 w0 m0 hb a' w' m' hn r'
  exact⟨μ s',h2,s',m4,F4,rfl,h1,ha.comp hd,r4⟩
 |exit id=>exact⟨T',h',m',F2,hq,ha,r'⟩
 |goto l=>exact⟨T',h',m',F2,hq,ha,r'⟩
 |ret=>exact⟨T',h',m',F2,hq,ha,r'⟩
 |panic c=>exact⟨T',h',m',F2,hq,ha,r'⟩
 |outgrown=>exact⟨T',h',m',F2,hq,ha,r'⟩
end
theorem wr1{a:Int}(h0: -9223372036854775808<=a)(h1:a<=9223372036854775807):wrap64 a=a:=by unfold wrap64;omega
section
variable {P:Program}{tab:List (TypeId × TI)}{n0 N:Nat}{g:Gd}{h:EH}{c:Code}{Q:Exit->List (Nat × AV)->EH->Prop}{l:List (Nat × AV)}
theorem jP{β:BP}(hg:g=G0 P n0 N)(hfit:fL P tab){S:Type}(hok:fS N c=true)(Tf:S->List (Nat×AV))(hf:S->EH)(ok:S->Prop)(μ:S->Nat)(s0:S)(h0:ok s0)
  (hw:qN n0 N (lkT l) (toH h) (Tf s0) (toH (hf s0)))
  (hb:∀(s:S)(B:List (Nat×AV)->EH->Prop),ok s->B=(fun l' h'=>∃s',ok s'/\μ s'<μ s/\qN n0 N (lkT l') (toH h') (Tf s') (toH (hf s')))->vV g tab c (fun e l h=>match e with| .normal=>B l h|e=>Q e l h) (Tf s) (hf s)):g .L c Q l h:=by
 subst hg
 refine z6 Tf (fun s=>toH (hf s)) ok μ s0 h0 hw (fun s hs=>fD (fun e T h hq=> ?_) (fM hfit c _ _ _ hok (hb s _ hs rfl)))
 obtain⟨l',eh,rfl,rfl,hq⟩:=hq
 cases e<;>first
  |exact⟨l',eh,rfl,rfl,hq⟩
  |exact hq
abbrev Bk [BP](n0 N:Nat){S:Type}(Tf:S->List (Nat×AV))(hf:S->EH)(B:List (Nat×AV)->EH->Prop)(ok:S->Prop):Prop:=∀(s':S)(l':List (Nat×AV))(h':EH),ok s'->qN n0 N (lkT l') (toH h') (Tf s') (toH (hf s'))->B l' h'
theorem aQ{β:BP}(hg:g=G0 P n0 N)(hfit:fL P tab){α S R:Type}(hok:fS N c=true)(V:LLA)(ac:α->List AC)(xs:List α)(hV:V=xs.map ac)(hl:xs.length<=1048576)
  (Tf:Int->S->List (Nat×AV)) (hf:Int->S->EH) (inv:Int->S->Prop) (go:S->List α->R) (r:R) (s0:S) (h0:go s0 xs=r) (hi0:inv 0 s0)
  (hw:qN n0 N (lkT l) (toH h) (Tf 0 s0) (toH (hf 0 s0)))
  (hexit:∀(z:Int)(s:S)(B:List (Nat×AV)->EH->Prop),z=aN V->go s []=r->inv z s->g .q .lss z (g .ln V)=false->vV g tab c (fun e l h=>match e with| .normal=>B l h|e=>Q e l h) (Tf z s) (hf z s))
  (hbody:∀(z:Int)(s:S)(x:α)(rest:List α)(B:List (Nat×AV)->EH->Prop),0<=z->z<aN V->z<1048576->xs[z.toNat]? =some x->V[z.toNat]? =some (ac x)->go s (x::rest)=r->inv z s->g .q .lss z (g .ln V)=true->g .w .add .i64 z 1=z+1->
   Bk n0 N (Tf (z+1)) (hf (z+1)) B (fun s'=>go s' rest=r/\inv (z+1) s')->
   vV g tab c (fun e l h=>match e with| .normal=>B l h|e=>Q e l h) (Tf z s) (hf z s)):g .L c Q l h:=by
 have hb:aN V=(xs.length:Int):=by rw [hV,ao,zql]
 refine jP hg hfit hok (fun t:Int×S=>Tf t.1 t.2) (fun t=>hf t.1 t.2) (fun t=>0<=t.1/\t.1<=aN V/\go t.2 (xs.drop t.1.toNat)=r/\inv t.1 t.2) (fun t=>(aN V).toNat-t.1.toNat) (0,s0)
  ⟨zpc 0,by simp only;omega,by simpa using h0,hi0⟩ hw (fun t B ht hB=> ?_)
 obtain⟨z,s⟩:=t
 obtain⟨h1,h2,h3,h4⟩:=ht
 simp only at h1 h2 h3 h4
 by_cases hz:z<aN V
 ·have ha:z.toNat<xs.length:=by omega
  have hx:=zqc ha
  have hd:xs.drop z.toNat=xs[z.toNat]::xs.drop (z+1).toNat:=by
   rw [List.drop_eq_getElem_cons ha,show(z+1).toNat=z.toNat+1 by omega]
  rw [hd]at h3
  refine hbody z s _ _ B h1 hz (by omega) hx (by rw [hV,zqi,hx];rfl) h3 h4 (by rw [ba hg,bz hg];exact zqu hz) (by rw [aG hg];exact wr1 (by omega) (by omega)) (fun s' l' h'⟨g1,g2⟩ hwk=> ?_)
  subst hB
  exact⟨(z+1,s'),⟨by simp only;omega,by simp only;omega,g1,g2⟩,by simp only;omega,hwk⟩
 ·obtain rfl:z=aN V:=by omega
  rw [List.drop_of_length_le (by omega)]at h3
  exact hexit _ s B rfl h3 h4 (by rw [ba hg,bz hg];exact zqt (by omega))
theorem E8{β:BP}(hg:g=G0 P n0 N)(hfit:fL P tab){S R:Type}(hok:fS N c=true)(M:Int)(hM0:0<=M)(hM:M<=1048576)
  (Tf:Int->S->List (Nat×AV)) (hf:Int->S->EH) (inv:Int->S->Prop) (go:Nat->S->R) (r:R) (s0:S) (h0:go M.toNat s0=r) (hi0:inv 0 s0)
  (hw:qN n0 N (lkT l) (toH h) (Tf 0 s0) (toH (hf 0 s0)))
  (hexit:∀(s:S)(B:List (Nat×AV)->EH->Prop),go 0 s=r->inv M s->g .q .lss M M=false->vV g tab c (fun e l h=>match e with| .normal=>B l h|e=>Q e l h) (Tf M s) (hf M s))
  (hbody:∀(z:Int)(s:S)(k:Nat)(B:List (Nat×AV)->EH->Prop),0<=z->z<M->(k:Int)+1=M-z->go (k+1) s=r->inv z s->g .q .lss z M=true->g .w .add .i64 z 1=z+1->
   Bk n0 N (Tf (z+1)) (hf (z+1)) B (fun s'=>go k s'=r/\inv (z+1) s')->
   vV g tab c (fun e l h=>match e with| .normal=>B l h|e=>Q e l h) (Tf z s) (hf z s)):g .L c Q l h:=by
 refine jP hg hfit hok (fun t:Int×S=>Tf t.1 t.2) (fun t=>hf t.1 t.2) (fun t=>0<=t.1/\t.1<=M/\go (M-t.1).toNat t.2=r/\inv t.1 t.2) (fun t=>(M-t.1).toNat) (0,s0)
  ⟨zpc 0,hM0,by simpa using h0,hi0⟩ hw (fun t B ht hB=> ?_)
 obtain⟨z,s⟩:=t
 obtain⟨h1,h2,h3,h4⟩:=ht
 simp only at h1 h2 h3 h4
 by_cases hz:z<M
 ·obtain⟨k,hk⟩:∃k:Nat,(M-z).toNat=k+1:=⟨(M-z).toNat-1,by omega⟩
  rw [hk]at h3
  refine hbody z s k B h1 hz (by omega) h3 h4 (by rw [ba hg];exact zqu hz) (by rw [aG hg];exact wr1 (by omega) (by omega)) (fun s' l' h'⟨g1,g2⟩ hwk=> ?_)
  subst hB
  refine⟨(z+1,s'),⟨by simp only;omega,by simp only;omega,?_,g2⟩,by simp only;omega,hwk⟩
  simp only
  rw [show(M-(z+1)).toNat=k by omega]
  exact g1
 ·obtain rfl:z=M:=by omega
  rw [show(z-z).toNat=0 by omega]at h3
  exact hexit s B h3 h4 (by rw [ba hg];exact zqt (by omega))
theorem Dn{β:BP}(hg:g=G0 P n0 N)(hfit:fL P tab){S R:Type}(hok:fS N c=true)
  (Tf:S->List (Nat×AV)) (hf:S->EH) (inv:S->Prop) (go:Nat->S->Option R) (r:R) (k0:Nat) (s0:S) (h0:go k0 s0=some r) (hi0:inv s0)
  (hw:qN n0 N (lkT l) (toH h) (Tf s0) (toH (hf s0)))
  (hbody:∀(s:S)(k:Nat)(B:List (Nat×AV)->EH->Prop),go k s=some r->inv s->(∀(j:Nat)(s':S)(l':List (Nat×AV))(h':EH),j<k->go j s'=some r->inv s'->qN n0 N (lkT l') (toH h') (Tf s') (toH (hf s'))->B l' h')->
   vV g tab c (fun e l h=>match e with| .normal=>B l h|e=>Q e l h) (Tf s) (hf s)):g .L c Q l h:=by
 refine jP hg hfit hok (fun t:Nat×S=>Tf t.2) (fun t=>hf t.2) (fun t=>go t.1 t.2=some r/\inv t.2) (fun t=>t.1) (k0,s0) ⟨h0,hi0⟩ hw (fun t B ht hB=> ?_)
 obtain⟨k,s⟩:=t
 obtain⟨h3,h4⟩:=ht
 refine hbody s k B h3 h4 (fun j s' l' h' hj g1 g2 ha=> ?_)
 subst hB
 exact⟨(j,s'),⟨g1,g2⟩,hj,ha⟩
end
def Iv(ρ0:List (Option Nat))(h' h:AH):List (Option Nat)->AH->Prop
 | [],[]=>True
 |some j::ρ,e::es=>(∃ab ab',h[j]? =some (.live ab)/\e= .live ab'/\ab'.ty=ab.ty/\ab'.k=ab.k/\((ab'.es=ab.es/\ay ab.es=true)\/rnE ρ0 h' ab'.es ab.es))/\Iv ρ0 h' h ρ es
 |none::ρ,e::es=>(∃ab',e= .live ab'/\ab'.es.length=0)/\Iv ρ0 h' h ρ es
 |_,_=>False
theorem vR{ρ0:List (Option Nat)}{h' h:AH}:∀(ρ:List (Option Nat))(es:AH),Iv ρ0 h' h ρ es->ρ.length=es.length
 | [],[],_=>rfl
 |some _::ρ,e::es,hs=>by simp [vR ρ es hs.2]
 |none::ρ,e::es,hs=>by simp [vR ρ es hs.2]
 | [],_::_,hs=>hs.elim
 |some _::_,[],hs=>hs.elim
 |none::_,[],hs=>hs.elim
variable {R:AB->AB->Prop}
theorem wqB{j:Nat}{ab ab':AB}(h1:h[j]? =some (.live ab))(hr:R ab ab')(h2:ab'.ty=ab.ty:=by rfl)(h3:ab'.k=ab.k:=by rfl):∃a b,h[j]? =some (.live a)/\(AE.live ab')= .live b/\b.ty=a.ty/\b.k=a.k/\((b.es=a.es/\ay a.es=true)\/R a b):=⟨ab,ab',h1,rfl,h2,h3,.inr hr⟩
theorem wqE{j:Nat}{ab:AB}(h1:h[j]? =some (.live ab))(hp:ay ab.es=true):∃a b,h[j]? =some (.live a)/\(AE.live ab)= .live b/\b.ty=a.ty/\b.k=a.k/\((b.es=a.es/\ay a.es=true)\/R a b):=⟨ab,ab,h1,rfl,rfl,rfl,.inl ⟨rfl,hp⟩⟩
theorem rH{ρ0:List (Option Nat)}{h' h:AH}:∀(ρ:List (Option Nat))(es:AH),Iv ρ0 h' h ρ es->∀(i j:Nat),ρ[i]? =some (some j)->∃ab,h[j]? =some (.live ab)
 | [],_,_,i,j,hi=>by simp at hi
 |some k::ρ,e::es,hs,0,j,hi=>by
  simp only [zqw,zqy]at hi
  subst hi
  obtain⟨⟨ab,_,h1,_⟩,_⟩:=hs
  exact⟨ab,h1⟩
 |none::ρ,e::es,hs,0,j,hi=>by simp at hi
 |some k::ρ,e::es,hs,i+1,j,hi=>rH ρ es hs.2 i j (by simpa using hi)
 |none::ρ,e::es,hs,i+1,j,hi=>rH ρ es hs.2 i j (by simpa using hi)
 |some _::_,[],hs,_,_,_=>hs.elim
 |none::_,[],hs,_,_,_=>hs.elim
theorem vQ{n0:Nat}{ρ0:List (Option Nat)}{h' h:AH}(hid:∀i,i<n0->ρ0[i]? =some (some i)):∀(ρ:List (Option Nat))(es:AH)(pre:List (Option Nat)),pre++ρ=ρ0->Iv ρ0 h' h ρ es->rnH n0 ρ0 h' h pre.length es
 | [],[],pre,_,_=>trivial
 |some j::ρ,e::es,pre,hp,hs=>by
  obtain⟨⟨ab,hb,h1,rfl,h2,h3,h4⟩,ha⟩:=hs
  have:=vQ hid ρ es (pre++[some j]) (by simpa using hp) ha
  rw [zqe,zqm]at this
  have e1:ρ0[pre.length]? =some (some j):=by rw [<-hp];simp
  unfold rnH
  refine⟨fun hi=> .inr (hid _ hi),?_,this⟩
  simp only [e1,h1]
  exact⟨h2,h3,h4⟩
 |none::ρ,e::es,pre,hp,hs=>by
  obtain⟨⟨hb,rfl,h2⟩,ha⟩:=hs
  have:=vQ hid ρ es (pre++[none]) (by simpa using hp) ha
  rw [zqe,zqm]at this
  have e1:ρ0[pre.length]? =some none:=by rw [<-hp];simp
  unfold rnH
  refine⟨fun hi=> .inr (hid _ hi),?_,this⟩
  simp only [e1]
  exact h2
 | [],_::_,_,_,hs=>hs.elim
 |some _::_,[],_,_,hs=>hs.elim
 |none::_,[],_,_,hs=>hs.elim
theorem wkG{n0:Nat}{T:Nat->AV}{h h':AH}{l':List (Nat×AV)}(ρ:List (Option Nat))(hk:rnK ρ h' T l')(hs:Iv ρ h' h ρ h')(hn:(ρ.filterMap id).Nodup:=by decide)(hid:∀i,i<n0->ρ[i]? =some (some i):=by decide):Wk n0 T h l' h' ρ:=by
 have hl:=vR ρ h' hs
 refine⟨?_,fun i hi hg=> ?_,hn,vQ hid ρ h' [] rfl hs,hk⟩
 ·rcases Nat.eq_zero_or_pos n0 with h0|h0
  ·omega
  ·have:=(zqb.1 (hid (n0-1) (by omega))).1
   omega
 ·obtain⟨ab,h1⟩:=rH ρ h' hs i i (hid i hi)
  rw [h1]at hg;cases hg
theorem aB{p:Nat->Prop}:∀i,i<0->p i:=fun i hi=>absurd hi (zpq _)
def sl1(q:Nat)(es:LLA):Nat->Option (LLA):=fun r=>match Nat.beq r q with|true=>some es|false=>none
theorem jL{q t k:Nat}{es:LLA}(hq:h[q]? =some (.live ⟨t,k,es⟩))(hk:∀x∈es,x.length=k)(hd:∀x∈es,x.all dat=true):qi h (sl1 q es):=fun r ha hr=>by
 unfold sl1 at hr
 split at hr
 ·rename_i hb
  obtain rfl:=Nat.eq_of_beq_eq_true hb
  cases hr
  exact⟨_,hq,rfl,hk,hd⟩
 ·cases hr
theorem uK{c:AC}(hp:dx c=true)(s:Nat->Option (LLA)):c.seal s=c:=by cases c<;>first|rfl|cases hp
theorem bJ{es:LLA}(hp:ay es=true):es=es.map (·.map (AC.seal s))/\ay (es.map (·.map (AC.seal s)))=true:=by
 have e:es.map (·.map (AC.seal s))=es:=by
  refine(zpl fun x hx=> ?_).trans (List.map_id es)
  refine(zpl fun c hc=> ?_).trans (List.map_id x)
  exact uK (zqf.1 (zqf.1 hp x hx) c hc) s
 rw [e]
 exact⟨rfl,hp⟩
theorem zE{F:List AT->EH->Prop}{Post:AV->AH->Prop}{eh:EH}{x:AC}{t0 k0 t1 t2 k1 k2:Nat}{c:List AC}{z r:LLA}(hF:F=lv 3 Post)(h0:nth eh 0=some (.bx t0 k0 c))(h1:nth eh 1=some (.rw ⟨t1,k1,z⟩))(h2:nth eh 2=some (.rw ⟨t2,k2,r⟩))
  (hc:rnL [some 0,some 1,some 2] (toH [.bx t0 k0 c,.rw ⟨t1,k1,z⟩,.rw ⟨t2,k2,r⟩]) c c) (hz:ay z=true) (hr:ay r=true) (hx:dx x=true) (hpost:Post (.t (.c x)) (toH [.bx t0 k0 c,.rw ⟨t1,k1,z⟩,.rw ⟨t2,k2,r⟩])):F [.c x] eh:=by
 subst hF
 exact .inl ⟨.t (.c x),toH [.bx t0 k0 c,.rw ⟨t1,k1,z⟩,.rw ⟨t2,k2,r⟩],[some 0,some 1,some 2],wkG [some 0,some 1,some 2] ⟨iR (x:= .t (.c x)) hx,zpt⟩
  ⟨⟨_,_,uV h0,rfl,rfl,rfl,.inr ⟨hc,zpt⟩⟩,⟨_,_,f9 h1,rfl,rfl,rfl,.inl ⟨rfl,hz⟩⟩,⟨_,_,f9 h2,rfl,rfl,rfl,.inl ⟨rfl,hr⟩⟩,zpt⟩ (by decide) (by decide),hpost⟩
end Go.Proofs.YtckchgoblpgpbaaGreat.Am
