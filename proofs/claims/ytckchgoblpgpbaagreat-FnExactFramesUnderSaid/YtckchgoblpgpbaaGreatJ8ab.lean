/- A part of AM, a framework of the prover own: functions of any program as maps of data. -/
import Derived.Deep.AppendLies
import Derived.Tactics
import Derived.Test.YtckchgoblpgpbaaGreatJ8aa
set_option linter.unusedVariables false
set_option linter.unusedSimpArgs false
namespace Go.Proofs.YtckchgoblpgpbaaGreat.Am
open Go.RowKit
section
variable {P:Program}{F:Nat->Prop}{w:World}{m:AM}{g h:AH}{n:Nat}{T:Nat->AV}{a:Act}{K:AV->List AB->Prop}
theorem ji(o:Oper)(b:Builtin)(c:Call)(ho:o.op= .call c)(hb:c.callee= .builtin b)(ρ:Operand->Value):
  execOp ρ o=builtin b c.argTypes o.type (c.args.map fun| .const _=>true|_=>false) (c.args.map ρ):=by
 simp only [execOp,ho,resolve,hb]
 rfl
theorem H7{β:BP}(hC:Cp g h)(hT:RTm F w m h T a)(hH:RH F w m h){o:Oper}{c:Call}(ho:o.op= .call c)(hp:pop P T g n (.call c) K):yC P F w m h n (execOp a.eval o) K:=by
 simp only [pop]at hp
 split at hp
 ·rename_i x t hcal harg hty
  rw [ji o _ c ho hcal]
  have e1:c.args.map a.eval= #[a.eval x]:=by rw [<-Array.toArray_toList (xs:=c.args),harg];simp
  have e2:c.argTypes= #[t]:=by rw [<-Array.toArray_toList (xs:=c.argTypes),hty]
  split at hp
  ·rename_i y et he hE
   obtain⟨len,hl,hK⟩:=hp
   obtain⟨p,cap,hv⟩:=E9 hC hH (pv hT he) hl
   obtain⟨e,k,ha⟩:=et
   refine fU hK ?_ (v:= .int .i64 len) rfl
   rw [e1,e2]
   exact gZ (by rw [hv];exact Hq hE _ p len cap)
  ·exact hp.elim
 ·rename_i x y hcal harg
  rw [ji o _ c ho hcal]
  have e1:c.args.map a.eval= #[a.eval x,a.eval y]:=by rw [<-Array.toArray_toList (xs:=c.args),harg];simp
  split at hp
  ·rename_i p q hx hy
   refine fU hp ?_ (v:= .int .i64 (if q<p then q else p)) rfl
   rw [e1,fi hT hx,fi hT hy]
   exact gZ (by simp [Builtin.min_,Builtin.min2])
  ·exact hp.elim
 ·rename_i x y hcal harg
  rw [ji o _ c ho hcal]
  have e1:c.args.map a.eval= #[a.eval x,a.eval y]:=by rw [<-Array.toArray_toList (xs:=c.args),harg];simp
  split at hp
  ·rename_i p q hx hy
   refine fU hp ?_ (v:= .int .i64 (if p<q then q else p)) rfl
   rw [e1,fi hT hx,fi hT hy]
   exact gZ (by simp [Builtin.max_,Builtin.max2])
  ·exact hp.elim
 ·exact hp.elim
theorem FH(hC:Cp g h)(hT:RTm F w m h T a){op:BinOp}{t t':TypeId}{x y:Operand}(hp:pop P T g n (.binOp op t x y t') K):
  yC P F w m h n (do pure (Next.value (<-(do eqGuard op t x y (a.eval x) (a.eval y);binOp op t (a.eval x) (a.eval y))))) K:=by
 simp only [pop]at hp
 split at hp
 ·rename_i k p k' q hx hy
  obtain⟨z,hz,hK⟩:=hp
  refine fU hK (gZ ?_) (v:=z) rfl
  rw [fi hT hx,fi hT hy]
  exact JQ hz t x y
 ·rename_i p q hx hy
  obtain⟨ht,z,hz,hK⟩:=hp
  refine fU hK (gZ ?_) (v:=z) rfl
  rw [fi hT hx,fi hT hy]
  exact Ie hz t ht x y
 ·rename_i xs ys hx hy
  obtain⟨hg,⟨fs,hu⟩,us,vs,r,rfl,rfl,hE,hK⟩:=hp
  obtain⟨hb,h1,h2,h3⟩:=pv hT hx
  obtain⟨hc,h4,h5,h6⟩:=pv hT hy
  have e1:hb=us:=by
   apply List.ext_getElem?
   intro j
   by_cases hj:j<us.length
   ·obtain⟨u,hu,_,hr⟩:=h3 j (.imm us[j]) (by simp [hj])
    rw [hu,zqc hj];exact congrArg some hr
   ·simp only [zql]at h2;rw [zqz (by omega),zqz (by omega)]
  have e2:hc=vs:=by
   apply List.ext_getElem?
   intro j
   by_cases hj:j<vs.length
   ·obtain⟨u,hu,_,hr⟩:=h6 j (.imm vs[j]) (by simp [hj])
    rw [hu,zqc hj];exact congrArg some hr
   ·simp only [zql]at h5;rw [zqz (by omega),zqz (by omega)]
  subst e1
  subst e2
  have ha:=DQ (P:=P) (w:=w) 8 t hb hc r 10000 hE (by omega)
  simp only [tb,hu]at ha
  have hd:=run_eqGuard_agg (P:=P) w op t x y hb.toArray hc.toArray hg
  rw [h1,h4]
  cases op<;>first
   |exact hp.elim
   |exact hK.elim
   |(
    refine fU hK (gZ ?_) (v:= .bool r) rfl
    simp only [Sem.run_bind,hd,Result.andThen_ok,run_eql_struct,ha])
   |(
    refine fU hK (gZ ?_) (v:= .bool (!r)) rfl
    simp only [Sem.run_bind,hd,Result.andThen_ok,run_neq_struct,ha])
 ·exact hp.elim
theorem vl(hT:RTm F w m h T a):∀(l:List Operand)(rs:List Nat),GU T l=some rs->(l.map a.eval).length=rs.length/\∀(j r:Nat),rs[j]? =some r->∃u,(l.map a.eval)[j]? =some u/\RCp m h r u
 | [],rs,hr=>by
  cases hr
  exact⟨rfl,fun j r hj=>by simp at hj⟩
 |x::l,rs,hr=>by
  unfold GU at hr
  split at hr
  ·rename_i r he
   split at hr
   ·rename_i rs' hrs
    cases hr
    obtain⟨e1,e2⟩:=vl hT l rs' hrs
    refine⟨by simp [e1],fun j q hj=> ?_⟩
    cases j with
    |zero=>
     simp only [zqw,zqy]at hj
     subst hj
     refine⟨a.eval x,rfl,?_⟩
     rcases pv hT he with hg|⟨ab,b,cap,h1,h2,h3⟩
     ·exact .inl hg
     ·exact .inr ⟨ab,b,cap,h1,h2,by rw [h3];simp⟩
    |succ j=>exact e2 j q (by simpa using hj)
   ·cases hr
  ·cases hr
theorem rV{β:BP}(o:Oper)(hC:Cp g h)(hT:RTm F w m h T a)(hH:RH F w m h)(hp:pop P T g n o.op K):yC P F w m h n (execOp a.eval o) K:=by
 obtain⟨hf,op,hd,hh,ha,hb⟩:=o
 cases op
 case move x=>exact fU hp rfl (iC hT x)
 case assign x=>exact fU hp rfl (iC hT x)
 case pick c x y=>
  simp only [pop]at hp
  split at hp
  ·rename_i q he
   cases q with
   |true=>exact fU (hp.1 rfl) (by simp [execOp,fi hT he,asBool]) (iC hT x)
   |false=>exact fU (hp.2 rfl) (by simp [execOp,fi hT he,asBool]) (iC hT y)
  ·exact hp.elim
 case alloc t=>
  simp only [pop]at hp
  split at hp
  ·rename_i z k hz hk;exact FI hH hz hk hp.1 hp.2.1 hp.2.2
  ·exact hp.elim
 case box t x=>
  simp only [pop]at hp
  split at hp
  ·rename_i y k he hk;exact JG hC hH (pv hT he) hk hp.1 hp.2.1 hp.2.2
  ·exact hp.elim
 case build t ps=>exact FG hC hT hp
 case buildSlice t l ps=>exact wZ hC hT hH hp
 case load t x=>exact H6 hC hT hH hp
 case binOp op t x y t'=>exact FH hC hT hp
 case unOp op t x=>
  simp only [pop]at hp
  split at hp
  ·rename_i u he
   obtain⟨z,hz,hK⟩:=hp
   refine fU hK (gZ ?_) (v:=z) rfl
   rw [fi hT he];exact II hz
  ·exact hp.elim
 case convert s d x=>exact Cl hC hT hp
 case makeSlice t x y=>exact yn hC hT hH hp
 case slice t x lo hi mx=>
  cases mx with
  |none=>exact FD hC hT hH hp
  |some z=>simp only [pop]at hp
 case fieldAddr t x i=>exact yp hC hT hp
 case field t x i=>exact FE hC hT hp
 case indexAddr t x i=>exact yo hC hT hH hp
 case extract x i=>exact Ck hC hT hp
 case call c=>exact H7 hC hT hH rfl hp
 case nilCheck x=>
  simp only [pop]at hp
  split at hp
  ·rename_i r i off he
   split at hp
   ·rename_i ab hr
    have hv:=pv hT he
    rcases hv with hg|⟨ab',b,cap,h1,h2,h3⟩
    ·exact(hC.gone hr hg).elim
    ·refine fU hp (v:=a.eval x) ?_ (by have:=iC hT x;rwa [he]at this)
     simp [execOp,h3]
   ·exact hp.elim
  ·rename_i cs off he
   have hv:=pv hT he
   obtain⟨b,o,h1,h2,h3⟩:=hv
   refine fU hp (v:=a.eval x) ?_ (by have:=iC hT x;rwa [he]at this)
   simp [execOp,h1]
  ·rename_i f rs he
   have hv:RCl m h f rs (a.eval x):=pv hT he
   obtain⟨vs,h1,h2,h3⟩:=hv
   refine fU hp (v:=a.eval x) ?_ (by have:=iC hT x;rwa [he]at this)
   simp [execOp,h1]
  ·exact hp.elim
 case makeFunc fn first cap=>
  simp only [pop]at hp
  split at hp
  ·rename_i f rs hfst hcl
   have hc:first= #[]:=by cases first;simp_all
   subst hc
   obtain⟨e1,e2⟩:=vl hT cap.toList rs hcl
   refine fU hp (v:= .func (.func f) #[] (cap.map a.eval)) (by simp [execOp,Instr.makeFunc]) ⟨cap.toList.map a.eval,by rw [<-Array.toList_map],e1,e2⟩
  ·exact hp.elim
 all_goals(first|exact False.elim hp|(simp only [pop]at hp))
end
structure dI [BP](F:Nat->Prop)(w:World)(m:AM)(h:AH)(w':World)(m':AM)(h':AH):Prop where
 hp:RH F w' m' h'
 keeps:fW m h m' h'
 os:w'.os=w.os
 tape:w'.tape=w.tape
 output:w'.output=w.output
 size:w.heap.size<=w'.heap.size
 blk:∀b,b<w.heap.size->(∀(r:Nat)(ab:AB)(c:Nat),h[r]? =some (.live ab)->m[r]? ≠some (some (b,c)))->w'.heap[b]? =w.heap[b]?
 own:∀(r:Nat)(ab:AB)(b c:Nat),h'[r]? =some (.live ab)->m'[r]? =some (some (b,c))->(∃(r0:Nat)(ab0:AB)(c0:Nat),h[r0]? =some (.live ab0)/\m[r0]? =some (some (b,c0)))\/w.heap.size<=b
structure gD [BP](F:Nat->Prop)(w:World)(m:AM)(h:AH)(w':World)(m':AM)(h':AH):Prop where
 hp:RH F w' m' h'
 keeps:fW m h m' h'
 os:w'.os=w.os
 tape:w'.tape=w.tape
 output:w'.output=w.output
 size:w.heap.size<=w'.heap.size
 blk:∀b,b<w.heap.size->(∀(r:Nat)(ab:AB)(c:Nat),h[r]? =some (.live ab)->m[r]? ≠some (some (b,c)))->¬BP.ex b->w'.heap[b]? =w.heap[b]?
 own:∀(r:Nat)(ab:AB)(b c:Nat),h'[r]? =some (.live ab)->m'[r]? =some (some (b,c))->(∃(r0:Nat)(ab0:AB)(c0:Nat),h[r0]? =some (.live ab0)/\m[r0]? =some (some (b,c0)))\/w.heap.size<=b
 szx:∀(b:Nat)(cur:Array Value)(ty:TypeId),(∀(r:Nat)(ab:AB)(c:Nat),h[r]? =some (.live ab)->m[r]? ≠some (some (b,c)))->w.heap[b]? =some (.cells cur ty (0,0))->∃cur':Array Value,w'.heap[b]? =some (.cells cur' ty (0,0))/\cur'.size=cur.size
section
variable {F F':Nat->Prop}{w w' w'':World}{m m' m'':AM}{h h' h'':AH}
theorem dI.x{β:BP}(s:dI F w m h w' m' h'):gD F w m h w' m' h':=⟨s.hp,s.keeps,s.os,s.tape,s.output,s.size,fun b h1 h2 _=>s.blk b h1 h2,s.own,fun b cur ty hn hc=>⟨cur,by rw [s.blk b (zpj.1 hc).1 hn];exact hc,rfl⟩⟩
theorem gD.full{β:BP}(hex:∀b,¬BP.ex b)(s:gD F w m h w' m' h'):dI F w m h w' m' h':=⟨s.hp,s.keeps,s.os,s.tape,s.output,s.size,fun b h1 h2=>s.blk b h1 h2 (hex b),s.own⟩
theorem RH.lt{β:BP}(hH:RH F w m h){r:Nat}{ab:AB}{b c:Nat}(h1:h[r]? =some (.live ab))(h2:m[r]? =some (some (b,c))):¬F b/\b<w.heap.size:=by
 obtain⟨_,hF,cur,hc,_⟩:=hH.get h1 h1 h2
 exact⟨hF,(zpj.1 hc).1⟩
theorem dI.refl{β:BP}(hH:RH F w m h):dI F w m h w m h:=⟨hH,fW.refl m h,rfl,rfl,rfl,zpk _,fun _ _ _=>rfl,fun r ab b c h1 h2=> .inl ⟨r,ab,c,h1,h2⟩⟩
theorem fW.trans(k1:fW m h m' h')(k2:fW m' h' m'' h''):fW m h m'' h'':=fun r=>by
 refine⟨fun hg=>(k2 r).1 ((k1 r).1 hg),fun ab hl=> ?_⟩
 rcases(k1 r).2 ab hl with hg|⟨ab',h1,h2,h3,h4⟩
 ·exact .inl ((k2 r).1 hg)
 ·rcases(k2 r).2 ab' h1 with hg|⟨ab'',h5,h6,h7,h8⟩
  ·exact .inl hg
  ·exact .inr ⟨ab'',h5,h6.trans h2,h7.trans h3,h8.trans h4⟩
variable {F1:Nat->Prop}
theorem dI.trans{β:BP}(s1:dI F1 w m h w' m' h')(s2:dI F w' m' h' w'' m'' h''):dI F w m h w'' m'' h'':=by
 refine⟨s2.hp,s1.keeps.trans s2.keeps,s2.os.trans s1.os,s2.tape.trans s1.tape,s2.output.trans s1.output,zpb s1.size s2.size,fun b hb hn=> ?_,fun r ab b c h1 h2=> ?_⟩
 ·rw [s2.blk b (zpu hb s1.size) (fun r ab c h1 h2=> ?_),s1.blk b hb hn]
  rcases s1.own r ab b c h1 h2 with⟨r0,ab0,c0,h3,h4⟩|h3
  ·exact hn r0 ab0 c0 h3 h4
  ·omega
 ·rcases s2.own r ab b c h1 h2 with⟨r0,ab0,c0,h3,h4⟩|h3
  ·exact s1.own r0 ab0 b c0 h3 h4
  ·exact .inr (zpb s1.size h3)
theorem gD.trans{β:BP}(s1:gD F1 w m h w' m' h')(s2:dI F w' m' h' w'' m'' h''):gD F w m h w'' m'' h'':=by
 refine⟨s2.hp,s1.keeps.trans s2.keeps,s2.os.trans s1.os,s2.tape.trans s1.tape,s2.output.trans s1.output,zpb s1.size s2.size,fun b hb hn hx=> ?_,fun r ab b c h1 h2=> ?_,fun b cur ty hn hc=> ?_⟩
 ·rw [s2.blk b (zpu hb s1.size) (fun r ab c h1 h2=> ?_),s1.blk b hb hn hx]
  rcases s1.own r ab b c h1 h2 with⟨r0,ab0,c0,h3,h4⟩|h3
  ·exact hn r0 ab0 c0 h3 h4
  ·omega
 ·rcases s2.own r ab b c h1 h2 with⟨r0,ab0,c0,h3,h4⟩|h3
  ·exact s1.own r0 ab0 b c0 h3 h4
  ·exact .inr (zpb s1.size h3)
 ·obtain⟨ha,h1,h2⟩:=s1.szx b cur ty hn hc
  refine⟨ha,?_,h2⟩
  rw [s2.blk b (zpj.1 h1).1 (fun r ab c h3 h4=> ?_)]
  ·exact h1
  ·rcases s1.own r ab b c h3 h4 with⟨r0,ab0,c0,h5,h6⟩|h5
   ·exact hn r0 ab0 c0 h5 h6
   ·have:=(zpj.1 hc).1;omega
theorem dI.foreign{β:BP}(s:dI F1 w m h w' m' h')(hH:RH F w m h):∀b,F b->w'.heap[b]? =w.heap[b]? :=fun b hb=>
 s.blk b (hH.old b hb) (fun r ab c h1 h2=>(hH.lt h1 h2).1 hb)
theorem RV.step{β:BP}(s:dI F w m h w' m' h')(hH:RH F w m h){x:AV}{v:Value}(hv:RV F w m h x v):RV F w' m' h' x v:=RV.ext (fun _ hb=>hb) (s.foreign hH) s.keeps hv
def fJ(F F':Nat->Prop)(w:World)(m:AM)(h:AH):Prop:=
 (∀b,F b->F' b)/\∀b,F' b->F b\/w.heap.size<=b\/∃(r:Nat)(ab:AB)(c:Nat),h[r]? =some (.live ab)/\m[r]? =some (some (b,c))
theorem fJ.refl(F:Nat->Prop)(w:World)(m:AM)(h:AH):fJ F F w m h:=⟨fun _ h=>h,fun _ h=> .inl h⟩
theorem fJ.trans{β:BP}{F1 F2 F3 Fs:Nat->Prop}(g1:fJ F1 F2 w m h)(s:gD Fs w m h w' m' h')(g2:fJ F2 F3 w' m' h'):fJ F1 F3 w m h:=
 ⟨fun b hb=>g2.1 b (g1.1 b hb),fun b hb=>by
  rcases g2.2 b hb with h1|h1|⟨r,ab,c,h1,h2⟩
  ·exact g1.2 b h1
  ·exact .inr (.inl (zpb s.size h1))
  ·rcases s.own r ab b c h1 h2 with⟨r0,ab0,c0,h3,h4⟩|h3
   ·exact .inr (.inr ⟨r0,ab0,c0,h3,h4⟩)
   ·exact .inr (.inl h3)⟩
theorem RV.stepG{β:BP}(s:dI F' w m h w' m' h')(hF:∀b,F b->F' b)(hH:RH F w m h){x:AV}{v:Value}(hv:RV F w m h x v):RV F' w' m' h' x v:=RV.ext hF (s.foreign hH) s.keeps hv
variable {rows:List AB}
theorem ko{r:Nat}{ab:AB}(h1:(h++rows.map .live)[r]? =some (.live ab)):(r<h.length/\h[r]? =some (.live ab))\/(h.length<=r/\rows[r-h.length]? =some ab):=by
 by_cases hr:r<h.length
 ·rw [zqh hr]at h1;exact .inl ⟨hr,h1⟩
 ·rw [zqg (by omega)]at h1
  simp only [zqi,zqj]at h1
  obtain⟨x,hx,he⟩:=h1
  cases he
  exact .inr ⟨by omega,hx⟩
theorem mi{nb:AM}{rows:List AE}(hl:m.length=h.length):fW m h (m++nb) (h++rows):=fun r=>by
 refine⟨fun hg=> ?_,fun ab hr=> .inr ⟨ab,?_,rfl,rfl,?_⟩⟩
 ·rw [zqh (zqb.1 hg).1];exact hg
 ·rw [zqh (zqb.1 hr).1];exact hr
 ·have:=(zqb.1 hr).1
  rw [zqh (by omega)]
theorem dI.of_out{β:BP}(hH:RH F w m h){res:AV}{v:Value}(ho:Out F w m h h.length res rows v w'):∃m',dI F w m h w' m' (h++rows.map .live)/\RV F w' m' (h++rows.map .live) res v:=by
 obtain⟨hb,nb,hh,ha,hi,he⟩:=ho
 have hn:∀(j:Nat)(ab:AB),rows[j]? =some ab->(h++rows.map .live)[h.length+j]? =some (.live ab)/\(m++nb)[h.length+j]? =nb[j]? :=fun j ab hj=>by
  refine⟨by rw [zqg (by omega)];simp [hj],?_⟩
  rw [zqg (by rw [hH.len];omega),hH.len]
  congr 1
  omega
 have hk:fW m h (m++nb) (h++rows.map .live):=mi hH.len
 obtain⟨hv,hl,hp⟩:=he (m++nb) (h++rows.map .live) hk hn
 have split:∀(r b c:Nat)(ab:AB),(h++rows.map .live)[r]? =some (.live ab)->(m++nb)[r]? =some (some (b,c))->(h[r]? =some (.live ab)/\m[r]? =some (some (b,c)))\/(h.length<=r/\rows[r-h.length]? =some ab/\nb[r-h.length]? =some (some (b,c))):=by
  intro r b c ab h1 h2
  rcases ko h1 with⟨hr,h3⟩|⟨hr,h3⟩
  ·rw [zqh (by rw [hH.len];exact hr)]at h2;exact .inl ⟨h3,h2⟩
  ·rw [zqg (by rw [hH.len];exact hr),hH.len]at h2;exact .inr ⟨hr,h3,h2⟩
 have hc:∀b,F b->w'.heap[b]? =w.heap[b]? :=fun b hf=>hb.block b (hH.old b hf)
 refine⟨m++nb,⟨⟨fun r ab h1=> ?_,fun r r' ab hg b c c' h1 h2 h3 h4=> ?_,by simp [hH.len,hh],fun b hf=>zpu (hH.old b hf) hb.size,zpb hH.lo hb.size⟩,hk,hb.os,hb.tape,hb.output,hb.size,fun b hd _=>hb.block b hd,fun r ab b c h1 h2=> ?_⟩,hv⟩
 ·rcases ko h1 with⟨hr,h3⟩|⟨hr,h3⟩
  ·rcases hH.at_ r ab h3 with⟨h4,h5⟩|⟨b,c,h4,h5,h6⟩
   ·exact .inl ⟨by rw [zqh (by rw [hH.len];exact hr)];exact h4,h5⟩
   ·have hd:=(hH.lt h3 h4).2
    exact .inr ⟨b,c,by rw [zqh (by rw [hH.len];exact hr)];exact h4,h5,RB.ext (fun _ hf=>hf) hc hk (hb.block b hd) h6⟩
  ·have hm:(m++nb)[r]? =nb[r-h.length]? :=by rw [zqg (by rw [hH.len];exact hr),hH.len]
   have hs:r-h.length<nb.length:=by rw [hh];exact(zqb.1 h3).1
   rw [hm]
   cases hq:nb[r-h.length]? with
   |none=>rw [List.getElem?_eq_none_iff]at hq;omega
   |some q=>
    cases q with
    |none=>exact .inl ⟨rfl,hl _ _ h3 hq⟩
    |some bc=>
     obtain⟨b,c⟩:=bc
     refine .inr ⟨b,c,rfl,fun hf=> ?_,hp _ _ _ _ h3 hq⟩
     have:=(ha _ _ _ hq).1
     have:=hH.old b hf
     omega
 ·rcases split r b c ab h1 h3 with⟨h5,h6⟩|⟨h5,h6,h7⟩<;>rcases split r' b c' hg h2 h4 with⟨g5,g6⟩|⟨g5,g6,g7⟩
  ·exact hH.inj r r' ab hg b c c' h5 g5 h6 g6
  ·have:=(hH.lt h5 h6).2;have:=(ha _ _ _ g7).1;omega
  ·have:=(hH.lt g5 g6).2;have:=(ha _ _ _ h7).1;omega
  ·have:=hi _ _ _ _ _ h7 g7;omega
 ·rcases split r b c ab h1 h2 with⟨h5,h6⟩|⟨h5,h6,h7⟩
  ·exact .inl ⟨r,ab,c,h5,h6⟩
  ·exact .inr (ha _ _ _ h7).1
theorem dI.update{β:BP}(hH:RH F w m h){r b cap:Nat}{ab ab':AB}{cur:Array Value}(h1:h[r]? =some (.live ab))(h2:m[r]? =some (some (b,cap)))(hk:ab'.k=ab.k)(ht:ab'.ty=ab.ty)(hl:ab'.es.length=ab.es.length)
  (hs:cur.size=cap*ab.k) (he:∀(i:Nat)(x:List AC),ab'.es[i]? =some x->x.length=ab.k/\∀(j:Nat)(c:AC),x[j]? =some c->∃u,cur[i*ab.k+j]? =some u/\one u=true/\RC F w m h c u):
  dI F w m h (w.setRow b cur) m (h.set r (.live ab')):=by
 obtain⟨_,hF,hi,hw,hD,hy,hz,hp⟩:=hH.get h1 h1 h2
 have hv:b<w.heap.size:=(hH.lt h1 h2).2
 have hB:r<h.length:=(zqb.1 h1).1
 have ha:∀b',b'≠b->(w.setRow b cur).heap[b']? =w.heap[b']? :=fun b' hA=>setRow_other w b b' cur hA
 have hd:∀r',(h.set r (.live ab'))[r']? =if r=r' then some (.live ab')else h[r']? :=fun r'=>by
  rw [List.getElem?_set];split
  ·simp [hB]
  ·rfl
 have hc:fW m h m (h.set r (.live ab')):=fun r'=>by
  rw [hd r']
  refine⟨fun hg=> ?_,fun hb hr=> .inr ?_⟩
  ·rw [if_neg (by rintro rfl;rw [h1]at hg;cases hg)];exact hg
  ·by_cases hrr:r=r'
   ·subst hrr;rw [h1]at hr;cases hr;exact⟨ab',by rw [if_pos rfl],hk,hl,rfl⟩
   ·exact⟨hb,by rw [if_neg hrr];exact hr,rfl,rfl,rfl⟩
 have hh:∀b',F b'->(w.setRow b cur).heap[b']? =w.heap[b']? :=fun b' hf=>ha b' (fun e=>hF (e▸hf))
 refine⟨⟨fun r' hb hr=> ?_,fun r1 r2 hb hq b' c c' e1 e2 e3 e4=> ?_,by simp [hH.len],fun b' hf=>by simpa using hH.old b' hf,by simpa using hH.lo⟩,hc,rfl,rfl,rfl,by simp,fun b' hC hn=>ha b' (fun e=>hn r ab cap h1 (e▸h2)),fun r' hb b' c hr hm=> ?_⟩
 ·rw [hd r']at hr
  by_cases hrr:r=r'
  ·subst hrr
   rw [if_pos rfl]at hr
   cases hr
   refine .inr ⟨b,cap,h2,hF,cur,?_,by rw [hk];exact hs,by rw [hl];exact hy,hz,fun i x hx=> ?_⟩
   ·rw [ht];exact setRow_heap w b hi cur ab.ty _ hw
   ·rw [hk]
    exact⟨(he i x hx).1,fun j c hj=>let⟨u,hu,ho,hr⟩:=(he i x hx).2 j c hj;⟨u,hu,ho,RC.ext (fun _ hf=>hf) hh hc hr⟩⟩
  ·rw [if_neg hrr]at hr
   rcases hH.at_ r' hb hr with h3|⟨b',c,h3,h4,h5⟩
   ·exact .inl h3
   ·exact .inr ⟨b',c,h3,h4,RB.ext (fun _ hf=>hf) hh hc (ha b' (fun e=>hrr (hH.inj r r' ab hb b cap c h1 hr h2 (e▸h3)))) h5⟩
 ·have live:∀(r':Nat)(hb:AB),(h.set r (.live ab'))[r']? =some (.live hb)->∃ab0:AB,h[r']? =some (.live ab0):=by
   intro r' hb hr
   rw [hd r']at hr
   by_cases hrr:r=r'
   ·subst hrr;exact⟨ab,h1⟩
   ·rw [if_neg hrr]at hr;exact⟨hb,hr⟩
  obtain⟨a1,g1⟩:=live r1 hb e1
  obtain⟨a2,g2⟩:=live r2 hq e2
  exact hH.inj r1 r2 a1 a2 b' c c' g1 g2 e3 e4
 ·left
  rw [hd r']at hr
  by_cases hrr:r=r'
  ·subst hrr;exact⟨r,ab,c,h1,hm⟩
  ·rw [if_neg hrr]at hr;exact⟨r',hb,c,hr,hm⟩
def stA(P:Program)(T:Nat->AV)(h:AH)(t:TypeId)(x y:Operand)(K:AH->Prop):Prop:=
 match ev T x,ev T y,jt P t with
 | .t (.c (.ptr r i off)),.t v,some k=>match h[r]? with
  |some (.live ab)=>∃e,ab.es[i]? =some e/\v.cells.length=k/\off+k<=e.length/\v.cells.all (okc h)=true/\K (h.set r (.live ⟨ab.ty,ab.k,ab.es.set i (pe e off v.cells)⟩))
  |_=>False
 |_,_,_=>False
theorem KV{v:Value}(h:one v=true):v.oneCell'=true:=by cases v<;>first|rfl|cases h
variable {P:Program}{T:Nat->AV}{a:Act}
theorem FC{β:BP}(hT:RTm F w m h T a)(hH:RH F w m h){t:TypeId}{x y:Operand}{K:AH->Prop}(hp:stA P T h t x y K):
  ∃h' w',K h'/\(Instr.storeAt t (a.eval x) (a.eval y)).run P w= .ok () w'/\dI F w m h w' m h':=by
 simp only [stA]at hp
 split at hp
 ·rename_i r i off v k hx hy hk
  split at hp
  ·rename_i ab hr
   obtain⟨e,he,hl,hG,ho,hK⟩:=hp
   rcases pv hT hx with hg|⟨ab',b,cap,h1,h2,h3⟩
   ·rw [hr]at hg;cases hg
   ·obtain⟨rfl,hF,cur,hc,hs,hA,hI,ha⟩:=hH.get hr h1 h2
    have hv:=RL.of (Cp.refl h) (pv hT hy) ho
    obtain⟨hE,hw⟩:=ha i e he
    obtain⟨hb,hh,rfl⟩:=xH hk
    have hz:i<ab'.es.length:=(zqb.1 he).1
    have hm:(i+1)*ab'.k<=cap*ab'.k:=zpf _ (by omega)
    rw [Nat.add_mul]at hm
    have hd:(a.eval y).cells.toList.length=hb.size:=by rw [Array.length_toList,hv.1,hl]
    have hn:=run_storeCells_at P b (i*ab'.k+off) ab'.ty (a.eval y).cells.toList 0 cur w hc (by rw [hd];omega) (fun u hu=>by
     obtain⟨j,hj,rfl⟩:=zpi hu
     have hi:j<v.cells.length:=by rw [hl];omega
     obtain⟨u',ht,hB,_⟩:=hv.2 j _ (zqc hi)
     rw [Array.getElem?_eq_getElem (by simpa using hj)]at ht
     cases ht
     exact KV hB)
    refine⟨_,_,hK,?_,dI.update hH hr h2 (cur:=(cur.toList.take (i*ab'.k+off+0)++(a.eval y).cells.toList++cur.toList.drop (i*ab'.k+off+0+(a.eval y).cells.toList.length)).toArray) rfl rfl (by simp) ?_ (fun p x hx=> ?_)⟩
    ·simp [Instr.storeAt,h3,Instr.sureAddr,storeVar,sizeOf,typeInfo,hh,hv.1,hl]
     have hC:(a.eval y).cells.size=hb.size:=by simpa using hd
     simpa [hC]using hn
    ·simp only [List.size_toArray,zqe,List.length_take,List.length_drop,Array.length_toList,hd]
     omega
    ·rw [List.getElem?_set]at hx
     have hf:∀q,((cur.toList.take (i*ab'.k+off+0)++(a.eval y).cells.toList++cur.toList.drop (i*ab'.k+off+0+(a.eval y).cells.toList.length)).toArray)[q]? =
       if i*ab'.k+off<=q/\q<i*ab'.k+off+hb.size then(a.eval y).cells[q-(i*ab'.k+off)]? else cur[q]? :=by
      intro q
      have hD:cur.toList.length=cap*ab'.k:=by simpa using hs
      simp only [List.getElem?_toArray,Nat.add_zero]
      by_cases hq:q<i*ab'.k+off
      ·rw [if_neg (by omega),zqC,zqh (by simp;omega),zpp,if_pos hq];simp
      ·by_cases hq2:q<i*ab'.k+off+hb.size
       ·rw [if_pos (by omega),zqC,zqg (by simp;omega),zqh (by simp only [List.length_take,hd];omega)]
        have:q-(cur.toList.take (i*ab'.k+off)).length=q-(i*ab'.k+off):=by simp only [List.length_take];omega
        rw [this];simp
       ·rw [if_neg (by omega),zqg (by simp only [zqe,List.length_take,hd];omega)]
        simp only [zqe,List.length_take,List.getElem?_drop,hd]
        rw [show i*ab'.k+off+hb.size+(q-(min (i*ab'.k+off) cur.toList.length+hb.size))=q by omega];simp
     by_cases hip:i=p
     ·subst hip
      rw [if_pos rfl,if_pos hz]at hx
      cases hx
      refine⟨by simp [pe];omega,fun j c hj=> ?_⟩
      rw [hf]
      unfold pe at hj
      by_cases hc1:off<=j/\j<off+hb.size
      ·rw [if_pos (by omega),show i*ab'.k+j-(i*ab'.k+off)=j-off by omega]
       refine hv.2 (j-off) c ?_
       rw [zqC,zqg (by simp;omega),zqh (by simp only [List.length_take,hl];omega)]at hj
       rwa [show j-(e.take off).length=j-off by simp only [List.length_take];omega]at hj
      ·rw [if_neg (by omega)]
       refine hw j c ?_
       have hi:j<e.length:=by
        have:=(zqb.1 hj).1
        simp at this;omega
       by_cases hlt:j<off
       ·rw [zqC,zqh (by simp;omega),zpp,if_pos hlt]at hj;exact hj
       ·rw [zqg (by simp only [zqe,List.length_take,hl];omega)]at hj
        simp only [zqe,List.length_take,List.getElem?_drop,hl]at hj
        rwa [show off+hb.size+(j-(min off e.length+hb.size))=j by omega]at hj
     ·rw [if_neg hip]at hx
      obtain⟨g1,g2⟩:=ha p x hx
      refine⟨g1,fun j c hj=> ?_⟩
      have hi:j<x.length:=(zqb.1 hj).1
      rw [hf,if_neg]
      ·exact g2 j c hj
      ·rcases Nat.lt_or_gt_of_ne hip with hlt|hlt
       ·have:(i+1)*ab'.k<=p*ab'.k:=zpf _ hlt
        rw [Nat.add_mul]at this;omega
       ·have:(p+1)*ab'.k<=i*ab'.k:=zpf _ hlt
        rw [Nat.add_mul]at this;omega
  ·exact hp.elim
 ·exact hp.elim
end
section
variable {P:Program}{F:Nat->Prop}{w:World}{m:AM}{h:AH}{T:Nat->AV}{a:Act}
def Hi(h:AH):AC->Option (LLA)
 | .N=>some []
 | .view xs=>some xs
 | .own r=>match h[r]? with|some (.live ab)=>some ab.es|_=>none
 | .sub r lo n=>match h[r]? with|some (.live ab)=>some ((ab.es.drop lo).take n)|_=>none
 |_=>none
def JE(h:AH)(e:TypeId)(k:Nat):AC->Option (LLA×AH)
 | .N=>some ([],h)
 | .own r=>match h[r]? with|some (.live ab)=>if ab.ty=e/\ab.k=k then some (ab.es,h.set r .gone)else none|_=>none
 |_=>none
def apA(P:Program)(T:Nat->AV)(h:AH)(c:Call)(K:AV->AH->Prop):Prop:=
 match c.callee,c.args.toList,c.argTypes.toList with
 | .builtin .append,[s,x],[t,t']=>t=t'/\(match ev T s,ev T x,gB P t with
  | .t (.c y),.t (.c z),some (e,k,by_)=>∃old hb ys z0,JE h e k y=some (old,hb)/\Hi h z=some ys/\(∀x∈ys,x.length=k)/\nh P e=some z0/\z0.length=k/\0<k/\
    (old.length+ys.length)*by_<=140737488355328/\old.length+ys.length<=4611686018427387904/\K (.t (.c (.own h.length))) (hb++[.live ⟨e,k,old++ys⟩])
  |_,_,_=>False)
 |_,_,_=>False
theorem Hh{β:BP}(hH:RH F w m h){z:AC}{v:Value}{ys:LLA}{k:Nat}(hv:RC F w m h z v)(hs:Hi h z=some ys)(hk:∀x∈ys,x.length=k):
  ∃p cap,v= .slice p ys.length cap/\(0<ys.length->∃b o,p=some ⟨b,o,none⟩/\∀(i:Nat)(x:List AC),ys[i]? =some x->∀(j:Nat)(c:AC),x[j]? =some c->∃u,w.cell? ⟨b,o+(i*k+j),none⟩=some u/\one u=true/\RC F w m h c u):=by
 cases z with
 |imm u=>
  have hu:v=u:=hv
  subst hu
  unfold Hi at hs
  split at hs
  ·rename_i heq;cases heq;cases hs;exact⟨_,_,rfl,fun h0=>by simp at h0⟩
  all_goals(first|(rename_i heq;cases heq;done)|cases hs)
 |view xs=>
  have hd:RP F w (.view xs) v:=hv
  unfold RP at hd
  obtain⟨p,cap,rfl,h1,h2,h3⟩:=hd
  cases hs
  refine⟨p,cap,rfl,fun h0=> ?_⟩
  rcases h3 with rfl|⟨b,o,k',rfl,hF,hE⟩
  ·simp at h0
  ·refine⟨b,o,rfl,fun i x hx j c hj=> ?_⟩
   obtain⟨ha,hL⟩:=RPE.get hE hx
   rw [hk x (zqd hx)]at ha
   subst ha
   have:=hL.cells (m:=m) (h:=h) j c hj
   rwa [Nat.add_assoc]at this
 |own r=>
  simp only [Hi]at hs
  split at hs
  ·rename_i ab hr
   cases hs
   rcases hv with hg|⟨ab',h1,⟨b,cap,h2,rfl⟩|⟨h2,h3,rfl⟩⟩
   ·rw [hr]at hg;cases hg
   ·obtain⟨rfl,hF,hB⟩:=hH.get hr h1 h2
    refine⟨_,_,rfl,fun h0=>⟨b,0,rfl,fun i x hx j c hj=> ?_⟩⟩
    have:=hB.cell hx j c hj
    obtain⟨cur,_,_,_,_,h5⟩:=hB
    rw [<-(h5 i x hx).1,hk x (zqd hx)]at this
    simpa using this
   ·rw [hr]at h1;cases h1
    exact⟨none,0,by rw [h3],fun h0=>by omega⟩
  ·cases hs
 |sub r lo nn=>
  simp only [Hi]at hs
  split at hs
  ·rename_i ab hr
   cases hs
   rcases hv with hg|⟨ab',c,p,h1,h3,h8,h9,rfl,h11⟩
   ·rw [hr]at hg;cases hg
   ·rw [hr]at h1
    cases h1
    have hb:((ab.es.drop lo).take nn).length=nn:=by simp;omega
    refine⟨p,c,by rw [hb],fun h0=> ?_⟩
    rw [hb]at h0
    obtain⟨b,cap,h2,rfl⟩:=h11 h0
    obtain⟨_,hF,hB⟩:=hH.get hr hr h2
    refine⟨b,lo*ab.k,rfl,fun i x hx j c hj=> ?_⟩
    have hc:=hk x (zqd hx)
    rw [zpp]at hx
    split at hx
    ·rw [List.getElem?_drop]at hx
     have:=hB.cell hx j c hj
     obtain⟨cur,_,_,_,_,h5⟩:=hB
     have ha:=(h5 _ x hx).1
     rw [hc]at ha
     rw [ha]
     rw [<-ha,Nat.add_mul,Nat.add_assoc,ha]at this
     exact this
    ·cases hx
  ·cases hs
 |ptr r i off=>cases hs
 |eptr cs off=>cases hs
 |clo g rs=>cases hs
 |fv bs xs=>cases hs
 |old p xs=>cases hs
 |dead=>cases hs
theorem Cg{b o k:Nat}{ys:LLA}(hk:∀x∈ys,x.length=k)(hc:∀(i:Nat)(x:List AC),ys[i]? =some x->∀(j:Nat)(c:AC),x[j]? =some c->∃u,w.cell? ⟨b,o+(i*k+j),none⟩=some u/\one u=true/\RC F w m h c u):
  ∃us:List Value,us.length=ys.length*k/\(∀(q:Nat)(u:Value),us[q]? =some u->w.cell? ((⟨b,o,none⟩:Addr).add q)=some u/\one u=true)/\
   ∀(i:Nat)(x:List AC),ys[i]? =some x->∀(j:Nat)(c:AC),x[j]? =some c->∃u,us[i*k+j]? =some u/\one u=true/\RC F w m h c u:=by
 refine⟨(List.range (ys.length*k)).map fun q=>(w.cell? ⟨b,o+q,none⟩).getD undef,by simp,fun q u hq=> ?_,fun i x hx j c hj=> ?_⟩
 ·simp only [zqi,zqj]at hq
  obtain⟨q',ha,rfl⟩:=hq
  have hb:q<ys.length*k:=by have:=(zqb.1 ha).1;simpa using this
  have hg:q'=q:=by
   rw [List.getElem?_range hb]at ha
   exact(Option.some.inj ha).symm
  subst hg
  have he:0<k:=Nat.pos_of_ne_zero fun h0=>by subst h0;simp at hb
  have hi:q'/k<ys.length:=Nat.div_lt_of_lt_mul (by rw [Nat.mul_comm];exact hb)
  have hx:=zqc hi
  have hj:q'%k<(ys[q'/k]).length:=by rw [hk _ (List.getElem_mem hi)];exact Nat.mod_lt _ he
  obtain⟨u,hu,ho,_⟩:=hc _ _ hx _ _ (zqc hj)
  rw [show q'/k*k+q'%k=q' by rw [Nat.mul_comm];exact Nat.div_add_mod q' k]at hu
  rw [pB,hu]
  exact⟨rfl,ho⟩
 ·obtain⟨u,hu,ho,hr⟩:=hc i x hx j c hj
  have hh:j<k:=by rw [<-hk x (zqd hx)];exact(zqb.1 hj).1
  have hd:i<ys.length:=(zqb.1 hx).1
  have hf:i*k+j<ys.length*k:=by
   have:(i+1)*k<=ys.length*k:=zpf _ hd
   rw [Nat.add_mul]at this;omega
  refine⟨u,?_,ho,hr⟩
  rw [zqi,List.getElem?_range hf]
  simp only [Option.map_some,hu,Option.getD_some]
end
section
variable {P:Program}{F:Nat->Prop}{w:World}{m:AM}{h:AH}{T:Nat->AV}{a:Act}
theorem DT{β:BP}(hH:RH F w m h){y:AC}{v:Value}{e:TypeId}{k:Nat}{old:LLA}{hb:AH}(hv:RC F w m h y v)(hd:JE h e k y=some (old,hb)):
  ∃xs:List Value,w.ownsRow 0 e k v old.length xs/\
   (∀(i:Nat)(x:List AC),old[i]? =some x->x.length=k/\∀(j:Nat)(c:AC),x[j]? =some c->∃u,xs[i*k+j]? =some u/\one u=true/\RC F w m h c u)/\
   hb.length=h.length/\(∀(r:Nat)(ab:AB),hb[r]? =some (.live ab)->h[r]? =some (.live ab))/\(∀r:Nat,h[r]? =some .gone->hb[r]? =some .gone)/\
   (∀(r:Nat)(ab:AB),h[r]? =some (.live ab)->hb[r]? =some (.live ab)\/hb[r]? =some .gone)/\
   ∀g,v.ownBlock=some g->(∃(r:Nat)(ab:AB)(c:Nat),h[r]? =some (.live ab)/\m[r]? =some (some (g,c)))/\∀(r:Nat)(ab:AB)(c:Nat),hb[r]? =some (.live ab)->m[r]? =some (some (g,c))->False:=by
 have nil:∀(v:Value),v= .slice none 0 0->∃xs:List Value,w.ownsRow 0 e k v 0 xs/\
   (∀(i:Nat)(x:List AC),([]:LLA)[i]? =some x->x.length=k/\∀(j:Nat)(c:AC),x[j]? =some c->∃u,xs[i*k+j]? =some u/\one u=true/\RC F w m h c u):=by
  rintro v rfl
  exact⟨[],World.ownsRow_nil w 0 e k,fun i x hx=>by simp at hx⟩
 cases y with
 |imm u=>
  have hu:v=u:=hv
  subst hu
  unfold JE at hd
  split at hd
  ·rename_i heq
   cases heq
   cases hd
   obtain⟨xs,h1,h2⟩:=nil _ rfl
   exact⟨xs,h1,h2,rfl,fun r ab hr=>hr,fun r hr=>hr,fun r ab hr=> .inl hr,(fun g hg=>by cases hg)⟩
  all_goals(first|(rename_i heq;cases heq;done)|cases hd)
 |own r=>
  simp only [JE]at hd
  split at hd
  ·rename_i ab hr
   split at hd
   ·rename_i hte
    obtain⟨rfl,rfl⟩:=hte
    cases hd
    have hw:r<h.length:=(zqb.1 hr).1
    have hf:∀r',(h.set r .gone)[r']? =if r=r' then some .gone else h[r']? :=fun r'=>by
     rw [List.getElem?_set];split
     ·simp [hw]
     ·rfl
    have g1:∀(r':Nat)(ha:AB),(h.set r .gone)[r']? =some (.live ha)->h[r']? =some (.live ha):=fun r' ha hx=>by
     rw [hf]at hx;split at hx
     ·cases hx
     ·exact hx
    have g2:∀r':Nat,h[r']? =some .gone->(h.set r .gone)[r']? =some .gone:=fun r' hx=>by
     rw [hf];split
     ·rfl
     ·exact hx
    have g3:∀(r':Nat)(ha:AB),h[r']? =some (.live ha)->(h.set r .gone)[r']? =some (.live ha)\/(h.set r .gone)[r']? =some .gone:=fun r' ha hx=>by
     rw [hf];split
     ·exact .inr rfl
     ·exact .inl hx
    rcases hv with hg|⟨ha,h1,⟨b,cap,h2,rfl⟩|⟨h2,h3,rfl⟩⟩
    ·rw [hr]at hg;cases hg
    ·obtain⟨rfl,hF,cur,hc,hs,hh,hq,he⟩:=hH.get hr h1 h2
     have hp:ha.es.length*ha.k<=cap*ha.k:=zpf _ hh
     refine⟨cur.toList.take (ha.es.length*ha.k),⟨by simp;omega,.inr ⟨b,cap,cur,rfl,zpn _,hc,hh,hq,hs,rfl⟩⟩,fun i x hx=>⟨(he i x hx).1,fun j c hj=> ?_⟩,by simp,g1,g2,g3,fun g hg=> ?_⟩
     ·obtain⟨u,hu,ho,ht⟩:=(he i x hx).2 j c hj
      have hm:i<ha.es.length:=(zqb.1 hx).1
      have hy:j<ha.k:=by rw [<-(he i x hx).1];exact(zqb.1 hj).1
      have:(i+1)*ha.k<=ha.es.length*ha.k:=zpf _ hm
      rw [Nat.add_mul]at this
      exact⟨u,by rw [zpp,if_pos (by omega)];simpa using hu,ho,ht⟩
     ·have hl:b=g:=by simpa [Value.ownBlock]using hg
      subst hl
      refine⟨⟨r,ha,cap,hr,h2⟩,fun r' hi c hx hn=> ?_⟩
      rw [hf]at hx
      split at hx
      ·cases hx
      ·rename_i hne
       exact hne (hH.inj r r' ha hi b cap c hr hx h2 hn)
    ·rw [hr]at h1
     cases h1
     have hk:ab.es=[]:=zqv h3
     obtain⟨xs,q1,q2⟩:=nil _ rfl
     exact⟨xs,by rw [h3];exact q1,by rw [hk];intro i x hx;simp at hx,by simp,g1,g2,g3,fun g hg=>by cases hg⟩
   ·cases hd
  ·cases hd
 |view xs=>cases hd
 |sub r lo nn=>cases hd
 |ptr r i off=>cases hd
 |eptr cs off=>cases hd
 |clo g rs=>cases hd
 |fv bs xs=>cases hd
 |old p xs=>cases hd
 |dead=>cases hd
theorem DU{β:BP}(hT:RTm F w m h T a)(hH:RH F w m h){o:Oper}{c:Call}{K:AV->AH->Prop}(ho:o.op= .call c)(hp:apA P T h c K):
  ∃res h' v w' m',K res h'/\(execOp a.eval o).run P w= .ok (.value v) w'/\dI F w m h w' m' h'/\RV F w' m' h' res v:=by
 simp only [apA]at hp
 split at hp
 ·rename_i s x t t' hcal harg hty
  obtain⟨rfl,hp⟩:=hp
  rw [ji o _ c ho hcal]
  have e1:c.args.map a.eval= #[a.eval s,a.eval x]:=by rw [<-Array.toArray_toList (xs:=c.args),harg];simp
  have e2:c.argTypes= #[t,t]:=by rw [<-Array.toArray_toList (xs:=c.argTypes),hty]
  rw [e1,e2]
  split at hp
  ·rename_i y z e k by_ hs hx hE
   obtain⟨old,hb,ys,z0,hd,xa,xb,xp,xc,xi,hJ,xk,hK⟩:=hp
   obtain⟨hu,hk,hD,rfl,rfl⟩:=jU hE
   obtain⟨xr,zv,hF,xq,rfl⟩:=iP xp
   rw [hD]at hF
   cases hF
   obtain⟨xs,hz,hR,hI,hh,hP,hV,hw⟩:=DT hH (pv hT hs) hd
   obtain⟨p,cap,xg,xm⟩:=Hh hH (pv hT hx) xa xb
   obtain⟨us,v',w',xv,hN,hZ,hS,ha,hL⟩:∃us v' w',us.length=ys.length*hk.size/\
     (∀(i:Nat)(x:List AC),ys[i]? =some x->∀(j:Nat)(c:AC),x[j]? =some c->∃u,us[i*hk.size+j]? =some u/\one u=true/\RC F w m h c u)/\
     (Builtin.append_ #[t,t] o.type #[a.eval s,a.eval x]).run P w= .ok v' w'/\w'.ownsRow 0 e hk.size v' (old.length+ys.length) (xs++us)/\w.grownBy w' (a.eval s).ownBlock/\
     ∀g,v'.ownBlock=some g->(a.eval s).ownBlock=some g\/w.heap.size<=g:=by
    by_cases hm:0<ys.length
    ·obtain⟨b,oo,rfl,hc⟩:=xm hm
     obtain⟨us,h1,h2,h3⟩:=Cg xb hc
     obtain⟨g,hB,w',hr,q1,q2,q3,q4⟩:=run_append_lies (P:=P) (w:=w) t o.type 0 e hk zv hk.size hk.bytes hu hD xq rfl rfl (by simpa using xc) xi (a.eval s) old.length xs hz
      ⟨b,oo,none⟩ ys.length cap us h1 (fun j u hj=>(h2 j u hj).1) (fun u hA=>by obtain⟨j,hj,rfl⟩:=zpi hA;exact KV (h2 j _ (zqc hj)).2) hm (by simp only [maxLen];omega) hJ (zpn _) _ rfl
     refine⟨us,_,w',h1,h3,by rw [xg];exact hr,q1,q2,fun g' xh=> ?_⟩
     have:g=g':=by simpa [Value.ownBlock]using xh
     subst this
     rcases q3 with q3|q3
     ·exact .inl q3
     ·exact .inr (by omega)
    ·have xn:ys.length=0:=by omega
     have xo:ys=[]:=zqv xn
     subst xo
     refine⟨[],a.eval s,w,by simp,fun i x hx=>by simp at hx,?_,by simpa using hz,⟨rfl,rfl,rfl,zpk _,fun _ _ _=>rfl⟩,fun g hg=> .inl hg⟩
     rw [xg]
     rcases hz.2 with⟨hv0,h0⟩|⟨g,hB,cur,hv0,_,_,hnc,_⟩
     ·rw [hv0]
      cases p<;>simp [Builtin.append_,run_underlying hu,sizeOf,typeInfo,hD,Builtin.lenOf,Builtin.firstCells,loadCells,loadCellsFrom]
     ·rw [hv0]
      cases p<;>simp [Builtin.append_,run_underlying hu,sizeOf,typeInfo,hD,Builtin.lenOf,Builtin.firstCells,loadCells,loadCellsFrom,hnc,storeCells]
   have xt:=hH.len
   have J9:∀(q:Option (Nat×Nat))(ab:AB),fW m h (m++[q]) (hb++[.live ab]):=fun q ab r=>by
    refine⟨fun hg=> ?_,fun hW hl=> ?_⟩
    ·rw [zqh (by rw [hI];exact(zqb.1 hg).1)];exact hP r hg
    ·have hM:=(zqb.1 hl).1
     rw [zqh (by rw [hI];exact hM),zqh (by rw [hH.len];exact hM)]
     rcases hV r hW hl with h1|h1
     ·exact .inr ⟨hW,h1,rfl,rfl,rfl⟩
     ·exact .inl h1
   have hO:∀b,F b->w'.heap[b]? =w.heap[b]? :=fun b hf=>ha.block b (hH.old b hf) (fun he=>by
    obtain⟨⟨r,ab,c,h1,h2⟩,_⟩:=hw b he.symm
    exact(hH.lt h1 h2).1 hf)
   have hy:∀(i:Nat)(x:List AC),(old++ys)[i]? =some x->x.length=hk.size/\∀(j:Nat)(c:AC),x[j]? =some c->∃u,(xs++us)[i*hk.size+j]? =some u/\one u=true/\RC F w m h c u:=by
    intro i x hx
    by_cases hi:i<old.length
    ·rw [zqh hi]at hx
     refine⟨(hR i x hx).1,fun j c hj=> ?_⟩
     obtain⟨u,hA,hQ,hU⟩:=(hR i x hx).2 j c hj
     exact⟨u,by rw [zqh (zqb.1 hA).1];exact hA,hQ,hU⟩
    ·rw [zqg (by omega)]at hx
     refine⟨xb x (zqd hx),fun j c hj=> ?_⟩
     obtain⟨u,hA,hQ,hU⟩:=hN _ x hx j c hj
     refine⟨u,?_,hQ,hU⟩
     have xu:old.length*hk.size<=i*hk.size:=zpf _ (by omega)
     rw [zqg (by rw [hz.1];omega),hz.1]
     have:i*hk.size+j-old.length*hk.size=(i-old.length)*hk.size+j:=by rw [Nat.sub_mul];omega
     rw [this]
     exact hA
   obtain⟨q,xe,hY,xl⟩:∃q:Option (Nat×Nat),(q=none->(old++ys).length=0)/\(∀b c,q=some (b,c)->v'.ownBlock=some b/\∃cur,w'.heap[b]? =some (.cells cur e (0,0))/\cur.size=c*hk.size/\(old++ys).length<=c/\c<=maxLen/\cur.toList.take ((old++ys).length*hk.size)=xs++us)/\
     ((∃b c,q=some (b,c)/\v'= .slice (some ⟨b,0,none⟩) (old++ys).length c)\/(q=none/\v'= .slice none 0 0)):=by
    rcases hS.2 with⟨hv0,h0⟩|⟨g,hB,cur,hv0,_,hg,hnc,hcm,hcs,htk⟩
    ·exact⟨none,(fun _=>by simpa using h0),(fun b c hG=>by cases hG),.inr ⟨rfl,hv0⟩⟩
    ·refine⟨some (g,hB),(fun hG=>by cases hG),(fun b c hG=> ?_),.inl ⟨g,hB,rfl,by rw [hv0];simp⟩⟩
     cases hG
     exact⟨by rw [hv0];rfl,cur,hg,hcs,by simpa using hnc,hcm,by simpa using htk⟩
   have ht:∀(r b c:Nat)(ab:AB),hb[r]? =some (.live ab)->m[r]? =some (some (b,c))->b<w.heap.size/\some b≠(a.eval s).ownBlock:=fun r b c ab h1 h2=>
    ⟨(hH.lt (hh r ab h1) h2).2,fun he=>(hw b he.symm).2 r ab c h1 h2⟩
   have xf:∀b c,q=some (b,c)->∀(r c':Nat)(ab:AB),hb[r]? =some (.live ab)->m[r]? =some (some (b,c'))->False:=fun b c hG r c' ab h1 h2=>by
    obtain⟨h3,h4⟩:=ht r b c' ab h1 h2
    rcases hL b (hY b c hG).1 with h5|h5
    ·exact h4 h5.symm
    ·omega
   have hC:∀(r:Nat)(ab:AB),(hb++[AE.live ⟨e,hk.size,old++ys⟩])[r]? =some (.live ab)->(r<h.length/\hb[r]? =some (.live ab)/\(m++[q])[r]? =m[r]?)\/(r=h.length/\ab=⟨e,hk.size,old++ys⟩/\(m++[q])[r]? =some q):=fun r ab hr=>by
    by_cases hM:r<h.length
    ·rw [zqh (by rw [hI];exact hM)]at hr
     exact .inl ⟨hM,hr,zqh (by rw [hH.len];exact hM)⟩
    ·rw [zqg (by rw [hI];omega),hI]at hr
     have h0:r-h.length=0:=by
      have:=(zqb.1 hr).1
      simp at this;omega
     have:r=h.length:=by omega
     subst this
     simp at hr
     exact .inr ⟨rfl,hr.symm,by rw [zqg (by rw [hH.len];omega),hH.len];simp⟩
   refine⟨_,_,v',w',m++[q],hK,gZ hZ,⟨⟨fun r ab hr=> ?_,fun r r' ab hX b c c' h1 h2 h3 h4=> ?_,by simp [hH.len,hI],fun b hf=>zpu (hH.old b hf) ha.size,zpb hH.lo ha.size⟩,J9 q _,ha.os,ha.tape,ha.output,ha.size,fun b xj hn=>ha.block b xj (fun he=> ?_),fun r ab b c h1 h2=> ?_⟩,.inr ⟨_,by rw [zqg (by omega),hI];simp;rfl,?_⟩⟩
   ·rcases hC r ab hr with⟨hM,h1,h2⟩|⟨rfl,rfl,h2⟩
    ·rw [h2]
     rcases hH.at_ r ab (hh r ab h1)with h3|⟨b,c,h3,h4,h5⟩
     ·exact .inl h3
     ·exact .inr ⟨b,c,h3,h4,RB.ext (fun _ hf=>hf) hO (J9 q _) (ha.block b (ht r b c ab h1 h3).1 (ht r b c ab h1 h3).2) h5⟩
    ·rw [h2]
     cases hqq:q with
     |none=>exact .inl ⟨rfl,xe hqq⟩
     |some bc=>
      obtain⟨b,c⟩:=bc
      obtain⟨g1,cur,g2,g3,g4,g5,g6⟩:=hY b c hqq
      refine .inr ⟨b,c,rfl,fun hf=> ?_,cur,g2,g3,g4,g5,fun i x hx=>⟨(hy i x hx).1,fun j cc hj=> ?_⟩⟩
      ·rcases hL b g1 with h5|h5
       ·obtain⟨⟨r,ab,c0,h6,h7⟩,_⟩:=hw b h5
        exact(hH.lt h6 h7).1 hf
       ·have:=hH.old b hf;omega
      ·obtain⟨u,hA,hQ,hU⟩:=(hy i x hx).2 j cc hj
       refine⟨u,?_,hQ,RC.ext (fun _ hf=>hf) hO (J9 _ _) hU⟩
       rw [<-g6,zpp]at hA
       split at hA
       ·simpa using hA
       ·cases hA
   ·rcases hC r ab h1 with⟨_,h5,h6⟩|⟨rfl,rfl,h6⟩<;>rcases hC r' hX h2 with⟨_,g5,g6⟩|⟨rfl,rfl,g6⟩
    ·rw [h6]at h3;rw [g6]at h4
     exact hH.inj r r' ab hX b c c' (hh _ _ h5) (hh _ _ g5) h3 h4
    ·rw [h6]at h3;rw [g6]at h4
     exact(xf b c' (Option.some.inj h4) r c ab h5 h3).elim
    ·rw [h6]at h3;rw [g6]at h4
     exact(xf b c (Option.some.inj h3) r' c' hX g5 h4).elim
    ·rfl
   ·obtain⟨⟨r,ab,c,h1,h2⟩,_⟩:=hw b he.symm
    exact hn r ab c h1 h2
   ·rcases hC r ab h1 with⟨_,h5,h6⟩|⟨rfl,rfl,h6⟩
    ·rw [h6]at h2
     exact .inl ⟨r,ab,c,hh r ab h5,h2⟩
    ·rw [h6]at h2
     rcases hL b (hY b c (Option.some.inj h2)).1 with h7|h7
     ·obtain⟨⟨r0,hW,c0,h8,h9⟩,_⟩:=hw b h7
      exact .inl ⟨r0,hW,c0,h8,h9⟩
     ·exact .inr h7
   ·have xd:(m++[q])[h.length]? =some q:=by rw [zqg (by rw [hH.len];omega),hH.len];simp
    rcases xl with⟨b,c,hq,hv⟩|⟨hq,hv⟩
    ·exact .inl ⟨b,c,by rw [xd,hq],hv⟩
    ·exact .inr ⟨by rw [xd,hq],xe hq,hv⟩
  ·exact hp.elim
 ·exact hp.elim
end
def lr(P:Program)(f:FuncId):Bool:=match P.funcs[f]? with|some fn=> !(fn.name== "runtime.NumGoroutine")&&fn.body.isSome|none=>false
def Con [BP](P:Program)(f:FuncId)(h:AH)(args:List AT)(Post:AV->AH->Prop):Prop:=lr P f=true/\
 ∀(F:Nat->Prop)(w:World)(m:AM)(vs:List Value),RH F w m h->vs.length=args.length->(∀(j:Nat)(x:AT),args[j]? =some x->∃v,vs[j]? =some v/\RT F w m h x v)->
  Calls P f vs.toArray w fun e w'=>∃v res h' m' F',e= .returned v/\Post res h'/\fJ F F' w m h/\dI F' w m h w' m' h'/\RV F' w' m' h' res v
def bS(P:Program)(f:FuncId)(args:List AT)(Post:AV->List AB->Prop):Prop:= @Con bp0 P f [] args fun res h'=>∃rows,h'=rows.map .live/\Post res rows
theorem Con.mono{β:BP}{P:Program}{f:FuncId}{h:AH}{args:List AT}{Post Post':AV->AH->Prop}(hc:Con P f h args Post)(hi:∀res h',Post res h'->Post' res h'):Con P f h args Post':=
 ⟨hc.1,fun F w m vs hH hl ha=>(hc.2 F w m vs hH hl ha).mono fun e w'⟨v,res,h',m',F',he,hp,hG,hs,hv⟩=>⟨v,res,h',m',F',he,hi _ _ hp,hG,hs,hv⟩⟩
def AC.shift(n:Nat):AC->AC
 | .own r=> .own (n+r)
 | .sub r lo k=> .sub (n+r) lo k
 | .ptr r i o=> .ptr (n+r) i o
 | .clo g rs=> .clo g (rs.map fun r=>n+r)
 |c=>c
def AT.shift(n:Nat):AT->AT
 | .c x=> .c (x.shift n)
 | .agg xs=> .agg (xs.map (AC.shift n))
def AV.shift(n:Nat):AV->AV
 | .t x=> .t (x.shift n)
 | .tup xs=> .tup (xs.map (AT.shift n))
def AB.shift(n:Nat)(ab:AB):AB:=⟨ab.ty,ab.k,ab.es.map (·.map (AC.shift n))⟩
def AC.fresh:AC->Bool
 | .view _| .eptr _ _| .fv _ _| .old _ _=>false
 |_=>true
def AT.fresh:AT->Bool
 | .c x=>x.fresh
 | .agg xs=>xs.all AC.fresh
def AV.fresh:AV->Bool
 | .t x=>x.fresh
 | .tup xs=>xs.all AT.fresh
def AB.fresh(ab:AB):Bool:=ab.es.all (·.all AC.fresh)
section
variable {F F':Nat->Prop}{w:World}{m m':AM}{h h':AH}{n:Nat}
theorem RC.shift(hp:∀(j:Nat)(e:AE),h[j]? =some e->∃ab,e= .live ab/\∃ha,h'[n+j]? =some (.live ha)/\ha.k=ab.k/\ha.es.length=ab.es.length/\m'[n+j]? =m[j]?){c:AC}{v:Value}(hf:c.fresh=true\/∀b,F b->F' b)
  (hc:RC F w m h c v):RC F' w m' h' (c.shift n) v:=by
 cases c with
 |imm u=>exact hc
 |view xs=>
  rcases hf with hf|hf
  ·cases hf
  ·exact RP.ext hf (fun _ _=>rfl) hc
 |own r=>
  rcases hc with hg|⟨ab,h1,h2⟩
  ·obtain⟨ab,he,_⟩:=hp r _ hg;cases he
  ·obtain⟨hd,he,ha,h3,h4,h5,h6⟩:=hp r _ h1
   cases he
   exact .inr ⟨ha,h3,by rw [h6,h5];exact h2⟩
 |sub r lo k=>
  rcases hc with hg|⟨ab,c,p,h1,h2,h7,h8,h9,h10⟩
  ·obtain⟨ab,he,_⟩:=hp r _ hg;cases he
  ·obtain⟨hd,he,ha,h3,h4,h5,h6⟩:=hp r _ h1
   cases he
   exact .inr ⟨ha,c,p,h3,by rw [h5];exact h2,h7,h8,h9,by rw [h6,h4];exact h10⟩
 |ptr r i o=>
  rcases hc with hg|⟨ab,b,cap,h1,h2,h7⟩
  ·obtain⟨ab,he,_⟩:=hp r _ hg;cases he
  ·obtain⟨hd,he,ha,h3,h4,h5,h6⟩:=hp r _ h1
   cases he
   exact .inr ⟨ha,b,cap,h3,by rw [h6];exact h2,by rw [h4];exact h7⟩
 |eptr cs o=>
  rcases hf with hf|hf
  ·cases hf
  ·obtain⟨b,oo,h1,h2,h3⟩:=hc
   exact⟨b,oo,h1,hf b h2,RPL.ext hf (fun _ _=>rfl) h2 h3⟩
 |clo g rs=>
  exact RCl.map (fun r u hr=>by
   rcases hr with hg|⟨ab,b,cap,h1,h2,h7⟩
   ·obtain⟨ab,he,_⟩:=hp r _ hg;cases he
   ·obtain⟨hd,he,ha,h3,h4,h5,h6⟩:=hp r _ h1
    exact .inr ⟨ha,b,cap,h3,by rw [h6];exact h2,h7⟩) hc
 |fv bs xs=>
  rcases hf with hf|hf
  ·cases hf
  ·exact SP.ext (fun b _=>hf b) (fun _ _ _=>rfl) hc
 |old p xs=>
  rcases hf with hf|hf
  ·cases hf
  ·exact RP.ext (fun b hb=>⟨hf b hb.1,hb.2⟩) (fun _ _=>rfl) hc
 |dead=>trivial
theorem RT.shift(hp:∀(j:Nat)(e:AE),h[j]? =some e->∃ab,e= .live ab/\∃ab',h'[n+j]? =some (.live ab')/\ab'.k=ab.k/\ab'.es.length=ab.es.length/\m'[n+j]? =m[j]?){c:AT}{v:Value}(hf:c.fresh=true\/∀b,F b->F' b)
  (hc:RT F w m h c v):RT F' w m' h' (c.shift n) v:=by
 cases c with
 |c x=>exact RC.shift hp hf hc
 |agg xs=>
  obtain⟨vs,h1,h2,h3⟩:=hc
  refine⟨vs,h1,by simpa using h2,fun j x hj=> ?_⟩
  simp only [zqi,zqj]at hj
  obtain⟨y,hy,rfl⟩:=hj
  obtain⟨u,hu,ho,hr⟩:=h3 j y hy
  exact⟨u,hu,ho,RC.shift hp (hf.imp (fun hx=>zqf.1 hx y (zqd hy)) id) hr⟩
theorem RV.shift(hp:∀(j:Nat)(e:AE),h[j]? =some e->∃ab,e= .live ab/\∃ab',h'[n+j]? =some (.live ab')/\ab'.k=ab.k/\ab'.es.length=ab.es.length/\m'[n+j]? =m[j]?){c:AV}{v:Value}(hf:c.fresh=true\/∀b,F b->F' b)
  (hc:RV F w m h c v):RV F' w m' h' (c.shift n) v:=by
 cases c with
 |t x=>exact RT.shift hp hf hc
 |tup xs=>
  obtain⟨vs,h1,h2,h3⟩:=hc
  refine⟨vs,h1,by simpa using h2,fun j x hj=> ?_⟩
  simp only [zqi,zqj]at hj
  obtain⟨y,hy,rfl⟩:=hj
  obtain⟨u,hu,hr⟩:=h3 j y hy
  exact⟨u,hu,RT.shift hp (hf.imp (fun hx=>zqf.1 hx y (zqd hy)) id) hr⟩
end
inductive qj(h:AH):AC->AC->Prop
 |imm (u:Value):qj h (.imm u) (.imm u)
 |view (xs:LLA):qj h (.view xs) (.view xs)
 |fv (bs:List Nat) (xs:LLA):qj h (.fv bs xs) (.view xs)
 |old (p:Nat) (xs:LLA):qj h (.old p xs) (.view xs)
 |row (c:AC) (xs ys:LLA) (k:Nat) (hs:(∃r ab,c= .own r/\h[r]? =some (.live ab)/\ab.es=xs/\ab.k=k)\/∃r lo n ab,c= .sub r lo n/\h[r]? =some (.live ab)/\(ab.es.drop lo).take n=xs/\ab.k=k) (hl:xs.length=ys.length)
   (hx:∀(i:Nat)(x:List AC),xs[i]? =some x->x.length=k) (hy:∀(i:Nat)(y:List AC),ys[i]? =some y->y.length=k)
   (he:∀(i:Nat)(x y:List AC),xs[i]? =some x->ys[i]? =some y->∀(j:Nat)(c d:AC),x[j]? =some c->y[j]? =some d->qj h c d):qj h c (.view ys)
def s7(F:Nat->Prop)(m:AM)(h:AH)(b:Nat):Prop:=F b\/∃(r:Nat)(ab:AB)(c:Nat),h[r]? =some (.live ab)/\m[r]? =some (some (b,c))
section
variable {F:Nat->Prop}{w:World}{m:AM}{h:AH}
theorem RPL.mk{b:Nat}:∀{cs:List AC}{o:Nat},(∀(j:Nat)(c:AC),cs[j]? =some c->∃u,w.cell? ⟨b,o+j,none⟩=some u/\one u=true/\RP F w c u)->RPL F w b o cs
 | [],o,h=>by unfold RPL;trivial
 |c::cs,o,h=>by
  unfold RPL
  exact⟨by simpa using h 0 c rfl,RPL.mk (fun j d hj=>by have:=h (j+1) d (by simpa using hj);rwa [show o+(j+1)=o+1+j by omega]at this)⟩
theorem RPE.mk{b k:Nat}:∀{xs:LLA}{o:Nat},(∀(i:Nat)(x:List AC),xs[i]? =some x->x.length=k/\RPL F w b (o+i*k) x)->RPE F w b k o xs
 | [],o,h=>by unfold RPE;trivial
 |x::xs,o,h=>by
  unfold RPE
  obtain⟨h1,h2⟩:=h 0 x rfl
  exact⟨h1,by simpa using h2,RPE.mk (fun i y hi=>by have:=h (i+1) y (by simpa using hi);rwa [show o+(i+1)*k=o+k+i*k by rw [Nat.add_mul];omega]at this)⟩
theorem qj.sound{β:BP}{g:AH}(hC:Cp g h)(hH:RH F w m h){c d:AC}(hr:qj g c d):∀{v:Value},RC F w m h c v->RP (s7 F m h) w d v:=by
 induction hr with
 |imm u=>intro v hv;exact hv
 |view xs=>intro v hv;exact RP.ext (fun _ hb=> .inl hb) (fun _ _=>rfl) hv
 |fv bs xs=>intro v hv;exact RP.ext (fun _ hb=> .inl hb) (fun _ _=>rfl) (SP.rp hv)
 |old p xs=>intro v hv;exact RP.ext (fun _ hb=> .inl hb.1) (fun _ _=>rfl) hv
 |row c xs ys k hs hl hxk hyk he ih=>
  intro v hv
  unfold RP
  have ha:∀(b o:Nat)(hF:s7 F m h b),(∀(i:Nat)(x:List AC),xs[i]? =some x->∀(j:Nat)(c:AC),x[j]? =some c->∃u,w.cell? ⟨b,o+(i*k+j),none⟩=some u/\one u=true/\RC F w m h c u)->RPE (s7 F m h) w b k o ys:=by
   intro b o hF hc
   refine RPE.mk (fun i y hy=> ?_)
   have hi:i<xs.length:=by rw [hl];exact(zqb.1 hy).1
   have hx:=zqc hi
   have h1:=hyk i y hy
   have h2:=hxk i _ hx
   refine⟨h1,RPL.mk (fun j d hj=> ?_)⟩
   have hk:j<(xs[i]).length:=by rw [h2,<-h1];exact(zqb.1 hj).1
   have hf:=zqc hk
   obtain⟨u,hu,ho,hr⟩:=hc i _ hx j _ hf
   exact⟨u,by rw [Nat.add_assoc];exact hu,ho,ih i _ y hx hy j _ d hf hj hr⟩
  rcases hs with⟨r,ab,rfl,hr,rfl,rfl⟩|⟨r,lo,nn,ab,rfl,hr,rfl,rfl⟩
  ·rcases hv with hg|⟨ab',h1,⟨b,cap,h2,rfl⟩|⟨h2,h3,rfl⟩⟩
   ·exact(hC.gone hr hg).elim
   ·obtain rfl:=hC.live hr h1
    obtain⟨_,hF,hB⟩:=hH.get h1 h1 h2
    have hh:=hB
    obtain⟨cur,_,_,hn,hm,_⟩:=hh
    refine⟨_,cap,by rw [hl],by omega,hm,?_⟩
    right
    exact⟨b,0,ab'.k,rfl,.inr ⟨r,ab',cap,h1,h2⟩,ha b 0 (.inr ⟨r,ab',cap,h1,h2⟩) (fun i x hx j c hj=>by simpa using hB.cell hx j c hj)⟩
   ·obtain rfl:=hC.live hr h1
    have:ys=[]:=zqv (by omega)
    subst this
    exact⟨none,0,rfl,by simp,by simp,.inl rfl⟩
  ·rcases hv with hg|⟨ab',c,p,h1,h3,h8,h9,rfl,h11⟩
   ·exact(hC.gone hr hg).elim
   ·obtain rfl:=hC.live hr h1
    have hd:ys.length=nn:=by rw [<-hl];simp;omega
    refine⟨p,c,by rw [hd],by omega,h9,?_⟩
    rcases Nat.eq_zero_or_pos nn with h0|h0
    ·left;exact zqv (by omega)
    ·right
     obtain⟨b,cap,h2,rfl⟩:=h11 h0
     obtain⟨_,hF,hB⟩:=hH.get h1 h1 h2
     refine⟨b,lo*ab'.k,ab'.k,rfl,.inr ⟨r,ab',cap,h1,h2⟩,ha b _ (.inr ⟨r,ab',cap,h1,h2⟩) (fun i x hx j c hj=> ?_)⟩
     rw [zpp]at hx
     split at hx
     ·rw [List.getElem?_drop]at hx
      have:=hB.cell hx j c hj
      rw [Nat.add_mul,Nat.add_assoc]at this
      exact this
     ·cases hx
end
section
variable {P:Program}{F:Nat->Prop}{w:World}{m:AM}{g h:AH}{n:Nat}{T:Nat->AV}{a:Act}
def Yl(P:Program)(o:Oper)(a:Act)(w:World)(R:Value->World->Prop):Prop:=
 match (execOp a.eval o).run P w with
 | .ok (.value v) w'=>R v w'
 | .ok .skip w'=>R undef w'
 | .ok (.enter f args) w'=>Calls P f args w' fun e w''=>∃v,e= .returned v/\R v w''
 |_=>False
variable {R:Value->World->Prop}
theorem Yl.wp{o:Oper}{K:Act->World->Prop}{Q:Exit->Act->World->Prop}(hy:Yl P o a w R)(hk:∀v w',R v w'->K (a.put o.dst v) w'):o.wp P a w K Q:=by
 unfold Yl at hy
 unfold Oper.wp
 split at hy
 ·rename_i v w' hr;rw [hr];exact hk _ _ hy
 ·rename_i w' hr;rw [hr];exact hk _ _ hy
 ·rename_i f args w' hr
  rw [hr]
  exact hy.mono fun e w''⟨v,he,hv⟩=>by subst he;exact hk _ _ hv
 ·exact hy.elim
theorem Yl.value{o:Oper}{v:Value}{w':World}(hr:(execOp a.eval o).run P w= .ok (.value v) w')(h:R v w'):Yl P o a w R:=by
 unfold Yl;rw [hr];exact h
theorem Yl.skip{o:Oper}{w':World}(hr:(execOp a.eval o).run P w= .ok .skip w')(h:R undef w'):Yl P o a w R:=by
 unfold Yl;rw [hr];exact h
theorem od{o:Oper}{c:Call}{f:FuncId}(ho:o.op= .call c)(hc:c.callee= .value (.func f))(hf:lr P f=true):(execOp a.eval o).run P w= .ok (.enter f (c.args.map a.eval)) w:=by
 unfold lr at hf
 split at hf
 ·rename_i fn hfn
  simp only [zqs,Bool.not_eq_true',Option.isSome_iff_ne_none,ne_eq]at hf
  have hb:fn.body.isNone=false:=by cases hx:fn.body with
   |none=>exact absurd hx (by simpa using hf.2)
   |some _=>rfl
  simp [execOp,ho,resolve,hc,Act.eval,Deferred.ofValue,invoke,callFunc,hfn,hb]
  rw [if_neg (by simpa using hf.1),if_neg hf.2]
 ·cases hf
theorem xL{o:Oper}{c:Call}{x:Operand}{f:FuncId}{vs:Array Value}(ho:o.op= .call c)(hc:c.callee= .value x)(hx:a.eval x= .func (.func f) #[] vs)(hf:lr P f=true):(execOp a.eval o).run P w= .ok (.enter f (c.args.map a.eval++vs)) w:=by
 unfold lr at hf
 split at hf
 ·rename_i fn hfn
  simp only [zqs,Bool.not_eq_true',Option.isSome_iff_ne_none,ne_eq]at hf
  have hb:fn.body.isNone=false:=by cases hx:fn.body with
   |none=>exact absurd hx (by simpa using hf.2)
   |some _=>rfl
  simp [execOp,ho,resolve,hc,hx,Deferred.ofValue,invoke,callFunc,hfn,hb]
  rw [if_neg (by simpa using hf.1),if_neg hf.2]
 ·cases hf
theorem iO(hT:RTm F w m h T a){xs:List Operand}{args:List AT}(ha:xs.map (ev T)=args.map .t):
  (xs.map a.eval).length=args.length/\∀(j:Nat)(x:AT),args[j]? =some x->∃v,(xs.map a.eval)[j]? =some v/\RT F w m h x v:=by
 have hl:xs.length=args.length:=by have:=congrArg List.length ha;simpa using this
 refine⟨by simpa using hl,fun j x hj=> ?_⟩
 have hb:j<xs.length:=by rw [hl];exact(zqb.1 hj).1
 have h1:=congrArg (·[j]?) ha
 simp only [zqi,zqc hb,hj,Option.map_some,zqy]at h1
 exact⟨a.eval xs[j],by simp [hb],pv hT h1⟩
def opA [BP](P:Program)(T:Nat->AV)(h:AH)(o:Op)(K:AV->AH->Prop):Prop:=
 match o with
 | .store t x y=>stA P T h t x y (fun h'=>K (.t (.c (.imm undef))) h')
 | .call c=>match c.callee with
  | .builtin .append=>apA P T h c K
  | .value (.func f)=>∃args:List AT,c.args.toList.map (ev T)=args.map .t/\Con P f h args K
  | .value (.tmp t)=>(match T t with
   | .t (.c (.clo f rs))=>∃args:List AT,c.args.toList.map (ev T)=args.map .t/\Con P f h (args++rs.map fun r=> .c (.ptr r 0 0)) K
   |_=>False)
  |_=>pop P T h h.length (.call c) (fun res rows=>K res (h++rows.map .live))
 |o=>pop P T h h.length o (fun res rows=>K res (h++rows.map .live))
variable {K:AV->AH->Prop}
theorem AK{β:BP}(hH:RH F w m h)(hT:RTm F w m h T a){o:Oper}(hp:pop P T h h.length o.op (fun res ha=>K res (h++ha.map .live))):
  Yl P o a w fun v w'=>∃res h' m' F',K res h'/\fJ F F' w m h/\dI F' w m h w' m' h'/\RV F' w' m' h' res v:=by
 obtain⟨res,ha,hK,v,w',hr,ho⟩:=rV o (Cp.refl h) hT hH hp
 obtain⟨m',hs,hv⟩:=dI.of_out hH ho
 exact Yl.value hr ⟨res,_,m',F,hK,fJ.refl _ _ _ _,hs,hv⟩
theorem l9{β:BP}(hH:RH F w m h)(hT:RTm F w m h T a){o:Oper}(hp:opA P T h o.op K):
  Yl P o a w fun v w'=>∃res h' m' F',K res h'/\fJ F F' w m h/\dI F' w m h w' m' h'/\RV F' w' m' h' res v:=by
 unfold opA at hp
 split at hp
 ·rename_i t x y hop
  obtain⟨h',w',hK,hr,hs⟩:=FC hT hH hp
  refine Yl.skip (w':=w') ?_ ⟨_,h',m,F,hK,fJ.refl _ _ _ _,hs,rfl⟩
  simp [execOp,hop,hr]
 ·rename_i c hop
  split at hp
  ·obtain⟨res,h',v,w',m',hK,hr,hs,hv⟩:=DU hT hH hop hp
   exact Yl.value hr ⟨res,h',m',F,hK,fJ.refl _ _ _ _,hs,hv⟩
  ·rename_i f hc
   obtain⟨args,ha,hb⟩:=hp
   obtain⟨hl,hx⟩:=iO hT ha
   unfold Yl
   rw [od hop hc hb.1]
   have:=hb.2 F w m (c.args.toList.map a.eval) hH hl hx
   have e:(c.args.toList.map a.eval).toArray=c.args.map a.eval:=by rw [<-Array.toList_map]
   rw [e]at this
   exact this.mono fun e w''⟨v,res,h',m',F',he,hK,hG,hs,hv⟩=>⟨v,he,res,h',m',F',hK,hG,hs,hv⟩
  ·rename_i t hc
   split at hp
   ·rename_i f rs ht
    obtain⟨args,ha,hb⟩:=hp
    obtain⟨hl,hx⟩:=iO hT ha
    obtain⟨vs,h1,h2,h3⟩:RCl m h f rs (a.eval (.tmp t)):=pv hT (show ev T (.tmp t)=_ from ht)
    unfold Yl
    rw [xL hop hc h1 hb.1]
    have:=hb.2 F w m (c.args.toList.map a.eval++vs) hH (by simp [h2,<-hl]) (fun j x hj=>by
     rw [List.getElem?_append]at hj⊢
     rw [hl]
     split at hj
     ·rw [if_pos (by assumption)];exact hx j x hj
     ·rw [if_neg (by assumption)]
      simp only [zqi,zqj]at hj
      obtain⟨r,hr,rfl⟩:=hj
      obtain⟨u,hu,hd⟩:=h3 _ r hr
      refine⟨u,hu,?_⟩
      rcases hd with hg|⟨ab,b,cap,g1,g2,g3⟩
      ·exact .inl hg
      ·exact .inr ⟨ab,b,cap,g1,g2,by rw [g3];simp⟩)
    have e:(c.args.toList.map a.eval++vs).toArray=c.args.map a.eval++vs.toArray:=by
     rw [<-List.append_toArray,<-Array.toList_map]
    rw [e]at this
    exact this.mono fun e w''⟨v,res,h',m',F',he,hK,hG,hs,hv⟩=>⟨v,he,res,h',m',F',hK,hG,hs,hv⟩
   ·exact hp.elim
  ·exact AK hH hT (by rw [hop];exact hp)
 ·exact AK hH hT hp
inductive Ec(h:AH):AC->AC->Prop
 |c {c d:AC}:qj h c d->Ec h c d
 |ptr (r i off:Nat) (ab:AB) (xs cs:List AC) (hr:h[r]? =some (.live ab)) (hx:ab.es[i]? =some xs) (hl:xs.length=cs.length) (he:∀(j:Nat)(c d:AC),xs[j]? =some c->cs[j]? =some d->qj h c d):Ec h (.ptr r i off) (.eptr cs off)
end
def dw:AC->AC->Prop
 | .fv bs xs,d=>d= .view xs\/d= .fv bs xs
 | .old _ xs,d=>d= .view xs
 | .imm u,d=>d= .imm u
 | .view xs,d=>d= .view xs
 | .eptr cs o,d=>d= .eptr cs o
 |_,_=>False
def dwL:List AC->List AC->Prop
 | [],[]=>True
 |c::xs,d::ys=>dw c d/\dwL xs ys
 |_,_=>False
def dwT:AT->AT->Prop
 | .c c,.c d=>dw c d
 | .agg a,.agg b=>dwL a b
 |_,_=>False
def dwA:List AT->List AT->Prop
 | [],[]=>True
 |x::xs,y::ys=>dwT x y/\dwA xs ys
 |_,_=>False
theorem zH{c:AC}(hp:(match c with| .imm _| .view _| .eptr _ _| .fv _ _=>true|_=>false)=true):dw c c:=by
 cases c<;>first|exact rfl|exact .inr rfl|cases hp
def K2(c:AC):Bool:=match c with| .imm _| .view _| .eptr _ _| .fv _ _=>true|_=>false
def zJ:List AT->Bool
 | []=>true
 |x::xs=>x.cells.all K2&&zJ xs
theorem wX:∀{xs:List AC},xs.all K2=true->dwL xs xs
 | [],_=>trivial
 |c::xs,hp=>by
  simp only [zqD,zqs]at hp
  exact⟨zH hp.1,wX hp.2⟩
theorem gV:∀{args:List AT},zJ args=true->dwA args args
 | [],_=>trivial
 | .c c::xs,hp=>by
  simp only [zJ,AT.cells,zqD,List.all_nil,Bool.and_true,zqs]at hp
  exact⟨zH hp.1,gV hp.2⟩
 | .agg a::xs,hp=>by
  simp only [zJ,zqs]at hp
  exact⟨wX hp.1,gV hp.2⟩
section
variable {F:Nat->Prop}{w:World}{m:AM}{h:AH}
theorem dw.rc{c d:AC}(hd:dw c d){v:Value}(hv:RC F w m h c v):RC F w [] [] d v:=by
 cases c<;>first|exact hd.elim|skip
 ·have:d=_:=hd;subst this;exact hv
 ·have:d=_:=hd;subst this;exact hv
 ·have:d=_:=hd;subst this;exact hv
 ·rcases hd with rfl|rfl
  ·exact SP.rp hv
  ·exact hv
 ·have:d=_:=hd;subst this;exact RP.ext (fun _ hb=>hb.1) (fun _ _=>rfl) hv
theorem dwL.at_:∀{a b:List AC},dwL a b->a.length=b.length/\∀(i:Nat)(c d:AC),a[i]? =some c->b[i]? =some d->dw c d
 | [],[],_=>⟨rfl,fun i c d h=>by simp at h⟩
 | [],_::_,h=>h.elim
 |_::_,[],h=>h.elim
 |x::a,y::b,h=>by
  have ih:=h.2.at_
  refine⟨by simp [ih.1],fun i c d hc hd=> ?_⟩
  cases i with
  |zero=>simp at hc hd;subst hc hd;exact h.1
  |succ i=>exact ih.2 i c d (by simpa using hc) (by simpa using hd)
theorem dwA.at_:∀{a b:List AT},dwA a b->a.length=b.length/\∀(i:Nat)(c d:AT),a[i]? =some c->b[i]? =some d->dwT c d
 | [],[],_=>⟨rfl,fun i c d h=>by simp at h⟩
 | [],_::_,h=>h.elim
 |_::_,[],h=>h.elim
 |x::a,y::b,h=>by
  have ih:=h.2.at_
  refine⟨by simp [ih.1],fun i c d hc hd=> ?_⟩
  cases i with
  |zero=>simp at hc hd;subst hc hd;exact h.1
  |succ i=>exact ih.2 i c d (by simpa using hc) (by simpa using hd)
theorem dwT.rt{x y:AT}(hd:dwT x y){v:Value}(hv:RT F w m h x v):RT F w [] [] y v:=by
 cases x with
 |c c=>
  cases y with
  |c d=>exact dw.rc hd hv
  |agg b=>exact hd.elim
 |agg a=>
  cases y with
  |c d=>exact hd.elim
  |agg b=>
   obtain⟨vs,h1,h2,h3⟩:=hv
   obtain⟨e1,e2⟩:=dwL.at_ hd
   refine⟨vs,h1,by rw [h2,e1],fun j d hj=> ?_⟩
   have ha:j<a.length:=by rw [e1];exact(zqb.1 hj).1
   obtain⟨u,hu,ho,hr⟩:=h3 j _ (zqc ha)
   exact⟨u,hu,ho,(e2 j _ d (zqc ha) hj).rc hr⟩
end
section
variable {P:Program}{F:Nat->Prop}{w:World}{m:AM}{g h:AH}{n:Nat}{T:Nat->AV}{a:Act}
def zc(P:Program)(f:FuncId)(h:AH)(n:Nat)(args:List AT)(K:AV->List AB->Prop):Prop:=
 ∃(args':List AT)(Post:AV->List AB->Prop),bS P f args' Post/\
  (
  (dwA args args'/\∀res rows,Post res rows->K (res.shift n) (rows.map (AB.shift n)))\/
  (args'.length=args.length/\(∀(j:Nat)(x y:AT),args[j]? =some x->args'[j]? =some y->(∃c d,x= .c c/\y= .c d/\Ec h c d)\/∃xs ys,x= .agg xs/\y= .agg ys/\xs.length=ys.length/\∀(i:Nat)(c d:AC),xs[i]? =some c->ys[i]? =some d->qj h c d)/\
   ∀res rows,Post res rows->res.fresh=true/\(∀ab∈rows,AB.fresh ab=true)/\K (res.shift n) (rows.map (AB.shift n))))
theorem RH.empty{β:BP}{F:Nat->Prop}(hF:∀b,F b->b<w.heap.size)(hb:BP.lo<=w.heap.size):RH F w [] []:=⟨fun r ab hr=>by simp at hr,fun r r' ab ha b c c' hr=>by simp at hr,rfl,hF,hb⟩
variable {rows:List AB}
theorem AA{j:Nat}{e:AE}(he:(rows.map AE.live)[j]? =some e):∃ab,rows[j]? =some ab/\e= .live ab:=by
 simp only [zqi,zqj]at he
 obtain⟨ab,h1,rfl⟩:=he
 exact⟨ab,h1,rfl⟩
variable {w':World}{res:AV}
theorem r8{β:BP}{F F':Nat->Prop}{m':AM}{v:Value}(hs:dI F' w [] [] w' m' (rows.map .live))(hv:RV F' w' m' (rows.map .live) res v)
  (hf:(∀b,F' b->F b)\/(res.fresh=true/\∀ab∈rows,AB.fresh ab=true)):Out F w m h n (res.shift n) (rows.map (AB.shift n)) v w':=by
 have hl:m'.length=rows.length:=by have:=hs.hp.len;simpa using this
 have hi:∀b,b<w.heap.size->w'.heap[b]? =w.heap[b]? :=fun b hb=>hs.blk b hb (fun r ab c hr=>by simp at hr)
 have hc:∀(j b c:Nat),m'[j]? =some (some (b,c))->∃ab,(rows.map AE.live)[j]? =some (.live ab):=fun j b c hj=>by
  have hq:j<rows.length:=by rw [<-hl];exact(zqb.1 hj).1
  exact⟨rows[j],by simp [hq]⟩
 refine⟨⟨hs.os,hs.tape,hs.output,hs.size,hi⟩,m',by simpa using hl,fun j b c hj=> ?_,fun j j' b c c' hj hm=> ?_,fun m'' h'' hk hp=> ?_⟩
 ·obtain⟨ab,hr⟩:=hc j b c hj
  refine⟨?_,(hs.hp.lt hr hj).2⟩
  rcases hs.own j ab b c hr hj with⟨r0,ab0,c0,h1,_⟩|h1
  ·simp at h1
  ·exact h1
 ·obtain⟨ab,hr⟩:=hc j b c hj
  obtain⟨ha,ht⟩:=hc j' b c' hm
  exact hs.hp.inj j j' ab ha b c c' hr ht hj hm
 ·have hn:∀(j:Nat)(e:AE),(rows.map AE.live)[j]? =some e->∃ab,e= .live ab/\∃ha,h''[n+j]? =some (.live ha)/\ha.k=ab.k/\ha.es.length=ab.es.length/\m''[n+j]? =m'[j]? :=fun j e he=>by
   obtain⟨ab,hg,rfl⟩:=AA he
   obtain⟨h1,h2⟩:=hp j (ab.shift n) (by simp [hg])
   exact⟨ab,rfl,_,h1,rfl,by simp [AB.shift],h2⟩
  refine⟨RV.shift hn (hf.symm.imp (·.1) id) hv,fun j ha hj hh=> ?_,fun j ha b c hj hh=> ?_⟩
  ·simp only [zqi,zqj]at hj
   obtain⟨ab,hg,rfl⟩:=hj
   rcases hs.hp.at_ j ab (by simp [hg])with⟨_,h2⟩|⟨b,c,h2,_⟩
   ·simpa [AB.shift]using h2
   ·rw [hh]at h2;cases h2
  ·simp only [zqi,zqj]at hj
   obtain⟨ab,hg,rfl⟩:=hj
   rcases hs.hp.at_ j ab (by simp [hg])with⟨h2,_⟩|⟨b',c',h2,_,cur,h3,h4,h5,h6,h7⟩
   ·rw [hh]at h2;cases h2
   ·rw [hh]at h2;cases h2
    refine⟨cur,h3,h4,by simpa [AB.shift]using h5,h6,fun i x hx=> ?_⟩
    simp only [AB.shift,zqi,zqj]at hx
    obtain⟨y,hy,rfl⟩:=hx
    refine⟨by simpa [AB.shift]using(h7 i y hy).1,fun p d hd=> ?_⟩
    simp only [zqi,zqj]at hd
    obtain⟨d0,hd0,rfl⟩:=hd
    obtain⟨u,hu,ho,hr⟩:=(h7 i y hy).2 p d0 hd0
    refine⟨u,hu,ho,RC.shift hn ?_ hr⟩
    rcases hf with hf|⟨_,hf⟩
    ·exact .inr hf
    ·left
     have h8:=hf ab (zqd hg)
     unfold AB.fresh at h8
     exact zqf.1 (zqf.1 h8 y (zqd hy)) d0 (zqd hd0)
def JZ(F:Nat->Prop)(w:World)(m:AM)(h:AH)(n:Nat)(res:AV)(rows:List AB)(v:Value)(w':World):Prop:=
 ∃F1:Nat->Prop,(∀b,F b->F1 b)/\(∀b,F1 b->F b\/w.heap.size<=b)/\(∀b,F1 b->b<w'.heap.size)/\Below w.heap.size w w'/\∃nb:AM,nb.length=rows.length/\(∀(j b c:Nat),nb[j]? =some (some (b,c))->w.heap.size<=b/\b<w'.heap.size/\¬F1 b)/\
  (∀(j j' b c c':Nat),nb[j]? =some (some (b,c))->nb[j']? =some (some (b,c'))->j=j')/\
  ∀(m':AM)(h':AH),fW m h m' h'->(∀(j:Nat)(ab:AB),rows[j]? =some ab->h'[n+j]? =some (.live ab)/\m'[n+j]? =nb[j]?)->
   RV F1 w' m' h' res v/\(∀(j:Nat)(ab:AB),rows[j]? =some ab->nb[j]? =some none->ab.es.length=0)/\∀(j:Nat)(ab:AB)(b c:Nat),rows[j]? =some ab->nb[j]? =some (some (b,c))->RB F1 w' m' h' b c ab
theorem wh{β:BP}{v:Value}(ho:Out F w m h n res rows v w')(hH:RH F w m h):JZ F w m h n res rows v w':=by
 obtain⟨hb,nb,he,ha,hd,hc⟩:=ho
 exact⟨F,fun _ h=>h,fun _ h=> .inl h,fun b hf=>zpu (hH.old b hf) hb.size,hb,nb,he,fun j b c hj=>⟨(ha j b c hj).1,(ha j b c hj).2,fun hf=>by have:=hH.old b hf;have:=(ha j b c hj).1;omega⟩,hd,hc⟩
theorem jf{β:BP}{F F':Nat->Prop}{m':AM}{v:Value}(hG:fJ F F' w [] [])(hs:dI F' w [] [] w' m' (rows.map .live))(hv:RV F' w' m' (rows.map .live) res v):JZ F w m h n (res.shift n) (rows.map (AB.shift n)) v w':=by
 have hl:m'.length=rows.length:=by have:=hs.hp.len;simpa using this
 have hh:∀b,b<w.heap.size->w'.heap[b]? =w.heap[b]? :=fun b hb=>hs.blk b hb (fun r ab c hr=>by simp at hr)
 have hc:∀(j b c:Nat),m'[j]? =some (some (b,c))->∃ab,(rows.map AE.live)[j]? =some (.live ab):=fun j b c hj=>by
  have hn:j<rows.length:=by rw [<-hl];exact(zqb.1 hj).1
  exact⟨rows[j],by simp [hn]⟩
 refine⟨F',hG.1,fun b hb=> ?_,hs.hp.old,⟨hs.os,hs.tape,hs.output,hs.size,hh⟩,m',by simpa using hl,fun j b c hj=> ?_,fun j j' b c c' hj hi=> ?_,fun m'' h'' hk hp=> ?_⟩
 ·rcases hG.2 b hb with h1|h1|⟨r,ab,c,h1,_⟩
  ·exact .inl h1
  ·exact .inr h1
  ·simp at h1
 ·obtain⟨ab,hr⟩:=hc j b c hj
  refine⟨?_,(hs.hp.lt hr hj).2,(hs.hp.lt hr hj).1⟩
  rcases hs.own j ab b c hr hj with⟨r0,ab0,c0,h1,_⟩|h1
  ·simp at h1
  ·exact h1
 ·obtain⟨ab,hr⟩:=hc j b c hj
  obtain⟨ha,hq⟩:=hc j' b c' hi
  exact hs.hp.inj j j' ab ha b c c' hr hq hj hi
 ·have hm:∀(j:Nat)(e:AE),(rows.map AE.live)[j]? =some e->∃ab,e= .live ab/\∃ha,h''[n+j]? =some (.live ha)/\ha.k=ab.k/\ha.es.length=ab.es.length/\m''[n+j]? =m'[j]? :=fun j e he=>by
   obtain⟨ab,hf,rfl⟩:=AA he
   obtain⟨h1,h2⟩:=hp j (ab.shift n) (by simp [hf])
   exact⟨ab,rfl,_,h1,rfl,by simp [AB.shift],h2⟩
  refine⟨RV.shift hm (.inr fun _ hb=>hb) hv,fun j ha hj hg=> ?_,fun j ha b c hj hg=> ?_⟩
  ·simp only [zqi,zqj]at hj
   obtain⟨ab,hf,rfl⟩:=hj
   rcases hs.hp.at_ j ab (by simp [hf])with⟨_,h2⟩|⟨b,c,h2,_⟩
   ·simpa [AB.shift]using h2
   ·rw [hg]at h2;cases h2
  ·simp only [zqi,zqj]at hj
   obtain⟨ab,hf,rfl⟩:=hj
   rcases hs.hp.at_ j ab (by simp [hf])with⟨h2,_⟩|⟨b',c',h2,_,cur,h3,h4,h5,h6,h7⟩
   ·rw [hg]at h2;cases h2
   ·rw [hg]at h2;cases h2
    refine⟨cur,h3,h4,by simpa [AB.shift]using h5,h6,fun i x hx=> ?_⟩
    simp only [AB.shift,zqi,zqj]at hx
    obtain⟨y,hy,rfl⟩:=hx
    refine⟨by simpa [AB.shift]using(h7 i y hy).1,fun p d hd=> ?_⟩
    simp only [zqi,zqj]at hd
    obtain⟨d0,hd0,rfl⟩:=hd
    obtain⟨u,hu,ho,hr⟩:=(h7 i y hy).2 p d0 hd0
    exact⟨u,hu,ho,RC.shift hm (.inr fun _ hb=>hb) hr⟩
theorem qj.rc{β:BP}(hC:Cp g h)(hH:RH F w m h){c d:AC}(hr:qj g c d){v:Value}(hv:RC F w m h c v):RC (s7 F m h) w [] [] d v:=by
 have:=hr.sound hC hH hv
 cases d<;>first|exact this|(unfold RP at this;exact this)|(unfold RP at this;exact this.elim)|trivial
theorem Ec.rc{β:BP}(hC:Cp g h)(hH:RH F w m h){c d:AC}(hr:Ec g c d){v:Value}(hv:RC F w m h c v):RC (s7 F m h) w [] [] d v:=by
 cases hr with
 |c hr=>exact hr.rc hC hH hv
 |ptr r i off ab xs cs hr hx hl he=>
  rcases hv with hg|⟨ab',b,cap,h1,h2,h3⟩
  ·exact(hC.gone hr hg).elim
  ·obtain rfl:=hC.live hr h1
   obtain⟨_,_,hB⟩:=hH.get h1 h1 h2
   refine⟨b,i*ab'.k,h3,.inr ⟨r,ab',cap,h1,h2⟩,RPL.mk fun j d hj=> ?_⟩
   have hb:j<xs.length:=by rw [hl];exact(zqb.1 hj).1
   have ha:=zqc hb
   obtain⟨u,hu,ho,hc⟩:=hB.cell hx j _ ha
   exact⟨u,by rw [Nat.add_comm]at hu⊢;simpa [Nat.add_comm,Nat.add_left_comm,Nat.add_assoc]using hu,ho,(he j _ d ha hj).sound hC hH hc⟩
theorem zb{β:BP}(hC:Cp g h)(hH:RH F w m h)(hT:RTm F w m h T a){o:Oper}{c:Call}{f:FuncId}{args:List AT}{K:AV->List AB->Prop}(ho:o.op= .call c)(hc:c.callee= .value (.func f))(ha:c.args.toList.map (ev T)=args.map .t)
  (hp:zc P f g n args K):Yl P o a w fun v w'=>∃res rows,K res rows/\JZ F w m h n res rows v w':=by
 obtain⟨hg,Post,hd,hp⟩:=hp
 obtain⟨hl,hx⟩:=iO hT ha
 have e:(c.args.toList.map a.eval).toArray=c.args.map a.eval:=by rw [<-Array.toList_map]
 unfold Yl
 rw [od ho hc hd.1]
 rcases hp with⟨hdw,hK⟩|⟨hlen,hres,hK⟩
 ·obtain⟨d1,d2⟩:=hdw.at_
  have:=hd.2 F w [] (c.args.toList.map a.eval) (RH.empty hH.old (zpn _)) (by rw [hl,d1]) (fun j y hj=>by
   have hf:j<args.length:=by rw [d1];exact(zqb.1 hj).1
   obtain⟨v,hv,hr⟩:=hx j _ (zqc hf)
   exact⟨v,hv,(d2 j _ y (zqc hf) hj).rt hr⟩)
  rw [e]at this
  refine this.mono fun e w''⟨v,res,h',m',F1,he,⟨rows,hh,hpost⟩,hG,hs,hv⟩=> ?_
  subst hh
  exact⟨v,he,_,_,hK res rows hpost,jf hG hs hv⟩
 ·have hF:∀b,s7 F m h b->b<w.heap.size:=fun b hb=>by
   rcases hb with hb|⟨r,ab,c,h1,h2⟩
   ·exact hH.old b hb
   ·exact(hH.lt h1 h2).2
  have:=hd.2 (s7 F m h) w [] (c.args.toList.map a.eval) (RH.empty hF (zpn _)) (by rw [hl,hlen]) (fun j y hj=>by
   have hf:j<args.length:=by rw [<-hlen];exact(zqb.1 hj).1
   have hm:=zqc hf
   obtain⟨v,hv,hr⟩:=hx j _ hm
   refine⟨v,hv,?_⟩
   rcases hres j _ y hm hj with⟨c0,d0,h1,rfl,h2⟩|⟨xs,ys,h1,rfl,h2,h3⟩
   ·rw [h1]at hr;exact h2.rc hC hH hr
   ·rw [h1]at hr
    obtain⟨vs,g1,g2,g3⟩:=hr
    refine⟨vs,g1,by rw [g2,h2],fun i d hi=> ?_⟩
    have ht:i<xs.length:=by rw [h2];exact(zqb.1 hi).1
    have hk:=zqc ht
    obtain⟨u,hu,hw,hz⟩:=g3 i _ hk
    exact⟨u,hu,hw,(h3 i _ d hk hi).rc hC hH hz⟩)
  rw [e]at this
  refine this.mono fun e w''⟨v,res,h',m',F1,he,⟨rows,hh,hpost⟩,hG,hs,hv⟩=> ?_
  subst hh
  obtain⟨hq,hy,hn⟩:=hK res rows hpost
  exact⟨v,he,_,_,hn,wh (r8 hs hv (.inr ⟨hq,hy⟩)) hH⟩
theorem dI.of_outG{β:BP}(hH:RH F w m h){v:Value}(ho:JZ F w m h h.length res rows v w'):∃m' F1,fJ F F1 w m h/\dI F1 w m h w' m' (h++rows.map .live)/\RV F1 w' m' (h++rows.map .live) res v:=by
 obtain⟨F1,hh,hi,hn,hb,nb,hl,ha,hp,he⟩:=ho
 have ht:∀(j:Nat)(ab:AB),rows[j]? =some ab->(h++rows.map .live)[h.length+j]? =some (.live ab)/\(m++nb)[h.length+j]? =nb[j]? :=fun j ab hj=>by
  refine⟨by rw [zqg (by omega)];simp [hj],?_⟩
  rw [zqg (by rw [hH.len];omega),hH.len]
  congr 1
  omega
 have hk:fW m h (m++nb) (h++rows.map .live):=mi hH.len
 obtain⟨hv,hs,hu⟩:=he (m++nb) (h++rows.map .live) hk ht
 have split:∀(r b c:Nat)(ab:AB),(h++rows.map .live)[r]? =some (.live ab)->(m++nb)[r]? =some (some (b,c))->(h[r]? =some (.live ab)/\m[r]? =some (some (b,c)))\/(h.length<=r/\rows[r-h.length]? =some ab/\nb[r-h.length]? =some (some (b,c))):=by
  intro r b c ab h1 h2
  rcases ko h1 with⟨hr,h3⟩|⟨hr,h3⟩
  ·rw [zqh (by rw [hH.len];exact hr)]at h2;exact .inl ⟨h3,h2⟩
  ·rw [zqg (by rw [hH.len];exact hr),hH.len]at h2;exact .inr ⟨hr,h3,h2⟩
 have hc:∀b,F b->w'.heap[b]? =w.heap[b]? :=fun b hf=>hb.block b (hH.old b hf)
 refine⟨m++nb,F1,⟨hh,fun b hb=>(hi b hb).imp id .inl⟩,⟨⟨fun r ab h1=> ?_,fun r r' ab hg b c c' h1 h2 h3 h4=> ?_,by simp [hH.len,hl],hn,zpb hH.lo hb.size⟩,hk,hb.os,hb.tape,hb.output,hb.size,fun b hd _=>hb.block b hd,fun r ab b c h1 h2=> ?_⟩,hv⟩
 ·rcases ko h1 with⟨hr,h3⟩|⟨hr,h3⟩
  ·rcases hH.at_ r ab h3 with⟨h4,h5⟩|⟨b,c,h4,h5,h6⟩
   ·exact .inl ⟨by rw [zqh (by rw [hH.len];exact hr)];exact h4,h5⟩
   ·have hd:=(hH.lt h3 h4).2
    exact .inr ⟨b,c,by rw [zqh (by rw [hH.len];exact hr)];exact h4,fun hf=>(hi b hf).elim h5 (fun hx=>by omega),RB.ext hh hc hk (hb.block b hd) h6⟩
  ·have hm:(m++nb)[r]? =nb[r-h.length]? :=by rw [zqg (by rw [hH.len];exact hr),hH.len]
   have hw:r-h.length<nb.length:=by rw [hl];exact(zqb.1 h3).1
   rw [hm]
   cases hq:nb[r-h.length]? with
   |none=>rw [List.getElem?_eq_none_iff]at hq;omega
   |some q=>
    cases q with
    |none=>exact .inl ⟨rfl,hs _ _ h3 hq⟩
    |some bc=>
     obtain⟨b,c⟩:=bc
     exact .inr ⟨b,c,rfl,(ha _ _ _ hq).2.2,hu _ _ _ _ h3 hq⟩
 ·rcases split r b c ab h1 h3 with⟨h5,h6⟩|⟨h5,h6,h7⟩<;>rcases split r' b c' hg h2 h4 with⟨g5,g6⟩|⟨g5,g6,g7⟩
  ·exact hH.inj r r' ab hg b c c' h5 g5 h6 g6
  ·have:=(hH.lt h5 h6).2;have:=(ha _ _ _ g7).1;omega
  ·have:=(hH.lt g5 g6).2;have:=(ha _ _ _ h7).1;omega
  ·have:=hp _ _ _ _ _ h7 g7;omega
 ·rcases split r b c ab h1 h2 with⟨h5,h6⟩|⟨h5,h6,h7⟩
  ·exact .inl ⟨r,ab,c,h5,h6⟩
  ·exact .inr (ha _ _ _ h7).1
end
def put(T:Nat->AV)(dst:Option Tmp)(v:AV):Nat->AV:=
 match dst with
 |none=>T
 |some d=>fun i=>if i=d then v else T i
def fT(N:Nat)(o:Oper):Bool:=match o.dst with|none=>true|some d=>decide (d<N)
structure Rel [BP](F:Nat->Prop)(w0:World)(m0:AM)(h0:AH)(N:Nat)(T:Nat->AV)(h:AH)(a:Act)(w:World)(m:AM):Prop where
 tm:RTm F w m h T a
 st:gD F w0 m0 h0 w m h
 df:a.defers=[]
 sz:a.tmps.size=N
section
variable {P:Program}{F:Nat->Prop}{w0 w w':World}{m0 m m':AM}{h0 h h':AH}{N n:Nat}{T:Nat->AV}{a:Act}
theorem eV(a:Act)(dst:Option Tmp)(v:Value):(a.put dst v).defers=a.defers:=by cases dst<;>rfl
theorem gL(a:Act)(dst:Option Tmp)(v:Value):(a.put dst v).tmps.size=a.tmps.size:=by cases dst<;>simp [Act.put]
theorem fo(a:Act)(dst:Option Tmp)(v:Value)(d:Nat):(a.put dst v).tmps.getD d undef=if dst=some d/\d<a.tmps.size then v else a.tmps.getD d undef:=by
 cases dst with
 |none=>simp [Act.put]
 |some e=>
  simp only [Act.put,Array.getD_eq_getD_getElem?,zqa]
  by_cases he:e=d
  ·subst he
   by_cases hl:e<a.tmps.size
   ·simp [hl]
   ·simp [hl]
  ·simp [he]
theorem RTm.put{o:Oper}(ho:fT a.tmps.size o=true)(hT:RTm F w m h T a){res:AV}{v:Value}(hv:RV F w m h res v):RTm F w m h (put T o.dst res) (a.put o.dst v):=by
 intro d
 rw [fo]
 unfold fT at ho
 unfold Am.put
 cases hd:o.dst with
 |none=>simp only [reduceCtorEq,false_and,if_false];exact hT d
 |some e=>
  simp only [hd,zqp]at ho
  simp only [zqy]
  by_cases he:d=e
  ·subst he
   rw [if_pos rfl,if_pos ⟨rfl,ho⟩];exact hv
  ·rw [if_neg he,if_neg (fun hx=>he hx.1.symm)];exact hT d
theorem RTm.step{β:BP}(s:dI F w m h w' m' h')(hH:RH F w m h)(hT:RTm F w m h T a):RTm F w' m' h' T a:=fun d=>RV.step s hH (hT d)
theorem Rel.next{β:BP}(r:Rel F w0 m0 h0 N T h a w m){o:Oper}(ho:fT N o=true)(s:dI F w m h w' m' h'){res:AV}{v:Value}(hv:RV F w' m' h' res v):Rel F w0 m0 h0 N (put T o.dst res) h' (a.put o.dst v) w' m':=
 ⟨RTm.put (by rw [r.sz];exact ho) (RTm.step s r.st.hp r.tm) hv,r.st.trans s,by rw [eV];exact r.df,by rw [gL];exact r.sz⟩
theorem Rel.nextG{β:BP}{F1:Nat->Prop}(r:Rel F w0 m0 h0 N T h a w m){o:Oper}(ho:fT N o=true)(hF:∀b,F b->F1 b)(s:dI F1 w m h w' m' h'){res:AV}{v:Value}(hv:RV F1 w' m' h' res v):Rel F1 w0 m0 h0 N (put T o.dst res) h' (a.put o.dst v) w' m':=
 ⟨RTm.put (by rw [r.sz];exact ho) (fun d=>RV.stepG s hF r.st.hp (r.tm d)) hv,r.st.trans s,by rw [eV];exact r.df,by rw [gL];exact r.sz⟩
theorem Rel.skip{β:BP}(r:Rel F w0 m0 h0 N T h a w m){o:Oper}(ho:fT N o=true):Rel F w0 m0 h0 N (put T o.dst (.t (.c (.imm undef)))) h (a.put o.dst undef) w m:=r.next ho (dI.refl r.st.hp) rfl
def grd(ops:Array Oper)(o:Oper)(T:Nat->AV)(A B:Prop):Prop:=
 match o.guard with
 |none=>A
 |some (g,want)=>match (ops[g]?).bind (·.dst)with
  |some t=>match T t with
   | .t (.c (.imm (.bool b)))=>(b=want->A)/\(b= !want->B)
   | .t (.c (.imm _))=>B
   |_=>False
  |none=>B
variable {ops:Array Oper}
theorem jT{o:Oper}{A B:Prop}(hN:∀g t,o.guard=some g->(ops[g.1]?).bind (·.dst)=some t->t<a.tmps.size)(hT:∀g t,o.guard=some g->(ops[g.1]?).bind (·.dst)=some t->RV F w m h (T t) (a.tmps.getD t undef))(hg:grd ops o T A B):
  (Region.wanted o (yielded ops a.tmps)=true/\A)\/(Region.wanted o (yielded ops a.tmps)=false/\B):=by
 unfold grd at hg
 unfold Region.wanted
 split at hg
 ·rename_i hgd;rw [hgd];exact .inl ⟨rfl,hg⟩
 ·rename_i g want hgd
  rw [hgd]
  simp only
  split at hg
  ·rename_i t ht
   have hc:=hN (g,want) t hgd ht
   have hv:=hT (g,want) t hgd ht
   have hy:yielded ops a.tmps g=match a.tmps.getD t undef with| .bool b=>some b|_=>none:=by
    unfold yielded
    rw [ht]
    simp only [Option.bind_some,Array.getD_eq_getD_getElem?]
    rw [Array.getElem?_eq_getElem hc]
    simp only [Option.getD_some]
    split<;>simp_all
   rw [hy]
   split at hg
   ·rename_i b hb
    rw [hb]at hv
    have ha:a.tmps.getD t undef= .bool b:=hv
    rw [ha]
    by_cases hbw:b=want
    ·exact .inl ⟨by simp [hbw],hg.1 hbw⟩
    ·refine .inr ⟨by simpa using hbw,hg.2 ?_⟩
     cases b<;>cases want<;>simp_all
   ·rename_i u hnb hu
    rw [hu]at hv
    have ha:a.tmps.getD t undef=u:=hv
    rw [ha]
    refine .inr ⟨?_,hg⟩
    cases u<;>first|rfl|(rename_i b;exact(hnb b rfl).elim)
   ·exact hg.elim
  ·rename_i ht
   refine .inr ⟨?_,hg⟩
   unfold yielded
   rw [ht]
   rfl
def s8 [BP](P:Program)(ops:Array Oper)(Q:(Nat->AV)->AH->Prop):List Oper->(Nat->AV)->AH->Prop
 | [],T,h=>Q T h
 |o::os,T,h=>grd ops o T (opA P T h o.op fun res h'=>s8 P ops Q os (put T o.dst res) h') (s8 P ops Q os (put T o.dst (.t (.c (.imm undef)))) h)
def kO [BP](F:Nat->Prop)(w0:World)(m0:AM)(h0:AH)(N:Nat)(Q:Exit->(Nat->AV)->AH->Prop)(e:Exit)(a:Act)(w:World):Prop:=∃T h m F',Q e T h/\fJ F F' w0 m0 h0/\Rel F' w0 m0 h0 N T h a w m
def gz(N:Nat)(ops:Array Oper):Bool:=ops.all fun o=>match o.guard with|none=>true|some (g,_)=>match (ops[g]?).bind (·.dst)with|some t=>decide (t<N)|none=>true
theorem fu(hg:gz N ops=true){o:Oper}(ho:o∈ops.toList):∀g t,o.guard=some g->(ops[g.1]?).bind (·.dst)=some t->t<N:=by
 intro g t h1 h2
 unfold gz at hg
 have:=(Array.all_eq_true'.1 hg) o (Array.mem_toList_iff.1 ho)
 rw [h1]at this
 simp only at this
 rw [h2]at this
 simpa using this
theorem fJ.comp{F0 F1 F2:Nat->Prop}(hG:fJ F0 F1 w0 m0 h0)(hG':fJ F1 F2 w0 m0 h0):fJ F0 F2 w0 m0 h0:=
 ⟨fun b hb=>hG'.1 b (hG.1 b hb),fun b hb=>by
  rcases hG'.2 b hb with h1|h1|h1
  ·exact hG.2 b h1
  ·exact .inr (.inl h1)
  ·exact .inr (.inr h1)⟩
theorem kO.grow{β:BP}{F0:Nat->Prop}{Q:Exit->(Nat->AV)->AH->Prop}{e:Exit}(hG:fJ F0 F w0 m0 h0)(hm:kO F w0 m0 h0 N Q e a w):kO F0 w0 m0 h0 N Q e a w:=by
 obtain⟨T,h,m,F',hq,ha,r⟩:=hm
 exact⟨T,h,m,F',hq,⟨fun b hb=>ha.1 b (hG.1 b hb),fun b hb=>by
  rcases ha.2 b hb with h1|h1|h1
  ·exact hG.2 b h1
  ·exact .inr (.inl h1)
  ·exact .inr (.inr h1)⟩,r⟩
theorem Rel.grow{β:BP}{F0 F1:Nat->Prop}(r:Rel F w0 m0 h0 N T h a w m)(hG:fJ F0 F w0 m0 h0)(hG1:fJ F F1 w m h):fJ F0 F1 w0 m0 h0:=hG.trans r.st hG1
theorem iK{β:BP}{ops:Array Oper}{F0:Nat->Prop}{Q:Exit->(Nat->AV)->AH->Prop}(hg:gz N ops=true):∀(l:List Oper)(F:Nat->Prop)(T:Nat->AV)(h:AH)(a:Act)(w:World)(m:AM),(∀o∈l,o∈ops.toList)->l.all (fT N)=true->fJ F0 F w0 m0 h0->Rel F w0 m0 h0 N T h a w m->
  s8 P ops (Q .normal) l T h->wpList P ops (kO F0 w0 m0 h0 N Q) l a w
 | [],F,T,h,a,w,m,_,_,hG,r,hs=>⟨T,h,m,F,hs,hG,r⟩
 |o::os,F,T,h,a,w,m,hmem,hd,hG,r,hs=>by
  simp only [zqD,zqs]at hd
  unfold s8 at hs
  unfold wpList
  rcases jT (a:=a) (fun g t h1 h2=>by rw [r.sz];exact fu hg (hmem o (by simp)) g t h1 h2) (fun g t _ _=>r.tm t) hs with⟨hw,hA⟩|⟨hw,hB⟩
  ·rw [if_pos hw]
   left
   refine(l9 r.st.hp r.tm hA).wp (fun v w'⟨res,h',m',F1,hK,hG1,hs,hv⟩=> ?_)
   exact iK hg os F1 _ _ _ _ _ (fun o' ha=>hmem o' (by simp [ha])) hd.2 (r.grow hG hG1) (r.nextG hd.1 hG1.1 hs hv) hK
  ·rw [if_neg (by rw [hw];simp)]
   exact iK hg os F _ _ _ _ _ (fun o' ha=>hmem o' (by simp [ha])) hd.2 hG (r.skip hd.1) hB
end
section
variable {P:Program}{F:Nat->Prop}{w0 w w':World}{m0 m m':AM}{h0 g h h':AH}{N n:Nat}{T T':Nat->AV}{a:Act}
def Ct(P:Program)(T:Nat->AV)(h:AH)(n:Nat)(o:Op)(K:AV->List AB->Prop):Prop:=
 match o with
 | .call c=>match c.callee with
  | .value (.func f)=>∃args:List AT,c.args.toList.map (ev T)=args.map .t/\zc P f h n args K
  |_=>pop P T h n (.call c) K
 |o=>pop P T h n o K
variable {K:AV->List AB->Prop}
theorem ph{β:BP}(o:Oper)(hC:Cp g h)(hT:RTm F w m h T a)(hH:RH F w m h)(hp:Ct P T g n o.op K):Yl P o a w fun v w'=>∃res hb,K res hb/\JZ F w m h n res hb v w':=by
 unfold Ct at hp
 split at hp
 ·rename_i c hop
  split at hp
  ·rename_i f hc
   obtain⟨args,ha,hp⟩:=hp
   exact zb hC hH hT hop hc ha hp
  ·rw [<-hop]at hp
   obtain⟨res,hb,hK,v,w',hr,ho⟩:=rV o hC hT hH hp
   exact Yl.value hr ⟨res,hb,hK,wh ho hH⟩
 ·obtain⟨res,hb,hK,v,w',hr,ho⟩:=rV o hC hT hH hp
  exact Yl.value hr ⟨res,hb,hK,wh ho hH⟩
theorem sP{t:TypeId}:∀(ps:List (Nat×Operand))(cs:List AC)(K:List AC->Prop),(∀x∈ps.map (·.2),ev T x=ev T' x)->kJ P T h t ps cs K->kJ P T' h t ps cs K
 | [],cs,K,_,hf=>hf
 |(i,x)::ps,cs,K,he,hf=>by
  unfold kJ at hf⊢
  rw [<-he x (by simp)]
  split at hf
  ·exact⟨hf.1,hf.2.1,hf.2.2.1,sP ps _ K (fun y hy=>he y (by simp at hy⊢;exact .inr hy)) hf.2.2.2⟩
  ·exact hf
theorem sO{k:Nat}:∀(ps:List (Nat×Operand))(es:LLA)(K:LLA->Prop),(∀x∈ps.map (·.2),ev T x=ev T' x)->kI T h k ps es K->kI T' h k ps es K
 | [],es,K,_,hf=>hf
 |(i,x)::ps,es,K,he,hf=>by
  unfold kI at hf⊢
  rw [<-he x (by simp)]
  split at hf
  ·exact⟨hf.1,hf.2.1,hf.2.2.1,sO ps _ K (fun y hy=>he y (by simp at hy⊢;exact .inr hy)) hf.2.2.2⟩
  ·exact hf
theorem oq{o:Op}(he:∀x∈o.operands,ev T x=ev T' x)(hp:pop P T h n o K):pop P T' h n o K:=by
 cases o<;>simp only [Op.operands]at he<;>first
  |exact hp
  |(rename_i x;simp only [pop]at hp⊢;rw [<-he x (by simp)];exact hp)
  |skip
 case pick c x y=>simp only [pop]at hp⊢;rw [<-he c (by simp),<-he x (by simp),<-he y (by simp)];exact hp
 case build t ps=>
  simp only [pop]at hp⊢
  refine⟨hp.1,?_⟩
  obtain⟨_,hp⟩:=hp
  split at hp
  ·exact⟨hp.1,sP _ _ _ (fun x hx=>he x (by simpa using hx)) hp.2⟩
  ·exact hp
 case buildSlice t l ps=>
  simp only [pop]at hp⊢
  split at hp
  ·obtain⟨z,h1,h2,h3,h4,h5,hp⟩:=hp
   exact⟨z,h1,h2,h3,h4,h5,sO _ _ _ (fun x hx=>he x (by simpa using hx)) hp⟩
  ·exact hp
 case binOp op t x y t'=>simp only [pop]at hp⊢;rw [<-he x (by simp),<-he y (by simp)];exact hp
 case makeSlice t x y=>simp only [pop]at hp⊢;rw [<-he x (by simp),<-he y (by simp)];exact hp
 case slice t x lo hi mx=>
  cases mx with
  |some _=>exact hp
  |none=>
   have e1:=he x (by simp)
   have e2:∀l,lo=some l->ev T l=ev T' l:=fun l hl=>he l (by subst hl;simp)
   have e3:∀l,hi=some l->ev T l=ev T' l:=fun l hl=>he l (by subst hl;simp)
   simp only [pop]at hp⊢
   rw [<-e1]
   cases lo<;>cases hi<;>simp only at hp⊢
   ·exact hp
   ·rename_i l;rw [<-e3 l rfl];exact hp
   ·rename_i l;rw [<-e2 l rfl];exact hp
   ·rename_i l k;rw [<-e2 l rfl,<-e3 k rfl];exact hp
 case fieldAddr t x i=>simp only [pop]at hp⊢;rw [<-he x (by simp)];exact hp
 case field t x i=>simp only [pop]at hp⊢;rw [<-he x (by simp)];exact hp
 case indexAddr t x i=>simp only [pop]at hp⊢;rw [<-he x (by simp),<-he i (by simp)];exact hp
 case extract x i=>simp only [pop]at hp⊢;rw [<-he x (by simp)];exact hp
 case makeFunc fn first cap=>
  have e1:GU T cap.toList=GU T' cap.toList:=by
   have:∀x∈cap.toList,ev T x=ev T' x:=fun x hx=>he x (by simp;right;simpa using hx)
   generalize cap.toList=l at this
   induction l with
   |nil=>rfl
   |cons x l ih=>unfold GU;rw [this x (by simp),ih (fun y hy=>this y (by simp [hy]))]
  simp only [pop]at hp⊢;rw [<-e1];exact hp
 case call c=>
  have e1:∀x∈c.args.toList,ev T x=ev T' x:=fun x hx=>he x (by simp [Call.operands];right;simpa using hx)
  simp only [pop]at hp⊢
  split at hp
  ·rename_i x t h1 h2 h3
   rw [<-e1 x (by rw [h2];simp)];exact hp
  ·rename_i x y h1 h2
   rw [<-e1 x (by rw [h2];simp),<-e1 y (by rw [h2];simp)];exact hp
  ·rename_i x y h1 h2
   rw [<-e1 x (by rw [h2];simp),<-e1 y (by rw [h2];simp)];exact hp
  ·exact hp.elim
theorem pi{o:Op}(he:∀x∈o.operands,ev T x=ev T' x)(hp:Ct P T h n o K):Ct P T' h n o K:=by
 unfold Ct at hp⊢
 split at hp
 ·rename_i c
  split at hp
  ·rename_i f hc
   obtain⟨args,ha,hp⟩:=hp
   refine⟨args,?_,hp⟩
   rw [<-ha]
   exact zpl (fun x hx=>(he x (by simp [Op.operands,Call.operands];right;simpa using hx)).symm)
  ·exact oq he hp
 ·exact oq he hp
end
end Go.Proofs.YtckchgoblpgpbaaGreat.Am
