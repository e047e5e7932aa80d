/- The types of this program, as AM asks for them. -/
import Derived.Test.YtckchgoblpgpbaaGreatProg
import Derived.WalkKit
import Derived.ProofKit
import Derived.Lib.Hide
import Derived.Deep.QuietTactic
import Derived.BigQuiet
import Derived.Deep.RegionHeld3
import Derived.Handy
import Derived.Deep.Slices
import Derived.WalkSpells
import Derived.Lib.QuietBelow
import Derived.Test.YtckchgoblpgpbaaGreatJ5aq
set_option linter.unusedVariables false
set_option linter.unusedSimpArgs false
namespace Go.Proofs.YtckchgoblpgpbaaGreat
open Go.ChangeShapes Go.WideShapes Go.ChangeAt Go.RowKit
theorem own:ownKnob Tryz.prog.godebug=none:=by kernel_rfl
theorem w8:laidOutB Tryz.prog=true:=by kernel_rfl
theorem bT{B:Nat}{a w:World}(h:Below B a w)(n:Nat):Below B a (w.drewN n):=⟨h.os,h.tape,h.output,h.size,h.block⟩
theorem eY(w:World):Below w.heap.size w w:=Below.refl _ _
theorem bu{a b c:World}(h:Below a.heap.size a b)(k:Below b.heap.size b c):Below a.heap.size a c:=h.trans (k.mono h.size)
theorem du(w:World)(o:Obj):Below w.heap.size w (w.alloc o):=(Below.refl _ _).alloc (Nat.le_refl _) _
theorem GD{W w':World}(h:Below W.heap.size W w'):(∀b o,b<W.heap.size->w'.cell? ⟨b,o,none⟩=W.cell? ⟨b,o,none⟩)/\(∀b o,b<W.heap.size->w'.frozen? ⟨b,o,none⟩=W.frozen? ⟨b,o,none⟩)/\(∀b,b<W.heap.size->b<w'.heap.size)/\W.heap.size<=w'.heap.size:=
 ⟨fun b o hb=>h.cell (p:=⟨b,o,none⟩) hb,fun b o hb=>h.frozen (p:=⟨b,o,none⟩) hb,fun b hb=>Nat.lt_of_lt_of_le hb h.size,h.size⟩
def R64(n:Int):Prop:= -9223372036854775808<=n/\n<=9223372036854775807
theorem kT{n:Int}(h:(Lit.int .i64 n).wf=true):R64 n:=by
 have:=bounds_i64 h
 exact this
theorem mR{H:Type}{enc:TypeId×Value->H}{P:Program}(hl:laidOutB P=true){W W':World}(hb:Below W.heap.size W W'):
  ∀(ts:List TypeId)(vs:List Value)(ds:List (DataW H))(ps:List MemPlace),ts.all (fun t=>P.readableRec t&&decide (t<P.types.size))=true->
   DataW.TrodAll enc P W 0 (fun _=>true) true ts vs ds ps->(∀x∈ps,x.block<W.heap.size)->
   DataW.TrodAll enc P W' 0 (fun b=>decide (b<W.heap.size)) true ts vs ds ps
 | [],[],[],ps,_,h,_=>h
 |t::ts,v::vs,d::ds,ps,hr,h,hp=>by
  obtain⟨p,q,h1,h2,rfl⟩:=h
  simp only [zqD,zqs,zqp]at hr
  exact⟨p,q,Below.trod hl hr.1.1 hr.1.2 h1 hb (fun x hx=>hp x (List.mem_append.2 (.inl hx))),mR hl hb ts vs ds q hr.2 h2 (fun x hx=>hp x (List.mem_append.2 (.inr hx))),rfl⟩
 | [],_::_,_,_,_,h,_=>h.elim
 | [],[],_::_,_,_,h,_=>h.elim
 |_::_,[],_,_,_,h,_=>h.elim
 |_::_,_::_,[],_,_,h,_=>h.elim
theorem Cf{H:Type}{enc:TypeId×Value->H}{P:Program}{f:Func}{s:ChangeSpec}{W W':World}{args:Array Value}{ds gs:List (DataW H)}{before:List MemPlace}{t:TypeId}
  (hl:laidOutB P=true) (hf:f.params.toList.all (fun t=>P.readableRec t&&decide (t<P.types.size))=true)
  (hvars:s.vars=[]) (hfn:s.fn H (ds++gs)={results:=[.lit (.bool true)],args:=ds})
  (hres:f.resultTypes= #[t]) (hb:P.underlying t=some .bool)
  (hW:DataW.Whole enc P f.params.toList s.vars false W args.toList ds gs before)
  (hx:Below W.heap.size W W'):s.post enc P f false true false false W args (.bool true) W':=by
 have hc:=hW.lt
 have ha:=hW
 obtain⟨p,q,hA,hV,rfl,hd,he⟩:=hW
 refine⟨ds,gs,_,[],p,[],ha,?_,?_,?_,hx.frame _,fun h=>by cases h⟩
 ·rw [hfn,hres]
  exact trodAll_cons_mk (shut_bool hb true) trodAll_mk0
 ·rw [hfn]
  exact mR hl hx _ _ _ _ hf hA (fun x hx=>hc x (List.mem_append.2 (.inl hx)))
 ·rw [hfn,hvars]
  rfl
section
variable {H:Type}{enc:TypeId × Value->H}{P:Program}{w:World}{base:Nat}{spare:Nat->Bool}{mO:Bool}
def xf(P:Program):Nat->TypeId->Option (List TypeId)
 |0,_=>none
 |d+1,t=>
  match P.underlying t with
  |some (.struct fs)=>(fs.toList.mapM fun f=>xf P d f.type).map (·.flatten)
  |some (.array _ _)=>none
  |some _=>some [t]
  |none=>none
theorem qO(d n:Nat)(cs:List Value)
  (ih:∀(t:TypeId)(ts:List TypeId)(fuel:Nat)(cs:List Value)(x:DataW H×List MemPlace),t<P.types.size->xf P d t=some ts->DataW.trod enc P w base spare mO fuel t cs=some x->
   cs.length=ts.length/\∀(i:Nat)(u:TypeId),ts[i]? =some u->∃c f' y,cs[i]? =some c/\DataW.trod enc P w base spare mO f' u [c]=some y):
  ∀(fs:List Field)(off:Nat)(tss:List (List TypeId)),(∀f∈fs,f.type<P.types.size)->fs.mapM (fun f=>xf P d f.type)=some tss->
   (∀(j:Nat)(f:Field),fs[j]? =some f->f.offset=off+((fs.take j).map fun f=>P.cellsOf f.type).sum)->
   off+(fs.map fun f=>P.cellsOf f.type).sum<=cs.length->
   (∀f∈fs,∃x,DataW.trod enc P w base spare mO n f.type ((cs.drop f.offset).take (P.cellsOf f.type))=some x)->
   tss.flatten.length=(fs.map fun f=>P.cellsOf f.type).sum/\
    ∀(i:Nat)(u:TypeId),tss.flatten[i]? =some u->∃c f' y,cs[off+i]? =some c/\DataW.trod enc P w base spare mO f' u [c]=some y
 | [],off,tss,_,hm,_,_,_=>by
  simp only [List.mapM_nil,Option.pure_def,zqy]at hm
  subst hm
  exact⟨rfl,fun i u h=>by simp at h⟩
 |f::fs,off,tss,hz,hm,ho,hlen,hr=>by
  simp only [List.mapM_cons,Option.bind_eq_bind,Option.bind_eq_some_iff,Option.pure_def,zqy]at hm
  obtain⟨ts,h1,ha,h2,rfl⟩:=hm
  have hb:f.offset=off:=by simpa using ho 0 f rfl
  simp only [zqA,List.sum_cons]at hlen
  obtain⟨x,hx⟩:=hr f (List.mem_cons_self ..)
  obtain⟨hf,hd⟩:=ih f.type ts n _ x (hz f (List.mem_cons_self ..)) h1 hx
  have hh:((cs.drop f.offset).take (P.cellsOf f.type)).length=P.cellsOf f.type:=by
   rw [List.length_take,List.length_drop,hb];omega
  rw [hh]at hf
  obtain⟨hj,he⟩:=qO d n cs ih fs (off+P.cellsOf f.type) ha (fun g hg=>hz g (List.mem_cons_of_mem _ hg)) h2 (fun j g hg=>by
   have:=ho (j+1) g hg
   simp only [List.take_succ_cons,zqA,List.sum_cons]at this
   omega) (by omega) (fun g hg=>hr g (List.mem_cons_of_mem _ hg))
  refine⟨by simp only [List.flatten_cons,zqe,zqA,List.sum_cons];omega,fun i u hu=> ?_⟩
  simp only [List.flatten_cons]at hu
  by_cases hi:i<ts.length
  ·rw [zqh hi]at hu
   obtain⟨c,f',y,hc,hy⟩:=hd i u hu
   refine⟨c,f',y,?_,hy⟩
   rw [List.getElem?_take,if_pos (by omega),List.getElem?_drop,hb]at hc
   exact hc
  ·rw [zqg (by omega)]at hu
   obtain⟨c,f',y,hc,hy⟩:=he _ u hu
   refine⟨c,f',y,?_,hy⟩
   rw [<-hc]
   congr 1
   omega
theorem yT(hl:laidOutB P=true){t:TypeId}{fs:Array Field}(ht:P.underlying t=some (.struct fs))(hlt:t<P.types.size):
  P.cellsOf t=(fs.toList.map fun f=>P.cellsOf f.type).sum/\
   ∀(j:Nat)(f:Field),fs.toList[j]? =some f->f.offset=((fs.toList.take j).map fun f=>P.cellsOf f.type).sum/\f.type<P.types.size:=by
 unfold laidOutB at hl
 simp only [zqs,zqf,List.mem_range]at hl
 have h:=hl.1.1 t hlt
 unfold rowFine at h
 rw [ht]at h
 have hv:isVar P t=true:=by simp [isVar,hlt,ht,kindOk]
 simp only [hv,Bool.not_true,Bool.false_or,zqs,zqf,beq_iff_eq,List.mem_range]at h
 refine⟨h.1.2,fun j f hj=> ?_⟩
 have ha:j<fs.toList.length:=(List.getElem?_eq_some_iff.1 hj).1
 have h2:=h.2 j ha
 rw [hj]at h2
 have h3:=h.1.1 f (zqd hj)
 unfold isVar at h3
 simp only [zqs,zqp]at h3
 exact⟨by simpa using h2,h3.1⟩
theorem wc(hl:laidOutB P=true):∀(d:Nat)(t:TypeId)(ts:List TypeId)(ha:Nat)(cs:List Value)(x:DataW H×List MemPlace),t<P.types.size->xf P d t=some ts->
  DataW.trod enc P w base spare mO ha t cs=some x->
  cs.length=ts.length/\∀(i:Nat)(u:TypeId),ts[i]? =some u->∃c f' y,cs[i]? =some c/\DataW.trod enc P w base spare mO f' u [c]=some y:=by
 intro d
 induction d with
 |zero=>intro t ts ha cs x _ h;simp [xf]at h
 |succ d ih=>
  intro t ts ha cs x hi h hx
  unfold xf at h
  split at h
  ·rename_i fs ht
   simp only [zqj]at h
   obtain⟨hn,hm,rfl⟩:=h
   obtain⟨xs,n,rfl,rfl,hc,hk,hf⟩:=DataW.trod_struct ht hx
   obtain⟨hC,hO⟩:=yT hl ht hi
   have he:=qO (H:=H) (enc:=enc) (P:=P) (w:=w) (base:=base) (spare:=spare) (mO:=mO) d n cs ih fs.toList 0 hn (fun f hb=>by
     obtain⟨j,hj⟩:=List.getElem?_of_mem hb
     exact(hO j f hj).2) hm (fun j f hj=>by rw [(hO j f hj).1];omega) (by omega) (fun f hb=>by
     obtain⟨j,hj⟩:=List.getElem?_of_mem hb
     have hd:fs[j]? =some f:=by simpa using hj
     have:=hf j f hd
     have hh:j<xs.length:=by rw [hk];exact(Array.getElem?_eq_some_iff.1 hd).1
     exact⟨xs[j],by rw [this,zqc hh]⟩)
   refine⟨by rw [hc,hC];exact he.1.symm,fun i u hu=> ?_⟩
   have:=he.2 i u hu
   simpa using this
  ·simp at h
  ·rename_i ty hns hna ht
   simp only [zqy]at h
   subst h
   have hg:∃c,cs=[c]:=by
    cases ha with
    |zero=>simp [DataW.trod]at hx
    |succ n=>
     unfold DataW.trod at hx
     split at hx<;>first|exact⟨_,rfl⟩|(exfalso;rename_i h0;rw [ht]at h0;exact hns _ (Option.some.inj h0))|(exfalso;rename_i h0;rw [ht]at h0;exact hna _ _ (Option.some.inj h0))|(simp_all;done)
   obtain⟨c,rfl⟩:=hg
   refine⟨rfl,fun i u hu=> ?_⟩
   match i,hu with
   |0,hu=>
    simp at hu
    subst hu
    exact⟨c,ha,x,rfl,hx⟩
   |i+1,hu=>simp at hu
  ·simp at h
end
structure dm where
 kind:Int
 n:Int
 deriving DecidableEq
def dm.c(x:dm):Array Value:= #[.int .i64 x.kind,.int .i64 x.n]
structure bg where
 left:dm
 top:dm
 right:dm
 bottom:dm
 start:dm
 fin:dm
 deriving DecidableEq
def bg.c(x:bg):Array Value:= #[.int .i64 x.left.kind,.int .i64 x.left.n,.int .i64 x.top.kind,.int .i64 x.top.n,.int .i64 x.right.kind,.int .i64 x.right.n,.int .i64 x.bottom.kind,.int .i64 x.bottom.n,.int .i64 x.start.kind,.int .i64 x.start.n,.int .i64 x.fin.kind,.int .i64 x.fin.n]
structure bS where
 left:Int
 top:Int
 right:Int
 bottom:Int
 deriving DecidableEq
def bS.c(x:bS):Array Value:= #[.int .i64 x.left,.int .i64 x.top,.int .i64 x.right,.int .i64 x.bottom]
structure aj where
 dir:Int
 wrap:Int
 justify:Int
 items:Int
 self:Int
 content:Int
 apart:Bool
 hidden:Bool
 order:Int
 grow:Int
 shrink:Int
 basis:dm
 width:dm
 height:dm
 minWidth:dm
 minHeight:dm
 maxWidth:dm
 maxHeight:dm
 ratio:Int
 margin:bg
 inset:bg
 pad:bS
 border:bS
 rowGap:Int
 colGap:Int
 deriving DecidableEq
def aj.c(x:aj):Array Value:= #[.int .i64 x.dir,.int .i64 x.wrap,.int .i64 x.justify,.int .i64 x.items,.int .i64 x.self,.int .i64 x.content,.bool x.apart,.bool x.hidden,.int .i64 x.order,.int .i64 x.grow,.int .i64 x.shrink,.int .i64 x.basis.kind,.int .i64 x.basis.n,.int .i64 x.width.kind,.int .i64 x.width.n,.int .i64 x.height.kind,.int .i64 x.height.n,.int .i64 x.minWidth.kind,.int .i64 x.minWidth.n,.int .i64 x.minHeight.kind,.int .i64 x.minHeight.n,.int .i64 x.maxWidth.kind,.int .i64 x.maxWidth.n,.int .i64 x.maxHeight.kind,.int .i64 x.maxHeight.n,.int .i64 x.ratio,.int .i64 x.margin.left.kind,.int .i64 x.margin.left.n,.int .i64 x.margin.top.kind,.int .i64 x.margin.top.n,.int .i64 x.margin.right.kind,.int .i64 x.margin.right.n,.int .i64 x.margin.bottom.kind,.int .i64 x.margin.bottom.n,.int .i64 x.margin.start.kind,.int .i64 x.margin.start.n,.int .i64 x.margin.fin.kind,.int .i64 x.margin.fin.n,.int .i64 x.inset.left.kind,.int .i64 x.inset.left.n,.int .i64 x.inset.top.kind,.int .i64 x.inset.top.n,.int .i64 x.inset.right.kind,.int .i64 x.inset.right.n,.int .i64 x.inset.bottom.kind,.int .i64 x.inset.bottom.n,.int .i64 x.inset.start.kind,.int .i64 x.inset.start.n,.int .i64 x.inset.fin.kind,.int .i64 x.inset.fin.n,.int .i64 x.pad.left,.int .i64 x.pad.top,.int .i64 x.pad.right,.int .i64 x.pad.bottom,.int .i64 x.border.left,.int .i64 x.border.top,.int .i64 x.border.right,.int .i64 x.border.bottom,.int .i64 x.rowGap,.int .i64 x.colGap]
def aj.of(g:Nat->Int)(h:Nat->Bool):aj:=⟨(g 0),(g 1),(g 2),(g 3),(g 4),(g 5),(h 6),(h 7),(g 8),(g 9),(g 10),⟨(g 11),(g 12)⟩,⟨(g 13),(g 14)⟩,⟨(g 15),(g 16)⟩,⟨(g 17),(g 18)⟩,⟨(g 19),(g 20)⟩,⟨(g 21),(g 22)⟩,⟨(g 23),(g 24)⟩,(g 25),⟨⟨(g 26),(g 27)⟩,⟨(g 28),(g 29)⟩,⟨(g 30),(g 31)⟩,⟨(g 32),(g 33)⟩,⟨(g 34),(g 35)⟩,⟨(g 36),(g 37)⟩⟩,⟨⟨(g 38),(g 39)⟩,⟨(g 40),(g 41)⟩,⟨(g 42),(g 43)⟩,⟨(g 44),(g 45)⟩,⟨(g 46),(g 47)⟩,⟨(g 48),(g 49)⟩⟩,⟨(g 50),(g 51),(g 52),(g 53)⟩,⟨(g 54),(g 55),(g 56),(g 57)⟩,(g 58),(g 59)⟩
structure aO where
 room:Int
 wide:Int
 high:Int
 deriving DecidableEq
def aO.c(x:aO):Array Value:= #[.int .i64 x.room,.int .i64 x.wide,.int .i64 x.high]
structure aI where
 mode:Int
 n:Int
 deriving DecidableEq
structure ag where
 base:Int
 least:Int
 most:Int
 grow:Int
 shrink:Int
 before:Int
 behind:Int
 autoBefore:Bool
 autoBehind:Bool
 deriving DecidableEq
def ag.c(x:ag):Array Value:= #[.int .i64 x.base,.int .i64 x.least,.int .i64 x.most,.int .i64 x.grow,.int .i64 x.shrink,.int .i64 x.before,.int .i64 x.behind,.bool x.autoBefore,.bool x.autoBehind]
structure ar where
 size:Int
 before:Int
 behind:Int
 autoBefore:Bool
 autoBehind:Bool
 align:Int
 base:Int
 deriving DecidableEq
def ar.c(x:ar):Array Value:= #[.int .i64 x.size,.int .i64 x.before,.int .i64 x.behind,.bool x.autoBefore,.bool x.autoBehind,.int .i64 x.align,.int .i64 x.base]
structure aM where
 node:Int
 x:Int
 y:Int
 wide:Int
 high:Int
 deriving DecidableEq
def aM.c(x:aM):Array Value:= #[.int .i64 x.node,.int .i64 x.x,.int .i64 x.y,.int .i64 x.wide,.int .i64 x.high]
structure km where
 node:Int
 wide:aI
 high:aI
 rtl:Bool
 deriving DecidableEq
def km.c(x:km):Array Value:= #[.int .i64 x.node,.int .i64 x.wide.mode,.int .i64 x.wide.n,.int .i64 x.high.mode,.int .i64 x.high.n,.bool x.rtl]
def ak(n:Int):Array Value:= #[.int .i64 n]
theorem CX(a:Addr)(h:a.spot=none)(x y:Nat):(a.add x).add y=⟨a.block,a.off+x+y,none⟩:=by
 obtain⟨b,o,s⟩:=a
 simp only at h
 subst h
 unfold Addr.add
 split<;>split<;>simp_all
theorem ve{w:World}{a:Addr}{u:Value}(h:w.cell? a=some u):a.spot=none:=by
 unfold World.cell? at h
 split at h
 ·split at h
  ·cases h
  ·rename_i hs;simpa using hs
 ·cases h
end Go.Proofs.YtckchgoblpgpbaaGreat
namespace Go.Proofs.YtckchgoblpgpbaaGreat
open Go.ChangeShapes Go.WideShapes Go.ChangeAt Go.RowKit Am
def lc(a:Array Value):List AC:=a.toList.map .imm
variable {α:Type}
def vw(c:α->Array Value)(xs:List α):LLA:=xs.map fun x=>lc (c x)
theorem aq(c:α->Array Value)(xs:List α):(vw c xs).length=xs.length:=by simp [vw]
variable {xs:List α}
theorem lmV{c:α->Array Value}{V:LLA}(h:V=vw c xs):V.length=xs.length:=by rw [h,aq]
theorem bf{c:α->Array Value}{i:Nat}{x:α}(h:xs[i]? =some x):(vw c xs)[i]? =some (lc (c x)):=by simp [vw,h]
theorem oL{z:Int}(h0:0<=z)(h1:z<xs.length):∃x,xs[z.toNat]? =some x:=⟨xs[z.toNat]'(by omega),zqc _⟩
theorem vx{F:Nat->Prop}{w:World}{m:AM}{h:AH}(v:Value):RT F w m h (.c (.imm v)) v:=rfl
theorem AF{P:Program}{f:FuncId}{args:List AT}{vs:List Value}{w:World}(hc:dc P f args fun res hd=>res= .t (.c (.B true))/\hd=[])(hl:vs.length=args.length)
  (ha:∀(j:Nat)(x:AT),args[j]? =some x->∃v,vs[j]? =some v/\RT (fun b=>b<w.heap.size) w [] [] x v):Calls P f vs.toArray w fun e w'=>e= .returned (.bool true)/\Below w.heap.size w w':=
 (hc.2 (fun b=>b<w.heap.size) w [] vs (RH.empty (fun _ h=>h) (Nat.zero_le _)) hl ha).mono fun e w'⟨v,res,h',m',F',he,⟨hd,hh,hres,hr⟩,hG,hs,hv⟩=>by
  subst hres hr
  simp only [List.map_nil]at hh
  subst hh
  have hv:v= .bool true:=hv
  subst hv
  exact⟨he,⟨hs.os,hs.tape,hs.output,hs.size,fun b hb=>hs.blk b hb (fun r ab c hr=>by simp at hr)⟩⟩
end Go.Proofs.YtckchgoblpgpbaaGreat
namespace Go.Proofs.YtckchgoblpgpbaaGreat.Am
set_option maxRecDepth 100000
abbrev i0:Value:= .int .i64 0
abbrev zR(n:Nat)(l:List Value):List Value:=List.replicate n i0++l
abbrev b0:Value:= .bool false
abbrev s0:Value:= .slice none 0 0
def tab:List (TypeId×TI):=[
 (3,{agg:=none,zero:=[i0],size:=1,flds:=[],elem:=none,sok:=false,kd:=some (some .i64)}),
 (36,{agg:=some 60,zero:=zR 6 (b0::b0::zR 52 ([])),size:=60,flds:=[some (0,3),some (1,3),some (2,3),some (3,3),some (4,3),some (5,3),some (6,4),some (7,4),some (8,3),some (9,3),some (10,3),some (11,30),some (13,30),some (15,30),some (17,30),some (19,30),some (21,30),some (23,30),some (25,3),some (26,32),some (38,32),some (50,34),some (54,34),some (58,3),some (59,3)],elem:=none,sok:=true,kd:=none}),
 (24,{agg:=none,zero:=[s0],size:=1,flds:=[],elem:=some (3,1,8),sok:=false,kd:=none}),
 (4,{agg:=none,zero:=[b0],size:=1,flds:=[],elem:=none,sok:=false,kd:=some none}),
 (122,{agg:=some 2,zero:=[i0,i0],size:=2,flds:=[some (0,3),some (1,3)],elem:=none,sok:=true,kd:=none}),
 (28,{agg:=some 1,zero:=[s0],size:=1,flds:=[some (0,26)],elem:=none,sok:=true,kd:=none}),
 (30,{agg:=some 2,zero:=[i0,i0],size:=2,flds:=[some (0,3),some (1,3)],elem:=none,sok:=true,kd:=none}),
 (34,{agg:=some 4,zero:=[i0,i0,i0,i0],size:=4,flds:=[some (0,3),some (1,3),some (2,3),some (3,3)],elem:=none,sok:=true,kd:=none}),
 (69,{agg:=some 64,zero:=zR 1 (s0::zR 6 (b0::b0::zR 52 (b0::s0::[]))),size:=64,flds:=[some (0,3),some (1,24),some (2,36),some (62,4),some (63,67)],elem:=none,sok:=true,kd:=none}),
 (210,{agg:=some 7,zero:=zR 3 (b0::b0::zR 2 ([])),size:=7,flds:=[some (0,3),some (1,3),some (2,3),some (3,4),some (4,4),some (5,3),some (6,3)],elem:=none,sok:=true,kd:=none}),
 (199,{agg:=none,zero:=[s0],size:=1,flds:=[],elem:=some (237,9,64),sok:=false,kd:=none}),
 (32,{agg:=some 12,zero:=zR 12 ([]),size:=12,flds:=[some (0,30),some (2,30),some (4,30),some (6,30),some (8,30),some (10,30)],elem:=none,sok:=true,kd:=none}),
 (180,{agg:=some 68,zero:=zR 7 (b0::b0::zR 52 (b0::zR 5 (s0::[]))),size:=68,flds:=[some (0,3),some (1,36),some (61,4),some (62,122),some (64,122),some (66,3),some (67,24)],elem:=none,sok:=true,kd:=none}),
 (237,{agg:=some 9,zero:=zR 7 (b0::b0::[]),size:=9,flds:=[some (0,3),some (1,3),some (2,3),some (3,3),some (4,3),some (5,3),some (6,3),some (7,4),some (8,4)],elem:=none,sok:=true,kd:=none}),
 (41,{agg:=none,zero:=[s0],size:=1,flds:=[],elem:=some (45,5,40),sok:=false,kd:=none}),
 (196,{agg:=some 75,zero:=zR 7 (b0::b0::zR 56 (b0::zR 8 (s0::[]))),size:=75,flds:=[some (0,3),some (1,36),some (61,122),some (63,122),some (65,4),some (66,122),some (68,122),some (70,122),some (72,122),some (74,24)],elem:=none,sok:=true,kd:=none}),
 (45,{agg:=some 5,zero:=zR 5 ([]),size:=5,flds:=[some (0,3),some (1,3),some (2,3),some (3,3),some (4,3)],elem:=none,sok:=true,kd:=none}),
 (26,{agg:=none,zero:=[s0],size:=1,flds:=[],elem:=some (69,64,536),sok:=false,kd:=none}),
 (127,{agg:=some 4,zero:=[i0,i0,i0,s0],size:=4,flds:=[some (0,3),some (1,3),some (2,3),some (3,41)],elem:=none,sok:=true,kd:=none}),
 (76,{agg:=some 3,zero:=[s0,b0,.pointer none],size:=3,flds:=[some (0,28),some (1,4),some (2,74)],elem:=none,sok:=true,kd:=none}),
 (134,{agg:=some 123,zero:=zR 6 (b0::b0::zR 58 (b0::b0::zR 52 (b0::zR 2 ([])))),size:=123,flds:=[some (0,36),some (60,36),some (120,4),some (121,3),some (122,3)],elem:=none,sok:=true,kd:=none}),
 (204,{agg:=none,zero:=[s0],size:=1,flds:=[],elem:=some (210,7,48),sok:=false,kd:=none}),
 (147,{agg:=some 3,zero:=[i0,i0,i0],size:=3,flds:=[some (0,3),some (1,3),some (2,3)],elem:=none,sok:=true,kd:=none}),
 (67,{agg:=some 1,zero:=[s0],size:=1,flds:=[some (0,65)],elem:=none,sok:=true,kd:=none}),
 (48,{agg:=some 1,zero:=[s0],size:=1,flds:=[some (0,46)],elem:=none,sok:=true,kd:=none}),
 (65,{agg:=none,zero:=[s0],size:=1,flds:=[],elem:=some (147,3,24),sok:=false,kd:=none}),
 (91,{agg:=some 5,zero:=s0::b0::b0::s0::s0::[],size:=5,flds:=[some (0,28),some (1,4),some (2,4),some (3,88),some (4,89)],elem:=none,sok:=true,kd:=none}),
 (201,{agg:=none,zero:=[s0],size:=1,flds:=[],elem:=some (24,1,24),sok:=false,kd:=none}),
 (87,{agg:=none,zero:=[.pointer none],size:=1,flds:=[],elem:=none,sok:=false,kd:=none}),
 (110,{agg:=some 2,zero:=[i0,i0],size:=2,flds:=[some (0,3),some (1,3)],elem:=none,sok:=true,kd:=none}),
 (289,{agg:=some 7,zero:=s0::zR 2 (b0::s0::s0::zR 1 ([])),size:=7,flds:=[some (0,199),some (1,3),some (2,3),some (3,4),some (4,24),some (5,287),some (6,3)],elem:=none,sok:=true,kd:=none}),
 (304,{agg:=some 7,zero:=s0::zR 2 (b0::s0::s0::zR 1 ([])),size:=7,flds:=[some (0,199),some (1,3),some (2,3),some (3,4),some (4,287),some (5,24),some (6,3)],elem:=none,sok:=true,kd:=none}),
 (115,{agg:=some 60,zero:=zR 6 (b0::b0::zR 52 ([])),size:=60,flds:=[some (0,3),some (1,3),some (2,3),some (3,3),some (4,3),some (5,3),some (6,4),some (7,4),some (8,3),some (9,3),some (10,3),some (11,110),some (13,110),some (15,110),some (17,110),some (19,110),some (21,110),some (23,110),some (25,3),some (26,112),some (38,112),some (50,113),some (54,113),some (58,3),some (59,3)],elem:=none,sok:=true,kd:=none}),
 (287,{agg:=none,zero:=[s0],size:=1,flds:=[],elem:=some (4,1,1),sok:=false,kd:=none}),
 (157,{agg:=some 10,zero:=zR 5 (b0::zR 3 (s0::[])),size:=10,flds:=[some (0,3),some (1,122),some (3,122),some (5,4),some (6,127)],elem:=none,sok:=true,kd:=none}),
 (88,{agg:=none,zero:=[s0],size:=1,flds:=[],elem:=some (157,10,96),sok:=false,kd:=none}),
 (22,{agg:=none,zero:=[s0],size:=1,flds:=[],elem:=some (5,1,1),sok:=false,kd:=none}),
 (120,{agg:=some 64,zero:=zR 1 (s0::zR 6 (b0::b0::zR 52 (b0::s0::[]))),size:=64,flds:=[some (0,3),some (1,24),some (2,115),some (62,4),some (63,118)],elem:=none,sok:=true,kd:=none}),
 (112,{agg:=some 12,zero:=zR 12 ([]),size:=12,flds:=[some (0,110),some (2,110),some (4,110),some (6,110),some (8,110),some (10,110)],elem:=none,sok:=true,kd:=none}),
 (46,{agg:=none,zero:=[s0],size:=1,flds:=[],elem:=some (120,64,536),sok:=false,kd:=none}),
 (89,{agg:=none,zero:=[s0],size:=1,flds:=[],elem:=some (172,6,48),sok:=false,kd:=none}),
 (100,{agg:=some 3,zero:=[s0,i0,i0],size:=3,flds:=[some (0,22),some (1,3),some (2,3)],elem:=none,sok:=true,kd:=none}),
 (113,{agg:=some 4,zero:=[i0,i0,i0,i0],size:=4,flds:=[some (0,3),some (1,3),some (2,3),some (3,3)],elem:=none,sok:=true,kd:=none}),
 (116,{agg:=none,zero:=[s0],size:=1,flds:=[],elem:=some (233,3,24),sok:=false,kd:=none}),
 (118,{agg:=some 1,zero:=[s0],size:=1,flds:=[some (0,116)],elem:=none,sok:=true,kd:=none}),
 (169,{agg:=some 2,zero:=[s0,s0],size:=2,flds:=[some (0,88),some (1,89)],elem:=none,sok:=true,kd:=none}),
 (59,{agg:=none,zero:=[.pointer none],size:=1,flds:=[],elem:=none,sok:=false,kd:=none}),
 (302,{agg:=none,zero:=[.pointer none],size:=1,flds:=[],elem:=none,sok:=false,kd:=none}),
 (74,{agg:=none,zero:=[.pointer none],size:=1,flds:=[],elem:=none,sok:=false,kd:=none}),
 (233,{agg:=some 3,zero:=[i0,i0,i0],size:=3,flds:=[some (0,3),some (1,3),some (2,3)],elem:=none,sok:=true,kd:=none}),
 (5,{agg:=none,zero:=[.int .u8 0],size:=1,flds:=[],elem:=none,sok:=false,kd:=some (some .u8)}),
 (148,{agg:=none,zero:=[s0],size:=1,flds:=[],elem:=some (30,2,16),sok:=false,kd:=none}),
 (172,{agg:=some 6,zero:=zR 5 (b0::[]),size:=6,flds:=[some (0,3),some (1,122),some (3,122),some (5,4)],elem:=none,sok:=true,kd:=none}),
 (307,{agg:=none,zero:=[.pointer none],size:=1,flds:=[],elem:=none,sok:=false,kd:=none}),
 (94,{agg:=none,zero:=[.nilFunc],size:=1,flds:=[],elem:=none,sok:=false,kd:=none})]
theorem ay:gj Tryz.prog tab:=⟨by kernel_rfl,by kernel_rfl⟩
abbrev PC0(f:FuncId)(args:List AT)(r:AV):Prop:=dc Tryz.prog f args fun res rows=>res=r/\rows=[]
end Go.Proofs.YtckchgoblpgpbaaGreat.Am
