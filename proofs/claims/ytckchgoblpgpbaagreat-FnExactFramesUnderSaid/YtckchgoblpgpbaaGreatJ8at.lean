/- Structs that hold slices, as data. -/
import Derived.Test.YtckchgoblpgpbaaGreatProg
import Derived.WalkKit
import Derived.ProofKit
import Derived.Lib.Hide
import Derived.Deep.QuietTactic
import Derived.BigQuiet
import Derived.Deep.RegionHeld3
import Derived.Handy
import Derived.Deep.Slices
import Derived.WalkSpells
import Derived.Lib.QuietBelow
import Derived.Test.YtckchgoblpgpbaaGreatJ8as
set_option linter.unusedVariables false
set_option linter.unusedSimpArgs false
set_option maxHeartbeats 8000000
namespace Go.Proofs.YtckchgoblpgpbaaGreat
open Go.ChangeShapes Go.WideShapes Go.ChangeAt Go.RowKit
theorem own:ownKnob Tryz.prog.godebug=none:=by kernel_rfl
theorem zq:laidOutB Tryz.prog=true:=by kernel_rfl
theorem J9{W w':World}(h:Below W.heap.size W w'):(∀b o,b<W.heap.size->w'.cell? ⟨b,o,none⟩=W.cell? ⟨b,o,none⟩)/\(∀b o,b<W.heap.size->w'.frozen? ⟨b,o,none⟩=W.frozen? ⟨b,o,none⟩)/\(∀b,b<W.heap.size->b<w'.heap.size)/\W.heap.size<=w'.heap.size:=
 ⟨fun b o hb=>h.cell (p:=⟨b,o,none⟩) hb,fun b o hb=>h.frozen (p:=⟨b,o,none⟩) hb,fun b hb=>zpu hb h.size,h.size⟩
def R64(n:Int):Prop:= -9223372036854775808<=n/\n<=9223372036854775807
theorem om{n:Int}(h:(Lit.int .i64 n).wf=true):R64 n:=by
 have:=bounds_i64 h
 exact this
theorem nO{H:Type}{enc:TypeId×Value->H}{P:Program}(hl:laidOutB P=true){W W':World}(hb:Below W.heap.size W W'):
  ∀(ts:List TypeId)(vs:List Value)(ds:List (DataW H))(ps:List MemPlace),ts.all (fun t=>P.readableRec t&&decide (t<P.types.size))=true->
   DataW.TrodAll enc P W 0 (fun _=>true) true ts vs ds ps->(∀x∈ps,x.block<W.heap.size)->
   DataW.TrodAll enc P W' 0 (fun b=>decide (b<W.heap.size)) true ts vs ds ps
 | [],[],[],ps,_,h,_=>h
 |t::ts,v::vs,d::ds,ps,hr,h,hp=>by
  obtain⟨p,q,h1,h2,rfl⟩:=h
  simp only [zqD,zqs,zqp]at hr
  exact⟨p,q,Below.trod hl hr.1.1 hr.1.2 h1 hb (fun x hx=>hp x (List.mem_append.2 (.inl hx))),nO hl hb ts vs ds q hr.2 h2 (fun x hx=>hp x (List.mem_append.2 (.inr hx))),rfl⟩
 | [],_::_,_,_,_,h,_=>h.elim
 | [],[],_::_,_,_,h,_=>h.elim
 |_::_,[],_,_,_,h,_=>h.elim
 |_::_,_::_,[],_,_,h,_=>h.elim
theorem Fb{H:Type}{enc:TypeId×Value->H}{P:Program}{f:Func}{s:ChangeSpec}{W W':World}{args:Array Value}{ds gs:List (DataW H)}{before:List MemPlace}{t:TypeId}
  (hl:laidOutB P=true) (hf:f.params.toList.all (fun t=>P.readableRec t&&decide (t<P.types.size))=true)
  (hvars:s.vars=[]) (hfn:s.fn H (ds++gs)={results:=[.lit (.bool true)],args:=ds})
  (hres:f.resultTypes= #[t]) (hb:P.underlying t=some .bool)
  (hW:DataW.Whole enc P f.params.toList s.vars false W args.toList ds gs before)
  (hx:Below W.heap.size W W'):s.post enc P f false true false false W args (.bool true) W':=by
 have hc:=hW.lt
 have ha:=hW
 obtain⟨p,q,hA,hV,rfl,hd,he⟩:=hW
 refine⟨ds,gs,_,[],p,[],ha,?_,?_,?_,hx.frame _,fun h=>by cases h⟩
 ·rw [hfn,hres]
  exact trodAll_cons_mk (shut_bool hb true) trodAll_mk0
 ·rw [hfn]
  exact nO hl hx _ _ _ _ hf hA (fun x hx=>hc x (List.mem_append.2 (.inl hx)))
 ·rw [hfn,hvars]
  rfl
section
variable {H:Type}{enc:TypeId × Value->H}{P:Program}{w:World}{base:Nat}{spare:Nat->Bool}{nM:Bool}
def zD(P:Program):Nat->TypeId->Option (List TypeId)
 |0,_=>none
 |d+1,t=>
  match P.underlying t with
  |some (.struct fs)=>(fs.toList.mapM fun f=>zD P d f.type).map (·.flatten)
  |some (.array _ _)=>none
  |some _=>some [t]
  |none=>none
theorem sJ(d n:Nat)(cs:List Value)
  (ih:∀(t:TypeId)(ts:List TypeId)(fuel:Nat)(cs:List Value)(x:DataW H×List MemPlace),t<P.types.size->zD P d t=some ts->DataW.trod enc P w base spare nM fuel t cs=some x->
   cs.length=ts.length/\∀(i:Nat)(u:TypeId),ts[i]? =some u->∃c f' y,cs[i]? =some c/\DataW.trod enc P w base spare nM f' u [c]=some y):
  ∀(fs:List Field)(off:Nat)(tss:List (List TypeId)),(∀f∈fs,f.type<P.types.size)->fs.mapM (fun f=>zD P d f.type)=some tss->
   (∀(j:Nat)(f:Field),fs[j]? =some f->f.offset=off+((fs.take j).map fun f=>P.cellsOf f.type).sum)->
   off+(fs.map fun f=>P.cellsOf f.type).sum<=cs.length->
   (∀f∈fs,∃x,DataW.trod enc P w base spare nM n f.type ((cs.drop f.offset).take (P.cellsOf f.type))=some x)->
   tss.flatten.length=(fs.map fun f=>P.cellsOf f.type).sum/\
    ∀(i:Nat)(u:TypeId),tss.flatten[i]? =some u->∃c f' y,cs[off+i]? =some c/\DataW.trod enc P w base spare nM f' u [c]=some y
 | [],off,tss,_,hm,_,_,_=>by
  simp only [List.mapM_nil,Option.pure_def,zqy]at hm
  subst hm
  exact⟨rfl,fun i u h=>by simp at h⟩
 |f::fs,off,tss,hz,hm,ho,hlen,hr=>by
  simp only [List.mapM_cons,Option.bind_eq_bind,Option.bind_eq_some_iff,Option.pure_def,zqy]at hm
  obtain⟨ts,h1,ha,h2,rfl⟩:=hm
  have hb:f.offset=off:=by simpa using ho 0 f rfl
  simp only [zqA,List.sum_cons]at hlen
  obtain⟨x,hx⟩:=hr f (zpd ..)
  obtain⟨hf,hd⟩:=ih f.type ts n _ x (hz f (zpd ..)) h1 hx
  have hh:((cs.drop f.offset).take (P.cellsOf f.type)).length=P.cellsOf f.type:=by
   rw [List.length_take,List.length_drop,hb];omega
  rw [hh]at hf
  obtain⟨hj,he⟩:=sJ d n cs ih fs (off+P.cellsOf f.type) ha (fun g hg=>hz g (zpe _ hg)) h2 (fun j g hg=>by
   have:=ho (j+1) g hg
   simp only [List.take_succ_cons,zqA,List.sum_cons]at this
   omega) (by omega) (fun g hg=>hr g (zpe _ hg))
  refine⟨by simp only [List.flatten_cons,zqe,zqA,List.sum_cons];omega,fun i u hu=> ?_⟩
  simp only [List.flatten_cons]at hu
  by_cases hi:i<ts.length
  ·rw [zqh hi]at hu
   obtain⟨c,f',y,hc,hy⟩:=hd i u hu
   refine⟨c,f',y,?_,hy⟩
   rw [zpp,if_pos (by omega),List.getElem?_drop,hb]at hc
   exact hc
  ·rw [zqg (by omega)]at hu
   obtain⟨c,f',y,hc,hy⟩:=he _ u hu
   refine⟨c,f',y,?_,hy⟩
   rw [<-hc]
   congr 1
   omega
theorem BV(hl:laidOutB P=true){t:TypeId}{fs:Array Field}(ht:P.underlying t=some (.struct fs))(hlt:t<P.types.size):
  P.cellsOf t=(fs.toList.map fun f=>P.cellsOf f.type).sum/\
   ∀(j:Nat)(f:Field),fs.toList[j]? =some f->f.offset=((fs.toList.take j).map fun f=>P.cellsOf f.type).sum/\f.type<P.types.size:=by
 unfold laidOutB at hl
 simp only [zqs,zqf,List.mem_range]at hl
 have h:=hl.1.1 t hlt
 unfold rowFine at h
 rw [ht]at h
 have hv:isVar P t=true:=by simp [isVar,hlt,ht,kindOk]
 simp only [hv,Bool.not_true,Bool.false_or,zqs,zqf,beq_iff_eq,List.mem_range]at h
 refine⟨h.1.2,fun j f hj=> ?_⟩
 have ha:j<fs.toList.length:=(zqb.1 hj).1
 have h2:=h.2 j ha
 rw [hj]at h2
 have h3:=h.1.1 f (zqd hj)
 unfold isVar at h3
 simp only [zqs,zqp]at h3
 exact⟨by simpa using h2,h3.1⟩
theorem ym(hl:laidOutB P=true):∀(d:Nat)(t:TypeId)(ts:List TypeId)(ha:Nat)(cs:List Value)(x:DataW H×List MemPlace),t<P.types.size->zD P d t=some ts->
  DataW.trod enc P w base spare nM ha t cs=some x->
  cs.length=ts.length/\∀(i:Nat)(u:TypeId),ts[i]? =some u->∃c f' y,cs[i]? =some c/\DataW.trod enc P w base spare nM f' u [c]=some y:=by
 intro d
 induction d with
 |zero=>intro t ts ha cs x _ h;simp [zD]at h
 |succ d ih=>
  intro t ts ha cs x hi h hx
  unfold zD at h
  split at h
  ·rename_i fs ht
   simp only [zqj]at h
   obtain⟨hn,hm,rfl⟩:=h
   obtain⟨xs,n,rfl,rfl,hc,hk,hf⟩:=DataW.trod_struct ht hx
   obtain⟨hC,hO⟩:=BV hl ht hi
   have he:=sJ (H:=H) (enc:=enc) (P:=P) (w:=w) (base:=base) (spare:=spare) (nM:=nM) d n cs ih fs.toList 0 hn (fun f hb=>by
     obtain⟨j,hj⟩:=List.getElem?_of_mem hb
     exact(hO j f hj).2) hm (fun j f hj=>by rw [(hO j f hj).1];omega) (by omega) (fun f hb=>by
     obtain⟨j,hj⟩:=List.getElem?_of_mem hb
     have hd:fs[j]? =some f:=by simpa using hj
     have:=hf j f hd
     have hh:j<xs.length:=by rw [hk];exact(zpj.1 hd).1
     exact⟨xs[j],by rw [this,zqc hh]⟩)
   refine⟨by rw [hc,hC];exact he.1.symm,fun i u hu=> ?_⟩
   have:=he.2 i u hu
   simpa using this
  ·simp at h
  ·rename_i ty hns hna ht
   simp only [zqy]at h
   subst h
   have hg:∃c,cs=[c]:=by
    cases ha with
    |zero=>simp [DataW.trod]at hx
    |succ n=>
     unfold DataW.trod at hx
     split at hx<;>first|exact⟨_,rfl⟩|(exfalso;rename_i h0;rw [ht]at h0;exact hns _ (Option.some.inj h0))|(exfalso;rename_i h0;rw [ht]at h0;exact hna _ _ (Option.some.inj h0))|(simp_all;done)
   obtain⟨c,rfl⟩:=hg
   refine⟨rfl,fun i u hu=> ?_⟩
   match i,hu with
   |0,hu=>
    simp at hu
    subst hu
    exact⟨c,ha,x,rfl,hx⟩
   |i+1,hu=>simp at hu
  ·simp at h
end
structure ir where
 kind:Int
 n:Int
 deriving DecidableEq
def ir.c(x:ir):Array Value:= #[.int .i64 x.kind,.int .i64 x.n]
structure bI where
 left:ir
 top:ir
 right:ir
 bottom:ir
 start:ir
 fin:ir
 deriving DecidableEq
def bI.c(x:bI):Array Value:= #[.int .i64 x.left.kind,.int .i64 x.left.n,.int .i64 x.top.kind,.int .i64 x.top.n,.int .i64 x.right.kind,.int .i64 x.right.n,.int .i64 x.bottom.kind,.int .i64 x.bottom.n,.int .i64 x.start.kind,.int .i64 x.start.n,.int .i64 x.fin.kind,.int .i64 x.fin.n]
structure dr where
 left:Int
 top:Int
 right:Int
 bottom:Int
 deriving DecidableEq
def dr.c(x:dr):Array Value:= #[.int .i64 x.left,.int .i64 x.top,.int .i64 x.right,.int .i64 x.bottom]
structure ah where
 dir:Int
 wrap:Int
 justify:Int
 items:Int
 self:Int
 content:Int
 apart:Bool
 hidden:Bool
 order:Int
 grow:Int
 shrink:Int
 basis:ir
 width:ir
 height:ir
 minWidth:ir
 minHeight:ir
 maxWidth:ir
 maxHeight:ir
 ratio:Int
 margin:bI
 inset:bI
 pad:dr
 border:dr
 rowGap:Int
 colGap:Int
 deriving DecidableEq
def ah.c(x:ah):Array Value:= #[.int .i64 x.dir,.int .i64 x.wrap,.int .i64 x.justify,.int .i64 x.items,.int .i64 x.self,.int .i64 x.content,.bool x.apart,.bool x.hidden,.int .i64 x.order,.int .i64 x.grow,.int .i64 x.shrink,.int .i64 x.basis.kind,.int .i64 x.basis.n,.int .i64 x.width.kind,.int .i64 x.width.n,.int .i64 x.height.kind,.int .i64 x.height.n,.int .i64 x.minWidth.kind,.int .i64 x.minWidth.n,.int .i64 x.minHeight.kind,.int .i64 x.minHeight.n,.int .i64 x.maxWidth.kind,.int .i64 x.maxWidth.n,.int .i64 x.maxHeight.kind,.int .i64 x.maxHeight.n,.int .i64 x.ratio,.int .i64 x.margin.left.kind,.int .i64 x.margin.left.n,.int .i64 x.margin.top.kind,.int .i64 x.margin.top.n,.int .i64 x.margin.right.kind,.int .i64 x.margin.right.n,.int .i64 x.margin.bottom.kind,.int .i64 x.margin.bottom.n,.int .i64 x.margin.start.kind,.int .i64 x.margin.start.n,.int .i64 x.margin.fin.kind,.int .i64 x.margin.fin.n,.int .i64 x.inset.left.kind,.int .i64 x.inset.left.n,.int .i64 x.inset.top.kind,.int .i64 x.inset.top.n,.int .i64 x.inset.right.kind,.int .i64 x.inset.right.n,.int .i64 x.inset.bottom.kind,.int .i64 x.inset.bottom.n,.int .i64 x.inset.start.kind,.int .i64 x.inset.start.n,.int .i64 x.inset.fin.kind,.int .i64 x.inset.fin.n,.int .i64 x.pad.left,.int .i64 x.pad.top,.int .i64 x.pad.right,.int .i64 x.pad.bottom,.int .i64 x.border.left,.int .i64 x.border.top,.int .i64 x.border.right,.int .i64 x.border.bottom,.int .i64 x.rowGap,.int .i64 x.colGap]
def ah.of(g:Nat->Int)(h:Nat->Bool):ah:=⟨(g 0),(g 1),(g 2),(g 3),(g 4),(g 5),(h 6),(h 7),(g 8),(g 9),(g 10),⟨(g 11),(g 12)⟩,⟨(g 13),(g 14)⟩,⟨(g 15),(g 16)⟩,⟨(g 17),(g 18)⟩,⟨(g 19),(g 20)⟩,⟨(g 21),(g 22)⟩,⟨(g 23),(g 24)⟩,(g 25),⟨⟨(g 26),(g 27)⟩,⟨(g 28),(g 29)⟩,⟨(g 30),(g 31)⟩,⟨(g 32),(g 33)⟩,⟨(g 34),(g 35)⟩,⟨(g 36),(g 37)⟩⟩,⟨⟨(g 38),(g 39)⟩,⟨(g 40),(g 41)⟩,⟨(g 42),(g 43)⟩,⟨(g 44),(g 45)⟩,⟨(g 46),(g 47)⟩,⟨(g 48),(g 49)⟩⟩,⟨(g 50),(g 51),(g 52),(g 53)⟩,⟨(g 54),(g 55),(g 56),(g 57)⟩,(g 58),(g 59)⟩
structure aC where
 room:Int
 wide:Int
 high:Int
 deriving DecidableEq
def aC.c(x:aC):Array Value:= #[.int .i64 x.room,.int .i64 x.wide,.int .i64 x.high]
structure aK where
 mode:Int
 n:Int
 deriving DecidableEq
structure af where
 base:Int
 least:Int
 most:Int
 grow:Int
 shrink:Int
 before:Int
 behind:Int
 autoBefore:Bool
 autoBehind:Bool
 deriving DecidableEq
def af.c(x:af):Array Value:= #[.int .i64 x.base,.int .i64 x.least,.int .i64 x.most,.int .i64 x.grow,.int .i64 x.shrink,.int .i64 x.before,.int .i64 x.behind,.bool x.autoBefore,.bool x.autoBehind]
structure aw where
 size:Int
 before:Int
 behind:Int
 autoBefore:Bool
 autoBehind:Bool
 align:Int
 base:Int
 deriving DecidableEq
def aw.c(x:aw):Array Value:= #[.int .i64 x.size,.int .i64 x.before,.int .i64 x.behind,.bool x.autoBefore,.bool x.autoBehind,.int .i64 x.align,.int .i64 x.base]
structure ag where
 node:Int
 x:Int
 y:Int
 wide:Int
 high:Int
 deriving DecidableEq
def ag.c(x:ag):Array Value:= #[.int .i64 x.node,.int .i64 x.x,.int .i64 x.y,.int .i64 x.wide,.int .i64 x.high]
structure lu where
 node:Int
 wide:aK
 high:aK
 rtl:Bool
 deriving DecidableEq
def lu.c(x:lu):Array Value:= #[.int .i64 x.node,.int .i64 x.wide.mode,.int .i64 x.wide.n,.int .i64 x.high.mode,.int .i64 x.high.n,.bool x.rtl]
def ak(n:Int):Array Value:= #[.int .i64 n]
theorem FZ(a:Addr)(h:a.spot=none)(x y:Nat):(a.add x).add y=⟨a.block,a.off+x+y,none⟩:=by
 obtain⟨b,o,s⟩:=a
 simp only at h
 subst h
 unfold Addr.add
 split<;>split<;>simp_all
theorem xA{w:World}{a:Addr}{u:Value}(h:w.cell? a=some u):a.spot=none:=by
 unfold World.cell? at h
 split at h
 ·split at h
  ·cases h
  ·rename_i hs;simpa using hs
 ·cases h
end Go.Proofs.YtckchgoblpgpbaaGreat
namespace Go.Proofs.YtckchgoblpgpbaaGreat
open Go.ChangeShapes Go.WideShapes Go.ChangeAt Go.RowKit Am
def lc(a:Array Value):List AC:=a.toList.map .imm
variable {α:Type}
def vw(c:α->Array Value)(xs:List α):LLA:=xs.map fun x=>lc (c x)
theorem ar(c:α->Array Value)(xs:List α):(vw c xs).length=xs.length:=by simp [vw]
variable {xs:List α}
theorem lmV{c:α->Array Value}{V:LLA}(h:V=vw c xs):V.length=xs.length:=by rw [h,ar]
theorem aZ{c:α->Array Value}{i:Nat}{x:α}(h:xs[i]? =some x):(vw c xs)[i]? =some (lc (c x)):=by simp [vw,h]
theorem qM{z:Int}(h0:0<=z)(h1:z<xs.length):∃x,xs[z.toNat]? =some x:=⟨xs[z.toNat]'(by omega),zqc _⟩
end Go.Proofs.YtckchgoblpgpbaaGreat
namespace Go.Proofs.YtckchgoblpgpbaaGreat.Am
set_option maxRecDepth 100000
abbrev i0:Value:= .int .i64 0
abbrev zR(n:Nat)(l:List Value):List Value:=List.replicate n i0++l
abbrev b0:Value:= .bool false
abbrev s0:Value:= .slice none 0 0
def tab:List (TypeId×TI):=[
 (3,⟨none,[i0],1,[],none,false,some (some .i64)⟩),
 (36,⟨some 60,zR 6 (b0::b0::zR 52 ([])),60,[some (0,3),some (1,3),some (2,3),some (3,3),some (4,3),some (5,3),some (6,4),some (7,4),some (8,3),some (9,3),some (10,3),some (11,30),some (13,30),some (15,30),some (17,30),some (19,30),some (21,30),some (23,30),some (25,3),some (26,32),some (38,32),some (50,34),some (54,34),some (58,3),some (59,3)],none,true,none⟩),
 (24,⟨none,[s0],1,[],some (3,1,8),false,none⟩),
 (4,⟨none,[b0],1,[],none,false,some none⟩),
 (122,⟨some 2,[i0,i0],2,[some (0,3),some (1,3)],none,true,none⟩),
 (28,⟨some 1,[s0],1,[some (0,26)],none,true,none⟩),
 (30,⟨some 2,[i0,i0],2,[some (0,3),some (1,3)],none,true,none⟩),
 (34,⟨some 4,[i0,i0,i0,i0],4,[some (0,3),some (1,3),some (2,3),some (3,3)],none,true,none⟩),
 (69,⟨some 64,zR 1 (s0::zR 6 (b0::b0::zR 52 (b0::s0::[]))),64,[some (0,3),some (1,24),some (2,36),some (62,4),some (63,67)],none,true,none⟩),
 (210,⟨some 7,zR 3 (b0::b0::zR 2 ([])),7,[some (0,3),some (1,3),some (2,3),some (3,4),some (4,4),some (5,3),some (6,3)],none,true,none⟩),
 (199,⟨none,[s0],1,[],some (237,9,64),false,none⟩),
 (32,⟨some 12,zR 12 ([]),12,[some (0,30),some (2,30),some (4,30),some (6,30),some (8,30),some (10,30)],none,true,none⟩),
 (180,⟨some 68,zR 7 (b0::b0::zR 52 (b0::zR 5 (s0::[]))),68,[some (0,3),some (1,36),some (61,4),some (62,122),some (64,122),some (66,3),some (67,24)],none,true,none⟩),
 (237,⟨some 9,zR 7 (b0::b0::[]),9,[some (0,3),some (1,3),some (2,3),some (3,3),some (4,3),some (5,3),some (6,3),some (7,4),some (8,4)],none,true,none⟩),
 (41,⟨none,[s0],1,[],some (45,5,40),false,none⟩),
 (196,⟨some 75,zR 7 (b0::b0::zR 56 (b0::zR 8 (s0::[]))),75,[some (0,3),some (1,36),some (61,122),some (63,122),some (65,4),some (66,122),some (68,122),some (70,122),some (72,122),some (74,24)],none,true,none⟩),
 (45,⟨some 5,zR 5 ([]),5,[some (0,3),some (1,3),some (2,3),some (3,3),some (4,3)],none,true,none⟩),
 (26,⟨none,[s0],1,[],some (69,64,536),false,none⟩),
 (127,⟨some 4,[i0,i0,i0,s0],4,[some (0,3),some (1,3),some (2,3),some (3,41)],none,true,none⟩),
 (76,⟨some 3,[s0,b0,.pointer none],3,[some (0,28),some (1,4),some (2,74)],none,true,none⟩),
 (134,⟨some 123,zR 6 (b0::b0::zR 58 (b0::b0::zR 52 (b0::zR 2 ([])))),123,[some (0,36),some (60,36),some (120,4),some (121,3),some (122,3)],none,true,none⟩),
 (204,⟨none,[s0],1,[],some (210,7,48),false,none⟩),
 (147,⟨some 3,[i0,i0,i0],3,[some (0,3),some (1,3),some (2,3)],none,true,none⟩),
 (67,⟨some 1,[s0],1,[some (0,65)],none,true,none⟩),
 (48,⟨some 1,[s0],1,[some (0,46)],none,true,none⟩),
 (65,⟨none,[s0],1,[],some (147,3,24),false,none⟩),
 (91,⟨some 5,s0::b0::b0::s0::s0::[],5,[some (0,28),some (1,4),some (2,4),some (3,88),some (4,89)],none,true,none⟩),
 (201,⟨none,[s0],1,[],some (24,1,24),false,none⟩),
 (87,⟨none,[.pointer none],1,[],none,false,none⟩),
 (110,⟨some 2,[i0,i0],2,[some (0,3),some (1,3)],none,true,none⟩),
 (289,⟨some 7,s0::zR 2 (b0::s0::s0::zR 1 ([])),7,[some (0,199),some (1,3),some (2,3),some (3,4),some (4,24),some (5,287),some (6,3)],none,true,none⟩),
 (304,⟨some 7,s0::zR 2 (b0::s0::s0::zR 1 ([])),7,[some (0,199),some (1,3),some (2,3),some (3,4),some (4,287),some (5,24),some (6,3)],none,true,none⟩),
 (115,⟨some 60,zR 6 (b0::b0::zR 52 ([])),60,[some (0,3),some (1,3),some (2,3),some (3,3),some (4,3),some (5,3),some (6,4),some (7,4),some (8,3),some (9,3),some (10,3),some (11,110),some (13,110),some (15,110),some (17,110),some (19,110),some (21,110),some (23,110),some (25,3),some (26,112),some (38,112),some (50,113),some (54,113),some (58,3),some (59,3)],none,true,none⟩),
 (287,⟨none,[s0],1,[],some (4,1,1),false,none⟩),
 (157,⟨some 10,zR 5 (b0::zR 3 (s0::[])),10,[some (0,3),some (1,122),some (3,122),some (5,4),some (6,127)],none,true,none⟩),
 (88,⟨none,[s0],1,[],some (157,10,96),false,none⟩),
 (22,⟨none,[s0],1,[],some (5,1,1),false,none⟩),
 (120,⟨some 64,zR 1 (s0::zR 6 (b0::b0::zR 52 (b0::s0::[]))),64,[some (0,3),some (1,24),some (2,115),some (62,4),some (63,118)],none,true,none⟩),
 (112,⟨some 12,zR 12 ([]),12,[some (0,110),some (2,110),some (4,110),some (6,110),some (8,110),some (10,110)],none,true,none⟩),
 (46,⟨none,[s0],1,[],some (120,64,536),false,none⟩),
 (89,⟨none,[s0],1,[],some (172,6,48),false,none⟩),
 (100,⟨some 3,[s0,i0,i0],3,[some (0,22),some (1,3),some (2,3)],none,true,none⟩),
 (113,⟨some 4,[i0,i0,i0,i0],4,[some (0,3),some (1,3),some (2,3),some (3,3)],none,true,none⟩),
 (116,⟨none,[s0],1,[],some (233,3,24),false,none⟩),
 (118,⟨some 1,[s0],1,[some (0,116)],none,true,none⟩),
 (169,⟨some 2,[s0,s0],2,[some (0,88),some (1,89)],none,true,none⟩),
 (59,⟨none,[.pointer none],1,[],none,false,none⟩),
 (302,⟨none,[.pointer none],1,[],none,false,none⟩),
 (74,⟨none,[.pointer none],1,[],none,false,none⟩),
 (233,⟨some 3,[i0,i0,i0],3,[some (0,3),some (1,3),some (2,3)],none,true,none⟩),
 (5,⟨none,[.int .u8 0],1,[],none,false,some (some .u8)⟩),
 (148,⟨none,[s0],1,[],some (30,2,16),false,none⟩),
 (172,⟨some 6,zR 5 (b0::[]),6,[some (0,3),some (1,122),some (3,122),some (5,4)],none,true,none⟩),
 (307,⟨none,[.pointer none],1,[],none,false,none⟩),
 (94,⟨none,[.nilFunc],1,[],none,false,none⟩)]
theorem bq:fL Tryz.prog tab:=⟨by kernel_rfl,by kernel_rfl⟩
abbrev PC0(f:FuncId)(args:List AT)(r:AV):Prop:=bS Tryz.prog f args fun res rows=>res=r/\rows=[]
variable {args:List AT}{Post:AV->List AB->Prop}{f:FuncId}{fn:Func}
theorem aV(hf:Tryz.prog.funcs[f]? =some fn)(hv:∀(g:Gd)(F:List AT->EH->Prop),g=G0 Tryz.prog 0 fn.ntmps->F=lv 0 (fun res h'=>∃rows,h'=rows.map .live/\Post res rows)->vV g tab (jD fn) (zF tab fn.results.toList F) (sV args 0) [])(h1:fn.body=some (jD fn):=by kernel_rfl)(h2:(fn.name== "runtime.NumGoroutine")=false:=by kernel_rfl)(h3:Nat.ble args.length fn.ntmps=true:=by rfl)(h4:fS fn.ntmps (jD fn)=true:=by kernel_rfl):bS Tryz.prog f args Post:=
 AN bq hf h1 h2 h3 h4 hv
theorem rU(ets:ET)(hf:Tryz.prog.funcs[f]? =some fn)(hv:∀(g:Gd)(eff:EF)(hd:HF)(F:List AT->EH->Prop),eff=Ci Tryz.prog->hd=hd0 Tryz.prog 0 fn.ntmps->g=G0 Tryz.prog 0 fn.ntmps->F=lv 0 (fun res h'=>∃rows,h'=rows.map .live/\Post res rows)->jM ets [] eff hd g tab (jD fn) (zF tab fn.results.toList F) (sV args 0) [])(h1:fn.body=some (jD fn):=by kernel_rfl)(h2:(fn.name== "runtime.NumGoroutine")=false:=by kernel_rfl)(h3:Nat.ble args.length fn.ntmps=true:=by rfl)(h4:dh ets [] fn.ntmps (jD fn)=true:=by kernel_rfl):bS Tryz.prog f args Post:=
 Dc ets [] bq hf h1 h2 h3 h4 hv
theorem mC{β:BP}(ets:ET){Post:AV->AH->Prop}{h:EH}(hf:Tryz.prog.funcs[f]? =some fn)(hv:∀(g:Gd)(eff:EF)(hd:HF)(F:List AT->EH->Prop),eff=Ci Tryz.prog->hd=hd0 Tryz.prog (toH h).length fn.ntmps->g=G0 Tryz.prog (toH h).length fn.ntmps->F=lv (toH h).length Post->jM ets [] eff hd g tab (jD fn) (zF tab fn.results.toList F) (sV args 0) h)(h1:fn.body=some (jD fn):=by kernel_rfl)(h2:(fn.name== "runtime.NumGoroutine")=false:=by kernel_rfl)(h3:Nat.ble args.length fn.ntmps=true:=by rfl)(h4:dh ets [] fn.ntmps (jD fn)=true:=by kernel_rfl)(hex:∀b,¬BP.ex b:=by exact fun _ h=>h):Con Tryz.prog f (toH h) args Post:=
 w9 ets [] bq hf h1 h2 (bl h3) h4 hv hex
end Go.Proofs.YtckchgoblpgpbaaGreat.Am
namespace Go.Proofs.YtckchgoblpgpbaaGreat
open Go.ChangeShapes Go.WideShapes Go.ChangeAt Go.RowKit Am Go.Proofs.Tryz
set_option maxRecDepth 100000
abbrev ai(n:Int):AT:= .c (.J n)
abbrev abl(b:Bool):AT:= .c (.B b)
theorem Jj(a:Array Value):(lc a).length=a.size:=by simp [lc]
theorem Fa(a:Array Value):(lc a).all dx=true:=by simp [lc,dx]
variable {α:Type}
theorem aD(c:α->Array Value)(xs:List α):ay (vw c xs)=true:=by
 simp only [ay,vw,List.all_map,zqf]
 intro x _
 exact Fa _
variable {xs:List α}{V:LLA}
theorem pmV{c:α->Array Value}(h:V=vw c xs):ay V=true:=by rw [h];exact aD _ _
theorem IT{es:List α}{j i:Nat}{x:α}(hj:j<es.length):(es.set j x)[i]? =if i=j then some x else es[i]? :=by
 rw [List.getElem?_set]
 by_cases h:j=i
 ·subst h;simp [hj]
 ·rw [if_neg h,if_neg (fun h'=>h h'.symm)]
structure rj(k:Nat)(V es:LLA)(z:Int):Prop where
 z0:0<=z
 z1:z<=aN V
 len:es.length=V.length
 ks:∀e∈es,e.length=k
 pl:ay es=true
 eq:∀i:Nat,i<z.toNat->es[i]? =V[i]?
variable {k:Nat}
theorem rj.start{z:List AC}(hk:z.length=k)(hp:z.all dx=true){n:Int}(hn:n=aN V):rj k V (List.replicate n.toNat z) 0:=
 ⟨by omega,by have:=ao V;omega,by have:=ao V;simp;omega,fun e he=>by rw [(List.mem_replicate.1 he).2];exact hk,by simp [ay,hp],fun i hi=>by simp at hi⟩
variable {z:Int}
theorem rj.step{V es:LLA}{j:Nat}{y:List AC}(h:rj k V es z)(hz:z<aN V)(hj:j=z.toNat)(hy:V[z.toNat]? =some y)(hk:y.length=k)(hp:y.all dx=true):rj k V (es.set j y) (z+1):=by
 have:=h.z0
 have:=h.len
 have:=ao V
 refine⟨by omega,by omega,by simpa using h.len,fun e he=> ?_,?_,fun i hi=> ?_⟩
 ·rcases List.mem_or_eq_of_mem_set he with h1|rfl
  ·exact h.ks e h1
  ·exact hk
 ·rw [ay,zqf]
  intro e he
  rcases List.mem_or_eq_of_mem_set he with h1|rfl
  ·exact zqf.1 h.pl e h1
  ·exact hp
 ·rw [IT (by omega)]
  by_cases hij:i=j
  ·rw [if_pos hij,hij,hj,hy]
  ·rw [if_neg hij];exact h.eq i (by omega)
theorem rj.done{V es:LLA}(h:rj k V es z)(hz:¬z<aN V):es=V:=by
 have:=ao V
 have:=h.z1
 have:=h.len
 refine List.ext_getElem? fun i=> ?_
 by_cases hi:i<V.length
 ·exact h.eq i (by omega)
 ·rw [zqz (by omega),zqz (by omega)]
theorem rj.mem{V es:LLA}(h:rj k V es z){j:Nat}(hj:j<es.length):∃e,es[j]? =some e/\e.length=k:=⟨es[j],zqc hj,h.ks _ (List.getElem_mem hj)⟩
def szR(n left:Int):Int:=if left-n<0 then-1 else left-n
theorem aq(n:Int)(h: -9223372036854775808<=n/\n<=9223372036854775807):wrap64 n=n:=IntWalk.wrap64_in n h
theorem bB(x:ir):PC0 160 [.agg (lc (ir.c x))] (.t (.agg (lc (ir.c x)))):=by
 obtain⟨a0,a1⟩:=x
 refine aV func160 fun g F hg hF=> ?_
 cbv
 exact gf hF rfl ⟨rfl,rfl⟩
theorem gN(x y:ir):PC0 200 [.agg (lc (ir.c x)),.agg (lc (ir.c y))] (.t (abl (decide (x=y)))):=by
 obtain⟨a0,a1⟩:=x
 obtain⟨b0,b1⟩:=y
 refine aV func200 fun g F hg hF=> ?_
 cbv
 cases e0:g .q .neq a0 b0
 case true=>
  rw [bC hg,bne_iff_ne]at e0
  cbv
  exact gf hF rfl ⟨by simp [mkV,e0],rfl⟩
 rw [bC hg,zqq]at e0
 subst e0
 cbv
 cases e1:g .q .neq a1 b1
 case true=>
  rw [bC hg,bne_iff_ne]at e1
  cbv
  exact gf hF rfl ⟨by simp [mkV,e1],rfl⟩
 rw [bC hg,zqq]at e1
 subst e1
 cbv
 exact gf hF rfl ⟨by simp [mkV],rfl⟩
theorem no(x:bI):PC0 161 [.agg (lc (bI.c x))] (.t (.agg (lc (bI.c x)))):=by
 obtain⟨⟨a0,a1⟩,⟨a2,a3⟩,⟨a4,a5⟩,⟨a6,a7⟩,⟨a8,a9⟩,⟨ha,hb⟩⟩:=x
 refine aV func161 fun g F hg hF=> ?_
 cbv
 (refine fV hg (bB (⟨a0,a1⟩:ir)) rfl rfl ?_)
 cbv
 (refine fV hg (bB (⟨a2,a3⟩:ir)) rfl rfl ?_)
 cbv
 (refine fV hg (bB (⟨a4,a5⟩:ir)) rfl rfl ?_)
 cbv
 (refine fV hg (bB (⟨a6,a7⟩:ir)) rfl rfl ?_)
 cbv
 (refine fV hg (bB (⟨a8,a9⟩:ir)) rfl rfl ?_)
 cbv
 (refine fV hg (bB (⟨ha,hb⟩:ir)) rfl rfl ?_)
 cbv
 exact gf hF rfl ⟨rfl,rfl⟩
theorem nr(x y:bI):PC0 201 [.agg (lc (bI.c x)),.agg (lc (bI.c y))] (.t (abl (decide (x=y)))):=by
 refine aV func201 fun g F hg hF=> ?_
 cbv
 iterate 6
  (first|refine bA hg (gN _ _) rfl (fun R e=> ?_)|refine bf hg (gN _ _) rfl (fun R e=> ?_))
  cases R
  ·replace e:=of_decide_eq_false e.symm
   cbv
   exact gf hF rfl ⟨by simp [mkV,show¬x=y from fun h=>e (by rw [h])],rfl⟩
  replace e:=of_decide_eq_true e.symm
  cbv
 obtain rfl:x=y:=by
  cases x
  cases y
  simp_all
 exact gf hF rfl ⟨by simp [mkV],rfl⟩
theorem nq(x:dr):PC0 162 [.agg (lc (dr.c x))] (.t (.agg (lc (dr.c x)))):=by
 obtain⟨a0,a1,a2,a3⟩:=x
 refine aV func162 fun g F hg hF=> ?_
 cbv
 exact gf hF rfl ⟨rfl,rfl⟩
theorem nt(x y:dr):PC0 202 [.agg (lc (dr.c x)),.agg (lc (dr.c y))] (.t (abl (decide (x=y)))):=by
 refine aV func202 fun g F hg hF=> ?_
 cbv
 iterate 4
  generalize e:g .q .neq _ _=r
  cases r
  rotate_left
  ·rw [bC hg,bne_iff_ne]at e
   cbv
   exact gf hF rfl ⟨by simp [mkV,show¬x=y from fun h=>e (by rw [h])],rfl⟩
  rw [bC hg,zqq]at e
  cbv
 obtain rfl:x=y:=by
  cases x
  cases y
  simp_all
 exact gf hF rfl ⟨by simp [mkV],rfl⟩
theorem jx(x:ah):PC0 118 [.agg (lc (ah.c x))] (.t (.agg (lc (ah.c x)))):=by
 obtain⟨a0,a1,a2,a3,a4,a5,a6,a7,a8,a9,hW,⟨ha,hb⟩,⟨hc,hd⟩,⟨he,hf⟩,⟨hh,hi⟩,⟨hj,hk⟩,⟨hl,hm⟩,⟨hn,ho⟩,hX,⟨⟨hp,hq⟩,⟨hr,hs⟩,⟨ht,hu⟩,⟨hv,hw⟩,⟨hx,hy⟩,⟨hz,hA⟩⟩,⟨⟨hB,hC⟩,⟨hD,hE⟩,⟨hG,hH⟩,⟨hI,hJ⟩,⟨hK,hL⟩,⟨hM,hN⟩⟩,⟨hO,hP,hQ,hR⟩,⟨hS,hT,hU,hV⟩,hY,hZ⟩:=x
 refine aV func118 fun g F hg hF=> ?_
 cbv
 (refine fV hg (bB (⟨ha,hb⟩:ir)) rfl rfl ?_)
 cbv
 (refine fV hg (bB (⟨hc,hd⟩:ir)) rfl rfl ?_)
 cbv
 (refine fV hg (bB (⟨he,hf⟩:ir)) rfl rfl ?_)
 cbv
 (refine fV hg (bB (⟨hh,hi⟩:ir)) rfl rfl ?_)
 cbv
 (refine fV hg (bB (⟨hj,hk⟩:ir)) rfl rfl ?_)
 cbv
 (refine fV hg (bB (⟨hl,hm⟩:ir)) rfl rfl ?_)
 cbv
 (refine fV hg (bB (⟨hn,ho⟩:ir)) rfl rfl ?_)
 cbv
 (refine fV hg (no (⟨⟨hp,hq⟩,⟨hr,hs⟩,⟨ht,hu⟩,⟨hv,hw⟩,⟨hx,hy⟩,⟨hz,hA⟩⟩:bI)) rfl rfl ?_)
 cbv
 (refine fV hg (no (⟨⟨hB,hC⟩,⟨hD,hE⟩,⟨hG,hH⟩,⟨hI,hJ⟩,⟨hK,hL⟩,⟨hM,hN⟩⟩:bI)) rfl rfl ?_)
 cbv
 (refine fV hg (nq (⟨hO,hP,hQ,hR⟩:dr)) rfl rfl ?_)
 cbv
 (refine fV hg (nq (⟨hS,hT,hU,hV⟩:dr)) rfl rfl ?_)
 cbv
 exact gf hF rfl ⟨rfl,rfl⟩
theorem ue(x y:ah):PC0 136 [.agg (lc (ah.c x)),.agg (lc (ah.c y))] (.t (abl (decide (x=y)))):=by
 refine aV func136 fun g F hg hF=> ?_
 cbv
 iterate 25
  first
   |(
    generalize e:g .q .neq _ _=r
    cases r
    rotate_left
    ·rw [bC hg,bne_iff_ne]at e
     cbv
     exact gf hF rfl ⟨by simp [mkV,show¬x=y from fun h=>e (by rw [h])],rfl⟩
    rw [bC hg,zqq]at e)
   |(
    generalize e:g .qb .neq _ _=r
    cases r
    rotate_left
    ·rw [gk hg,bne_iff_ne]at e
     cbv
     exact gf hF rfl ⟨by simp [mkV,show¬x=y from fun h=>e (by rw [h])],rfl⟩
    rw [gk hg,zqq]at e)
   |(
    first|refine bA hg (gN _ _) rfl (fun R e=> ?_)|refine bf hg (gN _ _) rfl (fun R e=> ?_)|refine bA hg (nr _ _) rfl (fun R e=> ?_)|refine bf hg (nr _ _) rfl (fun R e=> ?_)|refine bA hg (nt _ _) rfl (fun R e=> ?_)|refine bf hg (nt _ _) rfl (fun R e=> ?_)
    cases R
    ·replace e:=of_decide_eq_false e.symm
     cbv
     exact gf hF rfl ⟨by simp [mkV,show¬x=y from fun h=>e (by rw [h])],rfl⟩
    replace e:=of_decide_eq_true e.symm)
  cbv
 obtain rfl:x=y:=by
  cases x
  cases y
  simp_all
 exact gf hF rfl ⟨by simp [mkV],rfl⟩
theorem wv(x:aC):PC0 228 [.agg (lc (aC.c x))] (.t (.agg (lc (aC.c x)))):=by
 obtain⟨a0,a1,a2⟩:=x
 refine aV func228 fun g F hg hF=> ?_
 cbv
 exact gf hF rfl ⟨rfl,rfl⟩
theorem wC(x y:aC):PC0 254 [.agg (lc (aC.c x)),.agg (lc (aC.c y))] (.t (abl (decide (x=y)))):=by
 obtain⟨a0,a1,a2⟩:=x
 obtain⟨b0,b1,b2⟩:=y
 refine aV func254 fun g F hg hF=> ?_
 cbv
 cases e0:g .q .neq a0 b0
 case true=>
  rw [bC hg,bne_iff_ne]at e0
  cbv
  exact gf hF rfl ⟨by simp [mkV,e0],rfl⟩
 rw [bC hg,zqq]at e0
 subst e0
 cbv
 cases e1:g .q .neq a1 b1
 case true=>
  rw [bC hg,bne_iff_ne]at e1
  cbv
  exact gf hF rfl ⟨by simp [mkV,e1],rfl⟩
 rw [bC hg,zqq]at e1
 subst e1
 cbv
 cases e2:g .q .neq a2 b2
 case true=>
  rw [bC hg,bne_iff_ne]at e2
  cbv
  exact gf hF rfl ⟨by simp [mkV,e2],rfl⟩
 rw [bC hg,zqq]at e2
 subst e2
 cbv
 exact gf hF rfl ⟨by simp [mkV],rfl⟩
theorem ui(x y:ag):PC0 19 [.agg (lc (ag.c x)),.agg (lc (ag.c y))] (.t (abl (decide (x=y)))):=by
 refine aV func19 fun g F hg hF=> ?_
 cbv
 iterate 5
  generalize e:g .q .neq _ _=r
  cases r
  rotate_left
  ·rw [bC hg,bne_iff_ne]at e
   cbv
   exact gf hF rfl ⟨by simp [mkV,show¬x=y from fun h=>e (by rw [h])],rfl⟩
  rw [bC hg,zqq]at e
  cbv
 obtain rfl:x=y:=by
  cases x
  cases y
  simp_all
 exact gf hF rfl ⟨by simp [mkV],rfl⟩
theorem ub(V:LLA)(L:Int)(hV:V.length<=9223372036854775807)(h0:0<=L)(h1:L<=1048576):PC0 142 [.c (.view V),ai L] (.i (szR (aN V) L)):=by
 obtain⟨M,hM⟩:=nmE (aN V)
 have ha:0<=M:=by rw [hM,ao];omega
 have hb:M<=9223372036854775807:=by rw [hM,ao];omega
 rw [<-hM]
 refine aV func142 fun g F hg hF=> ?_
 cbv
 have e1:g .w .sub .i64 L (g .ln V)=L-M:=by rw [cu hg,bz hg,<-hM,aq _ (by omega)]
 obtain⟨D,hD⟩:=nmE (L-M)
 rw [<-hD]at e1
 rw [e1]
 cases e:g .q .lss D 0
 ·rw [ba hg,zqo]at e
  cbv
  exact aO hF (by unfold szR;rw [<-hD,if_neg e])
 ·rw [ba hg,zqp]at e
  cbv
  exact aO hF (by unfold szR;rw [<-hD,if_pos e])
theorem np(xs:List aC)(hl:xs.length<=1048576):bS prog 163 [.c (.view (vw aC.c xs))] fun res ha=>∃ab,res= .o 0/\ha=[ab]/\(ab.es.all fun x=>x.all dx)=true/\ab=⟨147,3,vw aC.c xs⟩:=by
 obtain⟨V,hV⟩:=nmE (vw aC.c xs)
 have he:=lmV hV
 rw [<-hV]
 refine aV func163 fun g F hg hF=> ?_
 cbv
 refine GI hg (by decide) (by rw [he];exact hl) ?_
 cbv
 have hd:rj 3 V (List.replicate (g .ln V).toNat [.J 0,.J 0,.J 0]) 0:=rj.start (k:=3) (z:=[.J 0,.J 0,.J 0]) rfl rfl (bz hg V)
 refine bQ hg bq (by kernel_rfl) (fun s:Int×LLA=>[(0,.v V),(3,.o 0),(4,.i s.1)]) (fun s=>[.rw ⟨147,3,s.2⟩]) (fun s=>rj 3 V s.2 s.1) (fun s=>V.length-s.1.toNat)
  (0,g .rp (g .ln V) [.J 0,.J 0,.J 0]) [some 0] ?_ (wkS [0] (by decide) ⟨⟨_,rfl,rfl,?_⟩,zpt⟩ zr3) (fun s B hs hB=> ?_)
 ·simp only [zy hg];exact hd
 ·simp only [zy hg];exact hd.pl
 ·obtain⟨z,es⟩:=s
  simp only at hs
  have h0:=hs.z0
  have h1:=hs.z1
  cbv
  cases hc:g .q .lss z (g .ln V)
  ·cbv
   rw [ba hg,bz hg,zqo]at hc
   obtain rfl:=hs.done hc
   exact KF _ hF rfl hs.pl ⟨_,rfl,rfl,hs.pl,by rw [hV]⟩
  ·cbv
   rw [ba hg,bz hg,zqp]at hc
   have hf:=ao V
   obtain⟨x,hx⟩:=qM (xs:=xs) h0 (by omega)
   have hy:V[z.toNat]? =some (lc (aC.c x)):=by rw [hV];exact aZ hx
   obtain⟨a0,a1,a2⟩:=x
   refine goX hg _ h0 hy rfl ?_
   cbv
   refine ad hg (wv ⟨a0,a1,a2⟩) ?_
   cbv
   refine goY hg h0 (by have:=hs.len;have:=ao V;have:aN es=(es.length:Int):=rfl;show z<aN es;omega) (fun j hj hh=> ?_)
   cbv
   refine goN hg (hs.mem hh) ?_
   cbv
   have hf:=ao V
   have h2:g .w .add .i64 z 1=z+1:=by rw [aG hg,aq _ (by omega)]
   rw [h2,jC hg]
   have hb:=hs.step hc hj hy rfl rfl
   exact iE hB (z+1,_) [some 0] (wkS [0] (by decide) ⟨⟨_,rfl,rfl,hb.pl⟩,zpt⟩ zr3) hb (by show V.length-(z+1).toNat<V.length-z.toNat;omega)
theorem ug(xs ys:List aC)(hl:xs.length<=1048576):PC0 203 [.c (.view (vw aC.c xs)),.c (.view (vw aC.c ys))] (.t (abl (decide (xs=ys)))):=by
 obtain⟨V,hV⟩:=nmE (vw aC.c xs)
 obtain⟨W,hW⟩:=nmE (vw aC.c ys)
 have hb:=lmV hV
 have hd:=lmV hW
 rw [<-hV,<-hW]
 refine aV func203 fun g F hg hF=> ?_
 cbv
 cases e0:g .q .neq (g .ln V) (g .ln W)
 case true=>
  rw [bC hg,bne_iff_ne,bz hg,bz hg]at e0
  cbv
  refine gf hF rfl ⟨?_,rfl⟩
  have:¬xs=ys:=fun h=>e0 (by rw [ao,ao,hb,hd,h])
  simp [mkV,this]
 rw [bC hg,zqq,bz hg,bz hg]at e0
 have hm:xs.length=ys.length:=by have:=ao V;have:=ao W;omega
 cbv
 refine bQ hg bq (by kernel_rfl) (fun z:Int=>[(0,.v V),(1,.v W),(5,.i z)]) (fun _=>[]) (fun z=>0<=z/\z<=aN V/\∀i:Nat,i<z.toNat->xs[i]? =ys[i]?) (fun z=>xs.length-z.toNat)
  0 [] ⟨by omega,by have:=ao V;omega,fun i hi=>by simp at hi⟩ (wk0 zr3) (fun z B hs hB=> ?_)
 obtain⟨h0,h1,h2⟩:=hs
 cbv
 cases hc:g .q .lss z (g .ln V)
 ·cbv
  rw [ba hg,bz hg,zqo]at hc
  refine gf hF rfl ⟨?_,rfl⟩
  have:xs=ys:=by
   have ha:=ao V
   refine List.ext_getElem? fun i=> ?_
   by_cases hi:i<xs.length
   ·exact h2 i (by omega)
   ·rw [zqz (by omega),zqz (by omega)]
  simp [mkV,this]
 ·cbv
  rw [ba hg,bz hg,zqp]at hc
  have ha:=ao V
  obtain⟨x,hx⟩:=qM (xs:=xs) h0 (by omega)
  obtain⟨y,hy⟩:=qM (xs:=ys) h0 (by omega)
  have hh:V[z.toNat]? =some (lc (aC.c x)):=by rw [hV];exact aZ hx
  have hk:W[z.toNat]? =some (lc (aC.c y)):=by rw [hW];exact aZ hy
  have hf:¬x=y->¬xs=ys:=fun h he=>h (by subst he;rw [hx]at hy;exact Option.some.inj hy)
  obtain⟨a0,a1,a2⟩:=x
  obtain⟨b0,b1,b2⟩:=y
  refine goX hg _ h0 hh rfl ?_
  cbv
  refine goX hg _ h0 hk rfl ?_
  cbv
  refine aa hg (wC ⟨a0,a1,a2⟩ ⟨b0,b1,b2⟩) ?_
  cbv
  obtain⟨D,hD⟩:∃D:Bool,D=decide ((⟨a0,a1,a2⟩:aC)=⟨b0,b1,b2⟩):=⟨_,rfl⟩
  rw [<-hD]
  cases D
  ·cbv
   refine gf hF rfl ⟨?_,rfl⟩
   simp [mkV,hf (by simpa using hD.symm)]
  ·cbv
   have hj:(⟨a0,a1,a2⟩:aC)=⟨b0,b1,b2⟩:=by simpa using hD.symm
   have ha:=ao V
   have h3:g .w .add .i64 z 1=z+1:=by rw [aG hg,aq _ (by omega)]
   rw [h3]
   refine iE hB (z+1) [] (wk0 zr3) ⟨by omega,by omega,fun i hi=> ?_⟩ (by omega)
   by_cases hi2:i<z.toNat
   ·exact h2 i hi2
   ·rw [show i=z.toNat by omega,hx,hy,hj]
theorem sC(xs ys:List ag)(hl:xs.length<=1048576):PC0 23 [.c (.view (vw ag.c xs)),.c (.view (vw ag.c ys))] (.t (abl (decide (xs=ys)))):=by
 obtain⟨V,hV⟩:=nmE (vw ag.c xs)
 obtain⟨W,hW⟩:=nmE (vw ag.c ys)
 have hb:=lmV hV
 have hd:=lmV hW
 rw [<-hV,<-hW]
 refine aV func23 fun g F hg hF=> ?_
 cbv
 cases e0:g .q .neq (g .ln V) (g .ln W)
 case true=>
  rw [bC hg,bne_iff_ne,bz hg,bz hg]at e0
  cbv
  refine gf hF rfl ⟨?_,rfl⟩
  have:¬xs=ys:=fun h=>e0 (by rw [ao,ao,hb,hd,h])
  simp [mkV,this]
 rw [bC hg,zqq,bz hg,bz hg]at e0
 have hm:xs.length=ys.length:=by have:=ao V;have:=ao W;omega
 cbv
 refine bQ hg bq (by kernel_rfl) (fun z:Int=>[(0,.v V),(1,.v W),(5,.i z)]) (fun _=>[]) (fun z=>0<=z/\z<=aN V/\∀i:Nat,i<z.toNat->xs[i]? =ys[i]?) (fun z=>xs.length-z.toNat)
  0 [] ⟨by omega,by have:=ao V;omega,fun i hi=>by simp at hi⟩ (wk0 zr3) (fun z B hs hB=> ?_)
 obtain⟨h0,h1,h2⟩:=hs
 cbv
 cases hc:g .q .lss z (g .ln V)
 ·cbv
  rw [ba hg,bz hg,zqo]at hc
  refine gf hF rfl ⟨?_,rfl⟩
  have:xs=ys:=by
   have ha:=ao V
   refine List.ext_getElem? fun i=> ?_
   by_cases hi:i<xs.length
   ·exact h2 i (by omega)
   ·rw [zqz (by omega),zqz (by omega)]
  simp [mkV,this]
 ·cbv
  rw [ba hg,bz hg,zqp]at hc
  have ha:=ao V
  obtain⟨x,hx⟩:=qM (xs:=xs) h0 (by omega)
  obtain⟨y,hy⟩:=qM (xs:=ys) h0 (by omega)
  have hh:V[z.toNat]? =some (lc (ag.c x)):=by rw [hV];exact aZ hx
  have hk:W[z.toNat]? =some (lc (ag.c y)):=by rw [hW];exact aZ hy
  have hf:¬x=y->¬xs=ys:=fun h he=>h (by subst he;rw [hx]at hy;exact Option.some.inj hy)
  obtain⟨a0,a1,a2,a3,a4⟩:=x
  obtain⟨b0,b1,b2,b3,b4⟩:=y
  refine goX hg _ h0 hh rfl ?_
  cbv
  refine goX hg _ h0 hk rfl ?_
  cbv
  refine aa hg (ui ⟨a0,a1,a2,a3,a4⟩ ⟨b0,b1,b2,b3,b4⟩) ?_
  cbv
  obtain⟨D,hD⟩:∃D:Bool,D=decide ((⟨a0,a1,a2,a3,a4⟩:ag)=⟨b0,b1,b2,b3,b4⟩):=⟨_,rfl⟩
  rw [<-hD]
  cases D
  ·cbv
   refine gf hF rfl ⟨?_,rfl⟩
   simp [mkV,hf (by simpa using hD.symm)]
  ·cbv
   have hj:(⟨a0,a1,a2,a3,a4⟩:ag)=⟨b0,b1,b2,b3,b4⟩:=by simpa using hD.symm
   have ha:=ao V
   have h3:g .w .add .i64 z 1=z+1:=by rw [aG hg,aq _ (by omega)]
   rw [h3]
   refine iE hB (z+1) [] (wk0 zr3) ⟨by omega,by omega,fun i hi=> ?_⟩ (by omega)
   by_cases hi2:i<z.toNat
   ·exact h2 i hi2
   ·rw [show i=z.toNat by omega,hx,hy,hj]
theorem wA(V:LLA)(L:Int)(hV:V.length<=9223372036854775807)(h0:0<=L)(h1:L<=1048576):PC0 101 [.c (.view V),ai L] (.i (szR (aN V) L)):=by
 obtain⟨M,hM⟩:=nmE (aN V)
 have ha:0<=M:=by rw [hM,ao];omega
 have hb:M<=9223372036854775807:=by rw [hM,ao];omega
 rw [<-hM]
 refine aV func101 fun g F hg hF=> ?_
 cbv
 have e1:g .w .sub .i64 L (g .ln V)=L-M:=by rw [cu hg,bz hg,<-hM,aq _ (by omega)]
 obtain⟨D,hD⟩:=nmE (L-M)
 rw [<-hD]at e1
 rw [e1]
 cases e:g .q .lss D 0
 ·rw [ba hg,zqo]at e
  cbv
  exact aO hF (by unfold szR;rw [<-hD,if_neg e])
 ·rw [ba hg,zqp]at e
  cbv
  exact aO hF (by unfold szR;rw [<-hD,if_pos e])
theorem oC(xs:List Int)(hl:xs.length<=1048576):bS prog 117 [.c (.view (vw ak xs))] fun res ha=>∃ab,res= .o 0/\ha=[ab]/\(ab.es.all fun x=>x.all dx)=true/\ab=⟨3,1,vw ak xs⟩:=by
 obtain⟨V,hV⟩:=nmE (vw ak xs)
 have he:=lmV hV
 rw [<-hV]
 refine aV func117 fun g F hg hF=> ?_
 cbv
 refine GI hg (by decide) (by rw [he];exact hl) ?_
 cbv
 have hd:rj 1 V (List.replicate (g .ln V).toNat [.J 0]) 0:=rj.start (k:=1) (z:=[.J 0]) rfl rfl (bz hg V)
 refine bQ hg bq (by kernel_rfl) (fun s:Int×LLA=>[(0,.v V),(3,.o 0),(4,.i s.1)]) (fun s=>[.rw ⟨3,1,s.2⟩]) (fun s=>rj 1 V s.2 s.1) (fun s=>V.length-s.1.toNat)
  (0,g .rp (g .ln V) [.J 0]) [some 0] ?_ (wkS [0] (by decide) ⟨⟨_,rfl,rfl,?_⟩,zpt⟩ zr3) (fun s B hs hB=> ?_)
 ·simp only [zy hg];exact hd
 ·simp only [zy hg];exact hd.pl
 ·obtain⟨z,es⟩:=s
  simp only at hs
  have h0:=hs.z0
  have h1:=hs.z1
  cbv
  cases hc:g .q .lss z (g .ln V)
  ·cbv
   rw [ba hg,bz hg,zqo]at hc
   obtain rfl:=hs.done hc
   exact KF _ hF rfl hs.pl ⟨_,rfl,rfl,hs.pl,by rw [hV]⟩
  ·cbv
   rw [ba hg,bz hg,zqp]at hc
   have hf:=ao V
   obtain⟨x,hx⟩:=qM (xs:=xs) h0 (by omega)
   have hy:V[z.toNat]? =some (lc (ak x)):=by rw [hV];exact aZ hx
   refine goX hg _ h0 hy rfl ?_
   cbv
   refine goY hg h0 (by have:=hs.len;have:=ao V;have:aN es=(es.length:Int):=rfl;show z<aN es;omega) (fun j hj hh=> ?_)
   cbv
   refine goN hg (hs.mem hh) ?_
   cbv
   have hf:=ao V
   have h2:g .w .add .i64 z 1=z+1:=by rw [aG hg,aq _ (by omega)]
   rw [h2,jC hg]
   have hb:=hs.step hc hj hy rfl rfl
   exact iE hB (z+1,_) [some 0] (wkS [0] (by decide) ⟨⟨_,rfl,rfl,hb.pl⟩,zpt⟩ zr3) hb (by show V.length-(z+1).toNat<V.length-z.toNat;omega)
theorem wE(xs ys:List Int)(hl:xs.length<=1048576):PC0 135 [.c (.view (vw ak xs)),.c (.view (vw ak ys))] (.t (abl (decide (xs=ys)))):=by
 obtain⟨V,hV⟩:=nmE (vw ak xs)
 obtain⟨W,hW⟩:=nmE (vw ak ys)
 have hb:=lmV hV
 have hd:=lmV hW
 rw [<-hV,<-hW]
 refine aV func135 fun g F hg hF=> ?_
 cbv
 cases e0:g .q .neq (g .ln V) (g .ln W)
 case true=>
  rw [bC hg,bne_iff_ne,bz hg,bz hg]at e0
  cbv
  refine gf hF rfl ⟨?_,rfl⟩
  have:¬xs=ys:=fun h=>e0 (by rw [ao,ao,hb,hd,h])
  simp [mkV,this]
 rw [bC hg,zqq,bz hg,bz hg]at e0
 have hm:xs.length=ys.length:=by have:=ao V;have:=ao W;omega
 cbv
 refine bQ hg bq (by kernel_rfl) (fun z:Int=>[(0,.v V),(1,.v W),(5,.i z)]) (fun _=>[]) (fun z=>0<=z/\z<=aN V/\∀i:Nat,i<z.toNat->xs[i]? =ys[i]?) (fun z=>xs.length-z.toNat)
  0 [] ⟨by omega,by have:=ao V;omega,fun i hi=>by simp at hi⟩ (wk0 zr3) (fun z B hs hB=> ?_)
 obtain⟨h0,h1,h2⟩:=hs
 cbv
 cases hc:g .q .lss z (g .ln V)
 ·cbv
  rw [ba hg,bz hg,zqo]at hc
  refine gf hF rfl ⟨?_,rfl⟩
  have:xs=ys:=by
   have ha:=ao V
   refine List.ext_getElem? fun i=> ?_
   by_cases hi:i<xs.length
   ·exact h2 i (by omega)
   ·rw [zqz (by omega),zqz (by omega)]
  simp [mkV,this]
 ·cbv
  rw [ba hg,bz hg,zqp]at hc
  have ha:=ao V
  obtain⟨x,hx⟩:=qM (xs:=xs) h0 (by omega)
  obtain⟨y,hy⟩:=qM (xs:=ys) h0 (by omega)
  have hh:V[z.toNat]? =some (lc (ak x)):=by rw [hV];exact aZ hx
  have hk:W[z.toNat]? =some (lc (ak y)):=by rw [hW];exact aZ hy
  have hf:¬x=y->¬xs=ys:=fun h he=>h (by subst he;rw [hx]at hy;exact Option.some.inj hy)
  refine goX hg _ h0 hh rfl ?_
  cbv
  refine goX hg _ h0 hk rfl ?_
  cbv
  cases hD:g .q .neq x y
  ·cbv
   have hj:x=y:=by rw [bC hg,zqq]at hD;exact hD
   have ha:=ao V
   have h3:g .w .add .i64 z 1=z+1:=by rw [aG hg,aq _ (by omega)]
   rw [h3]
   refine iE hB (z+1) [] (wk0 zr3) ⟨by omega,by omega,fun i hi=> ?_⟩ (by omega)
   by_cases hi2:i<z.toNat
   ·exact h2 i hi2
   ·rw [show i=z.toNat by omega,hx,hy,hj]
  ·cbv
   refine gf hF rfl ⟨?_,rfl⟩
   simp [mkV,hf (by rw [bC hg,bne_iff_ne]at hD;exact hD)]
def iQ(n l m:Int):Int:=if(if m<0 then n else if m<n then m else n)<l then l else if m<0 then n else if m<n then m else n
def y9(f:α->Int)(xs:List α)(n:Nat):Int:=((xs.take n).map f).sum
theorem jN(f:α->Int)(xs:List α):y9 f xs 0=0:=by simp [y9]
theorem jO(f:α->Int){n:Nat}{x:α}(h:xs[n]? =some x):y9 f xs (n+1)=y9 f xs n+f x:=by
 simp [y9,List.take_add_one,h]
theorem mO(f:α->Int){n:Nat}(h:xs.length<=n):y9 f xs n=(xs.map f).sum:=by
 rw [y9,List.take_of_length_le h]
theorem nN(a b:Int):wrap64 (wrap64 a+b)=wrap64 (a+b):=by unfold wrap64;omega
theorem uF(a b:Int):wrap64 (a+wrap64 b)=wrap64 (a+b):=by unfold wrap64;omega
theorem xj{c:α->Array Value}(hk:∀x,(c x).size=k):∀y∈vw c xs,y.length=k:=by
 intro y hy
 simp only [vw,List.mem_map]at hy
 obtain⟨x,_,rfl⟩:=hy
 rw [Jj];exact hk x
theorem kmV{c:α->Array Value}(h:V=vw c xs)(hk:∀x,(c x).size=k):∀y∈V,y.length=k:=by rw [h];exact xj hk
theorem Jk(a:Array Value):(lc a).all dat=true:=by simp [lc,dat]
theorem jc{c:α->Array Value}:∀y∈vw c xs,y.all dat=true:=by
 intro y hy
 simp only [vw,List.mem_map]at hy
 obtain⟨x,_,rfl⟩:=hy
 exact Jk _
theorem dmV{c:α->Array Value}(h:V=vw c xs):∀y∈V,y.all dat=true:=by rw [h];exact jc
def hyp(x:af):Int:=iQ x.base x.least x.most
theorem jY(n l m:Int):PC0 112 [ai n,ai l,ai m] (.i (iQ n l m)):=by
 refine aV func112 fun g F hg hF=> ?_
 cbv
 cases e1:g .q .geq m 0
 ·rw [i6 hg,zqo]at e1
  cbv
  cases e3:g .q .lss n l
  ·rw [ba hg,zqo]at e3
   cbv
   exact aO hF (by unfold iQ;omega)
  ·rw [ba hg,zqp]at e3
   cbv
   exact aO hF (by unfold iQ;omega)
 ·rw [i6 hg,zqp]at e1
  cbv
  cases e2:g .q .gtr n m
  ·rw [dm hg,zqo]at e2
   cbv
   cases e3:g .q .lss n l
   ·rw [ba hg,zqo]at e3
    cbv
    exact aO hF (by unfold iQ;omega)
   ·rw [ba hg,zqp]at e3
    cbv
    exact aO hF (by unfold iQ;omega)
  ·rw [dm hg,zqp]at e2
   cbv
   cases e3:g .q .lss m l
   ·rw [ba hg,zqo]at e3
    cbv
    exact aO hF (by unfold iQ;omega)
   ·rw [ba hg,zqp]at e3
    cbv
    exact aO hF (by unfold iQ;omega)
theorem ky(n l m:Int):PC0 129 [ai n,ai l,ai m] (.i (iQ n l m)):=by
 refine aV func129 fun g F hg hF=> ?_
 cbv
 cases e1:g .q .geq m 0
 ·rw [i6 hg,zqo]at e1
  cbv
  exact aO hF (by rw [GH hg];unfold iQ;omega)
 ·rw [i6 hg,zqp]at e1
  cbv
  exact aO hF (by rw [GH hg,Kd hg];unfold iQ;omega)
theorem pT(x:af):PC0 315 [.agg (lc (af.c x))] (.i (hyp x)):=by
 obtain⟨a0,a1,a2,a3,a4,a5,a6,a7,a8⟩:=x
 obtain⟨R,hR⟩:=nmE (iQ a0 a1 a2)
 have hc:=jY a0 a1 a2
 rw [<-hR]at hc
 refine aV func315 fun g F hg hF=> ?_
 cbv
 refine ad hg hc ?_
 cbv
 exact aO hF (by rw [hR];rfl)
theorem qc(x:af):PC0 309 [.agg (lc (af.c x))] (.i (hyp x)):=by
 obtain⟨a0,a1,a2,a3,a4,a5,a6,a7,a8⟩:=x
 obtain⟨R,hR⟩:=nmE (iQ a0 a1 a2)
 have hc:=ky a0 a1 a2
 rw [<-hR]at hc
 refine aV func309 fun g F hg hF=> ?_
 cbv
 refine ad hg hc ?_
 cbv
 exact aO hF (by rw [hR];rfl)
def bro(n l m:Int):Int:=if m<l\/n<l then l else if m<n then m else n
def cl(n:Int):Int:=bro n 0 1048576
def sg(n:Int):Int:=bro n (-1048576) 1048576
def fdv(a b:Int):Int:=if b<1 then 0 else if a.tmod b<0 then wrap64 (wrap64 (a.tdiv b)-1)else wrap64 (a.tdiv b)
def kn(v:ir)(base:Int):Bool:=decide (v.kind=1)||(decide (v.kind=2)&&decide (0<=base))
def Gx(v:ir)(base:Int):Int:=if kn v base=false then-1 else if v.kind=1 then v.n else fdv (wrap64 (cl base*bro v.n (-1000000) 1000000)) 100
def uI(v:ir)(base:Int):Int:=if kn v base=false then-1 else cl (Gx v base)
def orl(n m:Int):Int:=if n= -1 then m else n
def rF(s:bI)(sd:Int)(rtl:Bool):ir:=
 if sd=1 then s.top else if sd=3 then s.bottom
 else if sd=0 then(if(if rtl then s.fin else s.start).kind≠0 then(if rtl then s.fin else s.start)else s.left)
 else if sd=2 then(if(if rtl then s.start else s.fin).kind≠0 then(if rtl then s.start else s.fin)else s.right)else⟨0,0⟩
def adE(a b:Int):Int:=cl (wrap64 (cl a+cl b))
def KG(a b:dr):dr:=⟨adE a.left b.left,adE a.top b.top,adE a.right b.right,adE a.bottom b.bottom⟩
def mz(s:ah):dr:=KG s.pad s.border
def vc(s:ah)(wide:Bool):Int:=if wide then adE (mz s).left (mz s).right else adE (mz s).top (mz s).bottom
def Dm(s:ah)(wide:Bool)(base:Int):Int:=if vc s wide<orl (uI (if wide then s.minWidth else s.minHeight) base) 0 then orl (uI (if wide then s.minWidth else s.minHeight) base) 0 else vc s wide
def Ei(s:ah)(wide:Bool)(base:Int):Int:=uI (if wide then s.maxWidth else s.maxHeight) base
def mG(s:ah)(wide:Bool)(base n:Int):Int:=cl (iQ n (Dm s wide base) (Ei s wide base))
def qL(s:ah)(wide:Bool)(base:Int):Int:=uI (if wide then s.width else s.height) base
theorem eU(n l m:Int):PC0 146 [ai n,ai l,ai m] (.i (bro n l m)):=by
 refine aV func146 fun g F hg hF=> ?_
 cbv
 repeat'(first|(split<;>rename_i hh<;>(try rw [hh])<;>(try simp only [di hg]at hh)<;>cbv))
 all_goals exact aO hF (by unfold bro;grind)
theorem fd(n l m:Int):PC0 192 [ai n,ai l,ai m] (.i (bro n l m)):=by
 refine aV func192 fun g F hg hF=> ?_
 cbv
 repeat'(first|(split<;>rename_i hh<;>(try rw [hh])<;>(try simp only [di hg]at hh)<;>cbv))
 all_goals exact aO hF (by unfold bro;grind)
theorem db(n l m:Int):PC0 39 [ai n,ai l,ai m] (.t (abl (decide (l<=n)&&decide (n<=m)))):=by
 refine aV func39 fun g F hg hF=> ?_
 cbv
 repeat'(first|(split<;>rename_i hh<;>(try rw [hh])<;>(try simp only [di hg]at hh)<;>cbv))
 all_goals exact bm hF (by(try simp only [ja hg,i6 hg]);grind)
theorem eD(n l m:Int):PC0 68 [ai n,ai l,ai m] (.t (abl (decide (l<=n)&&decide (n<=m)))):=by
 refine aV func68 fun g F hg hF=> ?_
 cbv
 repeat'(first|(split<;>rename_i hh<;>(try rw [hh])<;>(try simp only [di hg]at hh)<;>cbv))
 all_goals exact bm hF (by(try simp only [ja hg,i6 hg]);grind)
theorem aI(n:Int):PC0 107 [ai n] (.i (cl n)):=by
 refine aV func107 fun g F hg hF=> ?_
 cbv
 repeat'(first|(refine aY hg (eU _ _ _) rfl (fun R0 ha=> ?_);cbv)|(split<;>rename_i hh<;>(try rw [hh])<;>(try simp only [di hg]at hh)<;>cbv))
 all_goals exact aO hF (by subst_vars;rfl)
theorem aM(n:Int):PC0 128 [ai n] (.i (cl n)):=by
 refine aV func128 fun g F hg hF=> ?_
 cbv
 repeat'(first|(refine aY hg (fd _ _ _) rfl (fun R0 ha=> ?_);cbv)|(split<;>rename_i hh<;>(try rw [hh])<;>(try simp only [di hg]at hh)<;>cbv))
 all_goals exact aO hF (by subst_vars;rfl)
theorem cV(n:Int):PC0 158 [ai n] (.i (sg n)):=by
 refine aV func158 fun g F hg hF=> ?_
 cbv
 repeat'(first|(refine aY hg (eU _ _ _) rfl (fun R0 ha=> ?_);cbv)|(split<;>rename_i hh<;>(try rw [hh])<;>(try simp only [di hg]at hh)<;>cbv))
 all_goals exact aO hF (by subst_vars;rfl)
theorem da(n:Int):PC0 198 [ai n] (.i (sg n)):=by
 refine aV func198 fun g F hg hF=> ?_
 cbv
 repeat'(first|(refine aY hg (fd _ _ _) rfl (fun R0 ha=> ?_);cbv)|(split<;>rename_i hh<;>(try rw [hh])<;>(try simp only [di hg]at hh)<;>cbv))
 all_goals exact aO hF (by subst_vars;rfl)
theorem rA(n:Int):PC0 227 [ai n] (.i (bro n (-1000000) 1000000)):=by
 refine aV func227 fun g F hg hF=> ?_
 cbv
 repeat'(first|(refine aY hg (eU _ _ _) rfl (fun R0 ha=> ?_);cbv)|(split<;>rename_i hh<;>(try rw [hh])<;>(try simp only [di hg]at hh)<;>cbv))
 all_goals exact aO hF (by subst_vars;rfl)
theorem bW(a b:Int):PC0 144 [ai a,ai b] (.i (fdv a b)):=by
 refine aV func144 fun g F hg hF=> ?_
 cbv
 by_cases hb:b<1
 ·have h0:g .q .lss b 1=true:=by rw [ba hg];simpa using hb
  rw [h0]
  cbv
  all_goals exact aO hF (by unfold fdv;rw [if_pos hb])
 ·have h0:g .q .lss b 1=false:=by rw [ba hg];simpa using hb
  rw [h0]
  cbv
  refine Ix hg (by omega) ?_
  cbv
  refine Ix hg (by omega) ?_
  cbv
  repeat'(first|(split<;>rename_i hh<;>(try rw [hh])<;>(try simp only [di hg]at hh)<;>cbv))
  all_goals exact aO hF (by unfold fdv;simp only [Fk hg,HN hg,cu hg]at *;grind)
theorem bZ(a b:Int):PC0 168 [ai a,ai b] (.i (fdv a b)):=by
 refine aV func168 fun g F hg hF=> ?_
 cbv
 by_cases hb:b<1
 ·have h0:g .q .lss b 1=true:=by rw [ba hg];simpa using hb
  rw [h0]
  cbv
  all_goals exact aO hF (by unfold fdv;rw [if_pos hb])
 ·have h0:g .q .lss b 1=false:=by rw [ba hg];simpa using hb
  rw [h0]
  cbv
  refine Ix hg (by omega) ?_
  cbv
  refine Ix hg (by omega) ?_
  cbv
  repeat'(first|(split<;>rename_i hh<;>(try rw [hh])<;>(try simp only [di hg]at hh)<;>cbv))
  all_goals exact aO hF (by unfold fdv;simp only [Fk hg,HN hg,cu hg]at *;grind)
theorem dX(k n b:Int):PC0 157 [.agg [.J k,.J n],ai b] (.t (abl (kn ⟨k,n⟩ b))):=by
 refine aV func157 fun g F hg hF=> ?_
 cbv
 repeat'(first|(split<;>rename_i hh<;>(try rw [hh])<;>(try simp only [di hg]at hh)<;>cbv))
 all_goals exact bm hF (by(try simp only [ja hg,i6 hg,bj hg]);simp only [kn];grind)
theorem eb(k n b:Int):PC0 197 [.agg [.J k,.J n],ai b] (.t (abl (kn ⟨k,n⟩ b))):=by
 refine aV func197 fun g F hg hF=> ?_
 cbv
 repeat'(first|(split<;>rename_i hh<;>(try rw [hh])<;>(try simp only [di hg]at hh)<;>cbv))
 all_goals exact bm hF (by(try simp only [ja hg,i6 hg,bj hg]);simp only [kn];grind)
theorem dK(k n b:Int):PC0 159 [.agg [.J k,.J n],ai b] (.i (Gx ⟨k,n⟩ b)):=by
 refine aV func159 fun g F hg hF=> ?_
 cbv
 repeat'(first|(refine bA hg (dX _ _ _) rfl (fun R0 ha=> ?_);cases R0<;>cbv)|((first|refine aJ hg (aI _) rfl (fun R0 ha=> ?_)|refine aJ hg (rA _) rfl (fun R0 ha=> ?_)|refine aJ hg (bW _ _) rfl (fun R0 ha=> ?_));cbv)|(split<;>rename_i hh<;>(try rw [hh])<;>(try simp only [di hg]at hh)<;>cbv))
 all_goals exact aO hF (by(try simp only [gA hg]at *);simp only [Gx];grind)
theorem dN(k n b:Int):PC0 199 [.agg [.J k,.J n],ai b] (.i (Gx ⟨k,n⟩ b)):=by
 refine aV func199 fun g F hg hF=> ?_
 cbv
 repeat'(first|(refine bA hg (eb _ _ _) rfl (fun R0 ha=> ?_);cases R0<;>cbv)|((first|refine aJ hg (aM _) rfl (fun R0 ha=> ?_)|refine aJ hg (fd _ _ _) rfl (fun R0 ha=> ?_)|refine aJ hg (bZ _ _) rfl (fun R0 ha=> ?_));cbv)|(split<;>rename_i hh<;>(try rw [hh])<;>(try simp only [di hg]at hh)<;>cbv))
 all_goals exact aO hF (by(try simp only [gA hg]at *);simp only [Gx];grind)
theorem ec(k n b:Int):PC0 153 [.agg [.J k,.J n],ai b] (.i (uI ⟨k,n⟩ b)):=by
 refine aV func153 fun g F hg hF=> ?_
 cbv
 repeat'(first|(refine bA hg (dX _ _ _) rfl (fun R0 ha=> ?_);cases R0<;>cbv)|((first|refine aY hg (aI _) rfl (fun R0 ha=> ?_)|refine aY hg (dK _ _ _) rfl (fun R0 ha=> ?_));cbv)|(split<;>rename_i hh<;>(try rw [hh])<;>(try simp only [di hg]at hh)<;>cbv))
 all_goals exact aO hF (by simp only [uI];grind)
theorem ej(k n b:Int):PC0 166 [.agg [.J k,.J n],ai b] (.i (uI ⟨k,n⟩ b)):=by
 refine aV func166 fun g F hg hF=> ?_
 cbv
 repeat'(first|(refine bA hg (eb _ _ _) rfl (fun R0 ha=> ?_);cases R0<;>cbv)|((first|refine aY hg (aM _) rfl (fun R0 ha=> ?_)|refine aY hg (dN _ _ _) rfl (fun R0 ha=> ?_));cbv)|(split<;>rename_i hh<;>(try rw [hh])<;>(try simp only [di hg]at hh)<;>cbv))
 all_goals exact aO hF (by simp only [uI];grind)
theorem j8(n m:Int):PC0 152 [ai n,ai m] (.i (orl n m)):=by
 refine aV func152 fun g F hg hF=> ?_
 cbv
 repeat'(first|(split<;>rename_i hh<;>(try rw [hh])<;>(try simp only [di hg]at hh)<;>cbv))
 all_goals exact aO hF (by simp only [orl];grind)
theorem oL(n m:Int):PC0 194 [ai n,ai m] (.i (orl n m)):=by
 refine aV func194 fun g F hg hF=> ?_
 cbv
 repeat'(first|(split<;>rename_i hh<;>(try rw [hh])<;>(try simp only [di hg]at hh)<;>cbv))
 all_goals exact aO hF (by simp only [orl];grind)
abbrev agV(v:ir):AT:= .agg [.J v.kind,.J v.n]
abbrev agP(v:aK):AT:= .agg [.J v.mode,.J v.n]
abbrev agE(e:dr):AT:= .agg [.J e.left,.J e.top,.J e.right,.J e.bottom]
theorem j7(s:bI)(sd:Int)(rtl:Bool):PC0 156 [.agg (lc (bI.c s)),ai sd,abl rtl] (.t (agV (rF s sd rtl))):=by
 obtain⟨⟨a0,a1⟩,⟨a2,a3⟩,⟨a4,a5⟩,⟨a6,a7⟩,⟨a8,a9⟩,⟨ha,hb⟩⟩:=s
 cases rtl<;>(refine aV func156 fun g F hg hF=> ?_;cbv;repeat'(first|(split<;>rename_i hh<;>(try rw [hh])<;>(try simp only [di hg]at hh)<;>cbv)))
 all_goals exact mA hF (by simp only [rF];grind)
theorem dL(a b:Int):PC0 195 [ai a,ai b] (.i (adE a b)):=by
 refine aV func195 fun g F hg hF=> ?_
 cbv
 repeat'(first|(refine aY hg (aM _) rfl (fun R0 ha=> ?_);cbv)|(split<;>rename_i hh<;>(try rw [hh])<;>(try simp only [di hg]at hh)<;>cbv))
 all_goals exact aO hF (by(try simp only [aG hg]at *);subst_vars;rfl)
theorem tL(a b:dr):PC0 111 [agE a,agE b] (.t (agE (KG a b))):=by
 obtain⟨a0,a1,a2,a3⟩:=a
 obtain⟨b0,b1,b2,b3⟩:=b
 refine aV func111 fun g F hg hF=> ?_
 cbv
 repeat'(first|(refine aJ hg (aI _) rfl (fun R0 ha=> ?_);cbv)|(split<;>rename_i hh<;>(try rw [hh])<;>(try simp only [di hg]at hh)<;>cbv))
 all_goals exact Fz hF (by(try simp only [aG hg]at *);subst_vars;exact⟨rfl,rfl,rfl,rfl⟩)
theorem uv(a b:dr):PC0 132 [agE a,agE b] (.t (agE (KG a b))):=by
 obtain⟨a0,a1,a2,a3⟩:=a
 obtain⟨b0,b1,b2,b3⟩:=b
 refine aV func132 fun g F hg hF=> ?_
 cbv
 repeat'(first|(refine aJ hg (dL _ _) rfl (fun R0 ha=> ?_);cbv)|(split<;>rename_i hh<;>(try rw [hh])<;>(try simp only [di hg]at hh)<;>cbv))
 all_goals exact Fz hF (by subst_vars;exact⟨rfl,rfl,rfl,rfl⟩)
theorem fz(l t r b:Int):PC0 108 [agE ⟨l,t,r,b⟩] (.i (adE l r)):=by
 refine aV func108 fun g F hg hF=> ?_
 cbv
 repeat'(first|(refine aJ hg (aI _) rfl (fun R0 ha=> ?_);cbv)|(split<;>rename_i hh<;>(try rw [hh])<;>(try simp only [di hg]at hh)<;>cbv))
 all_goals exact aO hF (by(try simp only [aG hg]at *);subst_vars;rfl)
theorem fB(l t r b:Int):PC0 109 [agE ⟨l,t,r,b⟩] (.i (adE t b)):=by
 refine aV func109 fun g F hg hF=> ?_
 cbv
 repeat'(first|(refine aJ hg (aI _) rfl (fun R0 ha=> ?_);cbv)|(split<;>rename_i hh<;>(try rw [hh])<;>(try simp only [di hg]at hh)<;>cbv))
 all_goals exact aO hF (by(try simp only [aG hg]at *);subst_vars;rfl)
theorem ei(l t r b:Int):PC0 164 [agE ⟨l,t,r,b⟩] (.i (adE l r)):=by
 refine aV func164 fun g F hg hF=> ?_
 cbv
 repeat'(first|(refine aY hg (dL _ _) rfl (fun R0 ha=> ?_);cbv)|(split<;>rename_i hh<;>(try rw [hh])<;>(try simp only [di hg]at hh)<;>cbv))
 all_goals exact aO hF (by subst_vars;rfl)
theorem ek(l t r b:Int):PC0 165 [agE ⟨l,t,r,b⟩] (.i (adE t b)):=by
 refine aV func165 fun g F hg hF=> ?_
 cbv
 repeat'(first|(refine aY hg (dL _ _) rfl (fun R0 ha=> ?_);cbv)|(split<;>rename_i hh<;>(try rw [hh])<;>(try simp only [di hg]at hh)<;>cbv))
 all_goals exact aO hF (by subst_vars;rfl)
theorem fE(s:ah):PC0 77 [.agg (lc (ah.c s))] (.t (agE (mz s))):=by
 obtain⟨a0,a1,a2,a3,a4,a5,a6,a7,a8,a9,hj,⟨hk,hl⟩,⟨hm,hn⟩,⟨ho,hp⟩,⟨hq,hr⟩,⟨hs,ht⟩,⟨hu,hv⟩,⟨hw,hx⟩,hy,⟨⟨hz,hA⟩,⟨hB,hC⟩,⟨hD,hE⟩,⟨hG,hH⟩,⟨hI,hJ⟩,⟨hK,hL⟩⟩,⟨⟨hM,hN⟩,⟨hO,hP⟩,⟨hQ,hR⟩,⟨hS,hT⟩,⟨hU,hV⟩,⟨hW,hX⟩⟩,⟨ha,hb,hc,hd⟩,⟨he,hf,hh,hi⟩,hY,hZ⟩:=s
 refine aV func77 fun g F hg hF=> ?_
 cbv
 refine FM hg (tL ⟨ha,hb,hc,hd⟩ ⟨he,hf,hh,hi⟩) rfl (fun R0 R1 R2 R3 h0 h1 h2 h3=> ?_)
 cbv
 all_goals exact Fz hF (by subst_vars;exact⟨rfl,rfl,rfl,rfl⟩)
theorem e9(s:ah):PC0 85 [.agg (lc (ah.c s))] (.t (agE (mz s))):=by
 obtain⟨a0,a1,a2,a3,a4,a5,a6,a7,a8,a9,hj,⟨hk,hl⟩,⟨hm,hn⟩,⟨ho,hp⟩,⟨hq,hr⟩,⟨hs,ht⟩,⟨hu,hv⟩,⟨hw,hx⟩,hy,⟨⟨hz,hA⟩,⟨hB,hC⟩,⟨hD,hE⟩,⟨hG,hH⟩,⟨hI,hJ⟩,⟨hK,hL⟩⟩,⟨⟨hM,hN⟩,⟨hO,hP⟩,⟨hQ,hR⟩,⟨hS,hT⟩,⟨hU,hV⟩,⟨hW,hX⟩⟩,⟨ha,hb,hc,hd⟩,⟨he,hf,hh,hi⟩,hY,hZ⟩:=s
 refine aV func85 fun g F hg hF=> ?_
 cbv
 refine FM hg (uv ⟨ha,hb,hc,hd⟩ ⟨he,hf,hh,hi⟩) rfl (fun R0 R1 R2 R3 h0 h1 h2 h3=> ?_)
 cbv
 all_goals exact Fz hF (by subst_vars;exact⟨rfl,rfl,rfl,rfl⟩)
theorem ig(s:ah)(w:Bool):PC0 155 [.agg (lc (ah.c s)),abl w] (.i (vc s w)):=by
 cases w<;>(refine aV func155 fun g F hg hF=> ?_;cbv;repeat'(first|((first|refine FM hg (fE s) rfl (fun R0 R1 R2 R3 ha hb hc hd=> ?_)|refine aY hg (fz _ _ _ _) rfl (fun R0 ha=> ?_)|refine aY hg (fB _ _ _ _) rfl (fun R0 ha=> ?_));cbv)|(split<;>rename_i hh<;>(try rw [hh])<;>(try simp only [di hg]at hh)<;>cbv)))
 all_goals exact aO hF (by subst_vars;rfl)
theorem ll(s:ah)(w:Bool):PC0 193 [.agg (lc (ah.c s)),abl w] (.i (vc s w)):=by
 cases w<;>(refine aV func193 fun g F hg hF=> ?_;cbv;repeat'(first|((first|refine FM hg (e9 s) rfl (fun R0 R1 R2 R3 ha hb hc hd=> ?_)|refine aY hg (ei _ _ _ _) rfl (fun R0 ha=> ?_)|refine aY hg (ek _ _ _ _) rfl (fun R0 ha=> ?_));cbv)|(split<;>rename_i hh<;>(try rw [hh])<;>(try simp only [di hg]at hh)<;>cbv)))
 all_goals exact aO hF (by subst_vars;rfl)
theorem eJ(w:Bool)(a b c d:Int):PC0 154 [abl w,.agg [.J a,.J b],.agg [.J c,.J d]] (.t (agV (if w then⟨a,b⟩else⟨c,d⟩))):=by
 cases w<;>(refine aV func154 fun g F hg hF=> ?_;cbv;repeat'(first|(split<;>rename_i hh<;>(try rw [hh])<;>(try simp only [di hg]at hh)<;>cbv)))
 all_goals exact mA hF (by exact⟨rfl,rfl⟩)
theorem gv(w:Bool)(a b c d:Int):PC0 167 [abl w,.agg [.J a,.J b],.agg [.J c,.J d]] (.t (agV (if w then⟨a,b⟩else⟨c,d⟩))):=by
 cases w<;>(refine aV func167 fun g F hg hF=> ?_;cbv;repeat'(first|(split<;>rename_i hh<;>(try rw [hh])<;>(try simp only [di hg]at hh)<;>cbv)))
 all_goals exact mA hF (by exact⟨rfl,rfl⟩)
theorem jp(s:ah)(w:Bool)(b:Int):PC0 113 [.agg (lc (ah.c s)),abl w,ai b] (.i (Dm s w b)):=by
 obtain⟨a0,a1,a2,a3,a4,a5,a6,a7,a8,a9,hc,⟨hd,he⟩,⟨hf,hi⟩,⟨hj,hk⟩,⟨hl,hm⟩,⟨hn,ho⟩,⟨hp,hq⟩,⟨hr,hs⟩,ht,⟨⟨hu,hv⟩,⟨hw,hx⟩,⟨hy,hz⟩,⟨hA,hB⟩,⟨hC,hD⟩,⟨hE,hG⟩⟩,⟨⟨hH,hI⟩,⟨hJ,hK⟩,⟨hL,hM⟩,⟨hN,hO⟩,⟨hP,hQ⟩,⟨hR,hS⟩⟩,⟨hT,hU,hV,hW⟩,⟨hX,hY,hZ,h0⟩,h1,h2⟩:=s
 have hb:=ig (⟨a0,a1,a2,a3,a4,a5,a6,a7,a8,a9,hc,⟨hd,he⟩,⟨hf,hi⟩,⟨hj,hk⟩,⟨hl,hm⟩,⟨hn,ho⟩,⟨hp,hq⟩,⟨hr,hs⟩,ht,⟨⟨hu,hv⟩,⟨hw,hx⟩,⟨hy,hz⟩,⟨hA,hB⟩,⟨hC,hD⟩,⟨hE,hG⟩⟩,⟨⟨hH,hI⟩,⟨hJ,hK⟩,⟨hL,hM⟩,⟨hN,hO⟩,⟨hP,hQ⟩,⟨hR,hS⟩⟩,⟨hT,hU,hV,hW⟩,⟨hX,hY,hZ,h0⟩,h1,h2⟩:ah)
 cases w<;>(refine aV func113 fun g F hg hF=> ?_;cbv;repeat'(first|((first|refine nf hg (eJ _ _ _ _ _) rfl (fun R0 R1 ha h3=> ?_)|refine aY hg (ec _ _ _) rfl (fun R0 ha=> ?_)|refine aY hg (j8 _ _) rfl (fun R0 ha=> ?_)|refine aY hg (hb _) rfl (fun R0 ha=> ?_));cbv)|(split<;>rename_i hh<;>(try rw [hh])<;>(try simp only [di hg]at hh)<;>cbv)))
 all_goals exact aO hF (by simp only [Dm];subst_vars;first|rfl|grind)
theorem jA(s:ah)(w:Bool)(b:Int):PC0 130 [.agg (lc (ah.c s)),abl w,ai b] (.i (Dm s w b)):=by
 cases w<;>(refine aV func130 fun g F hg hF=> ?_;cbv;repeat'(first|((first|refine jk hg (gv _ _ _ _ _) rfl (fun R0 R1 ha hb=> ?_)|refine aJ hg (ej _ _ _) rfl (fun R0 ha=> ?_)|refine aJ hg (oL _ _) rfl (fun R0 ha=> ?_)|refine aJ hg (ll s _) rfl (fun R0 ha=> ?_));cbv)|(split<;>rename_i hh<;>(try rw [hh])<;>(try simp only [di hg]at hh)<;>cbv)))
 all_goals exact aO hF (by simp only [Dm,GH hg];subst_vars;first|rfl|(split<;>first|rfl|contradiction|omega)|grind)
theorem j9(s:ah)(w:Bool)(b:Int):PC0 114 [.agg (lc (ah.c s)),abl w,ai b] (.i (Ei s w b)):=by
 cases w<;>(refine aV func114 fun g F hg hF=> ?_;cbv;repeat'(first|((first|refine nf hg (eJ _ _ _ _ _) rfl (fun R0 R1 ha hb=> ?_)|refine aY hg (ec _ _ _) rfl (fun R0 ha=> ?_));cbv)|(split<;>rename_i hh<;>(try rw [hh])<;>(try simp only [di hg]at hh)<;>cbv)))
 all_goals exact aO hF (by subst_vars;rfl)
theorem kB(s:ah)(w:Bool)(b:Int):PC0 131 [.agg (lc (ah.c s)),abl w,ai b] (.i (Ei s w b)):=by
 cases w<;>(refine aV func131 fun g F hg hF=> ?_;cbv;repeat'(first|((first|refine nf hg (gv _ _ _ _ _) rfl (fun R0 R1 ha hb=> ?_)|refine aY hg (ej _ _ _) rfl (fun R0 ha=> ?_));cbv)|(split<;>rename_i hh<;>(try rw [hh])<;>(try simp only [di hg]at hh)<;>cbv)))
 all_goals exact aO hF (by subst_vars;rfl)
theorem eN(s:ah)(w:Bool)(b:Int):PC0 143 [.agg (lc (ah.c s)),abl w,ai b] (.i (qL s w b)):=by
 cases w<;>(refine aV func143 fun g F hg hF=> ?_;cbv;repeat'(first|((first|refine nf hg (eJ _ _ _ _ _) rfl (fun R0 R1 ha hb=> ?_)|refine aY hg (ec _ _ _) rfl (fun R0 ha=> ?_));cbv)|(split<;>rename_i hh<;>(try rw [hh])<;>(try simp only [di hg]at hh)<;>cbv)))
 all_goals exact aO hF (by subst_vars;rfl)
theorem fc(s:ah)(w:Bool)(b:Int):PC0 121 [.agg (lc (ah.c s)),abl w,ai b] (.i (qL s w b)):=by
 cases w<;>(refine aV func121 fun g F hg hF=> ?_;cbv;repeat'(first|((first|refine nf hg (gv _ _ _ _ _) rfl (fun R0 R1 ha hb=> ?_)|refine aY hg (ej _ _ _) rfl (fun R0 ha=> ?_));cbv)|(split<;>rename_i hh<;>(try rw [hh])<;>(try simp only [di hg]at hh)<;>cbv)))
 all_goals exact aO hF (by subst_vars;rfl)
theorem cY(s:ah)(w:Bool)(b n:Int):PC0 78 [.agg (lc (ah.c s)),abl w,ai b,ai n] (.i (mG s w b n)):=by
 refine aV func78 fun g F hg hF=> ?_
 cbv
 repeat'(first|((first|refine aJ hg (jp s _ _) rfl (fun R0 ha=> ?_)|refine aJ hg (j9 s _ _) rfl (fun R0 ha=> ?_)|refine aJ hg (jY _ _ _) rfl (fun R0 ha=> ?_)|refine aJ hg (aI _) rfl (fun R0 ha=> ?_));cbv)|(split<;>rename_i hh<;>(try rw [hh])<;>(try simp only [di hg]at hh)<;>cbv))
 all_goals exact aO hF (by subst_vars;rfl)
theorem dF(s:ah)(w:Bool)(b n:Int):PC0 84 [.agg (lc (ah.c s)),abl w,ai b,ai n] (.i (mG s w b n)):=by
 refine aV func84 fun g F hg hF=> ?_
 cbv
 repeat'(first|((first|refine aJ hg (jA s _ _) rfl (fun R0 ha=> ?_)|refine aJ hg (kB s _ _) rfl (fun R0 ha=> ?_)|refine aJ hg (ky _ _ _) rfl (fun R0 ha=> ?_)|refine aJ hg (aM _) rfl (fun R0 ha=> ?_));cbv)|(split<;>rename_i hh<;>(try rw [hh])<;>(try simp only [di hg]at hh)<;>cbv))
 all_goals exact aO hF (by subst_vars;rfl)
variable {F:Nat->Prop}
theorem D5{w:World}:∀(j:Nat)(x:AT),([]:List AT)[j]? =some x->∃v,([]:List Value)[j]? =some v/\RT F w [] [] x v:=fun j x h=>by simp at h
theorem jV{w:World}{x:AT}{v:Value}{xs:List AT}{vs:List Value}(h1:RT F w [] [] x v)(h2:∀(j:Nat)(x:AT),xs[j]? =some x->∃v,vs[j]? =some v/\RT F w [] [] x v):
  ∀(j:Nat)(y:AT),(x::xs)[j]? =some y->∃u,(v::vs)[j]? =some u/\RT F w [] [] y u:=fun j y h=>by
 cases j with
 |zero=>simp only [zqw,zqy]at h;subst h;exact⟨v,rfl,h1⟩
 |succ j=>exact h2 j y (by simpa using h)
def wg(s:ah)(w:Int):Int:=cl (wrap64 (cl w-adE s.border.left s.border.right))
def xS(s:ah)(h:Int):Int:=cl (wrap64 (cl h-adE s.border.top s.border.bottom))
theorem nW(s:ah)(w h:Int):PC0 75 [.agg (lc (ah.c s)),ai w,ai h] (.tup [ai (wg s w),ai (xS s h)]):=by
 refine aV func75 fun g F hg hF=> ?_
 cbv
 repeat'(first|((first|refine aJ hg (aI _) rfl (fun R0 ha=> ?_)|refine aJ hg (fz _ _ _ _) rfl (fun R0 ha=> ?_)|refine aJ hg (fB _ _ _ _) rfl (fun R0 ha=> ?_));cbv)|(split<;>rename_i hh<;>(try rw [hh])<;>(try simp only [di hg]at hh)<;>cbv))
 all_goals exact sL hF (by(try simp only [cu hg]at *);subst_vars;exact⟨rfl,rfl⟩)
theorem wN(s:ah)(w h:Int):PC0 120 [.agg (lc (ah.c s)),ai w,ai h] (.tup [ai (wg s w),ai (xS s h)]):=by
 refine aV func120 fun g F hg hF=> ?_
 cbv
 repeat'(first|((first|refine aJ hg (aM _) rfl (fun R0 ha=> ?_)|refine aJ hg (ei _ _ _ _) rfl (fun R0 ha=> ?_)|refine aJ hg (ek _ _ _ _) rfl (fun R0 ha=> ?_));cbv)|(split<;>rename_i hh<;>(try rw [hh])<;>(try simp only [di hg]at hh)<;>cbv))
 all_goals exact sL hF (by(try simp only [cu hg]at *);subst_vars;exact⟨rfl,rfl⟩)
theorem dD(n:Int):PC0 93 [ai n] (.t (.agg [.J 3,.J n])):=by
 refine aV func93 fun g F hg hF=> ?_
 cbv
 all_goals exact mA hF (by exact⟨rfl,rfl⟩)
theorem kz(s:bI)(sd:Int)(rtl:Bool):PC0 196 [.agg (lc (bI.c s)),ai sd,abl rtl] (.t (agV (rF s sd rtl))):=by
 obtain⟨⟨a0,a1⟩,⟨a2,a3⟩,⟨a4,a5⟩,⟨a6,a7⟩,⟨a8,a9⟩,⟨ha,hb⟩⟩:=s
 refine rU [(1,.hand)] func196 fun g hi hd F he hf hg hF=> ?_
 cbv
 refine bP hg hf bq [0,1,2,3] (.op 4 [] (.op 5 [] (.op 6 [] (.op 7 [] .done .none) .none) .none) (.op 5 [] (.op 4 [] (.op 6 [] (.op 7 [] .done .none) .none) .none) .none)) (by kernel_rfl) (by kernel_rfl) (S:=Unit) (fun _=>True) (fun _=>[(1,.i (sd)),(2,.t (abl (rtl))),(3,.p 0),(6,.p 1),(7,.p 2),(8,.p 3)]) (fun _=>[.bx 32 12 (lc (bI.c ⟨⟨a0,a1⟩,⟨a2,a3⟩,⟨a4,a5⟩,⟨a6,a7⟩,⟨a8,a9⟩,⟨ha,hb⟩⟩)),.bx 30 2 [.J 0,.J 0],.bx 30 2 [.J a8,.J a9],.bx 30 2 [.J ha,.J hb]]) (fun BL hc=> ?_) (fun _ _=> ?_)
 ·cbv
  ((repeat'(first|exact trivial|exact rfl|refine And.intro ?_ ?_)))
  skip
  all_goals first
   |exact hc () trivial _ _ (Wk.weak (wkG [some 0,some 1,some 2,some 3] zr6 ⟨wqE rfl rfl,wqE rfl rfl,wqE rfl rfl,wqE rfl rfl,zpt⟩ (by decide) aB))
   |exact hc () trivial _ _ (Wk.weak (wkG [some 0,some 1,some 3,some 2] zr6 ⟨wqE rfl rfl,wqE rfl rfl,wqE rfl rfl,wqE rfl rfl,zpt⟩ (by decide) aB))
 cbv
 cases rtl<;>cbv<;>repeat'(first|(split<;>rename_i hh<;>(try rw [hh])<;>(try simp only [di hg]at hh)<;>cbv))
 all_goals exact mA hF (by simp only [rF];grind)
def yF(s:ah)(sd:Int)(rtl:Bool)(base:Int):Int:=if kn (rF s.inset sd rtl) base=false then 0 else sg (Gx (rF s.inset sd rtl) base)
def yG(s:ah)(sd:Int)(rtl:Bool)(base:Int):Bool:=kn (rF s.inset sd rtl) base
theorem gI(s:ah)(sd:Int)(rtl:Bool)(base:Int):PC0 115 [.agg (lc (ah.c s)),ai sd,abl rtl,ai base] (.tup [ai (yF s sd rtl base),abl (yG s sd rtl base)]):=by
 obtain⟨a0,a1,a2,a3,a4,a5,a6,a7,a8,a9,ho,⟨hp,hq⟩,⟨hr,hs⟩,⟨ht,hu⟩,⟨hv,hw⟩,⟨hx,hy⟩,⟨hz,hA⟩,⟨hB,hC⟩,hD,⟨⟨hE,hG⟩,⟨hH,hI⟩,⟨hJ,hK⟩,⟨hL,hM⟩,⟨hN,hO⟩,⟨hP,hQ⟩⟩,⟨⟨hb,hc⟩,⟨hd,he⟩,⟨hf,hh⟩,⟨hi,hj⟩,⟨hk,hl⟩,⟨hm,hn⟩⟩,⟨hT,hU,hV,hW⟩,⟨hX,hY,hZ,h0⟩,h1,h2⟩:=s
 refine aV func115 fun g F hg hF=> ?_
 cbv
 (refine nf hg (j7 ⟨⟨hb,hc⟩,⟨hd,he⟩,⟨hf,hh⟩,⟨hi,hj⟩,⟨hk,hl⟩,⟨hm,hn⟩⟩ _ _) rfl (fun R S hR hS=> ?_))
 cbv
 repeat'(first|(refine bA hg (dX _ _ _) rfl (fun R0 ha=> ?_);cases R0<;>cbv)|((first|refine aY hg (dK _ _ _) rfl (fun R0 ha=> ?_)|refine aY hg (cV _) rfl (fun R0 ha=> ?_));cbv))
 all_goals exact Fy hF (by simp only [yF,yG];subst_vars;simp_all)
theorem nv(s:ah)(sd:Int)(rtl:Bool)(base:Int):PC0 133 [.agg (lc (ah.c s)),ai sd,abl rtl,ai base] (.tup [ai (yF s sd rtl base),abl (yG s sd rtl base)]):=by
 obtain⟨a0,a1,a2,a3,a4,a5,a6,a7,a8,a9,ho,⟨hp,hq⟩,⟨hr,hs⟩,⟨ht,hu⟩,⟨hv,hw⟩,⟨hx,hy⟩,⟨hz,hA⟩,⟨hB,hC⟩,hD,⟨⟨hE,hG⟩,⟨hH,hI⟩,⟨hJ,hK⟩,⟨hL,hM⟩,⟨hN,hO⟩,⟨hP,hQ⟩⟩,⟨⟨hb,hc⟩,⟨hd,he⟩,⟨hf,hh⟩,⟨hi,hj⟩,⟨hk,hl⟩,⟨hm,hn⟩⟩,⟨hT,hU,hV,hW⟩,⟨hX,hY,hZ,h0⟩,h1,h2⟩:=s
 refine aV func133 fun g F hg hF=> ?_
 cbv
 (refine nf hg (kz ⟨⟨hb,hc⟩,⟨hd,he⟩,⟨hf,hh⟩,⟨hi,hj⟩,⟨hk,hl⟩,⟨hm,hn⟩⟩ _ _) rfl (fun R S hR hS=> ?_))
 cbv
 repeat'(first|(refine bA hg (eb _ _ _) rfl (fun R0 ha=> ?_);cases R0<;>cbv)|((first|refine aY hg (dN _ _ _) rfl (fun R0 ha=> ?_)|refine aY hg (da _) rfl (fun R0 ha=> ?_));cbv))
 all_goals exact Fy hF (by simp only [yF,yG];subst_vars;simp_all)
end Go.Proofs.YtckchgoblpgpbaaGreat
namespace Go.Proofs.YtckchgoblpgpbaaGreat
open Go.ChangeShapes Go.WideShapes Go.ChangeAt Go.RowKit Am Go.Proofs.Tryz
inductive Sh where
 |i
 |b
 |s (ks:List Sh)
mutual
def Dt:Sh->AC->Prop
 | .i,c=>∃n,R64 n/\c= .imm (.int .i64 n)
 | .b,c=>∃x,c= .imm (.bool x)
 | .s ks,c=>∃xs:LLA,c= .view xs/\xs.length<=9223372036854775807/\∀x∈xs,DtL ks x
def DtL:List Sh->List AC->Prop
 | [],[]=>True
 |k::ks,c::cs=>Dt k c/\DtL ks cs
 |_,_=>False
end
theorem DtL.len:∀{ks:List Sh}{xs:List AC},DtL ks xs->xs.length=ks.length
 | [],[],_=>rfl
 | [],_::_,h=>by unfold DtL at h;exact h.elim
 |_::_,[],h=>by unfold DtL at h;exact h.elim
 |_::ks,_::xs,h=>by unfold DtL at h;simp [DtL.len h.2]
theorem DtL.mk:∀{ks:List Sh}{xs:List AC},xs.length=ks.length->(∀(i:Nat)(k:Sh)(c:AC),ks[i]? =some k->xs[i]? =some c->Dt k c)->DtL ks xs
 | [],[],_,_=>by unfold DtL;trivial
 | [],_::_,h,_=>by simp at h
 |_::_,[],h,_=>by simp at h
 |_::ks,_::xs,h,hp=>by
  unfold DtL
  exact⟨hp 0 _ _ rfl rfl,DtL.mk (by simpa using h) fun i k c h1 h2=>hp (i+1) k c (by simpa using h1) (by simpa using h2)⟩
def shC(P:Program)(f:TypeId->Option (List Sh))(u:TypeId):Option Sh:=
 match P.underlying u with
 |some (.int .i64)=>some .i
 |some .bool=>some .b
 |some (.slice e)=>if e<P.types.size then(match f e with|some (k::ks)=>if P.cellsOf e=(k::ks).length then some (.s (k::ks))else none|_=>none)else none
 |_=>none
def shL(P:Program):Nat->TypeId->Option (List Sh)
 |0,_=>none
 |n+1,t=>match zD P 5 t with|none=>none|some ts=>ts.mapM (shC P (shL P n))
theorem Dl{α β:Type}{f:α->Option β}:∀{l:List α}{r:List β},l.mapM f=some r->r.length=l.length/\∀(i:Nat)(b:β),r[i]? =some b->∃a,l[i]? =some a/\f a=some b
 | [],r,h=>by simp only [List.mapM_nil,Option.pure_def,zqy]at h;subst h;exact⟨rfl,fun i b hb=>by simp at hb⟩
 |a::l,r,h=>by
  simp only [List.mapM_cons,Option.bind_eq_bind,Option.bind_eq_some_iff,Option.pure_def,zqy]at h
  obtain⟨b,h1,r',h2,rfl⟩:=h
  obtain⟨h3,h4⟩:=Dl h2
  refine⟨by simp [h3],fun i b' hb=> ?_⟩
  cases i with
  |zero=>simp at hb;subst hb;exact⟨a,rfl,h1⟩
  |succ i=>exact h4 i b' (by simpa using hb)
section
variable {H:Type}{enc:TypeId × Value->H}{P:Program}{w:World}{nM:Bool}{base:Nat}{spare:Nat->Bool}
theorem B9(hl:laidOutB P=true):∀(n:Nat)(t:TypeId)(ks:List Sh)(hb:Nat)(cs:List Value)(x:DataW H×List MemPlace),t<P.types.size->shL P n t=some ks->DataW.trod enc P w base spare nM hb t cs=some x->
  ∃xs:List AC,DtL ks xs/\xs.length=cs.length/\∀(j:Nat)(c:AC),xs[j]? =some c->∃u,cs[j]? =some u/\one u=true/\RP (fun b=>b<w.heap.size) w c u:=by
 intro n
 induction n with
 |zero=>intro t ks hb cs x _ h;simp [shL]at h
 |succ n ih=>
  intro t ks hb cs x hK hn hL
  unfold shL at hn
  split at hn
  ·cases hn
  ·rename_i ts hts
   obtain⟨hz,hE⟩:=Dl hn
   obtain⟨hH,hG⟩:=ym hl 5 t ts hb cs x hK hts hL
   have hO:∀i,i<ks.length->∃c:AC,(∀k,ks[i]? =some k->Dt k c)/\∃u,cs[i]? =some u/\one u=true/\RP (fun b=>b<w.heap.size) w c u:=by
    intro i hi
    have hC:=zqc hi
    obtain⟨u,hu,hs⟩:=hE i _ hC
    obtain⟨v,f',y,hv,hy⟩:=hG i u hu
    suffices∃c:AC,Dt ks[i] c/\one v=true/\RP (fun b=>b<w.heap.size) w c v by
     obtain⟨c,h1,h2,h3⟩:=this
     exact⟨c,fun k hk=>by rw [hC]at hk;cases hk;exact h1,v,hv,h2,h3⟩
    generalize ks[i]=k at hs
    unfold shC at hs
    split at hs
    ·rename_i hun
     cases hs
     obtain⟨m,h1,_,hw⟩:=DataW.trod_int hun hy
     simp only [List.cons.injEq,and_true]at h1
     subst h1
     exact⟨.J m,by unfold Dt;exact⟨m,om hw,rfl⟩,rfl,by unfold RP;rfl⟩
    ·rename_i hun
     cases hs
     obtain⟨m,h1,_⟩:=DataW.trod_bool hun hy
     simp only [List.cons.injEq,and_true]at h1
     subst h1
     exact⟨.B m,by unfold Dt;exact⟨m,rfl⟩,rfl,by unfold RP;rfl⟩
    ·rename_i e hun
     split at hs
     ·rename_i he
      split at hs
      ·rename_i k0 ks0 hf0
       split at hs
       ·rename_i hck
        cases hs
        rcases Go.Deep.open_slice hun hy with⟨hcs,_⟩|⟨a,len,cap,m,n',D,Pl,hcs,hba,hlc,hm,hmm,hx,hel⟩
        ·simp only [List.cons.injEq,and_true]at hcs
         subst hcs
         refine⟨.view [],by unfold Dt;exact⟨[],rfl,by simp,by simp⟩,rfl,?_⟩
         unfold RP
         exact⟨none,0,rfl,zpk _,by decide,.inl rfl⟩
        ·simp only [List.cons.injEq,and_true]at hcs
         subst hcs
         have hJ:0<P.cellsOf e:=by rw [hck];simp
         have hQ:len<=m:=by rw [hmm];split<;>omega
         have el:∀i,i<len->∃xs:List AC,DtL (k0::ks0) xs/\a.spot=none/\RPL (fun b=>b<w.heap.size) w a.block (a.off+i*P.cellsOf e) xs/\a.block<w.heap.size:=by
          intro i ha
          obtain⟨hD,hc,hA⟩:=hel i (by omega)
          obtain⟨_,ht,ho⟩:=World.cells?_some hc
          obtain⟨xs,h1,h2,h3⟩:=ih e _ n' hD _ he hf0 hA
          have hh:a.spot=none:=by
           obtain⟨hB,hr,_⟩:=hel 0 (by omega)
           obtain⟨_,hP,hp⟩:=World.cells?_some hr
           have h4:=hp 0 hJ
           have:∃u,hB[0]? =some u:=⟨hB[0]'(by omega),zqc (by omega)⟩
           obtain⟨u1,hM⟩:=this
           rw [hM]at h4
           have h5:=xA h4
           simpa [Addr.add]using h5
          have hd:∀(j:Nat)(c:AC),xs[j]? =some c->∃u,w.cell? ⟨a.block,a.off+i*P.cellsOf e+j,none⟩=some u/\one u=true/\RP (fun b=>b<w.heap.size) w c u:=fun j c hj=>by
           obtain⟨u,g1,g2,g3⟩:=h3 j c hj
           have hI:j<P.cellsOf e:=by rw [<-ht];exact(zqb.1 g1).1
           have h6:=ho j hI
           rw [g1]at h6
           exact⟨u,by rw [<-FZ a hh];exact h6,g2,g3⟩
          refine⟨xs,h1,hh,RPL.mk hd,?_⟩
          have hN:∃c,xs[0]? =some c:=⟨xs[0]'(by rw [h1.len];simp),zqc _⟩
          obtain⟨c,hF⟩:=hN
          obtain⟨u,g1,_⟩:=hd 0 c hF
          have hq:=World.block_lt_of_cell? w _ g1
          exact hq
         obtain⟨f,hf⟩:∃f:Nat->List AC,∀i,i<len->DtL (k0::ks0) (f i)/\a.spot=none/\RPL (fun b=>b<w.heap.size) w a.block (a.off+i*P.cellsOf e) (f i)/\a.block<w.heap.size:=Go.Deep.choose_lt el
         refine⟨.view ((List.range len).map f),by
          unfold Dt
          refine⟨_,rfl,by simp only [zql,List.length_range];exact zpb hlc (zpb hm (by decide)),fun x hx=> ?_⟩
          simp only [List.mem_map,List.mem_range]at hx
          obtain⟨i,hi,rfl⟩:=hx
          exact(hf i hi).1,rfl,?_⟩
         unfold RP
         refine⟨some a,cap,by simp,by simpa using hlc,hm,?_⟩
         by_cases h0:len=0
         ·left;subst h0;rfl
         ·right
          obtain⟨_,hh,_,hq⟩:=hf 0 (by omega)
          refine⟨a.block,a.off,P.cellsOf e,by obtain⟨b,o,s⟩:=a;simp only at hh;subst hh;rfl,hq,RPE.mk fun i y hy=> ?_⟩
          simp only [zqi,zqj]at hy
          obtain⟨i',ha,rfl⟩:=hy
          have hg:i<len:=by have:=(zqb.1 ha).1;simpa using this
          rw [List.getElem?_range hg]at ha
          cases ha
          obtain⟨g1,_,g3,_⟩:=hf i hg
          exact⟨by rw [g1.len,hck],g3⟩
       ·cases hs
      ·cases hs
     ·cases hs
    ·cases hs
   haveI:Inhabited AC:=⟨.dead⟩
   obtain⟨f,hf⟩:∃f:Nat->AC,∀i,i<ks.length->(∀k,ks[i]? =some k->Dt k (f i))/\∃u,cs[i]? =some u/\one u=true/\RP (fun b=>b<w.heap.size) w (f i) u:=Go.Deep.choose_lt hO
   refine⟨(List.range ks.length).map f,DtL.mk (by simp) fun i k c hk hc=> ?_,by simp [hH,hz],fun j c hj=> ?_⟩
   ·simp only [zqi,zqj]at hc
    obtain⟨i',ha,rfl⟩:=hc
    have hg:i<ks.length:=(zqb.1 hk).1
    rw [List.getElem?_range hg]at ha
    cases ha
    exact(hf i hg).1 k hk
   ·simp only [zqi,zqj]at hj
    obtain⟨i',ha,rfl⟩:=hj
    have hg:j<ks.length:=by have:=(zqb.1 ha).1;simpa using this
    rw [List.getElem?_range hg]at ha
    cases ha
    exact(hf j hg).2
theorem zd{r:Reach}{b0:Nat}{t:TypeId}{fs:Array Field}{v:Value}{d:DataW H}{p:List MemPlace}(hl:laidOutB P=true)(n:Nat)(ks:List Sh)(hlt:t<P.types.size)(hs:P.underlying t=some (.struct fs))(hsh:shL P n t=some ks)
  (hv:Value.okWide P w r b0 t v) (h:DataW.Trod enc P w base spare nM t v d p):∃xs,DtL ks xs/\RT (fun b=>b<w.heap.size) w [] [] (.agg xs) v:=by
 obtain⟨cs,rfl,hb⟩:=okWide_struct hs hv
 obtain⟨ha,hf⟩:=h
 obtain⟨xs,h1,h2,h3⟩:=B9 hl n t ks ha _ _ hlt hsh hf
 refine⟨xs,h1,cs.toList,rfl,h2.symm,fun j c hj=> ?_⟩
 obtain⟨u,g1,g2,g3⟩:=h3 j c hj
 have hc:Dt (ks[j]'(by rw [<-h1.len];exact(zqb.1 hj).1)) c\/True:= .inr trivial
 refine⟨u,g1,g2,?_⟩
 cases c with
 |imm v=>unfold RP at g3;exact g3
 |view ys=>exact g3
 |dead=>trivial
 |own r=>unfold RP at g3;exact g3.elim
 |sub r lo k=>unfold RP at g3;exact g3.elim
 |ptr r i o=>unfold RP at g3;exact g3.elim
 |eptr cs o=>unfold RP at g3;exact g3.elim
 |clo f rs=>unfold RP at g3;exact g3.elim
 |fv bs xs=>unfold RP at g3;exact g3.elim
 |old p xs=>unfold RP at g3;exact g3.elim
end
end Go.Proofs.YtckchgoblpgpbaaGreat
namespace Go.Proofs.YtckchgoblpgpbaaGreat
open Go.ChangeShapes Go.WideShapes Go.ChangeAt Go.RowKit Am Go.Proofs.Tryz
set_option maxRecDepth 100000
variable {P:Program}{args:List AT}{f:FuncId}
theorem Eu{ab0:AB}{q:AB->Prop}(hc:bS P f args fun res ha=>∃ab,res= .o 0/\ha=[ab]/\q ab/\ab=ab0):bS P f args fun res ha=>res= .o 0/\ha=[ab0]:=
 Con.mono hc fun res h'⟨ha,h1,ab,h2,h3,_,h4⟩=>⟨ha,h1,h2,by rw [h3,h4]⟩
variable {α:Type}
theorem xv(c:α->Array Value)(xs:List α):qd (vw c xs)=true:=by
 simp only [qd,vw,List.all_map,zqf]
 intro x _
 simp [lc]
variable {xs:List α}{V:LLA}
theorem imV{c:α->Array Value}(h:V=vw c xs):qd V=true:=by rw [h];exact xv _ _
def Fl(gap z:Int):Int:=if 0<z then gap*(z-1)else 0
def Ca(x:af):Int:=x.before+x.behind
def iz(xs:List af)(ys:List Int)(gap:Int):Int:=(xs.map Ca).sum+Fl gap xs.length+(ys.map id).sum
theorem DI{gap z:Int}(hz:0<=z):Fl gap (z+1)=Fl gap z+if 0<z then gap else 0:=by
 unfold Fl
 rw [if_pos (by omega)]
 by_cases h:0<z
 ·rw [if_pos h,if_pos h,show z+1-1=(z-1)+1 by omega,Int.mul_add,Int.mul_one]
 ·rw [if_neg h,if_neg h,show z+1-1=0 by omega,Int.mul_zero];rfl
theorem gH(xs:List af)(ys:List Int)(gap:Int)(hx:xs.length<=1048576)(hy:ys.length<=1048576):PC0 298 [.c (.view (vw af.c xs)),.c (.view (vw ak ys)),ai gap] (.i (wrap64 (iz xs ys gap))):=by
 obtain⟨V,hV⟩:=nmE (vw af.c xs)
 obtain⟨W,hW⟩:=nmE (vw ak ys)
 have hk:=lmV hV
 have hl:=lmV hW
 rw [<-hV,<-hW]
 refine aV func298 fun g F hg hF=> ?_
 cbv
 refine bQ hg bq (by kernel_rfl) (fun s:Int×Int=>[(0,.v V),(1,.v W),(2,.i gap),(7,.i s.2),(8,.i s.1)]) (fun _=>[]) (fun s=>0<=s.1/\s.1<=aN V/\s.2=wrap64 (y9 Ca xs s.1.toNat+Fl gap s.1)) (fun s=>V.length-s.1.toNat)
  (0,0) [] ⟨zpc 0,by have:=ao V;simp only;omega,by rw [show((0,0):Int×Int).1.toNat=0 from rfl,jN];exact(aq 0 (by omega)).symm⟩ (wk0 zr5) (fun s B hs hB=> ?_)
 obtain⟨z,a⟩:=s
 obtain⟨h0,h1,h2⟩:=hs
 simp only at h0 h1 h2
 cbv
 cases hc:g .q .lss z (g .ln V)
 ·rw [ba hg,bz hg,zqo]at hc
  cbv
  have ha:a=wrap64 ((xs.map Ca).sum+Fl gap xs.length):=by rw [h2,mO Ca (by have:=ao V;omega),show z=(xs.length:Int) by have:=ao V;omega]
  refine bQ hg bq (by kernel_rfl) (fun s:Int×Int=>[(1,.v W),(7,.i s.2),(9,.i s.1)]) (fun _=>[]) (fun s=>0<=s.1/\s.1<=aN W/\s.2=wrap64 ((xs.map Ca).sum+Fl gap xs.length+y9 id ys s.1.toNat)) (fun s=>W.length-s.1.toNat)
   (0,a) [] ⟨zpc 0,by have:=ao W;simp only;omega,by rw [show((0,a):Int×Int).1.toNat=0 from rfl,jN,Int.add_zero];exact ha⟩ (wk0 zr3) (fun s B2 hs hj=> ?_)
  obtain⟨y,b⟩:=s
  obtain⟨k0,k1,k2⟩:=hs
  simp only at k0 k1 k2
  cbv
  cases hd:g .q .lss y (g .ln W)
  ·rw [ba hg,bz hg,zqo]at hd
   cbv
   exact aO hF (by rw [k2,mO id (by have:=ao W;omega)];rfl)
  ·rw [ba hg,bz hg,zqp]at hd
   cbv
   have hh:=ao W
   obtain⟨x,hb⟩:=qM (xs:=ys) k0 (by omega)
   have hf:W[y.toNat]? =some (lc (ak x)):=by rw [hW];exact aZ hb
   refine goX hg _ k0 hf rfl ?_
   cbv
   have hh:=ao W
   have e1:g .w .add .i64 y 1=y+1:=by rw [aG hg,aq _ (by omega)]
   rw [e1,aG hg]
   refine iE hj (y+1,_) [] (wk0 zr3) ⟨by simp only;omega,by simp only;omega,?_⟩ (by show W.length-(y+1).toNat<W.length-y.toNat;omega)
   show wrap64 (b+x)=_
   rw [show(y+1).toNat=y.toNat+1 by omega,jO id hb,k2,nN,Int.add_assoc];rfl
 ·rw [ba hg,bz hg,zqp]at hc
  cbv
  have hh:=ao V
  obtain⟨x,hb⟩:=qM (xs:=xs) h0 (by omega)
  have hf:V[z.toNat]? =some (lc (af.c x)):=by rw [hV];exact aZ hb
  have hi:=jO Ca hb
  obtain⟨a0,a1,a2,a3,a4,a5,a6,a7,a8⟩:=x
  refine goX hg _ h0 hf rfl ?_
  cbv
  refine goX hg _ h0 hf rfl ?_
  cbv
  have hh:=ao V
  have e1:g .w .add .i64 z 1=z+1:=by rw [aG hg,aq _ (by omega)]
  have he:=DI (gap:=gap) h0
  cases hp:g .q .gtr z 0
  ·rw [dm hg,zqo]at hp
   rw [if_neg (by omega),Int.add_zero]at he
   cbv
   rw [e1,aG hg,aG hg]
   refine iE hB (z+1,_) [] (wk0 zr5) ⟨by simp only;omega,by simp only;omega,?_⟩ (by have:=ao V;show V.length-(z+1).toNat<V.length-z.toNat;omega)
   show wrap64 (wrap64 (a+a5)+a6)=_
   rw [show(z+1).toNat=z.toNat+1 by omega,hi,he,h2]
   simp only [nN]
   exact congrArg wrap64 (by simp only [Ca];omega)
  ·rw [dm hg,zqp]at hp
   rw [if_pos (by omega)]at he
   cbv
   rw [e1,aG hg,aG hg,aG hg]
   refine iE hB (z+1,_) [] (wk0 zr5) ⟨by simp only;omega,by simp only;omega,?_⟩ (by have:=ao V;show V.length-(z+1).toNat<V.length-z.toNat;omega)
   show wrap64 (wrap64 (wrap64 (a+a5)+a6)+gap)=_
   rw [show(z+1).toNat=z.toNat+1 by omega,hi,he,h2]
   simp only [nN]
   exact congrArg wrap64 (by simp only [Ca];omega)
theorem fH(xs:List af)(ys:List Int)(gap:Int)(hx:xs.length<=1048576)(hy:ys.length<=1048576):PC0 284 [.c (.view (vw af.c xs)),.c (.view (vw ak ys)),ai gap] (.i (wrap64 (iz xs ys gap))):=by
 obtain⟨V,hV⟩:=nmE (vw af.c xs)
 obtain⟨W,hW⟩:=nmE (vw ak ys)
 have hk:=lmV hV
 have hl:=lmV hW
 rw [<-hV,<-hW]
 refine aV func284 fun g F hg hF=> ?_
 cbv
 refine bQ hg bq (by kernel_rfl) (fun s:Int×Int=>[(0,.v V),(2,.i gap),(7,.i s.2),(12,.v W),(13,.i (g .ln W)),(14,.i s.1)]) (fun _=>[]) (fun s=>0<=s.1/\s.1<=aN W/\s.2=wrap64 (y9 id ys s.1.toNat)) (fun s=>W.length-s.1.toNat)
  (0,0) [] ⟨zpc 0,by have:=ao W;simp only;omega,by rw [show((0,0):Int×Int).1.toNat=0 from rfl,jN];exact(aq 0 (by omega)).symm⟩ (wk0 zr6) (fun s B hs hB=> ?_)
 obtain⟨z,a⟩:=s
 obtain⟨h0,h1,h2⟩:=hs
 simp only at h0 h1 h2
 cbv
 cases hc:g .q .lss z (g .ln W)
 ·rw [ba hg,bz hg,zqo]at hc
  cbv
  have ha:a=wrap64 ((ys.map id).sum):=by rw [h2,mO id (by have:=ao W;omega)]
  refine bQ hg bq (by kernel_rfl) (fun s:Int×Int=>[(0,.v V),(2,.i gap),(7,.i s.2),(22,.v V),(23,.i (g .ln V)),(24,.i s.1)]) (fun _=>[]) (fun s=>0<=s.1/\s.1<=aN V/\s.2=wrap64 ((ys.map id).sum+y9 Ca xs s.1.toNat)) (fun s=>V.length-s.1.toNat)
   (0,a) [] ⟨zpc 0,by have:=ao V;simp only;omega,by rw [show((0,a):Int×Int).1.toNat=0 from rfl,jN,Int.add_zero];exact ha⟩ (wk0 zr6) (fun s B2 hs hi=> ?_)
  obtain⟨y,b⟩:=s
  obtain⟨k0,k1,k2⟩:=hs
  simp only at k0 k1 k2
  cbv
  cases hd:g .q .lss y (g .ln V)
  ·rw [ba hg,bz hg,zqo]at hd
   cbv
   have kb:b=wrap64 ((ys.map id).sum+(xs.map Ca).sum):=by rw [k2,mO Ca (by have:=ao V;omega)]
   have hb:=ao V
   cases he:g .q .gtr (g .ln V) 0
   ·rw [dm hg,bz hg,zqo]at he
    cbv
    have hb:=ao V
    exact aO hF (by rw [kb];unfold iz Fl;rw [if_neg (by omega)];exact congrArg wrap64 (by omega))
   ·rw [dm hg,bz hg,zqp]at he
    cbv
    have hb:=ao V
    exact aO hF (by
     rw [aG hg,gA hg,cu hg,bz hg,aq (aN V-1) (by omega),kb,nN,uF]
     unfold iz Fl
     rw [if_pos (by omega),show aN V=(xs.length:Int) by omega]
     exact congrArg wrap64 (by omega))
  ·rw [ba hg,bz hg,zqp]at hd
   cbv
   have hb:=ao V
   obtain⟨x,hf⟩:=qM (xs:=xs) k0 (by omega)
   have hh:V[y.toNat]? =some (lc (af.c x)):=by rw [hV];exact aZ hf
   have hj:=jO Ca hf
   obtain⟨a0,a1,a2,a3,a4,a5,a6,a7,a8⟩:=x
   refine goX hg _ k0 hh rfl ?_
   cbv
   have hb:=ao V
   have e1:g .w .add .i64 y 1=y+1:=by rw [aG hg,aq _ (by omega)]
   rw [e1,aG hg,aG hg]
   refine iE hi (y+1,_) [] (wkS [] (by decide) trivial zr6) ⟨by simp only;omega,by simp only;omega,?_⟩ (by show V.length-(y+1).toNat<V.length-y.toNat;omega)
   show wrap64 (b+wrap64 (a5+a6))=_
   rw [show(y+1).toNat=y.toNat+1 by omega,hj,k2,nN,uF]
   exact congrArg wrap64 (by simp only [Ca];omega)
 ·rw [ba hg,bz hg,zqp]at hc
  cbv
  have hb:=ao W
  obtain⟨x,hf⟩:=qM (xs:=ys) h0 (by omega)
  have hh:W[z.toNat]? =some (lc (ak x)):=by rw [hW];exact aZ hf
  refine goX hg _ h0 hh rfl ?_
  cbv
  have hb:=ao W
  have e1:g .w .add .i64 z 1=z+1:=by rw [aG hg,aq _ (by omega)]
  rw [e1,aG hg]
  refine iE hB (z+1,_) [] (wk0 zr6) ⟨by simp only;omega,by simp only;omega,?_⟩ (by show W.length-(z+1).toNat<W.length-z.toNat;omega)
  show wrap64 (a+x)=_
  rw [show(z+1).toNat=z.toNat+1 by omega,jO id hf,h2,nN];rfl
def vwA(c:α->List AC)(xs:List α):LLA:=xs.map c
theorem bu(c:α->List AC)(xs:List α):(vwA c xs).length=xs.length:=by simp [vwA]
theorem iq{c:α->List AC}{i:Nat}{x:α}(h:xs[i]? =some x):(vwA c xs)[i]? =some (c x):=by simp [vwA,h]
theorem BQ{c:α->List AC}{k:Nat}(hk:∀x,(c x).length=k):∀y∈vwA c xs,y.length=k:=by
 intro y hy
 simp only [vwA,List.mem_map]at hy
 obtain⟨x,_,rfl⟩:=hy
 exact hk x
theorem o3{c:α->List AC}(hd:∀x,(c x).all dat=true):∀y∈vwA c xs,y.all dat=true:=by
 intro y hy
 simp only [vwA,List.mem_map]at hy
 obtain⟨x,_,rfl⟩:=hy
 exact hd x
theorem lA{c:α->List AC}(hp:∀x,(c x).all dx=true)(xs:List α):ay (vwA c xs)=true:=by
 simp only [ay,zqf]
 intro y hy
 simp only [vwA,List.mem_map]at hy
 obtain⟨x,_,rfl⟩:=hy
 exact zqf.1 (hp x)
theorem vY{α:Type}{c:α->List AC}{q:List AC->Prop}{p:α->Prop}(hq:∀x,q x->∃a,x=c a/\p a):∀{xs:LLA},(∀x∈xs,q x)->∃l:List α,xs=vwA c l/\∀a∈l,p a
 | [],_=>⟨[],rfl,by simp⟩
 |x::xs,h=>by
  obtain⟨a,ha,hp⟩:=hq x (h x (by simp))
  obtain⟨l,hl,hc⟩:=vY hq (xs:=xs) fun y hy=>h y (by simp [hy])
  exact⟨a::l,by rw [ha,hl];rfl,fun b hb=>by rcases zph.1 hb with rfl|hb;exact hp;exact hc b hb⟩
theorem Az{c:α->Array Value}{q:List AC->Prop}(hq:∀x,q x->∃a,x=lc (c a)){xs:LLA}(h:∀x∈xs,q x):∃l:List α,xs=vw c l:=by
 obtain⟨l,hl,_⟩:=vY (c:=fun a=>lc (c a)) (p:=fun _=>True) (fun x hx=>let⟨a,ha⟩:=hq x hx;⟨a,ha,zpt⟩) h
 exact⟨l,hl⟩
variable {ks:List Sh}
theorem aR{k:Sh}:∀{xs:List AC},DtL (k::ks) xs->∃c cs,xs=c::cs/\Dt k c/\DtL ks cs
 | [],h=>by simp [DtL]at h
 |c::cs,h=>by unfold DtL at h;exact⟨c,cs,rfl,h.1,h.2⟩
theorem Br:∀{xs:List AC},DtL [] xs->xs=[]
 | [],_=>rfl
 |_::_,h=>by simp [DtL]at h
theorem fK{c:AC}(h:Dt .i c):∃n,c= .J n:=by unfold Dt at h;obtain⟨n,_,h⟩:=h;exact⟨n,h⟩
theorem KJ{c:AC}(h:Dt .b c):∃n,c= .B n:=by unfold Dt at h;exact h
theorem KI{c:AC}(h:Dt (.s ks) c):∃xs:LLA,c= .view xs/\xs.length<=9223372036854775807/\∀x∈xs,DtL ks x:=by unfold Dt at h;exact h
theorem ii{n:Nat}{a z:Int}(h:a=(n:Int))(hz:z<a):z<(n:Int):=h▸hz
variable {z:Int}
theorem AY{es V:LLA}(hl:es.length=V.length)(hz:z<aN V):z<aN es:=by rw [ao]at hz⊢;rw [hl];exact hz
theorem sj{es:LLA}{j:Nat}(h0:0<=z)(hc:z<aN es)(hj:j=z.toNat):j<es.length:=by subst hj;rw [ao]at hc;omega
theorem Ai{n:Nat}{L:Int}(hl:V.length=n)(h:(V.length:Int)<=L)(hL:L<=1048576):n<=1048576:=by omega
theorem ri{p:α->Prop}{M z:Int}(hM:M=(xs.length:Int))(hz:M<=z)(h:∀(i:Nat)(y:α),i<z.toNat->xs[i]? =some y->p y):∀y∈xs,p y:=fun y hy=>by
 obtain⟨i,hi,he⟩:=zpi hy
 exact h i y (by omega) (by rw [zqc hi,he])
theorem KZ{n0 N:Nat}{g:Gd}(hg:g=G0 P n0 N){xs:LLA}{j k:Nat}{K:Nat->Prop}(hz:0<=z)(hj:j=z.toNat)(hy:j<xs.length)(hK:K j):g .Y k xs z K:=by subst hg hj;exact⟨hz,hy,hK⟩
variable {Q:Int->Prop}
theorem DY{n0 N:Nat}{g:Gd}(hg:g=G0 P n0 N){h:EH}{K:AV->EH->Prop}(hc:bS P f args fun res ha=>∃R:Int,res= .i R/\ha=[]/\Q R)(hp:i7 args=true)
  (hK:∀R,Q R->K (.t (.c (.J R))) (h++[])):g .C f h args K:=
 sT hg (fO hc hp fun res ha⟨R,h1,h2,h3⟩=>by subst h1 h2;exact⟨[],rfl,hK R h3⟩)
theorem En{F:List AT->EH->Prop}{eh:EH}(hF:F=lv 0 (fun res h'=>∃rows,h'=rows.map .live/\(∃R:Int,res= .i R/\rows=[]/\Q R)))(h:Q z):F [.c (.J z)] eh:=
 gf hF rfl ⟨z,rfl,rfl,h⟩
theorem szZ{L:Int}(hc:bS P f args fun res ha=>res= .i (szR (aN V) L)/\ha=[]):bS P f args fun res ha=>∃R:Int,res= .i R/\ha=[]/\(R<=L\/R<0)/\(0<=R->(V.length:Int)<=L):=
 Con.mono hc fun res h'⟨ha,h1,h2,h3⟩=>⟨ha,h1,_,h2,h3,by unfold szR;rw [ao];split<;>omega,by unfold szR;rw [ao];split<;>omega⟩
theorem aC.of_(x:List AC)(h:DtL [.i,.i,.i] x):∃a:aC,x=lc (aC.c a):=by
 obtain⟨c0,t0,rfl,d0,h⟩:=aR h
 obtain⟨c1,t1,rfl,d1,h⟩:=aR h
 obtain⟨c2,t2,rfl,d2,h⟩:=aR h
 obtain rfl:=Br h
 obtain⟨a0,rfl⟩:=fK d0
 obtain⟨a1,rfl⟩:=fK d1
 obtain⟨a2,rfl⟩:=fK d2
 exact⟨⟨a0,a1,a2⟩,rfl⟩
structure jW where
 rules:List aC
def jW.ac:jW->List AC
 |⟨a0⟩=>[.view (vw aC.c a0)]
def jW.small:jW->Prop
 |⟨a0⟩=>a0.length<=1048576/\True
def jW.fit:jW->Prop
 |⟨a0⟩=>a0.length<=9223372036854775807/\True
theorem Int.of_(x:List AC)(h:DtL [.i] x):∃a:Int,x=lc (ak a):=by
 obtain⟨c0,t0,rfl,d0,h⟩:=aR h
 obtain rfl:=Br h
 obtain⟨a0,rfl⟩:=fK d0
 exact⟨a0,rfl⟩
structure ae where
 up:Int
 kids:List Int
 style:ah
 measured:Bool
 table:jW
def ae.ac:ae->List AC
 |⟨a0,a1,⟨a2,a3,a4,a5,a6,a7,a8,a9,a10,a11,a12,⟨a13,a14⟩,⟨a15,a16⟩,⟨a17,a18⟩,⟨a19,a20⟩,⟨a21,a22⟩,⟨a23,a24⟩,⟨a25,a26⟩,a27,⟨⟨a28,a29⟩,⟨a30,a31⟩,⟨a32,a33⟩,⟨a34,a35⟩,⟨a36,a37⟩,⟨a38,a39⟩⟩,⟨⟨a40,a41⟩,⟨a42,a43⟩,⟨a44,a45⟩,⟨a46,a47⟩,⟨a48,a49⟩,⟨a50,a51⟩⟩,⟨a52,a53,a54,a55⟩,⟨a56,a57,a58,a59⟩,a60,a61⟩,a62,⟨a63⟩⟩=>[.imm (.int .i64 a0),.view (vw ak a1),.imm (.int .i64 a2),.imm (.int .i64 a3),.imm (.int .i64 a4),.imm (.int .i64 a5),.imm (.int .i64 a6),.imm (.int .i64 a7),.imm (.bool a8),.imm (.bool a9),.imm (.int .i64 a10),.imm (.int .i64 a11),.imm (.int .i64 a12),.imm (.int .i64 a13),.imm (.int .i64 a14),.imm (.int .i64 a15),.imm (.int .i64 a16),.imm (.int .i64 a17),.imm (.int .i64 a18),.imm (.int .i64 a19),.imm (.int .i64 a20),.imm (.int .i64 a21),.imm (.int .i64 a22),.imm (.int .i64 a23),.imm (.int .i64 a24),.imm (.int .i64 a25),.imm (.int .i64 a26),.imm (.int .i64 a27),.imm (.int .i64 a28),.imm (.int .i64 a29),.imm (.int .i64 a30),.imm (.int .i64 a31),.imm (.int .i64 a32),.imm (.int .i64 a33),.imm (.int .i64 a34),.imm (.int .i64 a35),.imm (.int .i64 a36),.imm (.int .i64 a37),.imm (.int .i64 a38),.imm (.int .i64 a39),.imm (.int .i64 a40),.imm (.int .i64 a41),.imm (.int .i64 a42),.imm (.int .i64 a43),.imm (.int .i64 a44),.imm (.int .i64 a45),.imm (.int .i64 a46),.imm (.int .i64 a47),.imm (.int .i64 a48),.imm (.int .i64 a49),.imm (.int .i64 a50),.imm (.int .i64 a51),.imm (.int .i64 a52),.imm (.int .i64 a53),.imm (.int .i64 a54),.imm (.int .i64 a55),.imm (.int .i64 a56),.imm (.int .i64 a57),.imm (.int .i64 a58),.imm (.int .i64 a59),.imm (.int .i64 a60),.imm (.int .i64 a61),.imm (.bool a62),.view (vw aC.c a63)]
def ae.sh:List Sh:=[.i,.s [.i],.i,.i,.i,.i,.i,.i,.b,.b,.i,.i,.i,.i,.i,.i,.i,.i,.i,.i,.i,.i,.i,.i,.i,.i,.i,.i,.i,.i,.i,.i,.i,.i,.i,.i,.i,.i,.i,.i,.i,.i,.i,.i,.i,.i,.i,.i,.i,.i,.i,.i,.i,.i,.i,.i,.i,.i,.i,.i,.i,.i,.b,.s [.i,.i,.i]]
def ae.small:ae->Prop
 |⟨a0,a1,⟨a2,a3,a4,a5,a6,a7,a8,a9,a10,a11,a12,⟨a13,a14⟩,⟨a15,a16⟩,⟨a17,a18⟩,⟨a19,a20⟩,⟨a21,a22⟩,⟨a23,a24⟩,⟨a25,a26⟩,a27,⟨⟨a28,a29⟩,⟨a30,a31⟩,⟨a32,a33⟩,⟨a34,a35⟩,⟨a36,a37⟩,⟨a38,a39⟩⟩,⟨⟨a40,a41⟩,⟨a42,a43⟩,⟨a44,a45⟩,⟨a46,a47⟩,⟨a48,a49⟩,⟨a50,a51⟩⟩,⟨a52,a53,a54,a55⟩,⟨a56,a57,a58,a59⟩,a60,a61⟩,a62,⟨a63⟩⟩=>a1.length<=1048576/\a63.length<=1048576/\True
def ae.fit:ae->Prop
 |⟨a0,a1,⟨a2,a3,a4,a5,a6,a7,a8,a9,a10,a11,a12,⟨a13,a14⟩,⟨a15,a16⟩,⟨a17,a18⟩,⟨a19,a20⟩,⟨a21,a22⟩,⟨a23,a24⟩,⟨a25,a26⟩,a27,⟨⟨a28,a29⟩,⟨a30,a31⟩,⟨a32,a33⟩,⟨a34,a35⟩,⟨a36,a37⟩,⟨a38,a39⟩⟩,⟨⟨a40,a41⟩,⟨a42,a43⟩,⟨a44,a45⟩,⟨a46,a47⟩,⟨a48,a49⟩,⟨a50,a51⟩⟩,⟨a52,a53,a54,a55⟩,⟨a56,a57,a58,a59⟩,a60,a61⟩,a62,⟨a63⟩⟩=>a1.length<=9223372036854775807/\a63.length<=9223372036854775807/\True
def xq:List AC:=[.J 0,.N,.J 0,.J 0,.J 0,.J 0,.J 0,.J 0,.B false,.B false,.J 0,.J 0,.J 0,.J 0,.J 0,.J 0,.J 0,.J 0,.J 0,.J 0,.J 0,.J 0,.J 0,.J 0,.J 0,.J 0,.J 0,.J 0,.J 0,.J 0,.J 0,.J 0,.J 0,.J 0,.J 0,.J 0,.J 0,.J 0,.J 0,.J 0,.J 0,.J 0,.J 0,.J 0,.J 0,.J 0,.J 0,.J 0,.J 0,.J 0,.J 0,.J 0,.J 0,.J 0,.J 0,.J 0,.J 0,.J 0,.J 0,.J 0,.J 0,.J 0,.B false,.N]
theorem ae.len(x:ae):x.ac.length=64:=rfl
theorem ae.dat(x:ae):x.ac.all Am.dat=true:=rfl
theorem ae.plain(x:ae):x.ac.all Am.dx=true:=rfl
theorem ae.of_(x:List AC)(h:DtL ae.sh x):∃a:ae,x=a.ac/\a.fit:=by
 obtain⟨c0,t0,rfl,d0,h⟩:=aR h
 obtain⟨c1,t1,rfl,d1,h⟩:=aR h
 obtain⟨c2,t2,rfl,d2,h⟩:=aR h
 obtain⟨c3,t3,rfl,d3,h⟩:=aR h
 obtain⟨c4,t4,rfl,d4,h⟩:=aR h
 obtain⟨c5,t5,rfl,d5,h⟩:=aR h
 obtain⟨c6,t6,rfl,d6,h⟩:=aR h
 obtain⟨c7,t7,rfl,d7,h⟩:=aR h
 obtain⟨c8,t8,rfl,d8,h⟩:=aR h
 obtain⟨c9,t9,rfl,d9,h⟩:=aR h
 obtain⟨xW,yO,rfl,h3,h⟩:=aR h
 obtain⟨xX,yP,rfl,h4,h⟩:=aR h
 obtain⟨xY,yQ,rfl,h5,h⟩:=aR h
 obtain⟨xZ,yR,rfl,h6,h⟩:=aR h
 obtain⟨x0,yS,rfl,h7,h⟩:=aR h
 obtain⟨x1,yT,rfl,h8,h⟩:=aR h
 obtain⟨x2,yU,rfl,h9,h⟩:=aR h
 obtain⟨x3,yV,rfl,xa,h⟩:=aR h
 obtain⟨x4,yW,rfl,xb,h⟩:=aR h
 obtain⟨x5,yX,rfl,xc,h⟩:=aR h
 obtain⟨x6,yY,rfl,xd,h⟩:=aR h
 obtain⟨x7,yZ,rfl,xe,h⟩:=aR h
 obtain⟨x8,y0,rfl,xf,h⟩:=aR h
 obtain⟨x9,y1,rfl,xg,h⟩:=aR h
 obtain⟨ya,y2,rfl,xh,h⟩:=aR h
 obtain⟨yb,y3,rfl,xi,h⟩:=aR h
 obtain⟨yc,y4,rfl,xj,h⟩:=aR h
 obtain⟨yd,y5,rfl,xk,h⟩:=aR h
 obtain⟨ye,y6,rfl,xl,h⟩:=aR h
 obtain⟨yf,y7,rfl,xm,h⟩:=aR h
 obtain⟨yg,y8,rfl,xn,h⟩:=aR h
 obtain⟨yh,y9,rfl,xo,h⟩:=aR h
 obtain⟨yi,za,rfl,xp,h⟩:=aR h
 obtain⟨yj,zb,rfl,xq,h⟩:=aR h
 obtain⟨yk,zc,rfl,xr,h⟩:=aR h
 obtain⟨yl,zd,rfl,xs,h⟩:=aR h
 obtain⟨ym,ze,rfl,xt,h⟩:=aR h
 obtain⟨yn,zf,rfl,xu,h⟩:=aR h
 obtain⟨yo,zg,rfl,xv,h⟩:=aR h
 obtain⟨yp,zh,rfl,xw,h⟩:=aR h
 obtain⟨yq,zi,rfl,xx,h⟩:=aR h
 obtain⟨yr,zj,rfl,xy,h⟩:=aR h
 obtain⟨ys,zk,rfl,xz,h⟩:=aR h
 obtain⟨yt,zl,rfl,xA,h⟩:=aR h
 obtain⟨yu,zm,rfl,xB,h⟩:=aR h
 obtain⟨yv,zn,rfl,xC,h⟩:=aR h
 obtain⟨yw,zo,rfl,xD,h⟩:=aR h
 obtain⟨yx,zp,rfl,xE,h⟩:=aR h
 obtain⟨yy,zq,rfl,xF,h⟩:=aR h
 obtain⟨yz,zr,rfl,xG,h⟩:=aR h
 obtain⟨yA,zs,rfl,xH,h⟩:=aR h
 obtain⟨yB,zt,rfl,xI,h⟩:=aR h
 obtain⟨yC,zu,rfl,xJ,h⟩:=aR h
 obtain⟨yD,zv,rfl,xK,h⟩:=aR h
 obtain⟨yE,zw,rfl,xL,h⟩:=aR h
 obtain⟨yF,zx,rfl,xM,h⟩:=aR h
 obtain⟨yG,zy,rfl,xN,h⟩:=aR h
 obtain⟨yH,zz,rfl,xO,h⟩:=aR h
 obtain⟨yI,zA,rfl,xP,h⟩:=aR h
 obtain⟨yJ,zB,rfl,xQ,h⟩:=aR h
 obtain⟨yK,zC,rfl,xR,h⟩:=aR h
 obtain⟨yL,zD,rfl,xS,h⟩:=aR h
 obtain⟨yM,zE,rfl,xT,h⟩:=aR h
 obtain⟨yN,zF,rfl,xU,h⟩:=aR h
 obtain rfl:=Br h
 obtain⟨a0,rfl⟩:=fK d0
 obtain⟨w1,rfl,l1,e1⟩:=KI d1
 obtain⟨a1,rfl⟩:=Az (c:=ak) Int.of_ e1
 rw [ar]at l1
 obtain⟨a2,rfl⟩:=fK d2
 obtain⟨a3,rfl⟩:=fK d3
 obtain⟨a4,rfl⟩:=fK d4
 obtain⟨a5,rfl⟩:=fK d5
 obtain⟨a6,rfl⟩:=fK d6
 obtain⟨a7,rfl⟩:=fK d7
 obtain⟨a8,rfl⟩:=KJ d8
 obtain⟨a9,rfl⟩:=KJ d9
 obtain⟨hb,rfl⟩:=fK h3
 obtain⟨hc,rfl⟩:=fK h4
 obtain⟨hd,rfl⟩:=fK h5
 obtain⟨he,rfl⟩:=fK h6
 obtain⟨hf,rfl⟩:=fK h7
 obtain⟨hg,rfl⟩:=fK h8
 obtain⟨hh,rfl⟩:=fK h9
 obtain⟨hi,rfl⟩:=fK xa
 obtain⟨hj,rfl⟩:=fK xb
 obtain⟨hk,rfl⟩:=fK xc
 obtain⟨hl,rfl⟩:=fK xd
 obtain⟨hm,rfl⟩:=fK xe
 obtain⟨hn,rfl⟩:=fK xf
 obtain⟨ho,rfl⟩:=fK xg
 obtain⟨hp,rfl⟩:=fK xh
 obtain⟨hq,rfl⟩:=fK xi
 obtain⟨hr,rfl⟩:=fK xj
 obtain⟨hs,rfl⟩:=fK xk
 obtain⟨ht,rfl⟩:=fK xl
 obtain⟨hu,rfl⟩:=fK xm
 obtain⟨hv,rfl⟩:=fK xn
 obtain⟨hw,rfl⟩:=fK xo
 obtain⟨hx,rfl⟩:=fK xp
 obtain⟨hy,rfl⟩:=fK xq
 obtain⟨hz,rfl⟩:=fK xr
 obtain⟨hA,rfl⟩:=fK xs
 obtain⟨hB,rfl⟩:=fK xt
 obtain⟨hC,rfl⟩:=fK xu
 obtain⟨hD,rfl⟩:=fK xv
 obtain⟨hE,rfl⟩:=fK xw
 obtain⟨hF,rfl⟩:=fK xx
 obtain⟨hG,rfl⟩:=fK xy
 obtain⟨hH,rfl⟩:=fK xz
 obtain⟨hI,rfl⟩:=fK xA
 obtain⟨hJ,rfl⟩:=fK xB
 obtain⟨hK,rfl⟩:=fK xC
 obtain⟨hL,rfl⟩:=fK xD
 obtain⟨hM,rfl⟩:=fK xE
 obtain⟨hN,rfl⟩:=fK xF
 obtain⟨hO,rfl⟩:=fK xG
 obtain⟨hP,rfl⟩:=fK xH
 obtain⟨hQ,rfl⟩:=fK xI
 obtain⟨hR,rfl⟩:=fK xJ
 obtain⟨hS,rfl⟩:=fK xK
 obtain⟨hT,rfl⟩:=fK xL
 obtain⟨hU,rfl⟩:=fK xM
 obtain⟨hV,rfl⟩:=fK xN
 obtain⟨hW,rfl⟩:=fK xO
 obtain⟨hX,rfl⟩:=fK xP
 obtain⟨hY,rfl⟩:=fK xQ
 obtain⟨hZ,rfl⟩:=fK xR
 obtain⟨h0,rfl⟩:=fK xS
 obtain⟨h1,rfl⟩:=KJ xT
 obtain⟨zG,rfl,ha,xV⟩:=KI xU
 obtain⟨h2,rfl⟩:=Az (c:=aC.c) aC.of_ xV
 rw [ar]at ha
 exact⟨⟨a0,a1,⟨a2,a3,a4,a5,a6,a7,a8,a9,hb,hc,hd,⟨he,hf⟩,⟨hg,hh⟩,⟨hi,hj⟩,⟨hk,hl⟩,⟨hm,hn⟩,⟨ho,hp⟩,⟨hq,hr⟩,hs,⟨⟨ht,hu⟩,⟨hv,hw⟩,⟨hx,hy⟩,⟨hz,hA⟩,⟨hB,hC⟩,⟨hD,hE⟩⟩,⟨⟨hF,hG⟩,⟨hH,hI⟩,⟨hJ,hK⟩,⟨hL,hM⟩,⟨hN,hO⟩,⟨hP,hQ⟩⟩,⟨hR,hS,hT,hU⟩,⟨hV,hW,hX,hY⟩,hZ,h0⟩,h1,⟨h2⟩⟩,rfl,⟨l1,ha,zpt⟩⟩
structure i8 where
 nodes:List ae
def i8.ac:i8->List AC
 |⟨a0⟩=>[.view (vwA ae.ac a0)]
def i8.sh:List Sh:=[.s ae.sh]
def i8.small:i8->Prop
 |⟨a0⟩=>a0.length<=1048576/\(∀y∈a0,ae.small y)/\True
def i8.fit:i8->Prop
 |⟨a0⟩=>a0.length<=9223372036854775807/\(∀y∈a0,ae.fit y)/\True
theorem i8.of_(x:List AC)(h:DtL i8.sh x):∃a:i8,x=a.ac/\a.fit:=by
 obtain⟨c0,t0,rfl,d0,h⟩:=aR h
 obtain rfl:=Br h
 obtain⟨w0,rfl,l0,e0⟩:=KI d0
 obtain⟨a0,rfl,f0⟩:=vY (c:=ae.ac) ae.of_ e0
 rw [bu]at l0
 exact⟨⟨a0⟩,rfl,⟨l0,f0,zpt⟩⟩
structure jH where
 wide:Int
 high:Int
 base:Int
 frames:List ag
def jH.ac:jH->List AC
 |⟨a0,a1,a2,a3⟩=>[.imm (.int .i64 a0),.imm (.int .i64 a1),.imm (.int .i64 a2),.view (vw ag.c a3)]
structure pI where
 node:Int
 wide:aK
 high:aK
 rtl:Bool
 box:jH
def pI.ac:pI->List AC
 |⟨a0,⟨a1,a2⟩,⟨a3,a4⟩,a5,⟨a6,a7,a8,a9⟩⟩=>[.imm (.int .i64 a0),.imm (.int .i64 a1),.imm (.int .i64 a2),.imm (.int .i64 a3),.imm (.int .i64 a4),.imm (.bool a5),.imm (.int .i64 a6),.imm (.int .i64 a7),.imm (.int .i64 a8),.view (vw ag.c a9)]
end Go.Proofs.YtckchgoblpgpbaaGreat
