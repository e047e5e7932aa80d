/- The types of this program, as AM asks for them. -/
import Derived.Test.YtkicjdeddpihaaaGreatProg
import Derived.WalkKit
import Derived.ProofKit
import Derived.Lib.Hide
import Derived.Deep.QuietTactic
import Derived.BigQuiet
import Derived.Deep.RegionHeld3
import Derived.Handy
import Derived.Deep.Slices
import Derived.WalkSpells
import Derived.Lib.QuietBelow
import Derived.Test.YtkicjdeddpihaaaGreatS4as
set_option linter.unusedVariables false
set_option linter.unusedSimpArgs false
namespace Go.Proofs.YtkicjdeddpihaaaGreat
open Go.ChangeShapes Go.WideShapes Go.ChangeAt Go.RowKit
theorem own:ownKnob Tryz.prog.godebug=none:=by kernel_rfl
theorem rM:laidOutB Tryz.prog=true:=by kernel_rfl
theorem bX{B:Nat}{a w:World}(h:Below B a w)(n:Nat):Below B a (w.drewN n):=⟨h.os,h.tape,h.output,h.size,h.block⟩
theorem eX(w:World):Below w.heap.size w w:=Below.refl _ _
theorem bq{a b c:World}(h:Below a.heap.size a b)(k:Below b.heap.size b c):Below a.heap.size a c:=h.trans (k.mono h.size)
theorem dI(w:World)(o:Obj):Below w.heap.size w (w.alloc o):=(Below.refl _ _).alloc (Nat.le_refl _) _
theorem I5{W w':World}(h:Below W.heap.size W w'):(∀b o,b<W.heap.size->w'.cell? ⟨b,o,none⟩=W.cell? ⟨b,o,none⟩)/\(∀b o,b<W.heap.size->w'.frozen? ⟨b,o,none⟩=W.frozen? ⟨b,o,none⟩)/\(∀b,b<W.heap.size->b<w'.heap.size)/\W.heap.size<=w'.heap.size:=
 ⟨fun b o hb=>h.cell (p:=⟨b,o,none⟩) hb,fun b o hb=>h.frozen (p:=⟨b,o,none⟩) hb,fun b hb=>Nat.lt_of_lt_of_le hb h.size,h.size⟩
def R64(n:Int):Prop:= -9223372036854775808<=n/\n<=9223372036854775807
theorem qY{n:Int}(h:(Lit.int .i64 n).wf=true):R64 n:=by
 have:=bounds_i64 h
 exact this
theorem m9{H:Type}{enc:TypeId×Value->H}{P:Program}(hl:laidOutB P=true){W W':World}(hb:Below W.heap.size W W'):
  ∀(ts:List TypeId)(vs:List Value)(ds:List (DataW H))(ps:List MemPlace),ts.all (fun t=>P.readableRec t&&decide (t<P.types.size))=true->
   DataW.TrodAll enc P W 0 (fun _=>true) true ts vs ds ps->(∀x∈ps,x.block<W.heap.size)->
   DataW.TrodAll enc P W' 0 (fun b=>decide (b<W.heap.size)) true ts vs ds ps
 | [],[],[],ps,_,h,_=>h
 |t::ts,v::vs,d::ds,ps,hr,h,hp=>by
  obtain⟨p,q,h1,h2,rfl⟩:=h
  simp only [zqD,zqs,zqp]at hr
  exact⟨p,q,Below.trod hl hr.1.1 hr.1.2 h1 hb (fun x hx=>hp x (List.mem_append.2 (.inl hx))),m9 hl hb ts vs ds q hr.2 h2 (fun x hx=>hp x (List.mem_append.2 (.inr hx))),rfl⟩
 | [],_::_,_,_,_,h,_=>h.elim
 | [],[],_::_,_,_,h,_=>h.elim
 |_::_,[],_,_,_,h,_=>h.elim
 |_::_,_::_,[],_,_,h,_=>h.elim
variable {P:Program}{H:Type}{enc:TypeId×Value->H}
theorem D3{f:Func}{s:ChangeSpec}{W W':World}{args:Array Value}{ds gs:List (DataW H)}{before:List MemPlace}{t:TypeId}
  (hl:laidOutB P=true) (hf:f.params.toList.all (fun t=>P.readableRec t&&decide (t<P.types.size))=true)
  (hvars:s.vars=[]) (hfn:s.fn H (ds++gs)={results:=[.lit (.bool true)],args:=ds})
  (hres:f.resultTypes= #[t]) (hb:P.underlying t=some .bool)
  (hW:DataW.Whole enc P f.params.toList s.vars false W args.toList ds gs before)
  (hx:Below W.heap.size W W'):s.post enc P f false true false false W args (.bool true) W':=by
 have hc:=hW.lt
 have ha:=hW
 obtain⟨p,q,hA,hV,rfl,hd,he⟩:=hW
 refine⟨ds,gs,_,[],p,[],ha,?_,?_,?_,hx.frame _,fun h=>by cases h⟩
 ·rw [hfn,hres]
  exact trodAll_cons_mk (shut_bool hb true) trodAll_mk0
 ·rw [hfn]
  exact m9 hl hx _ _ _ _ hf hA (fun x hx=>hc x (List.mem_append.2 (.inl hx)))
 ·rw [hfn,hvars]
  rfl
section
variable {H:Type}{enc:TypeId × Value->H}{P:Program}{w:World}{base:Nat}{spare:Nat->Bool}{l8:Bool}
def xl(P:Program):Nat->TypeId->Option (List TypeId)
 |0,_=>none
 |d+1,t=>
  match P.underlying t with
  |some (.struct fs)=>(fs.toList.mapM fun f=>xl P d f.type).map (·.flatten)
  |some (.array _ _)=>none
  |some _=>some [t]
  |none=>none
theorem rS(d n:Nat)(cs:List Value)
  (ih:∀(t:TypeId)(ts:List TypeId)(fuel:Nat)(cs:List Value)(x:DataW H×List MemPlace),t<P.types.size->xl P d t=some ts->DataW.trod enc P w base spare l8 fuel t cs=some x->
   cs.length=ts.length/\∀(i:Nat)(u:TypeId),ts[i]? =some u->∃c f' y,cs[i]? =some c/\DataW.trod enc P w base spare l8 f' u [c]=some y):
  ∀(fs:List Field)(off:Nat)(tss:List (List TypeId)),(∀f∈fs,f.type<P.types.size)->fs.mapM (fun f=>xl P d f.type)=some tss->
   (∀(j:Nat)(f:Field),fs[j]? =some f->f.offset=off+((fs.take j).map fun f=>P.cellsOf f.type).sum)->
   off+(fs.map fun f=>P.cellsOf f.type).sum<=cs.length->
   (∀f∈fs,∃x,DataW.trod enc P w base spare l8 n f.type ((cs.drop f.offset).take (P.cellsOf f.type))=some x)->
   tss.flatten.length=(fs.map fun f=>P.cellsOf f.type).sum/\
    ∀(i:Nat)(u:TypeId),tss.flatten[i]? =some u->∃c f' y,cs[off+i]? =some c/\DataW.trod enc P w base spare l8 f' u [c]=some y
 | [],off,tss,_,hm,_,_,_=>by
  simp only [List.mapM_nil,Option.pure_def,zqy]at hm
  subst hm
  exact⟨rfl,fun i u h=>by simp at h⟩
 |f::fs,off,tss,hz,hm,ho,hlen,hr=>by
  simp only [List.mapM_cons,Option.bind_eq_bind,Option.bind_eq_some_iff,Option.pure_def,zqy]at hm
  obtain⟨ts,h1,ha,h2,rfl⟩:=hm
  have hb:f.offset=off:=by simpa using ho 0 f rfl
  simp only [zqA,List.sum_cons]at hlen
  obtain⟨x,hx⟩:=hr f (List.mem_cons_self ..)
  obtain⟨hf,hd⟩:=ih f.type ts n _ x (hz f (List.mem_cons_self ..)) h1 hx
  have hh:((cs.drop f.offset).take (P.cellsOf f.type)).length=P.cellsOf f.type:=by
   rw [List.length_take,List.length_drop,hb];omega
  rw [hh]at hf
  obtain⟨hj,he⟩:=rS d n cs ih fs (off+P.cellsOf f.type) ha (fun g hg=>hz g (List.mem_cons_of_mem _ hg)) h2 (fun j g hg=>by
   have:=ho (j+1) g hg
   simp only [List.take_succ_cons,zqA,List.sum_cons]at this
   omega) (by omega) (fun g hg=>hr g (List.mem_cons_of_mem _ hg))
  refine⟨by simp only [List.flatten_cons,zqe,zqA,List.sum_cons];omega,fun i u hu=> ?_⟩
  simp only [List.flatten_cons]at hu
  by_cases hi:i<ts.length
  ·rw [zqh hi]at hu
   obtain⟨c,f',y,hc,hy⟩:=hd i u hu
   refine⟨c,f',y,?_,hy⟩
   rw [List.getElem?_take,if_pos (by omega),List.getElem?_drop,hb]at hc
   exact hc
  ·rw [zqg (by omega)]at hu
   obtain⟨c,f',y,hc,hy⟩:=he _ u hu
   refine⟨c,f',y,?_,hy⟩
   rw [<-hc]
   congr 1
   omega
theorem Au(hl:laidOutB P=true){t:TypeId}{fs:Array Field}(ht:P.underlying t=some (.struct fs))(hlt:t<P.types.size):
  P.cellsOf t=(fs.toList.map fun f=>P.cellsOf f.type).sum/\
   ∀(j:Nat)(f:Field),fs.toList[j]? =some f->f.offset=((fs.toList.take j).map fun f=>P.cellsOf f.type).sum/\f.type<P.types.size:=by
 unfold laidOutB at hl
 simp only [zqs,zqf,List.mem_range]at hl
 have h:=hl.1.1 t hlt
 unfold rowFine at h
 rw [ht]at h
 have hv:isVar P t=true:=by simp [isVar,hlt,ht,kindOk]
 simp only [hv,Bool.not_true,Bool.false_or,zqs,zqf,beq_iff_eq,List.mem_range]at h
 refine⟨h.1.2,fun j f hj=> ?_⟩
 have ha:j<fs.toList.length:=(List.getElem?_eq_some_iff.1 hj).1
 have h2:=h.2 j ha
 rw [hj]at h2
 have h3:=h.1.1 f (zqd hj)
 unfold isVar at h3
 simp only [zqs,zqp]at h3
 exact⟨by simpa using h2,h3.1⟩
theorem pd(hl:laidOutB P=true):∀(d:Nat)(t:TypeId)(ts:List TypeId)(ha:Nat)(cs:List Value)(x:DataW H×List MemPlace),t<P.types.size->xl P d t=some ts->
  DataW.trod enc P w base spare l8 ha t cs=some x->
  cs.length=ts.length/\∀(i:Nat)(u:TypeId),ts[i]? =some u->∃c f' y,cs[i]? =some c/\DataW.trod enc P w base spare l8 f' u [c]=some y:=by
 intro d
 induction d with
 |zero=>intro t ts ha cs x _ h;simp [xl]at h
 |succ d ih=>
  intro t ts ha cs x hi h hx
  unfold xl at h
  split at h
  ·rename_i fs ht
   simp only [zqj]at h
   obtain⟨hn,hm,rfl⟩:=h
   obtain⟨xs,n,rfl,rfl,hc,hk,hf⟩:=DataW.trod_struct ht hx
   obtain⟨hC,hO⟩:=Au hl ht hi
   have he:=rS (H:=H) (enc:=enc) (P:=P) (w:=w) (base:=base) (spare:=spare) (l8:=l8) d n cs ih fs.toList 0 hn (fun f hb=>by
     obtain⟨j,hj⟩:=List.getElem?_of_mem hb
     exact(hO j f hj).2) hm (fun j f hj=>by rw [(hO j f hj).1];omega) (by omega) (fun f hb=>by
     obtain⟨j,hj⟩:=List.getElem?_of_mem hb
     have hd:fs[j]? =some f:=by simpa using hj
     have:=hf j f hd
     have hh:j<xs.length:=by rw [hk];exact(Array.getElem?_eq_some_iff.1 hd).1
     exact⟨xs[j],by rw [this,zqc hh]⟩)
   refine⟨by rw [hc,hC];exact he.1.symm,fun i u hu=> ?_⟩
   have:=he.2 i u hu
   simpa using this
  ·simp at h
  ·rename_i ty hns hna ht
   simp only [zqy]at h
   subst h
   have hg:∃c,cs=[c]:=by
    cases ha with
    |zero=>simp [DataW.trod]at hx
    |succ n=>
     unfold DataW.trod at hx
     split at hx<;>first|exact⟨_,rfl⟩|(exfalso;rename_i h0;rw [ht]at h0;exact hns _ (Option.some.inj h0))|(exfalso;rename_i h0;rw [ht]at h0;exact hna _ _ (Option.some.inj h0))|(simp_all;done)
   obtain⟨c,rfl⟩:=hg
   refine⟨rfl,fun i u hu=> ?_⟩
   match i,hu with
   |0,hu=>
    simp at hu
    subst hu
    exact⟨c,ha,x,rfl,hx⟩
   |i+1,hu=>simp at hu
  ·simp at h
end
structure dy where
 kind:Int
 n:Int
 deriving DecidableEq
def dy.c(x:dy):Array Value:= #[.int .i64 x.kind,.int .i64 x.n]
structure bh where
 left:dy
 top:dy
 right:dy
 bottom:dy
 start:dy
 fin:dy
 deriving DecidableEq
def bh.c(x:bh):Array Value:= #[.int .i64 x.left.kind,.int .i64 x.left.n,.int .i64 x.top.kind,.int .i64 x.top.n,.int .i64 x.right.kind,.int .i64 x.right.n,.int .i64 x.bottom.kind,.int .i64 x.bottom.n,.int .i64 x.start.kind,.int .i64 x.start.n,.int .i64 x.fin.kind,.int .i64 x.fin.n]
structure bS where
 left:Int
 top:Int
 right:Int
 bottom:Int
 deriving DecidableEq
def bS.c(x:bS):Array Value:= #[.int .i64 x.left,.int .i64 x.top,.int .i64 x.right,.int .i64 x.bottom]
structure ao where
 dir:Int
 wrap:Int
 justify:Int
 items:Int
 self:Int
 content:Int
 apart:Bool
 hidden:Bool
 order:Int
 grow:Int
 shrink:Int
 basis:dy
 width:dy
 height:dy
 minWidth:dy
 minHeight:dy
 maxWidth:dy
 maxHeight:dy
 ratio:Int
 margin:bh
 inset:bh
 pad:bS
 border:bS
 rowGap:Int
 colGap:Int
 deriving DecidableEq
def ao.c(x:ao):Array Value:= #[.int .i64 x.dir,.int .i64 x.wrap,.int .i64 x.justify,.int .i64 x.items,.int .i64 x.self,.int .i64 x.content,.bool x.apart,.bool x.hidden,.int .i64 x.order,.int .i64 x.grow,.int .i64 x.shrink,.int .i64 x.basis.kind,.int .i64 x.basis.n,.int .i64 x.width.kind,.int .i64 x.width.n,.int .i64 x.height.kind,.int .i64 x.height.n,.int .i64 x.minWidth.kind,.int .i64 x.minWidth.n,.int .i64 x.minHeight.kind,.int .i64 x.minHeight.n,.int .i64 x.maxWidth.kind,.int .i64 x.maxWidth.n,.int .i64 x.maxHeight.kind,.int .i64 x.maxHeight.n,.int .i64 x.ratio,.int .i64 x.margin.left.kind,.int .i64 x.margin.left.n,.int .i64 x.margin.top.kind,.int .i64 x.margin.top.n,.int .i64 x.margin.right.kind,.int .i64 x.margin.right.n,.int .i64 x.margin.bottom.kind,.int .i64 x.margin.bottom.n,.int .i64 x.margin.start.kind,.int .i64 x.margin.start.n,.int .i64 x.margin.fin.kind,.int .i64 x.margin.fin.n,.int .i64 x.inset.left.kind,.int .i64 x.inset.left.n,.int .i64 x.inset.top.kind,.int .i64 x.inset.top.n,.int .i64 x.inset.right.kind,.int .i64 x.inset.right.n,.int .i64 x.inset.bottom.kind,.int .i64 x.inset.bottom.n,.int .i64 x.inset.start.kind,.int .i64 x.inset.start.n,.int .i64 x.inset.fin.kind,.int .i64 x.inset.fin.n,.int .i64 x.pad.left,.int .i64 x.pad.top,.int .i64 x.pad.right,.int .i64 x.pad.bottom,.int .i64 x.border.left,.int .i64 x.border.top,.int .i64 x.border.right,.int .i64 x.border.bottom,.int .i64 x.rowGap,.int .i64 x.colGap]
def ao.of(g:Nat->Int)(h:Nat->Bool):ao:=⟨(g 0),(g 1),(g 2),(g 3),(g 4),(g 5),(h 6),(h 7),(g 8),(g 9),(g 10),⟨(g 11),(g 12)⟩,⟨(g 13),(g 14)⟩,⟨(g 15),(g 16)⟩,⟨(g 17),(g 18)⟩,⟨(g 19),(g 20)⟩,⟨(g 21),(g 22)⟩,⟨(g 23),(g 24)⟩,(g 25),⟨⟨(g 26),(g 27)⟩,⟨(g 28),(g 29)⟩,⟨(g 30),(g 31)⟩,⟨(g 32),(g 33)⟩,⟨(g 34),(g 35)⟩,⟨(g 36),(g 37)⟩⟩,⟨⟨(g 38),(g 39)⟩,⟨(g 40),(g 41)⟩,⟨(g 42),(g 43)⟩,⟨(g 44),(g 45)⟩,⟨(g 46),(g 47)⟩,⟨(g 48),(g 49)⟩⟩,⟨(g 50),(g 51),(g 52),(g 53)⟩,⟨(g 54),(g 55),(g 56),(g 57)⟩,(g 58),(g 59)⟩
structure aK where
 room:Int
 wide:Int
 high:Int
 deriving DecidableEq
def aK.c(x:aK):Array Value:= #[.int .i64 x.room,.int .i64 x.wide,.int .i64 x.high]
structure az where
 mode:Int
 n:Int
 deriving DecidableEq
def az.c(x:az):Array Value:= #[.int .i64 x.mode,.int .i64 x.n]
def az.of(g:Nat->Int)(h:Nat->Bool):az:=⟨(g 0),(g 1)⟩
structure af where
 base:Int
 least:Int
 most:Int
 grow:Int
 shrink:Int
 before:Int
 behind:Int
 autoBefore:Bool
 autoBehind:Bool
 deriving DecidableEq
def af.c(x:af):Array Value:= #[.int .i64 x.base,.int .i64 x.least,.int .i64 x.most,.int .i64 x.grow,.int .i64 x.shrink,.int .i64 x.before,.int .i64 x.behind,.bool x.autoBefore,.bool x.autoBehind]
structure av where
 size:Int
 before:Int
 behind:Int
 autoBefore:Bool
 autoBehind:Bool
 align:Int
 base:Int
 deriving DecidableEq
def av.c(x:av):Array Value:= #[.int .i64 x.size,.int .i64 x.before,.int .i64 x.behind,.bool x.autoBefore,.bool x.autoBehind,.int .i64 x.align,.int .i64 x.base]
structure aD where
 node:Int
 x:Int
 y:Int
 wide:Int
 high:Int
 deriving DecidableEq
def aD.c(x:aD):Array Value:= #[.int .i64 x.node,.int .i64 x.x,.int .i64 x.y,.int .i64 x.wide,.int .i64 x.high]
structure kz where
 node:Int
 wide:az
 high:az
 rtl:Bool
 deriving DecidableEq
def kz.c(x:kz):Array Value:= #[.int .i64 x.node,.int .i64 x.wide.mode,.int .i64 x.wide.n,.int .i64 x.high.mode,.int .i64 x.high.n,.bool x.rtl]
def yz(ks:List Bool)(g:Nat->Int)(h:Nat->Bool):List Value:=ks.zipIdx.map fun x=>if x.1 then .bool (h x.2)else .int .i64 (g x.2)
def C2:Value->Bool| .bool b=>b|_=>false
def Cy(v:Value):Int:=match v with| .int .i64 n=>if(Lit.int .i64 n).wf=true then n else 0|_=>0
theorem Cx(v:Value):R64 (Cy v):=by
 unfold Cy
 split
 ·split
  ·rename_i h;exact qY h
  ·unfold R64;omega
 ·unfold R64;omega
variable {w:World}{spare:Nat->Bool}
theorem Ex{base:Nat}{l8:Bool}{ti tb:TypeId}(hi:P.underlying ti=some (.int .i64))(hb:P.underlying tb=some .bool)
  (ks:List Bool) (ts:List TypeId) (cs:List Value) (hts:ts=ks.map fun k=>if k then tb else ti)
  (h:cs.length=ts.length/\∀(i:Nat)(u:TypeId),ts[i]? =some u->∃c f' y,cs[i]? =some c/\DataW.trod enc P w base spare l8 f' u [c]=some y):
  cs=yz ks (fun i=>Cy (cs.getD i undef)) (fun i=>C2 (cs.getD i undef)):=by
 subst hts
 obtain⟨hl,hc⟩:=h
 rw [zql]at hl
 apply List.ext_getElem?
 intro i
 unfold yz
 by_cases hik:i<ks.length
 ·have hk:ks[i]? =some ks[i]:=zqc hik
  obtain⟨c,f',y,ha,hy⟩:=hc i (if ks[i]then tb else ti) (by rw [zqi,hk];rfl)
  have hd:cs.getD i undef=c:=by rw [List.getD_eq_getElem?_getD,ha];rfl
  rw [zqi,List.getElem?_zipIdx,hk,ha]
  simp only [Option.map_some,Nat.zero_add,hd]
  cases hkb:ks[i]with
  |true=>
   rw [hkb,if_pos rfl]at hy
   obtain⟨b,h1,_⟩:=DataW.trod_bool hb hy
   simp only [List.cons.injEq,and_true]at h1
   subst h1
   simp [C2]
  |false=>
   rw [hkb]at hy
   simp only [Bool.false_eq_true,if_false]at hy
   obtain⟨n,h1,_,hw⟩:=DataW.trod_int hi hy
   simp only [List.cons.injEq,and_true]at h1
   subst h1
   simp [Cy,hw]
 ·rw [zqz (by omega),zqz (by simp;omega)]
def az.ks:List Bool:=[false,false]
def az.ok(x:az):Prop:=R64 x.mode/\R64 x.n
theorem az.ok_of(g:Nat->Int)(h:Nat->Bool)(hg:∀i,R64 (g i)):(az.of g h).ok:=⟨hg _,hg _⟩
theorem wT{r:Reach}{b0 base:Nat}{l8:Bool}{ti tb t:TypeId}{fs:Array Field}{v:Value}{d:DataW H}{p:List MemPlace}
  (hl:laidOutB P=true) (hi:P.underlying ti=some (.int .i64)) (hb:P.underlying tb=some .bool) (ks:List Bool) (hlt:t<P.types.size) (hs:P.underlying t=some (.struct fs))
  (hft:xl P 5 t=some (ks.map fun k=>if k then tb else ti)) (hv:Value.okWide P w r b0 t v) (h:DataW.Trod enc P w base spare l8 t v d p):
  ∃(g:Nat->Int)(h:Nat->Bool),(∀i,R64 (g i))/\v= .agg (yz ks g h).toArray:=by
 obtain⟨cs,rfl,hc⟩:=okWide_struct hs hv
 obtain⟨ha,hf⟩:=h
 have h1:=pd hl 5 t _ ha _ _ hlt hft hf
 have h2:=Ex hi hb ks _ _ rfl h1
 refine⟨fun i=>Cy ((Value.agg cs).cells.toList.getD i undef),fun i=>C2 ((Value.agg cs).cells.toList.getD i undef),fun i=>Cx _,?_⟩
 rw [<-h2]
 rfl
def aj(n:Int):Array Value:= #[.int .i64 n]
theorem EP(a:Addr)(h:a.spot=none)(x y:Nat):(a.add x).add y=⟨a.block,a.off+x+y,none⟩:=by
 obtain⟨b,o,s⟩:=a
 simp only at h
 subst h
 unfold Addr.add
 split<;>split<;>simp_all
theorem wx{a:Addr}{u:Value}(h:w.cell? a=some u):a.spot=none:=by
 unfold World.cell? at h
 split at h
 ·split at h
  ·cases h
  ·rename_i hs;simpa using hs
 ·cases h
end Go.Proofs.YtkicjdeddpihaaaGreat
namespace Go.Proofs.YtkicjdeddpihaaaGreat
open Go.ChangeShapes Go.WideShapes Go.ChangeAt Go.RowKit Am
def lc(a:Array Value):List AC:=a.toList.map .imm
variable {α:Type}
def vw(c:α->Array Value)(xs:List α):LLA:=xs.map fun x=>lc (c x)
theorem ar(c:α->Array Value)(xs:List α):(vw c xs).length=xs.length:=by simp [vw]
variable {xs:List α}
theorem lmV{c:α->Array Value}{V:LLA}(h:V=vw c xs):V.length=xs.length:=by rw [h,ar]
theorem ba{c:α->Array Value}{i:Nat}{x:α}(h:xs[i]? =some x):(vw c xs)[i]? =some (lc (c x)):=by simp [vw,h]
theorem pk{z:Int}(h0:0<=z)(h1:z<xs.length):∃x,xs[z.toNat]? =some x:=⟨xs[z.toNat]'(by omega),zqc _⟩
theorem Fc{F:Nat->Prop}{w:World}{m:AM}{h:AH}{cs:Array Value}(h1:cs.toList.all one=true):RT F w m h (.agg (lc cs)) (.agg cs):=by
 refine⟨cs.toList,rfl,by simp [lc],fun j c hj=> ?_⟩
 simp only [lc,zqi,zqj]at hj
 obtain⟨u,hu,rfl⟩:=hj
 exact⟨u,hu,List.all_eq_true.1 h1 u (zqd hu),rfl⟩
end Go.Proofs.YtkicjdeddpihaaaGreat
namespace Go.Proofs.YtkicjdeddpihaaaGreat.Am
set_option maxRecDepth 100000
abbrev i0:Value:= .int .i64 0
abbrev zR(n:Nat)(l:List Value):List Value:=List.replicate n i0++l
abbrev b0:Value:= .bool false
abbrev s0:Value:= .slice none 0 0
def tab:List (TypeId×TI):=[
 (3,{agg:=none,zero:=[i0],size:=1,flds:=[],elem:=none,sok:=false,kd:=some (some .i64)}),
 (64,{agg:=some 60,zero:=zR 6 (b0::b0::zR 52 ([])),size:=60,flds:=[some (0,3),some (1,3),some (2,3),some (3,3),some (4,3),some (5,3),some (6,4),some (7,4),some (8,3),some (9,3),some (10,3),some (11,58),some (13,58),some (15,58),some (17,58),some (19,58),some (21,58),some (23,58),some (25,3),some (26,60),some (38,60),some (50,62),some (54,62),some (58,3),some (59,3)],elem:=none,sok:=true,kd:=none}),
 (28,{agg:=none,zero:=[s0],size:=1,flds:=[],elem:=some (3,1,8),sok:=false,kd:=none}),
 (34,{agg:=some 2,zero:=[i0,i0],size:=2,flds:=[some (0,3),some (1,3)],elem:=none,sok:=true,kd:=none}),
 (4,{agg:=none,zero:=[b0],size:=1,flds:=[],elem:=none,sok:=false,kd:=some none}),
 (58,{agg:=some 2,zero:=[i0,i0],size:=2,flds:=[some (0,3),some (1,3)],elem:=none,sok:=true,kd:=none}),
 (32,{agg:=some 1,zero:=[s0],size:=1,flds:=[some (0,30)],elem:=none,sok:=true,kd:=none}),
 (51,{agg:=none,zero:=[s0],size:=1,flds:=[],elem:=some (99,9,64),sok:=false,kd:=none}),
 (96,{agg:=some 7,zero:=zR 3 (b0::b0::zR 2 ([])),size:=7,flds:=[some (0,3),some (1,3),some (2,3),some (3,4),some (4,4),some (5,3),some (6,3)],elem:=none,sok:=true,kd:=none}),
 (99,{agg:=some 9,zero:=zR 7 (b0::b0::[]),size:=9,flds:=[some (0,3),some (1,3),some (2,3),some (3,3),some (4,3),some (5,3),some (6,3),some (7,4),some (8,4)],elem:=none,sok:=true,kd:=none}),
 (66,{agg:=some 68,zero:=zR 7 (b0::b0::zR 52 (b0::zR 5 (s0::[]))),size:=68,flds:=[some (0,3),some (1,64),some (61,4),some (62,34),some (64,34),some (66,3),some (67,28)],elem:=none,sok:=true,kd:=none}),
 (62,{agg:=some 4,zero:=[i0,i0,i0,i0],size:=4,flds:=[some (0,3),some (1,3),some (2,3),some (3,3)],elem:=none,sok:=true,kd:=none}),
 (119,{agg:=some 64,zero:=zR 1 (s0::zR 6 (b0::b0::zR 52 (b0::s0::[]))),size:=64,flds:=[some (0,3),some (1,28),some (2,64),some (62,4),some (63,117)],elem:=none,sok:=true,kd:=none}),
 (43,{agg:=some 4,zero:=[i0,i0,i0,s0],size:=4,flds:=[some (0,3),some (1,3),some (2,3),some (3,41)],elem:=none,sok:=true,kd:=none}),
 (60,{agg:=some 12,zero:=zR 12 ([]),size:=12,flds:=[some (0,58),some (2,58),some (4,58),some (6,58),some (8,58),some (10,58)],elem:=none,sok:=true,kd:=none}),
 (80,{agg:=some 75,zero:=zR 7 (b0::b0::zR 56 (b0::zR 8 (s0::[]))),size:=75,flds:=[some (0,3),some (1,64),some (61,34),some (63,34),some (65,4),some (66,34),some (68,34),some (70,34),some (72,34),some (74,28)],elem:=none,sok:=true,kd:=none}),
 (47,{agg:=none,zero:=[s0],size:=1,flds:=[],elem:=some (96,7,48),sok:=false,kd:=none}),
 (30,{agg:=none,zero:=[s0],size:=1,flds:=[],elem:=some (119,64,536),sok:=false,kd:=none}),
 (78,{agg:=some 3,zero:=[s0,b0,.pointer none],size:=3,flds:=[some (0,32),some (1,4),some (2,76)],elem:=none,sok:=true,kd:=none}),
 (26,{agg:=some 2,zero:=[i0,i0],size:=2,flds:=[some (0,3),some (1,3)],elem:=none,sok:=true,kd:=none}),
 (193,{agg:=some 3,zero:=[i0,i0,i0],size:=3,flds:=[some (0,3),some (1,3),some (2,3)],elem:=none,sok:=true,kd:=none}),
 (24,{agg:=some 1,zero:=[s0],size:=1,flds:=[some (0,22)],elem:=none,sok:=true,kd:=none}),
 (117,{agg:=some 1,zero:=[s0],size:=1,flds:=[some (0,115)],elem:=none,sok:=true,kd:=none}),
 (41,{agg:=none,zero:=[s0],size:=1,flds:=[],elem:=some (156,5,40),sok:=false,kd:=none}),
 (115,{agg:=none,zero:=[s0],size:=1,flds:=[],elem:=some (193,3,24),sok:=false,kd:=none}),
 (82,{agg:=none,zero:=[s0],size:=1,flds:=[],elem:=some (28,1,24),sok:=false,kd:=none}),
 (101,{agg:=some 2,zero:=[i0,i0],size:=2,flds:=[some (0,3),some (1,3)],elem:=none,sok:=true,kd:=none}),
 (156,{agg:=some 5,zero:=zR 5 ([]),size:=5,flds:=[some (0,3),some (1,3),some (2,3),some (3,3),some (4,3)],elem:=none,sok:=true,kd:=none}),
 (235,{agg:=some 7,zero:=s0::zR 2 (b0::s0::s0::zR 1 ([])),size:=7,flds:=[some (0,51),some (1,3),some (2,3),some (3,4),some (4,28),some (5,233),some (6,3)],elem:=none,sok:=true,kd:=none}),
 (70,{agg:=none,zero:=[.pointer none],size:=1,flds:=[],elem:=none,sok:=false,kd:=none}),
 (74,{agg:=some 5,zero:=s0::b0::b0::s0::s0::[],size:=5,flds:=[some (0,32),some (1,4),some (2,4),some (3,71),some (4,72)],elem:=none,sok:=true,kd:=none}),
 (253,{agg:=some 7,zero:=s0::zR 2 (b0::s0::s0::zR 1 ([])),size:=7,flds:=[some (0,51),some (1,3),some (2,3),some (3,4),some (4,233),some (5,28),some (6,3)],elem:=none,sok:=true,kd:=none}),
 (106,{agg:=some 60,zero:=zR 6 (b0::b0::zR 52 ([])),size:=60,flds:=[some (0,3),some (1,3),some (2,3),some (3,3),some (4,3),some (5,3),some (6,4),some (7,4),some (8,3),some (9,3),some (10,3),some (11,101),some (13,101),some (15,101),some (17,101),some (19,101),some (21,101),some (23,101),some (25,3),some (26,103),some (38,103),some (50,104),some (54,104),some (58,3),some (59,3)],elem:=none,sok:=true,kd:=none}),
 (233,{agg:=none,zero:=[s0],size:=1,flds:=[],elem:=some (4,1,1),sok:=false,kd:=none}),
 (146,{agg:=some 10,zero:=zR 5 (b0::zR 3 (s0::[])),size:=10,flds:=[some (0,3),some (1,34),some (3,34),some (5,4),some (6,43)],elem:=none,sok:=true,kd:=none}),
 (71,{agg:=none,zero:=[s0],size:=1,flds:=[],elem:=some (146,10,96),sok:=false,kd:=none}),
 (111,{agg:=some 64,zero:=zR 1 (s0::zR 6 (b0::b0::zR 52 (b0::s0::[]))),size:=64,flds:=[some (0,3),some (1,28),some (2,106),some (62,4),some (63,109)],elem:=none,sok:=true,kd:=none}),
 (103,{agg:=some 12,zero:=zR 12 ([]),size:=12,flds:=[some (0,101),some (2,101),some (4,101),some (6,101),some (8,101),some (10,101)],elem:=none,sok:=true,kd:=none}),
 (22,{agg:=none,zero:=[s0],size:=1,flds:=[],elem:=some (111,64,536),sok:=false,kd:=none}),
 (72,{agg:=none,zero:=[s0],size:=1,flds:=[],elem:=some (153,6,48),sok:=false,kd:=none}),
 (104,{agg:=some 4,zero:=[i0,i0,i0,i0],size:=4,flds:=[some (0,3),some (1,3),some (2,3),some (3,3)],elem:=none,sok:=true,kd:=none}),
 (107,{agg:=none,zero:=[s0],size:=1,flds:=[],elem:=some (257,3,24),sok:=false,kd:=none}),
 (109,{agg:=some 1,zero:=[s0],size:=1,flds:=[some (0,107)],elem:=none,sok:=true,kd:=none}),
 (150,{agg:=some 2,zero:=[s0,s0],size:=2,flds:=[some (0,71),some (1,72)],elem:=none,sok:=true,kd:=none}),
 (257,{agg:=some 3,zero:=[i0,i0,i0],size:=3,flds:=[some (0,3),some (1,3),some (2,3)],elem:=none,sok:=true,kd:=none}),
 (76,{agg:=none,zero:=[.pointer none],size:=1,flds:=[],elem:=none,sok:=false,kd:=none}),
 (250,{agg:=none,zero:=[.pointer none],size:=1,flds:=[],elem:=none,sok:=false,kd:=none}),
 (153,{agg:=some 6,zero:=zR 5 (b0::[]),size:=6,flds:=[some (0,3),some (1,34),some (3,34),some (5,4)],elem:=none,sok:=true,kd:=none}),
 (219,{agg:=none,zero:=[s0],size:=1,flds:=[],elem:=some (58,2,16),sok:=false,kd:=none}),
 (275,{agg:=none,zero:=[.pointer none],size:=1,flds:=[],elem:=none,sok:=false,kd:=none}),
 (182,{agg:=none,zero:=[.nilFunc],size:=1,flds:=[],elem:=none,sok:=false,kd:=none})]
theorem ay:fV Tryz.prog tab:=⟨by kernel_rfl,by kernel_rfl⟩
abbrev PC0(f:FuncId)(args:List AT)(r:AV):Prop:=da Tryz.prog f args fun res rows=>res=r/\rows=[]
end Go.Proofs.YtkicjdeddpihaaaGreat.Am
