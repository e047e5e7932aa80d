/- impl's children in the flow: the walk over the library's sort. -/
import Derived.Shelf.GgSortMore.Stable
import Derived.Below
import Derived.Shelf.Lay
import Derived.Ground.GgtProg
import Derived.Test.YtckchgoblpgpbaaGreatJ6ax
set_option linter.unusedVariables false
set_option linter.unusedSimpArgs false
set_option maxHeartbeats 8000000
namespace Go.Proofs.YtckchgoblpgpbaaGreat
open Go.ChangeShapes Go.WideShapes Go.ChangeAt Go.RowKit Am Go.Proofs.Tryz
set_option maxRecDepth 100000
def kR(s:ah):Bool:=decide (s.dir=1)||decide (s.dir=3)
def lK(s:ah)(rtl:Bool):Bool:=if s.dir=1 then rtl else if s.dir=3 then !rtl else decide (s.dir=4)
def lX(s:ah)(rtl:Bool):Bool:=xor (decide (s.wrap=3)) (rtl&& !kR s)
def sd1(row gA:Bool):Int:=if row then(if gA then 2 else 0)else(if gA then 3 else 1)
def sd2(row gA:Bool):Int:=if row then(if gA then 0 else 2)else(if gA then 1 else 3)
def Bo(s k:ah):Int:=if(if k.self=0 then s.items else k.self)=5/\kR s=false then 2 else(if k.self=0 then s.items else k.self)
def Cs(inner at_ size:Int)(gA:Bool):Int:=if gA then wrap64 (wrap64 (inner-at_)-size)else at_
def nN(s:ah)(wide:Bool):Int:=if wide then cl s.colGap else cl s.rowGap
def ua(m:bM)(sd:Int)(rtl:Bool):Bool:=decide ((mu m sd rtl).kind=3)
def tak(s:aG)(n:Int):Int:=if s.mode=3\/(s.mode=2/\s.n<n)then cl s.n else cl n
def nY(s:aG):Int:=if s.mode=2\/s.mode=3 then s.n else-1
def BE(s:aG):aG:=if s.mode=3 then⟨2,s.n⟩else s
def knS(s:aG):Int:=if s.mode=3 then s.n else-1
def yi(c:Int):Int:=if c=3 then 2 else if c=4 then 3 else if c=5 then 4 else if c=6 then 5 else 1
def za(x:av):Bool:=rng x.size 0 1048576&&(rng x.base 0 1048576&&(rng x.before (-1048576) 1048576&&(rng x.behind (-1048576) 1048576&&rng x.align 1 5)))
def onB(x:av):Bool:=decide (x.align=5)&&(!x.autoBefore&& !x.autoBehind)
def zy(x:av):Bool:=decide (x.align=1)&&(!x.autoBefore&& !x.autoBehind)
def Dh(x:av)(cross base:Int):Int:=
 if za x=false then 0 else
 let free:=wrap64 (wrap64 (wrap64 (cross-x.size)-x.before)-x.behind)
 if x.autoBefore||x.autoBehind then(if free<=0\/x.autoBefore=false then x.before else if x.autoBehind then wrap64 (x.before+fdv free 2)else wrap64 (x.before+free))
 else if x.align=3 then wrap64 (x.before+free)else if x.align=4 then wrap64 (x.before+fdv free 2)else if x.align=5 then wrap64 (base-x.base)else x.before
theorem fj(s:ah):PC0 229 [.agg (lc (ah.c s))] (.t (abl (kR s))):=by
 refine ae (aM f229) aB func229 fun g F hg hF=> ?_
 cbv
 repeat'(first|(split<;>rename_i hh<;>(try rw [hh])<;>(try simp only [ew hg]at hh)<;>cbv))
 all_goals exact aY hF (by(try simp only [bA hg,nt hg,zqn]);clear hF hg;simp_all [kR])
theorem iE(s:ah)(rtl:Bool):PC0 189 [.agg (lc (ah.c s)),abl rtl] (.t (abl (lK s rtl))):=by
 cases rtl<;>(refine ae (aM f189) aB func189 fun g F hg hF=> ?_;cbv;repeat'(first|(split<;>rename_i hh<;>(try rw [hh])<;>(try simp only [ew hg]at hh)<;>cbv)))
 all_goals exact aY hF (by(try simp only [bA hg,nt hg,zqn]);clear hF hg;simp_all [lK])
theorem ib(s:ah)(rtl:Bool):PC0 191 [.agg (lc (ah.c s)),abl rtl] (.t (abl (lX s rtl))):=by
 have c1:=fj s
 cases rtl<;>(refine ae (aM f191) aB func191 fun g F hg hF=> ?_;cbv;repeat'(first|(refine bf hg c1 rfl (fun R0 ha=> ?_);cases R0<;>cbv)|(split<;>rename_i hh<;>(try rw [hh])<;>(try simp only [ew hg]at hh)<;>cbv)))
 all_goals exact aY hF (by(try simp only [bA hg,nt hg,zqn]);clear hF hg;simp_all [lX])
theorem jv(row gA:Bool):PC0 282 [abl row,abl gA] (.tup [ai (sd1 row gA),ai (sd2 row gA)]):=by
 cases row<;>cases gA<;>(refine ae (aM f282) aB func282 fun g F hg hF=> ?_;cbv)
 all_goals exact uR hF (by exact⟨rfl,rfl⟩)
theorem gY(s:ah)(rtl:Bool):PC0 232 [.agg (lc (ah.c s)),abl rtl] (.tup [ai (sd1 (kR s) (lK s rtl)),ai (sd2 (kR s) (lK s rtl))]):=by
 have c1:=fj s
 have c2:=iE s rtl
 have c3:=jv
 refine ae (aM f232) aB func232 fun g F hg hF=> ?_
 cbv
 repeat'(first|(refine bf hg c1 rfl (fun R0 ha=> ?_);cases R0<;>cbv)|(refine bf hg c2 rfl (fun R0 ha=> ?_);cases R0<;>cbv)|(refine zH hg (c3 _ _) rfl (fun R0 R1 ha hb=> ?_);cbv)|(split<;>rename_i hh<;>(try rw [hh])<;>(try simp only [ew hg]at hh)<;>cbv))
 all_goals exact uR hF (by subst_vars;simp_all)
theorem gp(s:ah)(rtl:Bool):PC0 239 [.agg (lc (ah.c s)),abl rtl] (.tup [ai (sd1 (!kR s) (lX s rtl)),ai (sd2 (!kR s) (lX s rtl))]):=by
 have c1:=fj s
 have c2:=ib s rtl
 have c3:=jv
 refine ae (aM f239) aB func239 fun g F hg hF=> ?_
 cbv
 repeat'(first|(refine bf hg c1 rfl (fun R0 ha=> ?_);cases R0<;>cbv)|(refine bf hg c2 rfl (fun R0 ha=> ?_);cases R0<;>cbv)|(refine zH hg (c3 _ _) rfl (fun R0 R1 ha hb=> ?_);cbv)|(split<;>rename_i hh<;>(try rw [hh])<;>(try simp only [ew hg]at hh)<;>cbv))
 all_goals exact uR hF (by subst_vars;simp_all)
theorem jy(s k:ah):PC0 243 [.agg (lc (ah.c s)),.agg (lc (ah.c k))] (.i (Bo s k)):=by
 have c1:=fj s
 refine ae (aM f243) aB func243 fun g F hg hF=> ?_
 cbv
 repeat'(first|(refine bN hg c1 rfl (fun R0 ha=> ?_);cases R0<;>cbv)|(split<;>rename_i hh<;>(try rw [hh])<;>(try simp only [ew hg]at hh)<;>cbv))
 all_goals exact bj hF (by simp only [Bo];grind)
theorem iC(i a s:Int)(b:Bool):PC0 187 [ai i,ai a,ai s,abl b] (.i (Cs i a s b)):=by
 cases b<;>(refine ae (aM f187) aB func187 fun g F hg hF=> ?_;cbv)
 all_goals exact bj hF (by(try simp only [dP hg]);rfl)
theorem fX(s:ah)(w:Bool):PC0 177 [.agg (lc (ah.c s)),abl w] (.i (nN s w)):=by
 cases w<;>(refine ae (aM f177) aB func177 fun g F hg hF=> ?_;cbv;repeat'(first|(refine bk hg (aq _) rfl (fun R0 ha=> ?_);cbv)|(split<;>rename_i hh<;>(try rw [hh])<;>(try simp only [ew hg]at hh)<;>cbv)))
 all_goals exact bj hF (by subst_vars;rfl)
theorem da(s:bM)(sd:Int)(rtl:Bool):PC0 235 [.agg (lc (bM.c s)),ai sd,abl rtl] (.t (abl (ua s sd rtl))):=by
 have c1:=fG s sd rtl
 refine ae (aM f235) aB func235 fun g F hg hF=> ?_
 cbv
 repeat'(first|(refine ov hg c1 rfl (fun R0 R1 ha hb=> ?_);cbv)|(split<;>rename_i hh<;>(try rw [hh])<;>(try simp only [ew hg]at hh)<;>cbv))
 all_goals exact aY hF (by(try simp only [bA hg]);subst_vars;simp [ua];try exact(zqn _ _))
theorem d9(m n k:Int):PC0 178 [.agg [.J m,.J n],ai k] (.i (tak ⟨m,n⟩ k)):=by
 refine ae (aM f178) aB func178 fun g F hg hF=> ?_
 cbv
 repeat'(first|(refine bk hg (aq _) rfl (fun R0 ha=> ?_);cbv)|(split<;>rename_i hh<;>(try rw [hh])<;>(try simp only [ew hg]at hh)<;>cbv))
 all_goals exact bj hF (by simp only [tak];subst_vars;grind)
theorem kp(m n:Int):PC0 172 [.agg [.J m,.J n]] (.i (nY ⟨m,n⟩)):=by
 refine ae (aM f172) aB func172 fun g F hg hF=> ?_
 cbv
 repeat'(first|(split<;>rename_i hh<;>(try rw [hh])<;>(try simp only [ew hg]at hh)<;>cbv))
 all_goals exact bj hF (by simp only [nY];grind)
theorem iI(m n:Int):PC0 283 [.agg [.J m,.J n]] (.t (agP (BE ⟨m,n⟩))):=by
 refine ae (aM f283) aB func283 fun g F hg hF=> ?_
 cbv
 repeat'(first|(split<;>rename_i hh<;>(try rw [hh])<;>(try simp only [ew hg]at hh)<;>cbv))
 all_goals exact sw hF (by simp only [BE];grind)
theorem dp(m n:Int):PC0 181 [.agg [.J m,.J n]] (.i (knS ⟨m,n⟩)):=by
 refine ae (aM f181) aB func181 fun g F hg hF=> ?_
 cbv
 repeat'(first|(split<;>rename_i hh<;>(try rw [hh])<;>(try simp only [ew hg]at hh)<;>cbv))
 all_goals exact bj hF (by simp only [knS];grind)
theorem lQ(c:Int):PC0 248 [ai c] (.i (yi c)):=by
 refine ae (aM f248) aB func248 fun g F hg hF=> ?_
 cbv
 repeat'(first|(split<;>rename_i hh<;>(try rw [hh])<;>(try simp only [ew hg]at hh)<;>cbv))
 all_goals exact bj hF (by simp only [yi];grind)
theorem km(x:av):PC0 253 [.agg (lc (av.c x))] (.t (abl (za x))):=by
 refine ae (aM f253) aB func253 fun g F hg hF=> ?_
 cbv
 repeat'(first|(refine bN hg (bD _ _ _) rfl (fun R0 ha=> ?_);cases R0<;>cbv)|(split<;>rename_i hh<;>(try rw [hh])<;>(try simp only [ew hg]at hh)<;>cbv))
 all_goals exact aY hF (by(try simp only [bA hg,nt hg,zqn]);clear hF hg;simp_all [za])
theorem kv(x:av):PC0 252 [.agg (lc (av.c x))] (.t (abl (onB x))):=by
 obtain⟨s,b,c,p,q,a,e⟩:=x
 cases p<;>cases q<;>(refine ae (aM f252) aB func252 fun g F hg hF=> ?_;cbv;repeat'(first|(split<;>rename_i hh<;>(try rw [hh])<;>(try simp only [ew hg]at hh)<;>cbv)))
 all_goals exact aY hF (by(try simp only [bA hg,nt hg,zqn]);clear hF hg;simp_all [onB,zy])
theorem rr(x:av):PC0 182 [.agg (lc (av.c x))] (.t (abl (zy x))):=by
 obtain⟨s,b,c,p,q,a,e⟩:=x
 cases p<;>cases q<;>(refine ae (aM f182) aB func182 fun g F hg hF=> ?_;cbv;repeat'(first|(split<;>rename_i hh<;>(try rw [hh])<;>(try simp only [ew hg]at hh)<;>cbv)))
 all_goals exact aY hF (by(try simp only [bA hg,nt hg,zqn]);clear hF hg;simp_all [onB,zy])
theorem kr(x:av)(cross base:Int):PC0 190 [.agg (lc (av.c x)),ai cross,ai base] (.i (Dh x cross base)):=by
 have c2:=km x
 obtain⟨s,b,c,p,q,a,e⟩:=x
 cases p<;>cases q<;>(refine ae (aM f190) aB func190 fun g F hg hF=> ?_;cbv;repeat'(first|(refine bN hg c2 rfl (fun R0 ha=> ?_);cases R0<;>cbv)|(refine aD hg (ba _ _) rfl (fun R0 ha=> ?_);cbv)|(split<;>rename_i hh<;>(try rw [hh])<;>(try simp only [ew hg]at hh)<;>cbv)))
 all_goals exact bj hF (by(try simp only [dP hg,aJ hg]at *);(try clear c1);clear c2 hF hg;simp only [Dh];grind)
end Go.Proofs.YtckchgoblpgpbaaGreat
namespace Go.Proofs.YtckchgoblpgpbaaGreat
open Go.Shelf Go.RowKit Go.Lib Go.Sort Go.Proofs
variable {P:Program}{ρ:Ren}{α:Type}[Inhabited α]
structure ii(enc:α->Value)(w:World)(blk off:Nat)(dk:Array α)(W:World):Prop where
 os:W.os=w.os
 tape:W.tape=w.tape
 output:W.output=w.output
 size:w.heap.size<=W.heap.size
 at_:∀b,b<w.heap.size->W.heap[b]? =(putRow enc w blk off dk).heap[b]?
section
variable {enc:α->Value}{w W W':World}{blk off:Nat}{d dk:Array α}
theorem ii.below(h:ii enc w blk off dk W)(hb:Below W.heap.size W W'):ii enc w blk off dk W':=
 ⟨hb.os.trans h.os,hb.tape.trans h.tape,hb.output.trans h.output,Nat.le_trans h.size hb.size,fun b hl=>(hb.block b (Nat.lt_of_lt_of_le hl h.size)).trans (h.at_ b hl)⟩
theorem ii.start(hH:Holds enc w blk off d):ii enc w blk off d w:=⟨rfl,rfl,rfl,Nat.le_refl _,fun b _=>by rw [putRow_self enc w blk off d hH]⟩
theorem ii.holds(h:ii enc w blk off dk W)(hblk:blk<w.heap.size)(hH:Holds enc w blk off d)(hs:dk.size=d.size):Holds enc W blk off dk:=fun j hj=>by
 have h1:=holds_putRow enc w blk off d dk hH hs j hj
 exact⟨(World.cell?_of_block (w:=putRow enc w blk off dk) (w':=W) (a:=⟨blk,off+j,none⟩) (h.at_ blk hblk)).trans h1.1,(World.frozen?_of_block (w:=putRow enc w blk off dk) (w':=W) (a:=⟨blk,off+j,none⟩) (h.at_ blk hblk)).trans h1.2⟩
theorem fT{b:Nat}(hb:b≠blk):(putRow enc w blk off dk).heap[b]? =w.heap[b]? :=by
 simp only [putRow,mapBlock,Array.getElem?_modify]
 rw [if_neg (fun e=>hb e.symm)]
theorem ii.cell(h:ii enc w blk off dk W){b k:Nat}(hb:b<w.heap.size)(hne:b≠blk):W.cell? ⟨b,k,none⟩=w.cell? ⟨b,k,none⟩:=
 World.cell?_of_block (w:=w) (w':=W) (a:=⟨b,k,none⟩) ((h.at_ b hb).trans (fT hne))
theorem oD(W:World)(a:Addr)(u:Value)(b:Nat):∃f:Obj->Obj,∀X:World,(X.setCell a u).heap[b]? =if a.block=b then(X.heap[b]?).map f else X.heap[b]? :=by
 exact⟨_,fun X=>by simp only [World.setCell,Array.getElem?_modify];rfl⟩
theorem ii.swap(h:ii enc w blk off dk W)(hblk:blk<w.heap.size){i j:Nat}(hi:i<dk.size)(hj:j<dk.size):
  ii enc w blk off (swp dk i j) ((W.setCell ⟨blk,off+i,none⟩ (enc dk[j]!)).setCell ⟨blk,off+j,none⟩ (enc dk[i]!)):=by
 refine⟨h.os,h.tape,h.output,by simp only [World.setCell,Array.size_modify];exact h.size,fun b hb=> ?_⟩
 rw [<-putRow_swp enc w blk off dk i j hi hj]
 obtain⟨f,hf⟩:=oD W ⟨blk,off+j,none⟩ (enc dk[i]!) b
 obtain⟨g,hg⟩:=oD W ⟨blk,off+i,none⟩ (enc dk[j]!) b
 rw [hf,hf,hg,hg,h.at_ b hb]
theorem ii.base{o:Obj}(hblk:blk<w.heap.size)(h:ii enc (w.alloc o) blk off dk W):ii enc w blk off dk W:=by
 refine⟨h.os,h.tape,h.output,Nat.le_trans (by simp) h.size,fun b hb=> ?_⟩
 rw [h.at_ b (by rw [World.size_alloc];omega)]
 simp only [putRow,mapBlock,Array.getElem?_modify]
 rw [Below.heap_alloc w o b hb]
end
def oz(P:Program)(g:Nat)(lb:Array Value)(enc:α->Value)(lt:α->α->Bool)(p:α->Prop)(blk off size:Nat)(w:World):Prop:=
 ∀(W:World)(dk:Array α),dk.size=size->(∀i,i<size->p dk[i]!)->ii enc w blk off dk W->∀i j:Nat,i<size->j<size->
  Calls P g (#[.int .i64 i,.int .i64 j]++lb) W fun e w'=>e= .returned (.bool (lt dk[i]! dk[j]!))/\Below W.heap.size W w'
theorem oz.alloc{g:Nat}{lb:Array Value}{enc:α->Value}{lt:α->α->Bool}{p:α->Prop}{blk off size:Nat}{w:World}{o:Obj}(hblk:blk<w.heap.size)(h:oz P g lb enc lt p blk off size w):oz P g lb enc lt p blk off size (w.alloc o):=
 fun W dk hs hp hW i j hi hj=>h W dk hs hp (hW.base hblk) i j hi hj
theorem z9{p:α->Prop}{d:Array α}{i j:Nat}(hi:i<d.size)(hj:j<d.size)(h:∀k,k<d.size->p d[k]!):∀k,k<d.size->p (swp d i j)[k]! :=fun k hk=>by
 unfold swp
 by_cases h1:k=j
 ·subst h1
  rw [getElem!_set_same _ _ _ (by simpa using hj)];exact h i hi
 ·rw [getElem!_set_other _ _ _ _ h1]
  by_cases h2:k=i
  ·subst h2
   rw [getElem!_set_same _ _ _ hi];exact h j hj
  ·rw [getElem!_set_other _ _ _ _ h2];exact h k hk
set_option maxRecDepth 100000 in
theorem jk(L:LaysGg.n26 P ρ)(enc:α->Value)(lt:α->α->Bool)(p:α->Prop)(g:Nat)(lb:Array Value)(sf:Nat)(sb:Array Value)(blk off a b:Nat)(d:Array α)(w:World)
  (eg:∀args w,(callFunc g args).run P w= .ok (.enter g args) w) (hless:oz P g lb enc lt p blk off d.size w) (hswap:SwapSwaps P sf sb enc blk off d.size)
  (hp:∀i,i<d.size->p d[i]!)
  (hH:Holds enc w blk off d) (hblk:blk<w.heap.size) (hab:a<=b) (hb:b<=d.size) (hsz:d.size<4611686018427387904):
  Calls P (ρ.f 26) #[.agg #[.func (.func g) #[] lb,.func (.func sf) #[] sb],.int .i64 a,.int .i64 b] w fun e w'=>
   e= .returned (.tuple #[])/\ii enc w blk off (Sort.insertionSort lt d a b) w':=by
 have hy:=L.mixed;have t0:=L.t0;have a0:=L.a0;have z0:=L.z0;have v0:=L.v0;have t3:=L.t3;have a3:=L.a3;have z3:=L.z3;have v3:=L.v3;have t4:=L.t4;have a4:=L.a4;have z4:=L.z4;have v4:=L.v4;have hV:=L.t26;have hK:=L.a26;have h3:=L.z26;have h0:=L.v26;have hX:=L.t37;have hL:=L.a37;have h4:=L.z37;have h1:=L.v37;have hY:=L.t44;have hM:=L.a44;have h5:=L.z44;have h2:=L.v44
 have hZ:=run_underlying L.t44
 have hh:Holds enc (w.alloc (.cells #[.func (.func g) #[] lb,.func (.func sf) #[] sb] (ρ.t 44))) blk off d:=by rw [alloc_eq_grow];exact holds_grow enc w _ blk off d hblk hH
 have ha:=hless.alloc (o:= .cells #[.func (.func g) #[] lb,.func (.func sf) #[] sb] (ρ.t 44)) hblk
 have hc:blk<(w.alloc (.cells #[.func (.func g) #[] lb,.func (.func sf) #[] sb] (ρ.t 44))).heap.size:=by rw [World.size_alloc];omega
 have hv:=ii.start hh
 have fin:∀D W,ii enc (w.alloc (.cells #[.func (.func g) #[] lb,.func (.func sf) #[] sb] (ρ.t 44))) blk off D W->ii enc w blk off D W:=fun D W h=>h.base hblk
 have cc:∀k v,((w.alloc (.cells #[.func (.func g) #[] lb,.func (.func sf) #[] sb] (ρ.t 44)))).cell? ⟨w.heap.size,k,none⟩=some v->∀D W,ii enc (w.alloc (.cells #[.func (.func g) #[] lb,.func (.func sf) #[] sb] (ρ.t 44))) blk off D W->W.cell? ⟨w.heap.size,k,none⟩=some v:=fun k v h D W hW=>by
  rw [hW.cell (by rw [World.size_alloc];omega) (by omega)];exact h
 have hm:=cc 0 (.func (.func g) #[] lb) (by simp)
 have hn:=cc 1 (.func (.func sf) #[] sb) (by simp)
 clear cc
 obtain⟨w1,hw⟩:∃w1,w1=(w.alloc (.cells #[.func (.func g) #[] lb,.func (.func sf) #[] sb] (ρ.t 44))):=⟨_,rfl⟩
 rw [<-hw]at hh ha hc hv fin hm hn
 go_enter L.f26,BodyGg.n26_ntmps ρ
 go_wp2
 rw [<-hw]
 go_loopw [6] (fun vi wr=>∃(i:Nat)(dk:Array α),vi= .int .i64 i/\a<i/\i<=b+1/\dk.size=d.size/\(∀k,k<d.size->p dk[k]!)/\ii enc w1 blk off dk wr/\
   insOuter lt a b i dk=insOuter lt a b (a+1) d) (fun vi _=>b+1-(intOf vi).toNat)
 case atStart=>exact⟨a+1,d,by go_num,by omega,by omega,rfl,hp,hv,rfl⟩
 case round=>
  obtain⟨i,dk,rfl,hR,hT,hE,hu,hx,hO⟩:=hrel
  have HO:Hid (insOuter lt a b i dk=insOuter lt a b (a+1) d):=hO
  have HP:Hid (∀k,k<d.size->p dk[k]!):=hu
  have hg:Hid (ii enc w1 blk off dk wr):=hx
  have hJ:Hid (∀i,i<d.size->p d[i]!):=hp
  have HL:Hid (oz P g lb enc lt p blk off d.size w1):=ha
  have hG:Hid (oz P g lb enc lt p blk off d.size w):=hless
  have hi:Hid (∀D W,ii enc w1 blk off D W->W.cell? ⟨w.heap.size,0,none⟩=some (.func (.func g) #[] lb)):=hm
  have hj:Hid (∀D W,ii enc w1 blk off D W->W.cell? ⟨w.heap.size,1,none⟩=some (.func (.func sf) #[] sb)):=hn
  have HF:Hid (∀D W,ii enc w1 blk off D W->ii enc w blk off D W):=fin
  clear hO hu hx hp ha hless hm hn fin
  have hB:=hi.out _ _ hg.out
  have hC:=hj.out _ _ hg.out
  go_wp2
  ·
   go_loopw [7] (fun vj hF=>∃(j:Nat)(dj:Array α),vj= .int .i64 j/\a<=j/\j<=i/\dj.size=d.size/\(∀k,k<d.size->p dj[k]!)/\ii enc w1 blk off dj hF/\
     insInner lt a j dj=insInner lt a i dk) (fun vj _=>(intOf vj).toNat)
   case atStart=>exact⟨i,dk,rfl,by omega,Nat.le_refl _,hE,HP.out,hg.out,rfl⟩
   case round=>
    clear hB hC
    obtain⟨j,dj,rfl,hS,hU,hd,ht,hf,hI⟩:=hrel
    have hr:i<b:=by assumption
    have hQ:=hf.holds hc hh hd
    have c0:=hi.out _ _ hf
    have c1:=hj.out _ _ hf
    have HW:Hid (ii enc w1 blk off dj wr):=hf
    have HI:Hid (insInner lt a j dj=insInner lt a i dk):=hI
    have hk:Hid (∀k,k<d.size->p dj[k]!):=ht
    clear hf hI ht
    have hz:(j<=a\/lt dj[j]! dj[j-1]! =false)->∀W,ii enc w1 blk off dj W->∃i' dk',Value.int .i64 ((i:Int)+1)= .int .i64 (i':Nat)/\a<i'/\i'<=b+1/\dk'.size=d.size/\(∀k,k<d.size->p dk'[k]!)/\
      ii enc w1 blk off dk' W/\insOuter lt a b i' dk'=insOuter lt a b (a+1) d:=fun hs W hW=>
     ⟨i+1,dj,by go_num,by omega,by omega,hd,hk.out,hW,
      by rw [<-HO.out,insOuter_go _ _ _ _ _ hr,<-HI.out,insInner_stop _ _ _ _ hs]⟩
    have hq:Hid _:=hz
    clear hz
    by_cases hja:a<j
    ·have hl:=HL.out wr dj hd hk.out HW.out j (j-1) (by omega) (by omega)
     rw [show(((j-1:Nat):Int))=(j:Int)-1 by omega]at hl
     cases hlv:lt dj[j]! dj[j-1]! with
     |true=>
      rw [hlv]at hl
      go_wp2_with (go_at_fn g;refine hl.mono ?_;rintro e w' ⟨rfl,hbw⟩;have he:=HW.out.below hbw;have hN:=hi.out _ _ he;have hP:=hj.out _ _ he;have hA:Hid (ii enc w1 blk off dj w'):=he;have ho:=he.holds hc hh hd;clear hbw he)
      have hs:=hswap w' dj ho hd j (j-1) (by omega) (by omega)
      rw [show(((j-1:Nat):Int))=(j:Int)-1 by omega]at hs
      rw [hs,Oper.upon_value]
      go_wp2
      go_roundw
      case rel=>
       (repeat apply Exists.intro)
       refine⟨⟨j-1,swp dj j (j-1),by congr 1<;>omega,by omega,by omega,by rw [size_swp];exact hd,?_,?_,?_⟩,by rw [zqu hr,show((j-1:Nat):Int)=(j:Int)-1 by omega]⟩
       ·have:=z9 (i:=j) (j:=j-1) (d:=dj) (by omega) (by omega) (by rw [hd];exact hk.out)
        rw [hd]at this;exact this
       ·exact hA.out.swap hc (by omega) (by omega)
       ·rw [<-HI.out,insInner_go lt a j dj hja hlv]
      case measure=>simp [intOf];omega
     |false=>
      rw [hlv]at hl
      go_wp2_with (go_at_fn g;refine hl.mono ?_;rintro e w' ⟨rfl,hbw⟩)
      go_roundw
      case rel=>exact hq.out (Or.inr hlv) _ (HW.out.below hbw)
      case measure=>simp [intOf];omega
    ·go_wp2
     go_roundw
     case rel=>exact hq.out (Or.inl (by omega)) _ HW.out
     case measure=>simp [intOf];omega
  ·
   have hD:¬i<b:=by assumption
   go_end0
   exact⟨rfl,by unfold Sort.insertionSort;rw [<-HO.out,insOuter_stop _ _ _ _ _ hD];exact HF.out _ _ hg.out⟩
set_option maxRecDepth 100000 in
theorem pn(L:LaysGt.n15 P ρ)(enc:α->Value)(lt:α->α->Bool)(p:α->Prop)(g:Nat)(lb:Array Value)(sf:Nat)(sb:Array Value)(blk off:Nat)(d:Array α)(W:World)
  (eg:∀args w,(callFunc g args).run P w= .ok (.enter g args) w) (hless:oz P g lb enc lt p blk off d.size W) (hswap:SwapSwaps P sf sb enc blk off d.size)
  (hp:∀i,i<d.size->p d[i]!) (hH:Holds enc W blk off d) (hblk:blk<W.heap.size) (h20:d.size<20):
  Calls P (ρ.f 15) #[.agg #[.func (.func g) #[] lb,.func (.func sf) #[] sb],.int .i64 d.size] W fun e w'=>e= .returned (.tuple #[])/\ii enc W blk off (Sort.insertionSort lt d 0 d.size) w':=by
 have hb:=L.mixed;have t0:=L.t0;have a0:=L.a0;have z0:=L.z0;have v0:=L.v0;have t3:=L.t3;have a3:=L.a3;have z3:=L.z3;have v3:=L.v3;have t4:=L.t4;have a4:=L.a4;have z4:=L.z4;have v4:=L.v4;have hi:=L.t26;have hd:=L.a26;have hs:=L.z26;have hn:=L.v26;have hj:=L.t38;have he:=L.a38;have ht:=L.z38;have ho:=L.v38;have hk:=L.t42;have hf:=L.a42;have hu:=L.z42;have hq:=L.v42;have hl:=L.t47;have hg:=L.a47;have hv:=L.z47;have hr:=L.v47
 have hm:=run_underlying L.t42
 have hh:∀args w,(callFunc (ρ.f 29) args).run P w= .ok (.enter (ρ.f 29) args) w:=enters_of L.f29 (by kernel_rfl) rfl
 have LI:LaysGg.n26 P ρ.viaGt:=({L with}:LaysGt.n29 P ρ).elder
 have ha:Holds enc (W.alloc (.cells #[.func (.func g) #[] lb,.func (.func sf) #[] sb] (ρ.t 42))) blk off d:=by rw [alloc_eq_grow];exact holds_grow enc W _ blk off d hblk hH
 have hc:Calls P (ρ.f 29) #[.agg #[.func (.func g) #[] lb,.func (.func sf) #[] sb],.int .i64 (0:Nat),.int .i64 d.size] (W.alloc (.cells #[.func (.func g) #[] lb,.func (.func sf) #[] sb] (ρ.t 42))) fun e w'=>e= .returned (.tuple #[])/\ii enc W blk off (Sort.insertionSort lt d 0 d.size) w':=
  (jk LI enc lt p g lb sf sb blk off 0 d.size d _ eg (hless.alloc hblk) hswap hp ha (by rw [World.size_alloc];omega) (Nat.zero_le _) (Nat.le_refl _) (by omega)).mono fun e w' h=>⟨h.1,h.2.base hblk⟩
 clear hless hswap hH ha hp
 go_enter L.f15,BodyGt.n15_ntmps ρ
 go_wp2
 refine wp_loop_rounds 1 ?_
 rw [rounds_succ]
 go_wp2_with (go_at_fn (ρ.f 29);refine hc.mono ?_;rintro e w1 ⟨rfl,hR⟩)
 refine wp_loop_rounds 1 ?_
 rw [rounds_succ]
 go_wp2
 all_goals first|(exfalso;omega)|(go_end0;exact⟨rfl,hR⟩)
theorem qD(L:LaysGt.n8 P ρ)(t e:TypeId)(i ie:TypeInfo)(hi:P.info? t=some i)(hd:i.desc= .slice e)(hpk:P.packed t=false)(hie:P.info? e=some ie)(ke:Nat)(hke:∀w,(Extern.Rtype.kind e).run P w= .ok ke w)
  (hs1:ie.size=1) (hagg:∀w,(isAgg e).run P w= .ok false w) (enc:α->Value) (h1:∀x,(enc x).oneCell'=true) (lt:α->α->Bool) (p:α->Prop) (g:Nat) (lb:Array Value)
  (eg:∀args w,(callFunc g args).run P w= .ok (.enter g args) w) (blk off c:Nat) (d:Array α) (h2:2<=d.size) (h20:d.size<20)
  (f:Nat) (hf:P.funcs.findIdx? (·.name== "internal/reflectlite" ++ ".Swapper$" ++toString (swapperK d.size ie ke))=some f)
  (gS:Bool) (hx:∀args W,(callFunc f args).run P W=((Extern.ReflectliteSwapper.swap gS args).run P W).andThen fun v w'=> .ok (.value v) w')
  (w:World) (hless:oz P g lb enc lt p blk off d.size w) (hp:∀i,i<d.size->p d[i]!) (hH:Holds enc w blk off d) (hblk:blk<w.heap.size):
  Calls P (ρ.f 8) #[.iface t (.slice (some ⟨blk,off,none⟩) d.size c),.func (.func g) #[] lb] w fun e w'=>
   e= .returned (.tuple #[])/\ii enc w blk off (Sort.insertionSort lt d 0 d.size) w':=by
 refine Any.sort_SliceStable_of_stable L t e i ie hi hd hpk hie ke hke _ d.size c (by omega) f hf (.func g) #[] lb w _ ?_
 have hB:sliceBound P e ie ke (some ⟨blk,off,none⟩) d.size c= #[.slice (some ⟨blk,off,none⟩) d.size c,typeHandle P e]:=by
  unfold sliceBound;rw [if_neg (swapperK_gt _ _ _ h2)]
 rw [hB]
 unfold stableWorld
 have ha:blk<(w.alloc (.cells #[.slice (some ⟨blk,off,none⟩) d.size c] t)).heap.size:=by rw [World.size_alloc];omega
 have hb:Holds enc (w.alloc (.cells #[.slice (some ⟨blk,off,none⟩) d.size c] t)) blk off d:=by rw [alloc_eq_grow];exact holds_grow enc w _ blk off d hblk hH
 refine(pn (P:=P) (ρ:=ρ) {L with} enc lt p g lb f _ blk off d _ eg ((hless.alloc hblk).alloc ha)
  (swapSwaps_of_literal gS f hx e ie hie hs1 hagg enc h1 blk off d.size c) hp (by rw [alloc_eq_grow _ (.cells #[.pointer _,.pointer _,.int .u64 151] _)];exact holds_grow enc _ _ blk off d ha hb) (by rw [World.size_alloc];omega) h20).mono ?_
 rintro e w' ⟨rfl,hR⟩
 exact⟨rfl,(hR.base ha).base hblk⟩
end Go.Proofs.YtckchgoblpgpbaaGreat
namespace Go.Proofs.YtckchgoblpgpbaaGreat
open Go.Shelf Go.RowKit Go.Lib Go.Sort Am Go.Proofs.Tryz
def rm(f:Int->Int)(x:Int):List Int->List Int
 | []=>[x]
 |y::r=>if f x<f y then y::rm f x r else x::y::r
def ltF(f:Int->Int)(x y:Int):Bool:=decide (f x<f y)
variable {d:Array Int}{pre post:List Int}
theorem qA{x:Int}(h:d.toList=pre++x::post):d[pre.length]! =x:=by
 have hl:pre.length<d.size:=by rw [<-Array.length_toList,h];simp
 rw [getElem!_pos d _ hl,<-Array.getElem_toList]
 simp [h]
theorem xB{x y:Int}(h:d.toList=pre++y::x::post):(swp d (pre.length+1) pre.length).toList=pre++x::y::post:=by
 have e1:d[pre.length]! =y:=qA h
 have e2:d[pre.length+1]! =x:=by
  have:=qA (d:=d) (pre:=pre++[y]) (post:=post) (x:=x) (by rw [h];simp)
  simpa using this
 unfold swp
 rw [e1,e2,Array.toList_setIfInBounds,Array.toList_setIfInBounds,h]
 apply List.ext_getElem?
 intro i
 simp only [List.getElem?_set,List.length_set,zqe,zqx,List.getElem?_append,List.getElem?_cons]
 split<;>split<;>split<;>(try split)<;>(try split)<;>first|rfl|omega|(simp_all<;>omega)
theorem oQ(f:Int->Int):∀(j:Nat)(d:Array Int)(pre post:List Int)(x:Int),pre.length=j->d.toList=pre++x::post->(insInner (ltF f) 0 j d).toList=(rm f x pre.reverse).reverse++post
 |0,d,pre,post,x,hj,h=>by
  obtain rfl:=List.length_eq_zero_iff.1 hj
  rw [insInner]
  simpa [rm]using h
 |j+1,d,pre,post,x,hj,h=>by
  rcases List.eq_nil_or_concat pre with rfl|⟨pre',y,rfl⟩
  ·simp at hj
  have ha:pre'.length=j:=by simpa using hj
  have h':d.toList=pre'++y::x::post:=by rw [h];simp
  have e1:d[j]! =y:=by rw [<-ha];exact qA h'
  have e2:d[j+1]! =x:=by
   have:=qA (d:=d) (pre:=pre'++[y]) (post:=post) (x:=x) (by rw [h'];simp)
   rw [<-ha];simpa using this
  rw [insInner,e1,e2]
  have hr:(pre'.concat y).reverse=y::pre'.reverse:=by simp
  rw [hr,rm]
  by_cases hlt:f x<f y
  ·have:(decide (j+1>0)&&ltF f x y)=true:=by simp [ltF,hlt]
   rw [if_pos this,if_pos hlt,oQ f j _ pre' (y::post) x ha (by rw [<-ha];exact xB h')]
   simp
  ·have:(decide (j+1>0)&&ltF f x y)=false:=by simp [ltF,hlt]
   rw [if_neg (by rw [this];simp),if_neg hlt,h']
   simp
theorem oC(lt:Int->Int->Bool)(a:Nat):∀(j:Nat)(d:Array Int),(insInner lt a j d).size=d.size
 |0,d=>by rw [insInner]
 |j+1,d=>by
  rw [insInner]
  split
  ·rw [oC lt a j,size_swp]
  ·rfl
theorem oK(f:Int->Int)(b:Nat):∀(rest A:List Int)(d:Array Int),d.toList=A++rest->A.length+rest.length=b->(insOuter (ltF f) 0 b A.length d).toList=(rest.foldl (fun ha x=>rm f x ha) A.reverse).reverse
 | [],A,d,h,hb=>by
  rw [insOuter,if_neg (by simp at hb;omega)]
  simpa using h
 |x::post,A,d,h,hb=>by
  simp only [zqx]at hb
  rw [insOuter,if_pos (by omega)]
  have hi:=oQ f A.length d A post x rfl h
  have hl:(rm f x A.reverse).reverse.length=A.length+1:=by
   have h1:=congrArg List.length hi
   have h2:(insInner (ltF f) 0 A.length d).size=d.size:=oC _ _ _ _
   rw [Array.length_toList,h2,<-Array.length_toList,h]at h1
   simp only [zqe,zqx]at h1
   omega
  have:=oK f b post (rm f x A.reverse).reverse _ hi (by omega)
  rw [hl,List.reverse_reverse]at this
  rw [this,List.foldl_cons]
theorem qL(f:Int->Int)(xs:List Int):(Sort.insertionSort (ltF f) xs.toArray 0 xs.toArray.size).toList=(xs.foldl (fun ha x=>rm f x ha) []).reverse:=by
 unfold Sort.insertionSort
 cases xs with
 |nil=>
  rw [insOuter,if_neg (by simp)];rfl
 |cons x post=>
  have:=oK f (x::post).toArray.size post [x] (x::post).toArray rfl (by simp;omega)
  simpa [rm]using this
theorem tE(f:Int->Int)(x:Int):∀l:List Int,(rm f x l).length=l.length+1
 | []=>rfl
 |y::r=>by
  rw [rm];split
  ·simp [tE f x r]
  ·simp
theorem tD(f:Int->Int)(x k:Int):∀l:List Int,k∈rm f x l↔k=x\/k∈l
 | []=>by simp [rm]
 |y::r=>by
  rw [rm];split
  ·simp only [List.mem_cons,tD f x k r]
   constructor
   ·rintro(h|h|h)<;>simp [h]
   ·rintro(h|h|h)<;>simp [h]
  ·simp
def jf(f:Int->Int)(xs:List Int):List Int:=(xs.foldl (fun acc x=>rm f x acc) []).reverse
theorem rx(f:Int->Int)(k:Int):∀(xs ha:List Int),k∈xs.foldl (fun ha x=>rm f x ha) ha↔k∈xs\/k∈ha
 | [],ha=>by simp
 |x::xs,ha=>by
  rw [List.foldl_cons,rx f k xs,tD]
  simp only [List.mem_cons]
  constructor
  ·rintro(h|h|h)<;>simp [h]
  ·rintro((h|h)|h)<;>simp [h]
theorem qM(f:Int->Int)(k:Int)(xs:List Int):k∈jf f xs↔k∈xs:=by simp [jf,rx]
theorem ry(f:Int->Int):∀(xs ha:List Int),(xs.foldl (fun ha x=>rm f x ha) ha).length=xs.length+ha.length
 | [],ha=>by simp
 |x::xs,ha=>by rw [List.foldl_cons,ry f xs,tE];simp;omega
theorem mt(f:Int->Int)(xs:List Int):(jf f xs).length=xs.length:=by simp [jf,ry]
variable {cs:List AC}
theorem xP{F F':Nat->Prop}{w w':World}{b:Nat}(hF:∀b,F b->F' b)(hw:∀b,F b->w'.heap[b]? =w.heap[b]?)(hb:w'.heap[b]? =w.heap[b]?)(h:RPL F w b 0 cs):RPL F' w' b 0 cs:=
 RPL.mk fun j c hj=>by
  obtain⟨u,hu,ho,hr⟩:=RPL.get h hj
  exact⟨u,by rw [oY hb];exact hu,ho,RP.ext hF hw hr⟩
theorem rf{P:Program}{g:FuncId}{f:Int->Int}{p:Int->Prop}{n:Nat}
  (hc:∀(dk:List Int)(i j:Nat),dk.length=n->(∀k∈dk,p k)->i<n->j<n->cj P g [ai (i:Int),ai (j:Int),.c (.eptr cs 0),.c (.eptr [.view (vw ak dk)] 0)] fun res hh=>res= .t (abl (decide (f (dk[i]!)<f (dk[j]!))))/\hh=[])
  {F:Nat->Prop} {w:World} {blk bo bt cap:Nat} {d:Array Int} (hF:∀b,F b->b<w.heap.size) (hFb:¬F blk) (hblk:blk<w.heap.size) (hbo:bo<w.heap.size) (hbt:bt<w.heap.size) (ho:bo≠blk) (ht:bt≠blk)
  (hco:w.cell? ⟨bo,0,none⟩=some (.slice (some ⟨blk,0,none⟩) n cap)) (hn:n<=cap) (hm:cap<=maxLen) (hct:RPL F w bt 0 cs) (hd:d.size=n) (hH:Holds (Value.int .i64) w blk 0 d):
  oz P g #[.pointer (some ⟨bt,0,none⟩),.pointer (some ⟨bo,0,none⟩)] (Value.int .i64) (ltF f) p blk 0 n w:=fun W dk hs hp hW i j hi hj=>by
 obtain⟨F',hf⟩:∃F':Nat->Prop,F'=fun b=>F b\/b=bo\/b=bt\/b=blk:=⟨_,rfl⟩
 have hg:∀b,F b->W.heap[b]? =w.heap[b]? :=fun b hb=>(hW.at_ b (hF b hb)).trans (fT (fun e=>hFb (e▸hb)))
 have hy:=hW.holds hblk hH (hs.trans hd.symm)
 have hl:W.cell? ⟨bo,0,none⟩=some (.slice (some ⟨blk,0,none⟩) n cap):=by rw [hW.cell hbo ho];exact hco
 have hr:RPL F' W bt 0 cs:=xP (fun b hb=>by rw [hf];exact .inl hb) hg ((hW.at_ bt hbt).trans (fT ht)) hct
 have ha:(vw ak dk.toList).length=n:=by rw [ao];simpa using hs
 have hu:RP F' W (.view (vw ak dk.toList)) (.slice (some ⟨blk,0,none⟩) n cap):=by
  unfold RP
  refine⟨_,cap,by rw [ha],by rw [ha];exact hn,hm,.inr ⟨blk,0,1,rfl,by rw [hf];exact .inr (.inr (.inr rfl)),RPE.mk fun q x hq=> ?_⟩⟩
  have he:q<dk.size:=by have:=(List.getElem?_eq_some_iff.1 hq).1;rw [ha]at this;omega
  have hx:x=lc (ak dk[q]!):=by
   have h1:dk.toList[q]? =some dk[q]! :=by rw [getElem!_pos dk q he];simp [he]
   have:=bv (c:=ak) h1
   rw [hq]at this;exact Option.some.inj this
  subst hx
  refine⟨rfl,RPL.mk fun t c ht=> ?_⟩
  have:t=0:=by
   have:=(List.getElem?_eq_some_iff.1 ht).1
   simp [lc,ak]at this;omega
  subst this
  have:c= .imm (.int .i64 dk[q]!):=by simpa [lc,ak]using ht.symm
  subst this
  refine⟨.int .i64 dk[q]!,?_,rfl,by unfold RP;rfl⟩
  have:=(hy q he).1
  simpa using this
 have hv:=hc dk.toList i j (by simpa using hs) (fun k hk=>by
  obtain⟨q,hq⟩:=List.mem_iff_getElem?.1 hk
  have he:q<dk.size:=by have:=(List.getElem?_eq_some_iff.1 hq).1;simpa using this
  have:=hp q (by omega)
  rw [getElem!_pos dk q he]at this
  have h2:k=dk[q]:=by simp [he]at hq;exact hq.symm
  rw [h2];exact this) hi hj
 have hw:∀q,q<n->dk.toList[q]! =dk[q]! :=fun q hq=>by
  rw [getElem!_pos dk q (by omega),getElem!_pos dk.toList q (by simp;omega)];simp
 rw [hw i hi,hw j hj]at hv
 have hz:∀b,F' b->b<W.heap.size:=fun b hb=>by
  rw [hf]at hb
  refine Nat.lt_of_lt_of_le ?_ hW.size
  rcases hb with hb|rfl|rfl|rfl
  ·exact hF b hb
  ·exact hbo
  ·exact hbt
  ·exact hblk
 refine(hv.2 F' W [] [.int .i64 i,.int .i64 j,.pointer (some ⟨bt,0,none⟩),.pointer (some ⟨bo,0,none⟩)] (RH.empty hz (Nat.zero_le _)) rfl (fun q x hq=> ?_)).mono ?_
 ·match q,hq with
  |0,hq=>obtain rfl:=Option.some.inj hq.symm;exact⟨_,rfl,rfl⟩
  |1,hq=>obtain rfl:=Option.some.inj hq.symm;exact⟨_,rfl,rfl⟩
  |2,hq=>obtain rfl:=Option.some.inj hq.symm;exact⟨_,rfl,bt,0,rfl,by rw [hf];exact .inr (.inr (.inl rfl)),hr⟩
  |3,hq=>
   obtain rfl:=Option.some.inj hq.symm
   refine⟨_,rfl,bo,0,rfl,by rw [hf];exact .inr (.inl rfl),RPL.mk fun t c ht=> ?_⟩
   have h0:t=0:=by
    have:=(List.getElem?_eq_some_iff.1 ht).1
    simp at this;omega
   subst h0
   obtain rfl:=Option.some.inj ht.symm
   exact⟨_,hl,rfl,hu⟩
  |q+4,hq=>simp at hq
 ·rintro e w' ⟨v,res,h',m',F'',rfl,⟨hh,rfl,hq,_⟩,hG,hS,hV⟩
  subst hq
  refine⟨?_,hS.os,hS.tape,hS.output,hS.size,fun b hb=>hS.blk b hb (fun r ab c h=>by simp at h)⟩
  have:v= .bool (decide (f dk[i]! <f dk[j]!)):=hV
  rw [this];rfl
def n7(ns:List af)(k:Int):Bool:=match ns[(k-1).toNat]? with|some y=> !y.style.hidden&& !y.style.apart|none=>false
def mO(ns:List af)(k:Int):Int:=match ns[(k-1).toNat]? with|some y=>y.style.order|none=>0
section
variable {F:Nat->Prop}{w w1 w2 w':World}{m m1:AM}{h h1:AH}
theorem oA(s:de F w m h w1 m1 h1)(hos:w2.os=w1.os)(htp:w2.tape=w1.tape)(hou:w2.output=w1.output)(hsz:w1.heap.size<=w2.heap.size)(hb:∀b,b<w1.heap.size->w2.heap[b]? =w1.heap[b]?):de F w m h w2 m1 h1:=by
 refine⟨⟨fun r ab hr=> ?_,s.hp.inj,s.hp.len,fun b ha=>Nat.lt_of_lt_of_le (s.hp.old b ha) hsz,Nat.le_trans s.hp.lo hsz⟩,s.keeps,hos.trans s.os,htp.trans s.tape,hou.trans s.output,Nat.le_trans s.size hsz,fun b ha hn=>(hb b (Nat.lt_of_lt_of_le ha s.size)).trans (s.blk b ha hn),s.own⟩
 rcases s.hp.at_ r ab hr with h3|⟨b,c,h3,h4,h5⟩
 ·exact .inl h3
 ·exact .inr ⟨b,c,h3,h4,RB.ext (fun _ h=>h) (fun b' ha=>hb b' (s.hp.old b' ha)) (dL.refl _ _) (hb b (s.hp.lt hr h3).2) h5⟩
theorem rX(hH:RH F w m h){r b cap ty:Nat}{xs:List Int}{d:Array Int}(h1:h[r]? =some (.live ⟨ty,1,vw ak xs⟩))(h2:m[r]? =some (some (b,cap)))(hd:d.size=xs.length)(hS:ii (Value.int .i64) w b 0 d w'):de F w m h w' m (h.set r (.live ⟨ty,1,vw ak d.toList⟩)):=by
 obtain⟨_,hF,cur,hc,hs,hf,hl,ha⟩:=hH.get h1 h1 h2
 simp only [Nat.mul_one,ao]at hs hf
 have hh:(putCells (Value.int .i64) 0 d cur).size=cur.size:=by simp [putCells]
 have hg:de F w m h (w.setRow b (putCells (Value.int .i64) 0 d cur)) m (h.set r (.live ⟨ty,1,vw ak d.toList⟩)):=de.update hH h1 h2 rfl rfl (by simp [ao,hd]) (by rw [hh];simpa using hs) (fun i x hx=>by
  have hi:i<d.size:=by have:=(List.getElem?_eq_some_iff.1 hx).1;simpa [ao]using this
  have hk:x=lc (ak d[i]!):=by
   have h3:d.toList[i]? =some d[i]! :=by rw [getElem!_pos d i hi];simp [hi]
   have:=bv (c:=ak) h3
   rw [hx]at this;exact Option.some.inj this
  subst hk
  refine⟨rfl,fun j c hj=> ?_⟩
  obtain rfl:j=0:=by
   have:=(List.getElem?_eq_some_iff.1 hj).1
   simp [lc,ak]at this;omega
  obtain rfl:c= .imm (.int .i64 d[i]!):=by simpa [lc,ak]using hj.symm
  have he:i<cur.size:=by omega
  exact⟨.int .i64 d[i]!,by simp [putCells,Array.getElem?_eq_getElem he,hi],rfl,rfl⟩)
 refine oA hg hS.os hS.tape hS.output (by simpa using hS.size) (fun b' hb=> ?_)
 rw [hS.at_ b' (by simpa using hb)]
 by_cases hbb:b'=b
 ·subst hbb
  rw [setRow_heap w b' cur _ _ _ hc]
  simp only [putRow,mapBlock,Array.getElem?_modify,hc,if_true,Option.map_some,onCells]
 ·rw [fT hbb,setRow_other _ _ _ _ hbb]
end
shelf_lay LaysGt.n8 Ggt 8 at Tryz as Tryz.sl8
theorem yH{d:List Int}{i:Nat}(h:i<d.length):d[i]? =some d[i]! :=by rw [getElem!_pos d i h];simp [h]
theorem uP(ns:List af)(dk:List Int)(hl:ns.length<=1048576)(hk:∀k∈dk,isN ns k=true)(i j:Nat)(hi:i<dk.length)(hj:j<dk.length):PC0 281 [ai (i:Int),ai (j:Int),.c (.eptr [.view (vwA af.ac ns)] 0),.c (.eptr [.view (vw ak dk)] 0)] (.t (abl (decide (mO ns (dk[i]!)<mO ns (dk[j]!))))):=by
 obtain⟨V,hV⟩:=nmE (vwA af.ac ns)
 obtain⟨D,hD⟩:=nmE (vw ak dk)
 obtain⟨a,ha⟩:=nmE (dk[i]!)
 obtain⟨b,hb⟩:=nmE (dk[j]!)
 have ga:dk[i]? =some a:=by rw [ha];exact yH hi
 have gb:dk[j]? =some b:=by rw [hb];exact yH hj
 obtain⟨a1,a2,xa,hc⟩:=aI (hk a (zqd ga))
 obtain⟨b1,b2,xb,hd⟩:=aI (hk b (zqd gb))
 have ya:D[((i:Int)).toNat]? =some (lc (ak a)):=by rw [hD];exact bv ga
 have yb:D[((j:Int)).toNat]? =some (lc (ak b)):=by rw [hD];exact bv gb
 have i0:(0:Int)<=(i:Int):=Int.natCast_nonneg i
 have j0:(0:Int)<=(j:Int):=Int.natCast_nonneg j
 have oa:mO ns a=xa.style.order:=by unfold mO;rw [hc]
 have ob:mO ns b=xb.style.order:=by unfold mO;rw [hd]
 rw [<-hV,<-hD,<-ha,<-hb,oa,ob]
 clear oa ob
 obtain⟨Ka,he⟩:=nmE (vw ak xa.kids)
 obtain⟨Ra,hh⟩:=nmE (vw aK.c xa.table.rules)
 obtain⟨Kb,hf⟩:=nmE (vw ak xb.kids)
 obtain⟨Rb,hm⟩:=nmE (vw aK.c xb.table.rules)
 have ca:=aR ns a xa a1 (by omega) hc V Ka Ra hV he hh
 have cb:=aR ns b xb b1 (by omega) hd V Kb Rb hV hf hm
 obtain⟨I,hI⟩:∃I:Int,I=(i:Int):=⟨_,rfl⟩
 obtain⟨J,hJ⟩:∃J:Int,J=(j:Int):=⟨_,rfl⟩
 rw [<-hI]at ya i0⊢
 rw [<-hJ]at yb j0⊢
 clear hI hJ ga gb hc hd
 refine ae (aM f281) aB func281 fun g F hg hF=> ?_
 cbv
 refine goX hg _ i0 ya rfl ?_
 cbv
 (first|refine ad hg ca ?_|refine aa hg ca ?_)
 cbv
 refine goX hg _ j0 yb rfl ?_
 cbv
 (first|refine ad hg cb ?_|refine aa hg cb ?_)
 cbv
 rw [bF hg]
 exact aY hF rfl
noncomputable def siT:TypeInfo:=(prog.info? 24).get (by kernel_rfl)
noncomputable def siE:TypeInfo:=(prog.info? 3).get (by kernel_rfl)
theorem siK(n:Nat)(h2:2<=n):Lib.swapperK n siE 2=5:=by
 have a:siE.hasPointers=false:=by kernel_rfl
 have b:siE.bytes=8:=by kernel_rfl
 have c:(n==0)=false:=by simp;omega
 have d:(n==1)=false:=by simp;omega
 simp [Lib.swapperK,a,b,c,d]
theorem xF{w:World}{g blk c:Nat}{lb:Array Value}(f:Int->Int)(p:Int->Prop)(hg:∀ha w,(callFunc g ha).run prog w= .ok (.enter g ha) w)(h2:2<=d.size)(h20:d.size<20)
  (hless:oz prog g lb (Value.int .i64) (ltF f) p blk 0 d.size w) (hp:∀i,i<d.size->p d[i]!) (hH:Holds (Value.int .i64) w blk 0 d) (hblk:blk<w.heap.size):
  Calls prog 280 #[.iface 24 (.slice (some ⟨blk,0,none⟩) d.size c),.func (.func g) #[] lb] w fun e w'=>e= .returned (.tuple #[])/\ii (Value.int .i64) w blk 0 (Sort.insertionSort (ltF f) d 0 d.size) w':=by
 have hS:=qD Tryz.sl8 24 3 siT siE (by kernel_rfl) (by kernel_rfl) (by kernel_rfl) (by kernel_rfl) 2 (fun _=>by kernel_rfl) (by kernel_rfl) (fun _=>by kernel_rfl) (Value.int .i64) (fun _=>rfl) (ltF f) p g lb
  hg blk 0 c d h2 h20 321 (by rw [siK _ h2];kernel_rfl) true
  (fun ha W=>run_callFunc_extern func321 (by kernel_rfl) (by kernel_rfl) (by kernel_rfl) (e:=Extern.ReflectliteSwapper.swap true) (by kernel_rfl) ha W) w hless hp hH hblk
 exact hS
theorem vM{w:World}{p:Option Addr}{n c:Nat}(hn:n<=1)(lf:Fn)(la lb:Array Value):
  Calls prog 280 #[.iface 24 (.slice p n c),.func lf la lb] w fun e w'=>e= .returned (.tuple #[])/\∃os,w'=grow w os:=by
 rcases Nat.le_one_iff_eq_zero_or_eq_one.1 hn with rfl|rfl
 ·exact Any.sort_SliceStable_tiny Tryz.sl8 24 3 siT siE (by kernel_rfl) (by kernel_rfl) (by kernel_rfl) (by kernel_rfl) 2 (fun _=>by kernel_rfl) p 0 c (by omega) 317 (by kernel_rfl) lf la lb w
 ·exact Any.sort_SliceStable_tiny Tryz.sl8 24 3 siT siE (by kernel_rfl) (by kernel_rfl) (by kernel_rfl) (by kernel_rfl) 2 (fun _=>by kernel_rfl) p 1 c (by omega) 318 (by kernel_rfl) lf la lb w
end Go.Proofs.YtckchgoblpgpbaaGreat
