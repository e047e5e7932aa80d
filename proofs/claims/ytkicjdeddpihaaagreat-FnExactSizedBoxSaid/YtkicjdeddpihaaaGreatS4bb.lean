/- The reference's children in the flow. -/
import Derived.Shelf.Lay
import Derived.Ground.GgtProg
import Derived.Test.YtkicjdeddpihaaaGreatS4ba
set_option linter.unusedVariables false
set_option linter.unusedSimpArgs false
set_option maxHeartbeats 8000000
namespace Go.Proofs.YtkicjdeddpihaaaGreat
open Go.Shelf Go.RowKit Go.Lib Go.Sort Am Go.Proofs.Tryz
def mj(f:Int->Int)(x:Int):List Int->List Int
 | []=>[x]
 |y::r=>if f x<f y then y::mj f x r else x::y::r
def ltF(f:Int->Int)(x y:Int):Bool:=decide (f x<f y)
variable {d:Array Int}{pre post:List Int}
theorem v8{x:Int}(h:d.toList=pre++x::post):d[pre.length]! =x:=by
 have hl:pre.length<d.size:=by rw [<-Array.length_toList,h];simp
 rw [getElem!_pos d _ hl,<-Array.getElem_toList]
 simp [h]
theorem Dy{x y:Int}(h:d.toList=pre++y::x::post):(swp d (pre.length+1) pre.length).toList=pre++x::y::post:=by
 have e1:d[pre.length]! =y:=v8 h
 have e2:d[pre.length+1]! =x:=by
  have:=v8 (d:=d) (pre:=pre++[y]) (post:=post) (x:=x) (by rw [h];simp)
  simpa using this
 unfold swp
 rw [e1,e2,Array.toList_setIfInBounds,Array.toList_setIfInBounds,h]
 apply List.ext_getElem?
 intro i
 simp only [List.getElem?_set,List.length_set,zqe,zqx,List.getElem?_append,List.getElem?_cons]
 split<;>split<;>split<;>(try split)<;>(try split)<;>first|rfl|omega|(simp_all<;>omega)
theorem ud(f:Int->Int):∀(j:Nat)(d:Array Int)(pre post:List Int)(x:Int),pre.length=j->d.toList=pre++x::post->(insInner (ltF f) 0 j d).toList=(mj f x pre.reverse).reverse++post
 |0,d,pre,post,x,hj,h=>by
  obtain rfl:=List.length_eq_zero_iff.1 hj
  rw [insInner]
  simpa [mj]using h
 |j+1,d,pre,post,x,hj,h=>by
  rcases List.eq_nil_or_concat pre with rfl|⟨pre',y,rfl⟩
  ·simp at hj
  have ha:pre'.length=j:=by simpa using hj
  have h':d.toList=pre'++y::x::post:=by rw [h];simp
  have e1:d[j]! =y:=by rw [<-ha];exact v8 h'
  have e2:d[j+1]! =x:=by
   have:=v8 (d:=d) (pre:=pre'++[y]) (post:=post) (x:=x) (by rw [h'];simp)
   rw [<-ha];simpa using this
  rw [insInner,e1,e2]
  have hr:(pre'.concat y).reverse=y::pre'.reverse:=by simp
  rw [hr,mj]
  by_cases hlt:f x<f y
  ·have:(decide (j+1>0)&&ltF f x y)=true:=by simp [ltF,hlt]
   rw [if_pos this,if_pos hlt,ud f j _ pre' (y::post) x ha (by rw [<-ha];exact Dy h')]
   simp
  ·have:(decide (j+1>0)&&ltF f x y)=false:=by simp [ltF,hlt]
   rw [if_neg (by rw [this];simp),if_neg hlt,h']
   simp
theorem tM(lt:Int->Int->Bool)(a:Nat):∀(j:Nat)(d:Array Int),(insInner lt a j d).size=d.size
 |0,d=>by rw [insInner]
 |j+1,d=>by
  rw [insInner]
  split
  ·rw [tM lt a j,size_swp]
  ·rfl
theorem ua(f:Int->Int)(b:Nat):∀(rest A:List Int)(d:Array Int),d.toList=A++rest->A.length+rest.length=b->(insOuter (ltF f) 0 b A.length d).toList=(rest.foldl (fun ha x=>mj f x ha) A.reverse).reverse
 | [],A,d,h,hb=>by
  rw [insOuter,if_neg (by simp at hb;omega)]
  simpa using h
 |x::post,A,d,h,hb=>by
  simp only [zqx]at hb
  rw [insOuter,if_pos (by omega)]
  have hi:=ud f A.length d A post x rfl h
  have hl:(mj f x A.reverse).reverse.length=A.length+1:=by
   have h1:=congrArg List.length hi
   have h2:(insInner (ltF f) 0 A.length d).size=d.size:=tM _ _ _ _
   rw [Array.length_toList,h2,<-Array.length_toList,h]at h1
   simp only [zqe,zqx]at h1
   omega
  have:=ua f b post (mj f x A.reverse).reverse _ hi (by omega)
  rw [hl,List.reverse_reverse]at this
  rw [this,List.foldl_cons]
theorem wC(f:Int->Int)(xs:List Int):(Sort.insertionSort (ltF f) xs.toArray 0 xs.toArray.size).toList=(xs.foldl (fun ha x=>mj f x ha) []).reverse:=by
 unfold Sort.insertionSort
 cases xs with
 |nil=>
  rw [insOuter,if_neg (by simp)];rfl
 |cons x post=>
  have:=ua f (x::post).toArray.size post [x] (x::post).toArray rfl (by simp;omega)
  simpa [mj]using this
theorem CA(f:Int->Int)(x:Int):∀(hb:List Int)(a:Nat),a<=hb.length->(∀i y,a<=i->hb[i]? =some y->f x<f y)->(mj f x hb.reverse).reverse=(mj f x (hb.take a).reverse).reverse++hb.drop a:=by
 intro hb
 induction h:hb.length generalizing hb with
 |zero=>
  intro a ha _
  obtain rfl:=List.length_eq_zero_iff.1 h
  simp
 |succ n ih=>
  intro a ha hy
  rcases List.eq_nil_or_concat hb with rfl|⟨o,y,rfl⟩
  ·simp at h
  rw [List.concat_eq_append]at *
  simp only [zqe,zqm,Nat.add_right_cancel_iff]at h
  by_cases ha2:a=(o++[y]).length
  ·subst ha2
   rw [List.take_length,List.drop_length,List.append_nil]
  ·have hc:a<=o.length:=by simp at ha ha2;omega
   have h1:=hy o.length y hc (by simp)
   have:=ih o h a (by omega) (fun i z hi hz=>hy i z hi (by rw [zqh (List.getElem?_eq_some_iff.1 hz).1];exact hz))
   rw [List.reverse_append,List.reverse_singleton,List.singleton_append,mj,if_pos h1,List.reverse_cons,this,List.take_append_of_le_length hc,List.drop_append_of_le_length hc]
   simp
theorem Cz(f:Int->Int)(x:Int)(out:List Int)(a:Nat)(ha:a<=out.length)(hs:a=0\/∃y,out[a-1]? =some y/\¬f x<f y)(hy:∀i y,a<=i->out[i]? =some y->f x<f y):(mj f x out.reverse).reverse=out.take a++x::out.drop a:=by
 rw [CA f x out a ha hy]
 rcases hs with rfl|⟨y,h1,h2⟩
 ·simp [mj]
 ·have hl:a-1<out.length:=(List.getElem?_eq_some_iff.1 h1).1
  have h0:0<a:=by
   rcases Nat.eq_zero_or_pos a with rfl|h
   ·exact absurd (hy 0 y (Nat.le_refl _) (by simpa using h1)) h2
   ·exact h
  have e:out.take a=out.take (a-1)++[y]:=by
   conv=>lhs;rw [show a=a-1+1 by omega]
   rw [List.take_add_one,h1];rfl
  rw [e,List.reverse_append,List.reverse_singleton,List.singleton_append,mj,if_neg h2]
  simp
theorem vz(f:Int->Int)(x:Int):∀l:List Int,(mj f x l).length=l.length+1
 | []=>rfl
 |y::r=>by
  rw [mj];split
  ·simp [vz f x r]
  ·simp
theorem vy(f:Int->Int)(x k:Int):∀l:List Int,k∈mj f x l↔k=x\/k∈l
 | []=>by simp [mj]
 |y::r=>by
  rw [mj];split
  ·simp only [List.mem_cons,vy f x k r]
   constructor
   ·rintro(h|h|h)<;>simp [h]
   ·rintro(h|h|h)<;>simp [h]
  ·simp
def ir(f:Int->Int)(xs:List Int):List Int:=(xs.foldl (fun acc x=>mj f x acc) []).reverse
theorem xj(f:Int->Int)(k:Int):∀(xs ha:List Int),k∈xs.foldl (fun ha x=>mj f x ha) ha↔k∈xs\/k∈ha
 | [],ha=>by simp
 |x::xs,ha=>by
  rw [List.foldl_cons,xj f k xs,vy]
  simp only [List.mem_cons]
  constructor
  ·rintro(h|h|h)<;>simp [h]
  ·rintro((h|h)|h)<;>simp [h]
theorem wD(f:Int->Int)(k:Int)(xs:List Int):k∈ir f xs↔k∈xs:=by simp [ir,xj]
theorem xk(f:Int->Int):∀(xs ha:List Int),(xs.foldl (fun ha x=>mj f x ha) ha).length=xs.length+ha.length
 | [],ha=>by simp
 |x::xs,ha=>by rw [List.foldl_cons,xk f xs,vz];simp;omega
theorem ll(f:Int->Int)(xs:List Int):(ir f xs).length=xs.length:=by simp [ir,xk]
variable {cs:List AC}
theorem DK{F F':Nat->Prop}{w w':World}{b:Nat}(hF:∀b,F b->F' b)(hw:∀b,F b->w'.heap[b]? =w.heap[b]?)(hb:w'.heap[b]? =w.heap[b]?)(h:RPL F w b 0 cs):RPL F' w' b 0 cs:=
 RPL.mk fun j c hj=>by
  obtain⟨u,hu,ho,hr⟩:=RPL.get h hj
  exact⟨u,by rw [ut hb];exact hu,ho,RP.ext hF hw hr⟩
theorem w8{P:Program}{g:FuncId}{f:Int->Int}{p:Int->Prop}{n:Nat}
  (hc:∀(dk:List Int)(i j:Nat),dk.length=n->(∀k∈dk,p k)->i<n->j<n->da P g [ai (i:Int),ai (j:Int),.c (.eptr cs 0),.c (.eptr [.view (vw aj dk)] 0)] fun res hh=>res= .t (abl (decide (f (dk[i]!)<f (dk[j]!))))/\hh=[])
  {F:Nat->Prop} {w:World} {blk bo bt cap:Nat} {d:Array Int} (hF:∀b,F b->b<w.heap.size) (hFb:¬F blk) (hblk:blk<w.heap.size) (hbo:bo<w.heap.size) (hbt:bt<w.heap.size) (ho:bo≠blk) (ht:bt≠blk)
  (hco:w.cell? ⟨bo,0,none⟩=some (.slice (some ⟨blk,0,none⟩) n cap)) (hn:n<=cap) (hm:cap<=maxLen) (hct:RPL F w bt 0 cs) (hd:d.size=n) (hH:Holds (Value.int .i64) w blk 0 d):
  tF P g #[.pointer (some ⟨bt,0,none⟩),.pointer (some ⟨bo,0,none⟩)] (Value.int .i64) (ltF f) p blk 0 n w:=fun W dk hs hp hW i j hi hj=>by
 obtain⟨F',hf⟩:∃F':Nat->Prop,F'=fun b=>F b\/b=bo\/b=bt\/b=blk:=⟨_,rfl⟩
 have hg:∀b,F b->W.heap[b]? =w.heap[b]? :=fun b hb=>(hW.at_ b (hF b hb)).trans (iY (fun e=>hFb (e▸hb)))
 have hy:=hW.holds hblk hH (hs.trans hd.symm)
 have hl:W.cell? ⟨bo,0,none⟩=some (.slice (some ⟨blk,0,none⟩) n cap):=by rw [hW.cell hbo ho];exact hco
 have hr:RPL F' W bt 0 cs:=DK (fun b hb=>by rw [hf];exact .inl hb) hg ((hW.at_ bt hbt).trans (iY ht)) hct
 have ha:(vw aj dk.toList).length=n:=by rw [ar];simpa using hs
 have hu:RP F' W (.view (vw aj dk.toList)) (.slice (some ⟨blk,0,none⟩) n cap):=by
  unfold RP
  refine⟨_,cap,by rw [ha],by rw [ha];exact hn,hm,.inr ⟨blk,0,1,rfl,by rw [hf];exact .inr (.inr (.inr rfl)),RPE.mk fun q x hq=> ?_⟩⟩
  have he:q<dk.size:=by have:=(List.getElem?_eq_some_iff.1 hq).1;rw [ha]at this;omega
  have hx:x=lc (aj dk[q]!):=by
   have h1:dk.toList[q]? =some dk[q]! :=by rw [getElem!_pos dk q he];simp [he]
   have:=ba (c:=aj) h1
   rw [hq]at this;exact Option.some.inj this
  subst hx
  refine⟨rfl,RPL.mk fun t c ht=> ?_⟩
  have:t=0:=by
   have:=(List.getElem?_eq_some_iff.1 ht).1
   simp [lc,aj]at this;omega
  subst this
  have:c= .imm (.int .i64 dk[q]!):=by simpa [lc,aj]using ht.symm
  subst this
  refine⟨.int .i64 dk[q]!,?_,rfl,by unfold RP;rfl⟩
  have:=(hy q he).1
  simpa using this
 have hv:=hc dk.toList i j (by simpa using hs) (fun k hk=>by
  obtain⟨q,hq⟩:=List.mem_iff_getElem?.1 hk
  have he:q<dk.size:=by have:=(List.getElem?_eq_some_iff.1 hq).1;simpa using this
  have:=hp q (by omega)
  rw [getElem!_pos dk q he]at this
  have h2:k=dk[q]:=by simp [he]at hq;exact hq.symm
  rw [h2];exact this) hi hj
 have hw:∀q,q<n->dk.toList[q]! =dk[q]! :=fun q hq=>by
  rw [getElem!_pos dk q (by omega),getElem!_pos dk.toList q (by simp;omega)];simp
 rw [hw i hi,hw j hj]at hv
 have hz:∀b,F' b->b<W.heap.size:=fun b hb=>by
  rw [hf]at hb
  refine Nat.lt_of_lt_of_le ?_ hW.size
  rcases hb with hb|rfl|rfl|rfl
  ·exact hF b hb
  ·exact hbo
  ·exact hbt
  ·exact hblk
 refine(hv.2 F' W [] [.int .i64 i,.int .i64 j,.pointer (some ⟨bt,0,none⟩),.pointer (some ⟨bo,0,none⟩)] (RH.empty hz (Nat.zero_le _)) rfl (fun q x hq=> ?_)).mono ?_
 ·match q,hq with
  |0,hq=>obtain rfl:=Option.some.inj hq.symm;exact⟨_,rfl,rfl⟩
  |1,hq=>obtain rfl:=Option.some.inj hq.symm;exact⟨_,rfl,rfl⟩
  |2,hq=>obtain rfl:=Option.some.inj hq.symm;exact⟨_,rfl,bt,0,rfl,by rw [hf];exact .inr (.inr (.inl rfl)),hr⟩
  |3,hq=>
   obtain rfl:=Option.some.inj hq.symm
   refine⟨_,rfl,bo,0,rfl,by rw [hf];exact .inr (.inl rfl),RPL.mk fun t c ht=> ?_⟩
   have h0:t=0:=by
    have:=(List.getElem?_eq_some_iff.1 ht).1
    simp at this;omega
   subst h0
   obtain rfl:=Option.some.inj ht.symm
   exact⟨_,hl,rfl,hu⟩
  |q+4,hq=>simp at hq
 ·rintro e w' ⟨v,res,h',m',F'',rfl,⟨hh,rfl,hq,_⟩,hG,hS,hV⟩
  subst hq
  refine⟨?_,hS.os,hS.tape,hS.output,hS.size,fun b hb=>hS.blk b hb (fun r ab c h=>by simp at h)⟩
  have:v= .bool (decide (f dk[i]! <f dk[j]!)):=hV
  rw [this];rfl
def mh(ns:List ag)(k:Int):Bool:=match ns[(k-1).toNat]? with|some y=> !y.style.hidden&& !y.style.apart|none=>false
def iQ(ns:List ag)(k:Int):Int:=match ns[(k-1).toNat]? with|some y=>y.style.order|none=>0
section
variable {F:Nat->Prop}{w w1 w2 w':World}{m m1:AM}{h h1:AH}
theorem tL(s:dL F w m h w1 m1 h1)(hos:w2.os=w1.os)(htp:w2.tape=w1.tape)(hou:w2.output=w1.output)(hsz:w1.heap.size<=w2.heap.size)(hb:∀b,b<w1.heap.size->w2.heap[b]? =w1.heap[b]?):dL F w m h w2 m1 h1:=by
 refine⟨⟨fun r ab hr=> ?_,s.hp.inj,s.hp.len,fun b ha=>Nat.lt_of_lt_of_le (s.hp.old b ha) hsz,Nat.le_trans s.hp.lo hsz⟩,s.keeps,hos.trans s.os,htp.trans s.tape,hou.trans s.output,Nat.le_trans s.size hsz,fun b ha hn=>(hb b (Nat.lt_of_lt_of_le ha s.size)).trans (s.blk b ha hn),s.own⟩
 rcases s.hp.at_ r ab hr with h3|⟨b,c,h3,h4,h5⟩
 ·exact .inl h3
 ·exact .inr ⟨b,c,h3,h4,RB.ext (fun _ h=>h) (fun b' ha=>hb b' (s.hp.old b' ha)) (fz.refl _ _) (hb b (s.hp.lt hr h3).2) h5⟩
theorem xL(hH:RH F w m h){r b cap ty:Nat}{xs:List Int}{d:Array Int}(h1:h[r]? =some (.live ⟨ty,1,vw aj xs⟩))(h2:m[r]? =some (some (b,cap)))(hd:d.size=xs.length)(hS:kF (Value.int .i64) w b 0 d w'):dL F w m h w' m (h.set r (.live ⟨ty,1,vw aj d.toList⟩)):=by
 obtain⟨_,hF,cur,hc,hs,hf,hl,ha⟩:=hH.get h1 h1 h2
 simp only [Nat.mul_one,ar]at hs hf
 have hh:(putCells (Value.int .i64) 0 d cur).size=cur.size:=by simp [putCells]
 have hg:dL F w m h (w.setRow b (putCells (Value.int .i64) 0 d cur)) m (h.set r (.live ⟨ty,1,vw aj d.toList⟩)):=dL.update hH h1 h2 rfl rfl (by simp [ar,hd]) (by rw [hh];simpa using hs) (fun i x hx=>by
  have hi:i<d.size:=by have:=(List.getElem?_eq_some_iff.1 hx).1;simpa [ar]using this
  have hk:x=lc (aj d[i]!):=by
   have h3:d.toList[i]? =some d[i]! :=by rw [getElem!_pos d i hi];simp [hi]
   have:=ba (c:=aj) h3
   rw [hx]at this;exact Option.some.inj this
  subst hk
  refine⟨rfl,fun j c hj=> ?_⟩
  obtain rfl:j=0:=by
   have:=(List.getElem?_eq_some_iff.1 hj).1
   simp [lc,aj]at this;omega
  obtain rfl:c= .imm (.int .i64 d[i]!):=by simpa [lc,aj]using hj.symm
  have he:i<cur.size:=by omega
  exact⟨.int .i64 d[i]!,by simp [putCells,Array.getElem?_eq_getElem he,hi],rfl,rfl⟩)
 refine tL hg hS.os hS.tape hS.output (by simpa using hS.size) (fun b' hb=> ?_)
 rw [hS.at_ b' (by simpa using hb)]
 by_cases hbb:b'=b
 ·subst hbb
  rw [setRow_heap w b' cur _ _ _ hc]
  simp only [putRow,mapBlock,Array.getElem?_modify,hc,if_true,Option.map_some,onCells]
 ·rw [iY hbb,setRow_other _ _ _ _ hbb]
end
shelf_lay LaysGt.n8 Ggt 8 at Tryz as Tryz.sl8
theorem EM{d:List Int}{i:Nat}(h:i<d.length):d[i]? =some d[i]! :=by rw [getElem!_pos d i h];simp [h]
theorem AO(ns:List ag)(dk:List Int)(hl:ns.length<=1048576)(hk:∀k∈dk,isN ns k=true)(i j:Nat)(hi:i<dk.length)(hj:j<dk.length):PC0 152 [ai (i:Int),ai (j:Int),.c (.eptr [.view (vwA ag.ac ns)] 0),.c (.eptr [.view (vw aj dk)] 0)] (.t (abl (decide (iQ ns (dk[i]!)<iQ ns (dk[j]!))))):=by
 obtain⟨V,hV⟩:=nmE (vwA ag.ac ns)
 obtain⟨D,hD⟩:=nmE (vw aj dk)
 obtain⟨a,ha⟩:=nmE (dk[i]!)
 obtain⟨b,hb⟩:=nmE (dk[j]!)
 have ga:dk[i]? =some a:=by rw [ha];exact EM hi
 have gb:dk[j]? =some b:=by rw [hb];exact EM hj
 obtain⟨a1,a2,xa,hc⟩:=bC (hk a (zqd ga))
 obtain⟨b1,b2,xb,hd⟩:=bC (hk b (zqd gb))
 have ya:D[((i:Int)).toNat]? =some (lc (aj a)):=by rw [hD];exact ba ga
 have yb:D[((j:Int)).toNat]? =some (lc (aj b)):=by rw [hD];exact ba gb
 have i0:(0:Int)<=(i:Int):=Int.natCast_nonneg i
 have j0:(0:Int)<=(j:Int):=Int.natCast_nonneg j
 have oa:iQ ns a=xa.style.order:=by unfold iQ;rw [hc]
 have ob:iQ ns b=xb.style.order:=by unfold iQ;rw [hd]
 rw [<-hV,<-hD,<-ha,<-hb,oa,ob]
 clear oa ob
 obtain⟨Ka,he⟩:=nmE (vw aj xa.kids)
 obtain⟨Ra,hh⟩:=nmE (vw aK.c xa.table.rules)
 obtain⟨Kb,hf⟩:=nmE (vw aj xb.kids)
 obtain⟨Rb,hm⟩:=nmE (vw aK.c xb.table.rules)
 have ca:=dv ns a xa a1 (by omega) hc V Ka Ra hV he hh
 have cb:=dv ns b xb b1 (by omega) hd V Kb Rb hV hf hm
 obtain⟨I,hI⟩:∃I:Int,I=(i:Int):=⟨_,rfl⟩
 obtain⟨J,hJ⟩:∃J:Int,J=(j:Int):=⟨_,rfl⟩
 rw [<-hI]at ya i0⊢
 rw [<-hJ]at yb j0⊢
 clear hI hJ ga gb hc hd
 refine ad (aM f152) ay func152 fun g F hg hF=> ?_
 cbv
 refine goX hg _ i0 ya rfl ?_
 cbv
 (first|refine ae hg ca ?_|refine aa hg ca ?_)
 cbv
 refine goX hg _ j0 yb rfl ?_
 cbv
 (first|refine ae hg cb ?_|refine aa hg cb ?_)
 cbv
 rw [bg hg]
 exact bk hF rfl
noncomputable def siT:TypeInfo:=(prog.info? 28).get (by kernel_rfl)
noncomputable def siE:TypeInfo:=(prog.info? 3).get (by kernel_rfl)
theorem siK(n:Nat)(h2:2<=n):Lib.swapperK n siE 2=5:=by
 have a:siE.hasPointers=false:=by kernel_rfl
 have b:siE.bytes=8:=by kernel_rfl
 have c:(n==0)=false:=by simp;omega
 have d:(n==1)=false:=by simp;omega
 simp [Lib.swapperK,a,b,c,d]
theorem DC{w:World}{g blk c:Nat}{lb:Array Value}(f:Int->Int)(p:Int->Prop)(hg:∀args w,(callFunc g args).run prog w= .ok (.enter g args) w)(h2:2<=d.size)(h20:d.size<20)
  (hless:tF prog g lb (Value.int .i64) (ltF f) p blk 0 d.size w) (hp:∀i,i<d.size->p d[i]!) (hH:Holds (Value.int .i64) w blk 0 d) (hblk:blk<w.heap.size):
  Calls prog 151 #[.iface 28 (.slice (some ⟨blk,0,none⟩) d.size c),.func (.func g) #[] lb] w fun e w'=>e= .returned (.tuple #[])/\kF (Value.int .i64) w blk 0 (Sort.insertionSort (ltF f) d 0 d.size) w':=by
 have hS:=wb Tryz.sl8 28 3 siT siE (by kernel_rfl) (by kernel_rfl) (by kernel_rfl) (by kernel_rfl) 2 (fun _=>by kernel_rfl) (by kernel_rfl) (fun _=>by kernel_rfl) (Value.int .i64) (fun _=>rfl) (ltF f) p g lb
  hg blk 0 c d h2 h20 269 (by rw [siK _ h2];kernel_rfl) true
  (fun args W=>run_callFunc_extern func269 (by kernel_rfl) (by kernel_rfl) (by kernel_rfl) (e:=Extern.ReflectliteSwapper.swap true) (by kernel_rfl) args W) w hless hp hH hblk
 exact hS
theorem BE{w:World}{p:Option Addr}{n c:Nat}(hn:n<=1)(lf:Fn)(la lb:Array Value):
  Calls prog 151 #[.iface 28 (.slice p n c),.func lf la lb] w fun e w'=>e= .returned (.tuple #[])/\∃os,w'=grow w os:=by
 rcases Nat.le_one_iff_eq_zero_or_eq_one.1 hn with rfl|rfl
 ·exact Any.sort_SliceStable_tiny Tryz.sl8 28 3 siT siE (by kernel_rfl) (by kernel_rfl) (by kernel_rfl) (by kernel_rfl) 2 (fun _=>by kernel_rfl) p 0 c (by omega) 265 (by kernel_rfl) lf la lb w
 ·exact Any.sort_SliceStable_tiny Tryz.sl8 28 3 siT siE (by kernel_rfl) (by kernel_rfl) (by kernel_rfl) (by kernel_rfl) 2 (fun _=>by kernel_rfl) p 1 c (by omega) 266 (by kernel_rfl) lf la lb w
theorem FY{id n0:Nat}{o35 o36 o37 o38:Oper}(e35:o35.op= .load 28 (.tmp 5))(d35:o35.dst=some 35)(g35:o35.guard=none)(e36:o36.op= .makeInterface 28 (.tmp 35))(d36:o36.dst=some 36)(g36:o36.guard=none)
  (e37:o37.op= .makeFunc (.func 152) #[] #[.tmp 2,.tmp 5]) (d37:o37.dst=some 37) (g37:o37.guard=none) (c38:Call) (e38:o38.op= .call c38) (k38:c38.callee= .value (.func 151)) (a38:c38.args= #[.tmp 36,.tmp 37]) (d38:o38.dst=some 38) (g38:o38.guard=none)
  (ns:List ag) (hl:ns.length<=1048576) {E:List Int} (hE:∀k∈E,isN ns k=true) (h20:E.length<20) {l:List (Nat×AV)} {Q:Exit->(Nat->AV)->AH->Prop}
  (h2:lkT l 2= .p 0) (h5:lkT l 5= .p 1) (tT tI:Nat)
  (hQ:Q .normal (lkT ((38,.t (.c .dead))::(37,.t (.c .dead))::(36,.t (.c .dead))::(35,.o 2)::l)) (toH [.bx tT 1 [.view (vwA ag.ac ns)],.bx tI 1 [.own 2],.rw ⟨3,1,vw aj (ir (iQ ns) E)⟩])) (N:Nat) (hN:N=40) (cd:Code) (hcd:cd= .region id #[o35,o36,o37,o38] false) (hh:EH) (hhh:hh=[.bx tT 1 [.view (vwA ag.ac ns)],.bx tI 1 [.own 2],.rw ⟨3,1,vw aj E⟩]):
  VC prog n0 N cd Q (lkT l) (toH hh):=by
 subst hN hcd hhh
 intro F w0 m0 h0 a w m xe r
 refine wp_region_list ?_
 show wpList _ _ _ [o35,o36,o37,o38] a w
 have wnt:∀(o:Oper)(y:Nat->Option Bool),o.guard=none->Region.wanted o y=true:=fun o y hg=>by unfold Region.wanted;rw [hg]
 unfold wpList
 rw [if_pos (wnt _ _ g35)]
 left
 obtain⟨H,hf⟩:∃H:AH,H=toH [.bx tT 1 [.view (vwA ag.ac ns)],.bx tI 1 [.own 2],.rw ⟨3,1,vw aj E⟩]:=⟨_,rfl⟩
 rw [<-hf]at r
 have H1:H[1]? =some (.live ⟨tI,1,[[.own 2]]⟩):=by rw [hf];rfl
 have H0:H[0]? =some (.live ⟨tT,1,[[.view (vwA ag.ac ns)]]⟩):=by rw [hf];rfl
 have H2:H[2]? =some (.live ⟨3,1,vw aj E⟩):=by rw [hf];rfl
 refine(nK (o:=o35) (K:=fun res h'=>res= .o 2/\h'=H) r.st.hp r.tm ?_).wp (fun v w1⟨res,h',m1,F1,⟨hres,hh'⟩,hG1,hs,hv⟩=> ?_)
 ·rw [e35]
  have ha:r9 prog 28=some none:=by kernel_rfl
  simp only [opA,pop,ev,h5,ha,H1]
  exact⟨[.own 2],rfl,.own 2,rfl,rfl,by simp⟩
 subst hres hh'
 have r1:=r.nextG (o:=o35) (by unfold fW;rw [d35];rfl) hG1.1 hs hv
 have hB:a.tmps.size=40:=r.sz
 obtain⟨b,hb⟩:=nmE (a.put o35.dst v)
 have xj:b.tmps.getD 35 undef=v:=by rw [hb,fd,if_pos ⟨d35,by rw [hB];decide⟩]
 rw [<-hb]at r1⊢
 have h8:b.tmps.size=40:=r1.sz
 have h7:fu F F1 w0 m0 h0:=r.grow (fu.refl _ _ _ _) hG1
 clear hs r hb hB
 unfold wpList
 rw [if_pos (wnt _ _ g36)]
 left
 have hU:(execOp b.eval o36).run prog w1= .ok (.value (.iface 28 v)) w1:=by
  have hu:=run_makeInterface (P:=prog) w1 28 v (by kernel_rfl)
  simp [execOp,e36,Act.eval,xj,hu]
 refine(Yl.value hU (R:=fun u w2=>u= .iface 28 v/\w2=w1) ⟨rfl,rfl⟩).wp (fun u w2⟨hu,hw⟩=> ?_)
 subst hu hw
 have r2:=r1.next (o:=o36) (by unfold fW;rw [d36];rfl) (dL.refl r1.st.hp) (res:= .t (.c .dead)) (v:= .iface 28 v) trivial
 obtain⟨c,hc⟩:∃c,c=b.put o36.dst (.iface 28 v):=⟨_,rfl⟩
 have hJ:c.tmps.getD 36 undef= .iface 28 v:=by rw [hc,fd,if_pos ⟨d36,by rw [h8];decide⟩]
 rw [<-hc]at r2⊢
 have h9:c.tmps.size=40:=r2.sz
 clear hc hU
 unfold wpList
 rw [if_pos (wnt _ _ g37)]
 left
 obtain⟨p2,hP⟩:=nmE (c.tmps.getD 2 undef)
 obtain⟨p5,hT⟩:=nmE (c.tmps.getD 5 undef)
 have hV:(execOp c.eval o37).run prog w2= .ok (.value (.func (.func 152) #[] #[p2,p5])) w2:=by
  simp [execOp,e37,Act.eval,<-hP,<-hT,Instr.makeFunc]
 refine(Yl.value hV (R:=fun u w3=>u= .func (.func 152) #[] #[p2,p5]/\w3=w2) ⟨rfl,rfl⟩).wp (fun u w3⟨hu,hw⟩=> ?_)
 subst hu hw
 have r3:=r2.next (o:=o37) (by unfold fW;rw [d37];rfl) (dL.refl r2.st.hp) (res:= .t (.c .dead)) (v:= .func (.func 152) #[] #[p2,p5]) trivial
 obtain⟨e,he⟩:∃e,e=c.put o37.dst (.func (.func 152) #[] #[p2,p5]):=⟨_,rfl⟩
 have xk:e.tmps.getD 37 undef= .func (.func 152) #[] #[p2,p5]:=by rw [he,fd,if_pos ⟨d37,by rw [h9];decide⟩]
 have hJ:e.tmps.getD 36 undef= .iface 28 v:=by rw [he,fd,if_neg (by rw [d37];simp),hJ]
 rw [<-he]at r3⊢
 have t2:=r2.tm 2
 have t5:=r2.tm 5
 rw [<-hP]at t2
 rw [<-hT]at t5
 simp only [put,d36,d35,h2,h5,zqy,Nat.reduceEqDiff,if_false]at t2 t5
 have xl:e.tmps.size=40:=r3.sz
 clear he hV r2
 unfold wpList
 rw [if_pos (wnt _ _ g38)]
 left
 have hH:=r3.st.hp
 rcases t2 with hx|⟨ab,b0,cap0,h20',hm0,rfl⟩
 ·rw [H0]at hx;cases hx
 rw [H0]at h20';cases h20'
 rcases t5 with hx|⟨ab,b1,cap1,h21',hm1,rfl⟩
 ·rw [H1]at hx;cases hx
 rw [H1]at h21';cases h21'
 simp only [Nat.zero_mul,Nat.add_zero]at *
 have hm:∀{R:Value->World->Prop},Calls prog 151 #[.iface 28 v,.func (.func 152) #[] #[.pointer (some ⟨b0,0,none⟩),.pointer (some ⟨b1,0,none⟩)]] w3 (fun x w'=>x= .returned (.tuple #[])/\R (.tuple #[]) w')->Yl prog o38 e w3 R:=fun hR=>by
  unfold Yl
  rw [nA e38 k38 (by kernel_rfl),a38]
  have:(#[Operand.tmp 36,Operand.tmp 37].map e.eval)= #[.iface 28 v,.func (.func 152) #[] #[.pointer (some ⟨b0,0,none⟩),.pointer (some ⟨b1,0,none⟩)]]:=by simp [Act.eval,hJ,xk]
  rw [this]
  exact hR.mono fun x w'⟨h1,h2⟩=>⟨_,h1,h2⟩
 have hG:∀(H':AH)(w':World),dL F1 w3 m1 h' w' m1 H'->H'=toH [.bx tT 1 [.view (vwA ag.ac ns)],.bx tI 1 [.own 2],.rw ⟨3,1,vw aj (ir (iQ ns) E)⟩]->wpList prog #[o35,o36,o37,o38] (m5 F w0 m0 h0 40 Q) [] (e.put o38.dst (.tuple #[])) w':=fun H' w' hs hF=>by
  subst hF
  have r4:=r3.next (o:=o38) (by unfold fW;rw [d38];rfl) hs (res:= .t (.c .dead)) (v:= .tuple #[]) trivial
  exact⟨_,_,_,F1,by simpa only [d35,d36,d37,d38,tW,sj]using hQ,h7,r4⟩
 refine(hm (R:=fun u w'=>u= .tuple #[]/\∃H',dL F1 w3 m1 h' w' m1 H'/\H'=toH [.bx tT 1 [.view (vwA ag.ac ns)],.bx tI 1 [.own 2],.rw ⟨3,1,vw aj (ir (iQ ns) E)⟩]) ?_).wp (fun u w'⟨hu,H',hs,hF⟩=>by subst hu;exact hG H' w' hs hF)
 rcases hv with hx|⟨ab,hab,hv⟩
 ·rw [H2]at hx;cases hx
 rw [H2]at hab;cases hab
 simp only [ar]at hv
 by_cases hE1:E.length<=1
 ·have xg:ir (iQ ns) E=E:=by
   match E,hE1 with
   | [],_=>rfl
   | [x],_=>rfl
  obtain⟨p,cc,rfl⟩:∃p cc,v= .slice p E.length cc:=by
   rcases hv with⟨bb,cc,_,rfl⟩|⟨_,h0,rfl⟩
   ·exact⟨_,_,rfl⟩
   ·exact⟨none,0,by rw [h0]⟩
  refine(BE (w:=w3) hE1 _ _ _).mono ?_
  rintro x w' ⟨rfl,os,rfl⟩
  refine⟨rfl,rfl,h',tL (dL.refl hH) rfl rfl rfl (by simp) (fun b hb=> ?_),by rw [xg,hf]⟩
  simp only [grow,Array.getElem?_append,hb,if_true]
 have hY:2<=E.length:=by omega
 obtain⟨b2,cap,hk,rfl⟩:∃b2 cap,m1[2]? =some (some (b2,cap))/\v= .slice (some ⟨b2,0,none⟩) E.length cap:=by
  rcases hv with⟨bb,cc,h1,h2⟩|⟨_,h0,_⟩
  ·exact⟨bb,cc,h1,h2⟩
  ·omega
 obtain⟨_,h6,cur,hn,xc,hM,xa,hL⟩:=hH.get H2 H2 hk
 simp only [Nat.mul_one,ar]at xc hM hL
 obtain⟨_,h4,hX,hz,_,_,_,hD⟩:=hH.get H1 H1 hm1
 obtain⟨_,hZ,hW,hy,_,_,_,hC⟩:=hH.get H0 H0 hm0
 have l2:=(hH.lt H2 hk).2
 have l1:=(hH.lt H1 hm1).2
 have l0:=(hH.lt H0 hm0).2
 have xi:b1≠b2:=fun h=>by subst h;have:=hH.inj 1 2 _ _ _ _ _ H1 H2 hm1 hk;cases this
 have xh:b0≠b2:=fun h=>by subst h;have:=hH.inj 0 2 _ _ _ _ _ H0 H2 hm0 hk;cases this
 have hK:Holds (Value.int .i64) w3 b2 0 E.toArray:=fun j hj=>by
  have hO:j<E.length:=by simpa using hj
  obtain⟨_,hq⟩:=hL j _ (ba (c:=aj) (EM hO))
  obtain⟨u,hu,_,hr⟩:=hq 0 _ rfl
  have xf:u= .int .i64 E[j]! :=hr
  subst xf
  refine⟨?_,?_⟩
  ·simp only [World.cell?,hn]
   simpa [getElem!_pos E j hO]using hu
  ·simp [World.frozen?,hn]
 have xb:w3.cell? ⟨b1,0,none⟩=some (.slice (some ⟨b2,0,none⟩) E.length cap):=by
  obtain⟨_,hq⟩:=hD 0 _ rfl
  obtain⟨u,hu,_,hr⟩:=hq 0 _ rfl
  rcases hr with hx|⟨ab,hab,hr⟩
  ·rw [H2]at hx;cases hx
  rw [H2]at hab;cases hab
  simp only [ar,hk,zqy,Prod.mk.injEq]at hr
  rcases hr with⟨bb,cc,⟨rfl,rfl⟩,rfl⟩|⟨hx,_⟩
  ·simp only [World.cell?,hz]
   simpa using hu
  ·cases hx
 have xd:RPL F1 w3 b0 0 [.view (vwA ag.ac ns)]:=by
  obtain⟨_,hq⟩:=hC 0 _ rfl
  obtain⟨u,hu,ho,hr⟩:=hq 0 _ rfl
  refine RPL.mk fun t c ht=> ?_
  obtain rfl:t=0:=by
   have:=(List.getElem?_eq_some_iff.1 ht).1
   simp at this;omega
  obtain rfl:=Option.some.inj ht.symm
  exact⟨u,by simp only [World.cell?,hy];simpa using hu,ho,hr⟩
 have hA:=w8 (P:=prog) (g:=152) (f:=iQ ns) (p:=fun k=>isN ns k=true) (cs:=[.view (vwA ag.ac ns)]) (n:=E.length) (fun dk i j hd hp hi hj=>AO ns dk hl hp i j (by omega) (by omega)) hH.old h6 l2 l1 l0 xi xh xb hM xa xd (d:=E.toArray) (by simp) hK
 have hs:=DC (w:=w3) (g:=152) (blk:=b2) (c:=cap) (lb:= #[.pointer (some ⟨b0,0,none⟩),.pointer (some ⟨b1,0,none⟩)]) (d:=E.toArray) (iQ ns) (fun k=>isN ns k=true) (enters_of func152 (by kernel_rfl) rfl) (by simpa using hY) (by simpa using h20) (by simpa using hA) (fun i hi=>hE _ (by
  have hI:i<E.length:=by simpa using hi
  have:=zqd (EM hI)
  simp [getElem!_pos E i hI,hI])) hK l2
 simp only [List.size_toArray]at hs
 refine hs.mono ?_
 rintro x w' ⟨rfl,hS⟩
 have hB:(Sort.insertionSort (ltF (iQ ns)) E.toArray 0 E.length).size=E.length:=by
  have:=congrArg List.length (wC (iQ ns) E)
  have h3:=ll (iQ ns) E
  unfold ir at h3
  rw [h3]at this
  simpa using this
 refine⟨rfl,rfl,_,xL hH H2 hk hB hS,?_⟩
 have:=wC (iQ ns) E
 simp only [List.size_toArray]at this
 rw [this,hf]
 rfl
end Go.Proofs.YtkicjdeddpihaaaGreat
namespace Go.Proofs.YtkicjdeddpihaaaGreat
open Go.Shelf Go.RowKit Go.Lib Go.Sort Am Go.Proofs.Tryz
set_option maxRecDepth 100000
theorem rN(ns:List ag)(n:Int)(nd:ag)(hl:ns.length<=1048576)(h1:1<=n)(h2:n<=1048576)(hx:ns[(n-1).toNat]? =some nd)(hkl:nd.kids.length<20)(hk:∀k∈nd.kids,isN ns k=true):da prog 77 [.agg [.view (vwA ag.ac ns)],ai n] fun res hf=>res= .o 0/\hf=[⟨3,1,vw aj (ir (iQ ns) (nd.kids.filter (mh ns)))⟩]:=by
 obtain⟨V,hV⟩:=nmE (vwA ag.ac ns)
 obtain⟨K,hK⟩:=nmE (vw aj nd.kids)
 obtain⟨Rt,hp⟩:=nmE (vw aK.c nd.table.rules)
 have xD:aN K=(nd.kids.length:Int):=by rw [ah,hK,ar]
 have xB:0<=aN K:=by omega
 have xC:aN K<=1048576:=by omega
 have ht:∀z:Int,(vw aj ((nd.kids.take z.toNat).filter (mh ns))).length<=1048576:=fun z=>by
  rw [ar]
  have:=List.length_filter_le (mh ns) (nd.kids.take z.toNat)
  simp only [List.length_take]at this
  omega
 have hm:∀(z:Int)(k:Int),0<=z->nd.kids[z.toNat]? =some k->vw aj ((nd.kids.take (z+1).toNat).filter (mh ns))=vw aj ((nd.kids.take z.toNat).filter (mh ns))++(if mh ns k then [[.J k]]else []):=fun z k h0 hz=>by
  rw [xK h0 hz,wu]
  congr 1
  cases mh ns k<;>rfl
 have cn:=dv ns n nd h1 h2 hx V K Rt hV hK hp
 rw [<-hV]
 refine iI ([(9,.hand)]) ([]) (c:=aM f77) ay func77 (by kernel_rfl) (by kernel_rfl) (by rfl) (by kernel_rfl) fun g xA hd F ha hj hg hF=> ?_
 cbv
 (first|refine ae hg cn ?_|refine aa hg cn ?_)
 cbv
 have hb:nd.kids.length<=1048576:=by omega
 refine lX ([(9,.hand)]) ([]) ha hj hg ay (by kernel_rfl) K (fun x=>lc (aj x)) nd.kids hK hb (fun z(s:LLA×List Int)=>[(2,.p 0),(5,.p 1),(12,.v K),(13,.i (g .ln K)),(14,.i (z))]) (fun z(s:LLA×List Int)=>[.bx 32 1 [.view V],.bx 28 1 [.own 2],.rw ⟨3,1,s.1⟩]) (fun z(s:LLA×List Int)=>s.1=vw aj s.2/\(s.2.length:Int)<=z) (fun(s:LLA×List Int) rest=>s.2++rest.filter (mh ns)) (nd.kids.filter (mh ns)) ([],[]) rfl ⟨rfl,by simp⟩ (Wk.weak (wkG [some 0,some 1,none] zr5 ⟨wqE rfl rfl,⟨_,_,rfl,rfl,rfl,rfl,.inr ⟨zr1,trivial⟩⟩,⟨_,rfl,rfl⟩,trivial⟩ (by decide) aG)) (fun z s B hz h0 hi he=> ?_) (fun z s x rest B z0 z1 z2 hx hy h0 hi hc e1 hB=> ?_)
 ·obtain⟨es,ks⟩:=s
  obtain⟨k1,k2⟩:=hi
  dsimp only at k1 k2 h0
  simp only [List.filter_nil,List.append_nil]at h0
  rw [h0]at k1
  cbv;rw [he];cbv
  rw [hj,hV]
  show VC _ _ _ (.region _ _ _) (QE _) (lkT _) (toH _)
  apply FY (ns:=ns) (E:=nd.kids.filter (mh ns)) (hl:=hl) (tT:=32) (tI:=28)
  case hcd=>rfl
  case hN=>rfl
  case hhh=>rw [k1]
  case hE=>exact fun k hs=>hk k (List.mem_filter.1 hs).1
  case h20=>exact Nat.lt_of_le_of_lt (List.length_filter_le _ _) hkl
  any_goals rfl
  refine⟨_,_,rfl,rfl,?_⟩
  obtain⟨G,hG⟩:=nmE (vw aj (ir (iQ ns) (nd.kids.filter (mh ns))))
  have pG:=pmV hG
  rw [<-hG]at hF⊢
  cbv
  exact bV hF rfl pG
 obtain⟨es,ks⟩:=s
 obtain⟨k1,k2⟩:=hi
 dsimp only at k1 k2 h0
 have hr:=hk x (zqd hx)
 obtain⟨q1,q2,y,hn⟩:=bC hr
 have hh:mh ns x=(!y.style.hidden&& !y.style.apart):=by unfold mh;rw [hn]
 rw [List.filter_cons,hh]at h0
 clear hh
 have pE:=pmV k1
 have xE:es.length<=1048576:=by rw [k1,ar];omega
 obtain⟨Ky,ho⟩:=nmE (vw aj y.kids)
 obtain⟨Ry,hq⟩:=nmE (vw aK.c y.table.rules)
 have cy:=dv ns x y q1 (by omega) hn V Ky Ry hV ho hq
 obtain⟨c0,c1,⟨c2,c3,c4,c5,c6,c7,c8,c9,hv,hw,hA,⟨hC,hD⟩,⟨hH,hI⟩,⟨hJ,hL⟩,⟨hM,hO⟩,⟨hP,hQ⟩,⟨hR,hS⟩,⟨hT,hU⟩,hW,⟨⟨hX,hY⟩,⟨hZ,h3⟩,⟨h4,h5⟩,⟨h6,h7⟩,⟨h8,h9⟩,⟨xa,xb⟩⟩,⟨⟨xc,xd⟩,⟨xe,xf⟩,⟨xg,xh⟩,⟨xi,xj⟩,⟨xk,xl⟩,⟨xm,xn⟩⟩,⟨xo,xp,xq,xr⟩,⟨xs,xt,xu,xv⟩,xw,xx⟩,xy,⟨xz⟩⟩:=y
 replace h0:ks++(if(!c9&& !c8)=true then x::rest.filter (mh ns)else rest.filter (mh ns))=nd.kids.filter (mh ns):=h0
 cbv;rw [hc];cbv;refine goX hg _ z0 hy rfl ?_;cbv
 (first|refine ae hg cy ?_|refine aa hg cy ?_)
 cbv
 cases c9<;>cases c8<;>cbv
 case false.false=>
  refine dz hg rfl (by decide) (by omega) ?_
  cbv
  rw [e1,gW hg]
  have hu:aB (es++[[.J x]])=true:=by
   have:es++[[.J x]]=vw aj (ks++[x]):=by rw [k1,wu];rfl
   rw [this];exact aI _ _
  exact hB ((es++[[.J x]],ks++[x])) _ _ ⟨by simpa using h0,⟨by rw [k1,wu];rfl,by simp;omega⟩⟩ (Wk.weak (wkG [some 0,some 1,some 5] zr5 ⟨wqE rfl rfl,⟨_,_,rfl,rfl,rfl,rfl,.inr ⟨zr1,trivial⟩⟩,wqE rfl hu,trivial⟩ (by decide) aG))
 all_goals
  rw [e1]
  exact hB ((es,ks)) _ _ ⟨by simpa using h0,⟨k1,by simp only;omega⟩⟩ (Wk.weak (wkG [some 0,some 1,some 2] zr5 ⟨wqE rfl rfl,⟨_,_,rfl,rfl,rfl,rfl,.inr ⟨zr1,trivial⟩⟩,wqE rfl pE,trivial⟩ (by decide) aG))
section
variable {P:Program}{n0 N:Nat}{g:Gd}
variable {K:Nat->Nat->Prop}
theorem Ik(hg:g=G0 P n0 N){es:LLA}{a:Int}(h0:0<=a)(h1:a<=aN es)(hK:∀j:Nat,j=a.toNat->K 0 j):g .SO es none (some a) K:=by
 subst hg
 have:=ah es
 exact⟨0,a.toNat,rfl,⟨h0,rfl⟩,Nat.zero_le _,by omega,by simpa using hK _ rfl⟩
theorem I6(hg:g=G0 P n0 N)(es:LLA)(a m:Nat):g .tk es a m=(es.drop a).take m:=by subst hg;rfl
theorem Ij(hg:g=G0 P n0 N){es:LLA}{a:Int}(h0:0<=a)(h1:a<=aN es)(hK:∀j m:Nat,j=a.toNat->m=es.length-j->K j m):g .SO es (some a) none K:=by
 subst hg
 have:=ah es
 exact⟨a.toNat,es.length,⟨h0,rfl⟩,rfl,by omega,Nat.le_refl _,hK _ _ rfl rfl⟩
end
theorem xi(f:Int->Int):∀(xs acc:List Int),xs.foldl (fun a k=>(mj f k a.reverse).reverse) acc=(xs.foldl (fun a k=>mj f k a) acc.reverse).reverse
 | [],acc=>by simp
 |x::xs,acc=>by rw [List.foldl_cons,xi f xs,List.foldl_cons,List.reverse_reverse]
theorem An(f:Int->Int)(xs:List Int):xs.foldl (fun a k=>(mj f k a.reverse).reverse) []=ir f xs:=xi f xs []
theorem qK(ns:List ag)(n:Int)(nd:ag)(hs:∀y∈ns,ag.small y)(ht:fc ns=true)(hl:ns.length<=1048576)(h1:1<=n)(h2:n<=(ns.length:Int))(hx:ns[(n-1).toNat]? =some nd)(hkl:nd.kids.length<=1048576)(hk:∀k∈nd.kids,isN ns k=true):da prog 59 [.agg [.view (vwA ag.ac ns)],ai n] fun res hD=>res= .o 0/\hD=[⟨3,1,vw aj (ir (iQ ns) (nd.kids.filter (mh ns)))⟩]:=by
 have cT:=nj ns hl hs
 rw [ht]at cT
 obtain⟨V,hV⟩:=nmE (vwA ag.ac ns)
 have x0:aN V=(ns.length:Int):=by rw [ah,hV,bB]
 have cI:=gP V n
 rw [show rng n 1 (aN V)=true by simp only [rng,zqs,zqp];omega]at cI
 obtain⟨K,hK⟩:=nmE (vw aj nd.kids)
 obtain⟨Rt,xK⟩:=nmE (vw aK.c nd.table.rules)
 obtain⟨G,hG⟩:=nmE (vw aj (ir (iQ ns) (nd.kids.filter (mh ns))))
 have pG:=pmV hG
 have xZ:aN K=(nd.kids.length:Int):=by rw [ah,hK,ar]
 have xX:0<=aN K:=by omega
 have xY:aN K<=1048576:=by omega
 have cn:=bL ns n nd h1 (by omega) hx V K Rt hV hK xK
 rw [<-hV]at cT
 rw [<-hV,<-hG]
 refine iI ([(13,.hand)]) ([]) (c:=aM f59) ay func59 (by kernel_rfl) (by kernel_rfl) (by rfl) (by kernel_rfl) fun g xW hd F hh hv hg hF=> ?_
 cbv
 (first|refine ae hg cT ?_|refine aa hg cT ?_)
 cbv
 (first|refine ae hg cI ?_|refine aa hg cI ?_)
 cbv
 (first|refine ae hg cn ?_|refine aa hg cn ?_)
 cbv
 refine lX ([(13,.hand)]) ([]) hh hv hg ay (by kernel_rfl) K (fun x=>lc (aj x)) nd.kids hK hkl (fun z(s:LLA×List Int)=>[(2,.p 0),(5,.o 1),(6,.v K),(7,.i (z))]) (fun z(s:LLA×List Int)=>[.bx 32 1 [.view V],.rw ⟨3,1,s.1⟩]) (fun z(s:LLA×List Int)=>s.1=vw aj s.2/\(s.2.length:Int)<=z/\∀k∈s.2,isN ns k=true) (fun(s:LLA×List Int) rest=>(rest.filter (mh ns)).foldl (fun a k=>(mj (iQ ns) k a.reverse).reverse) s.2) (ir (iQ ns) (nd.kids.filter (mh ns))) ([],[]) (by simp only;exact An _ _) ⟨rfl,by simp,by simp⟩ (Wk.weak (wkG [some 0,some 1] zr4 ⟨wqE rfl rfl,wqE rfl rfl,trivial⟩ (by decide) aG)) (fun z s B hz h0 hi he=> ?_) (fun z s x rest B z0 z1 z2 hx hy h0 hi hc e1 hB=> ?_)
 ·obtain⟨es,ks⟩:=s
  obtain⟨k1,k2,k3⟩:=hi
  dsimp only at k1 k2 h0
  simp only [List.filter_nil,List.foldl_nil]at h0
  rw [h0,<-hG]at k1
  subst k1
  cbv;rw [he];cbv
  exact bV hF rfl pG
 obtain⟨es,ks⟩:=s
 obtain⟨k1,k2,k3⟩:=hi
 dsimp only at k1 k2 k3 h0
 have xB:=hk x (zqd hx)
 obtain⟨q1,q2,y,hC⟩:=bC xB
 have hf:mh ns x=(!y.style.hidden&& !y.style.apart):=by unfold mh;rw [hC]
 have hu:iQ ns x=y.style.order:=by unfold iQ;rw [hC]
 rw [List.filter_cons,hf]at h0
 clear hf
 have pE:=pmV k1
 have xQ:es.length<=1048576:=by rw [k1,ar];omega
 obtain⟨Ky,xI⟩:=nmE (vw aj y.kids)
 obtain⟨Ry,xL⟩:=nmE (vw aK.c y.table.rules)
 have cy:=bL ns x y q1 (by omega) hC V Ky Ry hV xI xL
 obtain⟨c0,c1,⟨c2,c3,c4,c5,c6,c7,c8,c9,hb,hE,hH,⟨hI,hJ⟩,⟨hL,hM⟩,⟨hN,hO⟩,⟨hP,hQ⟩,⟨hR,hS⟩,⟨hT,hU⟩,⟨hW,hY⟩,hZ,⟨⟨h3,h4⟩,⟨h5,h6⟩,⟨h7,h8⟩,⟨h9,xa⟩,⟨xb,xc⟩,⟨xd,xe⟩⟩,⟨⟨xf,xg⟩,⟨xh,xi⟩,⟨xj,xk⟩,⟨xl,xm⟩,⟨xn,xo⟩,⟨xp,xq⟩⟩,⟨xr,xs,xt,xu⟩,⟨xv,xw,xx,xy⟩,xz,xA⟩,xU,⟨xV⟩⟩:=y
 replace h0:(if(!c9&& !c8)=true then x::rest.filter (mh ns)else rest.filter (mh ns)).foldl (fun a k=>(mj (iQ ns) k a.reverse).reverse) ks=ir (iQ ns) (nd.kids.filter (mh ns)):=h0
 replace hu:iQ ns x=hb:=hu
 have lF:(((mj (iQ ns) x ks.reverse).reverse).length:Int)<=z+1:=by rw [List.length_reverse,vz,List.length_reverse];omega
 cbv;rw [hc];cbv;refine goX hg _ z0 hy rfl ?_;cbv
 (first|refine ae hg cy ?_|refine aa hg cy ?_)
 cbv
 cases c9<;>cases c8<;>cbv
 case false.false=>
  simp only [Bool.not_false,Bool.and_self,if_true,List.foldl_cons]at h0
  have a0:0<=aN es:=by rw [ah];omega
  have a1:aN es<=1048576:=by rw [ah];omega
  have x2:aN es=(ks.length:Int):=by rw [k1,ah,ar]
  rw [bz hg]
  refine gd [(13,.hand)] [] hh hv hg ay (by kernel_rfl) (fun a:Int=>[(2,.p 0),(5,.o 1),(6,.v K),(7,.i (z)),(8,.p 2),(9,.i (a))]) (fun a=>[.bx 32 1 [.view V],.rw ⟨3,1,es⟩,.bx 64 60 [.J c2,.J c3,.J c4,.J c5,.J c6,.J c7,.B false,.B false,.J hb,.J hE,.J hH,.J hI,.J hJ,.J hL,.J hM,.J hN,.J hO,.J hP,.J hQ,.J hR,.J hS,.J hT,.J hU,.J hW,.J hY,.J hZ,.J h3,.J h4,.J h5,.J h6,.J h7,.J h8,.J h9,.J xa,.J xb,.J xc,.J xd,.J xe,.J xf,.J xg,.J xh,.J xi,.J xj,.J xk,.J xl,.J xm,.J xn,.J xo,.J xp,.J xq,.J xr,.J xs,.J xt,.J xu,.J xv,.J xw,.J xx,.J xy,.J xz,.J xA]]) (fun a=>0<=a/\a<=aN es/\∀(i:Nat)(q:Int),a.toNat<=i->ks[i]? =some q->hb<iQ ns q) (fun a=>a.toNat) (aN es) ⟨a0,Int.le_refl _,fun i q hi hq=> ?_⟩ (Wk.weak (wkG [some 0,some 1,some 2] zr6 ⟨wqE rfl rfl,wqE rfl pE,wqE rfl rfl,trivial⟩ (by decide) aG)) (fun a B2 ha xF=> ?_)
  ·have:=(List.getElem?_eq_some_iff.1 hq).1;omega
  obtain⟨b0,b1,b2⟩:=ha
  have eA:∀j:Nat,g .ap [] (g .tk es 0 j)=vw aj (ks.take j):=fun j=>by rw [gW hg,I6 hg,k1];simp [vw,List.map_take]
  have xT:ks.length<=1048576:=by omega
  have eB:∀j:Nat,g .ap (g .ap [] (g .tk es 0 j)) [[.J x]]=vw aj (ks.take j++[x]):=fun j=>by rw [eA j,gW hg,wu];rfl
  have eC:∀j m:Nat,m=es.length-j->g .tk es j m=vw aj (ks.drop j):=fun j m hm=>by
   rw [I6 hg,hm,k1]
   simp only [vw,<-List.map_drop,zql]
   rw [List.take_of_length_le (by simp)]
  have pM:∀{A:Prop}{n:Nat},A->n<=3000000->A/\n*8<=140737488355328/\n<=4611686018427387904:=fun hA hn=>⟨hA,by omega,by omega⟩
  have mF:∀k∈(mj (iQ ns) x ks.reverse).reverse,isN ns k=true:=fun k hr=>by
   rw [List.mem_reverse,vy,List.mem_reverse]at hr
   rcases hr with rfl|h
   ·exact xB
   ·exact k3 k h
  have pN:∀{A:Prop}{n:Nat},A->n<=1048576->A/\(0+n)*8<=140737488355328/\0+n<=4611686018427387904:=fun hA hn=>⟨hA,by omega,by omega⟩
  have ho:(a=0\/∃q,ks[a.toNat-1]? =some q/\¬hb<iQ ns q)->(mj (iQ ns) x ks.reverse).reverse=ks.take a.toNat++x::ks.drop a.toNat:=fun hc=>by
   refine Cz (iQ ns) x ks a.toNat (by omega) ?_ (fun i q hi hq=>by rw [hu];exact b2 i q hi hq)
   rcases hc with rfl|⟨q,h1,h2⟩
   ·exact .inl rfl
   ·exact .inr ⟨q,h1,by rw [hu];exact h2⟩
  have t0:g .q .gtr a 0=decide (0<a):=by rw [cj hg]
  have ew:0<a->g .w .sub .i64 a 1=a-1:=fun h=>by rw [dp hg,ak _ (by omega)]
  have l1:0<a->(a-1).toNat<ks.length:=fun h=>by omega
  have l2:0<a->a-1<aN es:=fun h=>by omega
  cbv
  rw [t0]
  by_cases hf:0<a
  case' pos=>
   rw [zqu hf]
   cbv
   rw [ew hf]
   have xO:=l1 hf
   have xP:=l2 hf
   have hq:ks[(a-1).toNat]? =some ks[(a-1).toNat]:=zqc xO
   obtain⟨q,xR⟩:=nmE (ks[(a-1).toNat])
   rw [<-xR]at hq
   obtain⟨r1,r2,yq,xE⟩:=bC (k3 q (zqd hq))
   obtain⟨Kq,xH⟩:=nmE (vw aj yq.kids)
   obtain⟨Rq,xJ⟩:=nmE (vw aK.c yq.table.rules)
   have cq:=bL ns q yq r1 (by omega) xE V Kq Rq hV xH xJ
   have xC:iQ ns q=yq.style.order:=by unfold iQ;rw [xE]
   refine goY hg (by omega) xP fun j hj x1=> ?_
   cbv
   refine⟨_,by rw [hj,k1];exact ba hq,?_⟩
   cbv
   (first|refine ae hg cq ?_|refine aa hg cq ?_)
   cbv
   have tq:g .q .gtr yq.style.order hb=decide (hb<yq.style.order):=cj hg _ _
   cases hd:g .q .gtr yq.style.order hb
   rotate_left
   ·have xM:hb<iQ ns q:=by rw [xC];exact of_decide_eq_true (tq.symm.trans hd)
    cbv
    rw [ew hf,xF]
    refine⟨a-1,⟨by omega,by omega,fun i p hi hp=> ?_⟩,by omega,Wk.weak (wkG [some 0,some 1,some 2] zr6 ⟨wqE rfl rfl,wqE rfl pE,wqE rfl rfl,trivial⟩ (by decide) aG)⟩
    by_cases hi2:a.toNat<=i
    ·exact b2 i p hi2 hp
    ·obtain rfl:i=(a-1).toNat:=by omega
     rw [hq]at hp
     cases hp
     exact xM
   have xD:=ho (.inr ⟨q,by rw [show a.toNat-1=(a-1).toNat by omega];exact hq,by rw [xC];exact of_decide_eq_false (tq.symm.trans hd)⟩)
  case' neg=>
   rw [zqt hf]
   have xD:=ho (.inl (by omega))
  all_goals
   cbv
   obtain⟨X,hX⟩:=nmE (vw aj (ks.take a.toNat++[x]))
   have pX:=pmV hX
   refine fG hg hv ay [1,2,3,5,6,7,8] (.op 0 [] (.op 4 [] (.op 9 [] (.op 10 [11] .done .none) .none) (.op 9 [] (.op 4 [] (.op 10 [11] .done .none) .none) .none)) (.op 9 [] (.op 0 [] (.op 4 [] (.op 10 [11] .done .none) .none) .none) .none)) (by kernel_rfl) (by kernel_rfl) (S:=LLA) (fun s=>s=X) (fun _=>[(2,.p 0),(5,.o 1),(6,.v K),(7,.i (z)),(8,.p 2),(9,.i (a)),(10,.o 3)]) (fun s=>[.bx 32 1 [.view V],.rw ⟨3,1,es⟩,.bx 64 60 [.J c2,.J c3,.J c4,.J c5,.J c6,.J c7,.B false,.B false,.J hb,.J hE,.J hH,.J hI,.J hJ,.J hL,.J hM,.J hN,.J hO,.J hP,.J hQ,.J hR,.J hS,.J hT,.J hU,.J hW,.J hY,.J hZ,.J h3,.J h4,.J h5,.J h6,.J h7,.J h8,.J h9,.J xa,.J xb,.J xc,.J xd,.J xe,.J xf,.J xg,.J xh,.J xi,.J xj,.J xk,.J xl,.J xm,.J xn,.J xo,.J xp,.J xq,.J xr,.J xs,.J xt,.J xu,.J xv,.J xw,.J xx,.J xy,.J xz,.J xA],.rw ⟨3,1,s⟩]) (fun BL xG=> ?_) (fun s xS=> ?_)
   ·cbv
    (repeat'(first|exact trivial|exact rfl|(refine Ik hg b0 b1 fun j hj=> ?_;cbv)|(subst_vars;exact rfl)|((first|refine goX hg _ z0 hy rfl ?_|refine goN hg (pN (by rw [I6 hg,k1];exact fun y hy=>Dg (c:=aj) (k:=1) (fun _=>rfl) y (List.mem_of_mem_drop (List.mem_of_mem_take hy))) (by rw [I6 hg];exact Nat.le_trans (List.length_take_le' _ _) (by simpa using xQ))) ?_|refine dz hg rfl (by decide) (by show(g .ap [] (g .tk es 0 _)).length<=_;rw [eA,ar];exact Nat.le_trans (List.length_take_le' _ _) xT) ?_);cbv)|exact xG _ (by rw [eB,hX];subst_vars;rfl) _ _ (Wk.weak (wkG [some 0,some 1,some 2,some 6] zr7 ⟨wqE rfl rfl,wqE rfl pE,wqE rfl rfl,⟨_,_,rfl,rfl,rfl,rfl,.inl ⟨rfl,by rw [eB];exact aI _ _⟩⟩,trivial⟩ (by decide) aG))|refine And.intro ?_ ?_))
   subst xS
   cbv
   refine Ij hg b0 b1 fun j2 m2 xN hw=> ?_
   cbv
   refine goN hg (pM (by show∀y∈g .tk es j2 m2,_;rw [eC j2 m2 hw];exact Dg (c:=aj) (k:=1) (fun _=>rfl)) (by
    show s.length+(g .tk es j2 m2).length<=_
    rw [hX,eC j2 m2 hw,ar,ar]
    simp only [zqe,List.length_take,List.length_drop,zqm]
    omega)) ?_
   cbv
   rw [e1]
   have eF:g .ap s (g .tk es j2 m2)=vw aj ((mj (iQ ns) x ks.reverse).reverse):=by
    rw [hX,eC j2 m2 hw,gW hg,<-wu,xD,xN]
    simp
   have pF:aB (g .ap s (g .tk es j2 m2))=true:=by rw [eF];exact aI _ _
   skip
   exact hB ((_,(mj (iQ ns) x ks.reverse).reverse)) _ _ ⟨h0,⟨eF,lF,fun k hr=>(mF k hr)⟩⟩ (Wk.weak (wkG [some 0,some 4] zr4 ⟨wqE rfl rfl,wqE rfl pF,trivial⟩ (by decide) aG))
 skip
 all_goals
  rw [e1]
  exact hB ((es,ks)) _ _ ⟨by simpa using h0,⟨k1,by simp only;omega,k3⟩⟩ (Wk.weak (wkG [some 0,some 1] zr4 ⟨wqE rfl rfl,wqE rfl pE,trivial⟩ (by decide) aG))
end Go.Proofs.YtkicjdeddpihaaaGreat
