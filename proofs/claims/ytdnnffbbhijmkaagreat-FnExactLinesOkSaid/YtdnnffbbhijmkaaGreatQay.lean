/- Valid trees, as the reference tells them. -/
import Derived.Shelf.GgSortMore.Stable
import Derived.Below
import Derived.Test.YtdnnffbbhijmkaaGreatQax
set_option linter.unusedVariables false
set_option linter.unusedSimpArgs false
set_option maxHeartbeats 16000000
namespace Go.Proofs.YtdnnffbbhijmkaaGreat
open Go.Shelf Go.RowKit Go.Lib Go.Sort Go.Proofs
variable {P : Program} {ρ : Ren} {α : Type} [Inhabited α]
structure ka(enc:α→Value)(w:World)(blk off:Nat)(dk:Array α)(W:World):Prop where
 os:W.os=w.os
 tape:W.tape=w.tape
 output:W.output=w.output
 size:w.heap.size≤W.heap.size
 at_:∀b,b<w.heap.size→W.heap[b]? =(putRow enc w blk off dk).heap[b]?
section
variable {enc : α → Value} {w W W' : World} {blk off : Nat} {d dk : Array α}
theorem ka.below(h:ka enc w blk off dk W)(hb:Below W.heap.size W W'):ka enc w blk off dk W':=
 ⟨hb.os.trans h.os,hb.tape.trans h.tape,hb.output.trans h.output,Nat.le_trans h.size hb.size,fun b hl=>(hb.block b (Nat.lt_of_lt_of_le hl h.size)).trans (h.at_ b hl)⟩
theorem ka.start(hH:Holds enc w blk off d):ka enc w blk off d w:=⟨rfl,rfl,rfl,Nat.le_refl _,fun b _=>by rw [putRow_self enc w blk off d hH]⟩
theorem ka.holds(h:ka enc w blk off dk W)(hblk:blk<w.heap.size)(hH:Holds enc w blk off d)(hs:dk.size=d.size):Holds enc W blk off dk:=fun j hj=>by
 have h1:=holds_putRow enc w blk off d dk hH hs j hj
 exact⟨(World.cell?_of_block (w:=putRow enc w blk off dk) (w':=W) (a:=⟨blk,off+j,none⟩) (h.at_ blk hblk)).trans h1.1,(World.frozen?_of_block (w:=putRow enc w blk off dk) (w':=W) (a:=⟨blk,off+j,none⟩) (h.at_ blk hblk)).trans h1.2⟩
theorem iu{b:Nat}(hb:b≠blk):(putRow enc w blk off dk).heap[b]? =w.heap[b]? :=by
 simp only [putRow,mapBlock,Array.getElem?_modify]
 rw [if_neg (fun e=>hb e.symm)]
theorem ka.cell(h:ka enc w blk off dk W){b k:Nat}(hb:b<w.heap.size)(hne:b≠blk):W.cell? ⟨b,k,none⟩=w.cell? ⟨b,k,none⟩:=
 World.cell?_of_block (w:=w) (w':=W) (a:=⟨b,k,none⟩) ((h.at_ b hb).trans (iu hne))
theorem sr(W:World)(a:Addr)(u:Value)(b:Nat):∃f:Obj→Obj,∀X:World,(X.setCell a u).heap[b]? =if a.block=b then(X.heap[b]?).map f else X.heap[b]? :=by
 exact⟨_,fun X=>by simp only [World.setCell,Array.getElem?_modify];rfl⟩
theorem ka.swap(h:ka enc w blk off dk W)(hblk:blk<w.heap.size){i j:Nat}(hi:i<dk.size)(hj:j<dk.size):
  ka enc w blk off (swp dk i j) ((W.setCell ⟨blk,off+i,none⟩ (enc dk[j]!)).setCell ⟨blk,off+j,none⟩ (enc dk[i]!)):=by
 refine⟨h.os,h.tape,h.output,by simp only [World.setCell,Array.size_modify];exact h.size,fun b hb=> ?_⟩
 rw [←putRow_swp enc w blk off dk i j hi hj]
 obtain⟨f,hf⟩:=sr W ⟨blk,off+j,none⟩ (enc dk[i]!) b
 obtain⟨g,hg⟩:=sr W ⟨blk,off+i,none⟩ (enc dk[j]!) b
 rw [hf,hf,hg,hg,h.at_ b hb]
theorem ka.base{o:Obj}(hblk:blk<w.heap.size)(h:ka enc (w.alloc o) blk off dk W):ka enc w blk off dk W:=by
 refine⟨h.os,h.tape,h.output,Nat.le_trans (by simp) h.size,fun b hb=> ?_⟩
 rw [h.at_ b (by rw [World.size_alloc];omega)]
 simp only [putRow,mapBlock,Array.getElem?_modify]
 rw [Below.heap_alloc w o b hb]
end
def se(P:Program)(g:Nat)(lb:Array Value)(enc:α→Value)(lt:α→α→Bool)(p:α→Prop)(blk off size:Nat)(w:World):Prop:=
 ∀(W:World)(dk:Array α),dk.size=size→(∀i,i<size→p dk[i]!)→ka enc w blk off dk W→∀i j:Nat,i<size→j<size→
  Calls P g (#[.int .i64 i,.int .i64 j]++lb) W fun e w'=>e= .returned (.bool (lt dk[i]! dk[j]!))∧Below W.heap.size W w'
theorem se.alloc{g:Nat}{lb:Array Value}{enc:α→Value}{lt:α→α→Bool}{p:α→Prop}{blk off size:Nat}{w:World}{o:Obj}(hblk:blk<w.heap.size)(h:se P g lb enc lt p blk off size w):se P g lb enc lt p blk off size (w.alloc o):=
 fun W dk hs hp hW i j hi hj=>h W dk hs hp (hW.base hblk) i j hi hj
theorem Dv{p:α→Prop}{d:Array α}{i j:Nat}(hi:i<d.size)(hj:j<d.size)(h:∀k,k<d.size→p d[k]!):∀k,k<d.size→p (swp d i j)[k]! :=fun k hk=>by
 unfold swp
 by_cases h1:k=j
 ·subst h1
  rw [getElem!_set_same _ _ _ (by simpa using hj)];exact h i hi
 ·rw [getElem!_set_other _ _ _ _ h1]
  by_cases h2:k=i
  ·subst h2
   rw [getElem!_set_same _ _ _ hi];exact h j hj
  ·rw [getElem!_set_other _ _ _ _ h2];exact h k hk
set_option maxRecDepth 100000 in
theorem lR(L:LaysGg.n26 P ρ)(enc:α→Value)(lt:α→α→Bool)(p:α→Prop)(g:Nat)(lb:Array Value)(sf:Nat)(sb:Array Value)(blk off a b:Nat)(d:Array α)(w:World)
  (eg:∀args w,(callFunc g args).run P w= .ok (.enter g args) w) (hless:se P g lb enc lt p blk off d.size w) (hswap:SwapSwaps P sf sb enc blk off d.size)
  (hp:∀i,i<d.size→p d[i]!)
  (hH:Holds enc w blk off d) (hblk:blk<w.heap.size) (hab:a≤b) (hb:b≤d.size) (hsz:d.size<4611686018427387904):
  Calls P (ρ.f 26) #[.agg #[.func (.func g) #[] lb,.func (.func sf) #[] sb],.int .i64 a,.int .i64 b] w fun e w'=>
   e= .returned (.tuple #[])∧ka enc w blk off (Sort.insertionSort lt d a b) w':=by
 have mixed:=L.mixed;have t0:=L.t0;have a0:=L.a0;have z0:=L.z0;have v0:=L.v0;have t3:=L.t3;have a3:=L.a3;have z3:=L.z3;have v3:=L.v3;have t4:=L.t4;have a4:=L.a4;have z4:=L.z4;have v4:=L.v4;have t26:=L.t26;have a26:=L.a26;have z26:=L.z26;have v26:=L.v26;have t37:=L.t37;have a37:=L.a37;have z37:=L.z37;have v37:=L.v37;have t44:=L.t44;have a44:=L.a44;have z44:=L.z44;have v44:=L.v44
 have u44:=run_underlying L.t44
 have hH1:Holds enc (w.alloc (.cells #[.func (.func g) #[] lb,.func (.func sf) #[] sb] (ρ.t 44))) blk off d:=by rw [alloc_eq_grow];exact holds_grow enc w _ blk off d hblk hH
 have hless1:=hless.alloc (o:= .cells #[.func (.func g) #[] lb,.func (.func sf) #[] sb] (ρ.t 44)) hblk
 have hblk1:blk<(w.alloc (.cells #[.func (.func g) #[] lb,.func (.func sf) #[] sb] (ρ.t 44))).heap.size:=by rw [World.size_alloc];omega
 have hst:=ka.start hH1
 have fin:∀D W,ka enc (w.alloc (.cells #[.func (.func g) #[] lb,.func (.func sf) #[] sb] (ρ.t 44))) blk off D W→ka enc w blk off D W:=fun D W h=>h.base hblk
 have cc:∀k v,((w.alloc (.cells #[.func (.func g) #[] lb,.func (.func sf) #[] sb] (ρ.t 44)))).cell? ⟨w.heap.size,k,none⟩=some v→∀D W,ka enc (w.alloc (.cells #[.func (.func g) #[] lb,.func (.func sf) #[] sb] (ρ.t 44))) blk off D W→W.cell? ⟨w.heap.size,k,none⟩=some v:=fun k v h D W hW=>by
  rw [hW.cell (by rw [World.size_alloc];omega) (by omega)];exact h
 have cc0:=cc 0 (.func (.func g) #[] lb) (by simp)
 have cc1:=cc 1 (.func (.func sf) #[] sb) (by simp)
 clear cc
 obtain⟨w1,hw1⟩:∃w1,w1=(w.alloc (.cells #[.func (.func g) #[] lb,.func (.func sf) #[] sb] (ρ.t 44))):=⟨_,rfl⟩
 rw [←hw1]at hH1 hless1 hblk1 hst fin cc0 cc1
 go_enter L.f26,BodyGg.n26_ntmps ρ
 go_wp2
 rw [←hw1]
 go_loopw [6] (fun vi wr=>∃(i:Nat)(dk:Array α),vi= .int .i64 i∧a<i∧i≤b+1∧dk.size=d.size∧(∀k,k<d.size→p dk[k]!)∧ka enc w1 blk off dk wr∧
   insOuter lt a b i dk=insOuter lt a b (a+1) d) (fun vi _=>b+1-(intOf vi).toNat)
 case atStart=>exact⟨a+1,d,by go_num,by omega,by omega,rfl,hp,hst,rfl⟩
 case round=>
  obtain⟨i,dk,rfl,hai,hib,hsk,hpk,hwr,hO⟩:=hrel
  have HO:Hid (insOuter lt a b i dk=insOuter lt a b (a+1) d):=hO
  have HP:Hid (∀k,k<d.size→p dk[k]!):=hpk
  have HWR:Hid (ka enc w1 blk off dk wr):=hwr
  have HPP:Hid (∀i,i<d.size→p d[i]!):=hp
  have HL:Hid (se P g lb enc lt p blk off d.size w1):=hless1
  have HLL:Hid (se P g lb enc lt p blk off d.size w):=hless
  have HC0:Hid (∀D W,ka enc w1 blk off D W→W.cell? ⟨w.heap.size,0,none⟩=some (.func (.func g) #[] lb)):=cc0
  have HC1:Hid (∀D W,ka enc w1 blk off D W→W.cell? ⟨w.heap.size,1,none⟩=some (.func (.func sf) #[] sb)):=cc1
  have HF:Hid (∀D W,ka enc w1 blk off D W→ka enc w blk off D W):=fin
  clear hO hpk hwr hp hless1 hless cc0 cc1 fin
  have c0w:=HC0.out _ _ HWR.out
  have c1w:=HC1.out _ _ HWR.out
  go_wp2
  ·
   go_loopw [7] (fun vj wr2=>∃(j:Nat)(dj:Array α),vj= .int .i64 j∧a≤j∧j≤i∧dj.size=d.size∧(∀k,k<d.size→p dj[k]!)∧ka enc w1 blk off dj wr2∧
     insInner lt a j dj=insInner lt a i dk) (fun vj _=>(intOf vj).toNat)
   case atStart=>exact⟨i,dk,rfl,by omega,Nat.le_refl _,hsk,HP.out,HWR.out,rfl⟩
   case round=>
    clear c0w c1w
    obtain⟨j,dj,rfl,haj,hji,hsj,hpj,hw2,hI⟩:=hrel
    have hlt:i<b:=by assumption
    have hHw:=hw2.holds hblk1 hH1 hsj
    have c0:=HC0.out _ _ hw2
    have c1:=HC1.out _ _ hw2
    have HW:Hid (ka enc w1 blk off dj wr):=hw2
    have HI:Hid (insInner lt a j dj=insInner lt a i dk):=hI
    have HPJ:Hid (∀k,k<d.size→p dj[k]!):=hpj
    clear hw2 hI hpj
    have out:(j≤a∨lt dj[j]! dj[j-1]! =false)→∀W,ka enc w1 blk off dj W→∃i' dk',Value.int .i64 ((i:Int)+1)= .int .i64 (i':Nat)∧a<i'∧i'≤b+1∧dk'.size=d.size∧(∀k,k<d.size→p dk'[k]!)∧
      ka enc w1 blk off dk' W∧insOuter lt a b i' dk'=insOuter lt a b (a+1) d:=fun hs W hW=>
     ⟨i+1,dj,by go_num,by omega,by omega,hsj,HPJ.out,hW,
      by rw [←HO.out,insOuter_go _ _ _ _ _ hlt,←HI.out,insInner_stop _ _ _ _ hs]⟩
    have OUT:Hid _:=out
    clear out
    by_cases hja:a<j
    ·have hl:=HL.out wr dj hsj HPJ.out HW.out j (j-1) (by omega) (by omega)
     rw [show(((j-1:Nat):Int))=(j:Int)-1 by omega]at hl
     cases hlv:lt dj[j]! dj[j-1]! with
     |true=>
      rw [hlv]at hl
      go_wp2_with (go_at_fn g;refine hl.mono ?_;rintro e w' ⟨rfl,hbw⟩;have hW2:=HW.out.below hbw;have c0':=HC0.out _ _ hW2;have c1':=HC1.out _ _ hW2;have HW2:Hid (ka enc w1 blk off dj w'):=hW2;have hHw2:=hW2.holds hblk1 hH1 hsj;clear hbw hW2)
      have hs:=hswap w' dj hHw2 hsj j (j-1) (by omega) (by omega)
      rw [show(((j-1:Nat):Int))=(j:Int)-1 by omega]at hs
      rw [hs,Oper.upon_value]
      go_wp2
      go_roundw
      case rel=>
       (repeat apply Exists.intro)
       refine⟨⟨j-1,swp dj j (j-1),by congr 1<;>omega,by omega,by omega,by rw [size_swp];exact hsj,?_,?_,?_⟩,by rw [zqu hlt,show((j-1:Nat):Int)=(j:Int)-1 by omega]⟩
       ·have:=Dv (i:=j) (j:=j-1) (d:=dj) (by omega) (by omega) (by rw [hsj];exact HPJ.out)
        rw [hsj]at this;exact this
       ·exact HW2.out.swap hblk1 (by omega) (by omega)
       ·rw [←HI.out,insInner_go lt a j dj hja hlv]
      case measure=>simp [intOf];omega
     |false=>
      rw [hlv]at hl
      go_wp2_with (go_at_fn g;refine hl.mono ?_;rintro e w' ⟨rfl,hbw⟩)
      go_roundw
      case rel=>exact OUT.out (Or.inr hlv) _ (HW.out.below hbw)
      case measure=>simp [intOf];omega
    ·go_wp2
     go_roundw
     case rel=>exact OUT.out (Or.inl (by omega)) _ HW.out
     case measure=>simp [intOf];omega
  ·
   have hge:¬i<b:=by assumption
   go_end0
   exact⟨rfl,by unfold Sort.insertionSort;rw [←HO.out,insOuter_stop _ _ _ _ _ hge];exact HF.out _ _ HWR.out⟩
set_option maxRecDepth 100000 in
theorem s7(L:LaysGt.n15 P ρ)(enc:α→Value)(lt:α→α→Bool)(p:α→Prop)(g:Nat)(lb:Array Value)(sf:Nat)(sb:Array Value)(blk off:Nat)(d:Array α)(W:World)
  (eg:∀args w,(callFunc g args).run P w= .ok (.enter g args) w) (hless:se P g lb enc lt p blk off d.size W) (hswap:SwapSwaps P sf sb enc blk off d.size)
  (hp:∀i,i<d.size→p d[i]!) (hH:Holds enc W blk off d) (hblk:blk<W.heap.size) (h20:d.size<20):
  Calls P (ρ.f 15) #[.agg #[.func (.func g) #[] lb,.func (.func sf) #[] sb],.int .i64 d.size] W fun e w'=>e= .returned (.tuple #[])∧ka enc W blk off (Sort.insertionSort lt d 0 d.size) w':=by
 have mixed:=L.mixed;have t0:=L.t0;have a0:=L.a0;have z0:=L.z0;have v0:=L.v0;have t3:=L.t3;have a3:=L.a3;have z3:=L.z3;have v3:=L.v3;have t4:=L.t4;have a4:=L.a4;have z4:=L.z4;have v4:=L.v4;have t26:=L.t26;have a26:=L.a26;have z26:=L.z26;have v26:=L.v26;have t38:=L.t38;have a38:=L.a38;have z38:=L.z38;have v38:=L.v38;have t42:=L.t42;have a42:=L.a42;have z42:=L.z42;have v42:=L.v42;have t47:=L.t47;have a47:=L.a47;have z47:=L.z47;have v47:=L.v47
 have u42:=run_underlying L.t42
 have e29:∀args w,(callFunc (ρ.f 29) args).run P w= .ok (.enter (ρ.f 29) args) w:=enters_of L.f29 (by kernel_rfl) rfl
 have LI:LaysGg.n26 P ρ.viaGt:=({L with}:LaysGt.n29 P ρ).elder
 have hH1:Holds enc (W.alloc (.cells #[.func (.func g) #[] lb,.func (.func sf) #[] sb] (ρ.t 42))) blk off d:=by rw [alloc_eq_grow];exact holds_grow enc W _ blk off d hblk hH
 have hc:Calls P (ρ.f 29) #[.agg #[.func (.func g) #[] lb,.func (.func sf) #[] sb],.int .i64 (0:Nat),.int .i64 d.size] (W.alloc (.cells #[.func (.func g) #[] lb,.func (.func sf) #[] sb] (ρ.t 42))) fun e w'=>e= .returned (.tuple #[])∧ka enc W blk off (Sort.insertionSort lt d 0 d.size) w':=
  (lR LI enc lt p g lb sf sb blk off 0 d.size d _ eg (hless.alloc hblk) hswap hp hH1 (by rw [World.size_alloc];omega) (Nat.zero_le _) (Nat.le_refl _) (by omega)).mono fun e w' h=>⟨h.1,h.2.base hblk⟩
 clear hless hswap hH hH1 hp
 go_enter L.f15,BodyGt.n15_ntmps ρ
 go_wp2
 refine wp_loop_rounds 1 ?_
 rw [rounds_succ]
 go_wp2_with (go_at_fn (ρ.f 29);refine hc.mono ?_;rintro e w1 ⟨rfl,hR⟩)
 refine wp_loop_rounds 1 ?_
 rw [rounds_succ]
 go_wp2
 all_goals first|(exfalso;omega)|(go_end0;exact⟨rfl,hR⟩)
theorem uM(L:LaysGt.n8 P ρ)(t e:TypeId)(i ie:TypeInfo)(hi:P.info? t=some i)(hd:i.desc= .slice e)(hpk:P.packed t=false)(hie:P.info? e=some ie)(ke:Nat)(hke:∀w,(Extern.Rtype.kind e).run P w= .ok ke w)
  (hs1:ie.size=1) (hagg:∀w,(isAgg e).run P w= .ok false w) (enc:α→Value) (h1:∀x,(enc x).oneCell'=true) (lt:α→α→Bool) (p:α→Prop) (g:Nat) (lb:Array Value)
  (eg:∀args w,(callFunc g args).run P w= .ok (.enter g args) w) (blk off c:Nat) (d:Array α) (h2:2≤d.size) (h20:d.size<20)
  (f:Nat) (hf:P.funcs.findIdx? (·.name== "internal/reflectlite" ++ ".Swapper$" ++toString (swapperK d.size ie ke))=some f)
  (gS:Bool) (hx:∀args W,(callFunc f args).run P W=((Extern.ReflectliteSwapper.swap gS args).run P W).andThen fun v w'=> .ok (.value v) w')
  (w:World) (hless:se P g lb enc lt p blk off d.size w) (hp:∀i,i<d.size→p d[i]!) (hH:Holds enc w blk off d) (hblk:blk<w.heap.size):
  Calls P (ρ.f 8) #[.iface t (.slice (some ⟨blk,off,none⟩) d.size c),.func (.func g) #[] lb] w fun e w'=>
   e= .returned (.tuple #[])∧ka enc w blk off (Sort.insertionSort lt d 0 d.size) w':=by
 refine Any.sort_SliceStable_of_stable L t e i ie hi hd hpk hie ke hke _ d.size c (by omega) f hf (.func g) #[] lb w _ ?_
 have hB:sliceBound P e ie ke (some ⟨blk,off,none⟩) d.size c= #[.slice (some ⟨blk,off,none⟩) d.size c,typeHandle P e]:=by
  unfold sliceBound;rw [if_neg (swapperK_gt _ _ _ h2)]
 rw [hB]
 unfold stableWorld
 have hb1:blk<(w.alloc (.cells #[.slice (some ⟨blk,off,none⟩) d.size c] t)).heap.size:=by rw [World.size_alloc];omega
 have hH1:Holds enc (w.alloc (.cells #[.slice (some ⟨blk,off,none⟩) d.size c] t)) blk off d:=by rw [alloc_eq_grow];exact holds_grow enc w _ blk off d hblk hH
 refine(s7 (P:=P) (ρ:=ρ) {L with} enc lt p g lb f _ blk off d _ eg ((hless.alloc hblk).alloc hb1)
  (swapSwaps_of_literal gS f hx e ie hie hs1 hagg enc h1 blk off d.size c) hp (by rw [alloc_eq_grow _ (.cells #[.pointer _,.pointer _,.int .u64 151] _)];exact holds_grow enc _ _ blk off d hb1 hH1) (by rw [World.size_alloc];omega) h20).mono ?_
 rintro e w' ⟨rfl,hR⟩
 exact⟨rfl,(hR.base hb1).base hblk⟩
end Go.Proofs.YtdnnffbbhijmkaaGreat
namespace Go.Proofs.YtdnnffbbhijmkaaGreat
open Go.ChangeShapes Go.WideShapes Go.ChangeAt Go.RowKit Am Go.Proofs.Tryz
set_option maxRecDepth 100000
def ue(ns:List ak)(n:Int):List Int:=match ns[(n-1).toNat]? with|some x=>x.kids|none=>[]
def gL(ns:List ak)(n:Int)(k:Int):Bool:=isN ns k&&decide (upN ns k=n)
def Gn(x:ak):Bool:= !((x.measured&&(!Du x.table.rules||decide ((0:Int)<(x.kids.length:Int))))||(!x.measured&&decide ((0:Int)<(x.table.rules.length:Int))))
def CH(ns:List ak)(n up:Int):Bool:=decide (up=0)||decide (cnt (ue ns up) n=1)
def fo(ns:List ak)(n:Int)(x:ak):Bool:=zq x.style&&(rng (uF ns n) 1 4&&(CH ns n x.up&&(x.kids.all (gL ns n)&&Gn x)))
def goT(ns:List ak):List ak→Int→Bool
 | [],_=>true
 |x::xs,i=>fo ns (i+1) x&&goT ns xs (i+1)
def eo(ns:List ak):Bool:=decide ((ns.length:Int)≤12)&&goT ns ns 0
theorem jD(ns:List ak):∀(xs:List ak)(k:Int),goT ns xs k=true↔∀(i:Nat)(x:ak),xs[i]? =some x→fo ns (k+(i:Int)+1) x=true
 | [],k=>by simp [goT]
 |x::xs,k=>by
  simp only [goT,zqs]
  rw [jD ns xs (k+1)]
  constructor
  ·rintro⟨h1,h2⟩ i y hy
   cases i with
   |zero=>simp at hy;subst hy;simpa using h1
   |succ i=>have:=h2 i y (by simpa using hy);rw [show k+((i+1:Nat):Int)+1=k+1+(i:Int)+1 by omega];exact this
  ·intro h
   refine⟨by simpa using h 0 x rfl,fun i y hy=> ?_⟩
   have:=h (i+1) y (by simpa using hy)
   rw [show k+((i+1:Nat):Int)+1=k+1+(i:Int)+1 by omega]at this
   exact this
theorem zi{ns:List ak}{z:Int}{x:ak}(h0:0≤z)(hx:ns[z.toNat]? =some x)(h:fo ns (z+1) x=false):eo ns=false:=by
 cases hg:goT ns ns 0
 ·simp [eo,hg]
 ·have:=(jD ns ns 0).1 hg z.toNat x hx
  rw [show(0:Int)+((z.toNat:Nat):Int)+1=z+1 by omega,h]at this
  cases this
theorem xg{ns:List ak}{z M:Int}(hM:M=(ns.length:Int))(h12:M≤12)(hz:M≤z)(h:∀(i:Nat)(x:ak),i<z.toNat→ns[i]? =some x→fo ns ((i:Int)+1) x=true):eo ns=true:=by
 have hg:goT ns ns 0=true:=(jD ns ns 0).2 fun i x hx=>by
  have hi:=(List.getElem?_eq_some_iff.1 hx).1
  have:=h i x (by omega) hx
  rwa [show(0:Int)+(i:Int)+1=(i:Int)+1 by omega]
 simp only [eo,hg,Bool.and_true,zqp]
 omega
theorem xh{ns:List ak}{M:Int}(hM:M=(ns.length:Int))(h:¬M≤12):eo ns=false:=by
 simp only [eo,Bool.and_eq_false_iff,zqo]
 left;omega
theorem Da{ns:List ak}{n:Int}{x:ak}(h0:n≠0)(hn:isN ns n=true)(hx:ns[(n-1).toNat]? =some x)(hd:rng (uF ns n) 1 4=true)(hu:x.up≠0):isN ns x.up=true:=by
 cases hi:isN ns x.up
 ·exfalso
  have hl:ns.length≠0:=fun h=>by
   have:=(bF hn).2.1
   have:=(bF hn).1
   omega
  obtain⟨L,hL⟩:∃L,ns.length=L+1:=⟨ns.length-1,by omega⟩
  rw [uF,hL,jJ ns h0 hn,sj hx,uE ns _ _ _ hu hi]at hd
  simp [rng]at hd
 ·rfl
theorem oe{ns:List ak}{n:Int}{xs:List Int}{i:Nat}{k:Int}(h:xs[i]? =some k)(hk:gL ns n k=false):xs.all (gL ns n)=false:=by
 rw [List.all_eq_false]
 exact⟨k,zqd h,by rw [hk];decide⟩
theorem wJ{ns:List ak}{n:Int}{xs:List Int}{z M:Int}(hM:M=(xs.length:Int))(hz:M≤z)(h:∀(i:Nat)(v:Int),i<z.toNat→xs[i]? =some v→gL ns n v=true):xs.all (gL ns n)=true:=by
 rw [zqf]
 exact pr hM hz h
theorem qy{n:Nat}{a z:Int}(h:a=(n:Int))(hz:z≤(n:Int)):z≤a:=h▸hz
theorem C1{ns:List ak}{z M:Int}(hM:M=(ns.length:Int))(h0:0≤z)(h1:z<M):isN ns (z+1)=true:=by
 simp only [isN,rng,zqs,zqp];omega
theorem FJ{ns:List ak}{z:Int}{x:ak}(h:ns[z.toNat]? =some x):ns[(z+1-1).toNat]? =some x:=by rw [show z+1-1=z by omega];exact h
theorem qx{α:Type}{c:α→Array Value}{xs:List α}{V:LLA}(hV:V=vw c xs):bg V=(xs.length:Int):=by rw [hV,aB,af]
theorem mQ(ns:List ak)(hl:ns.length≤1048576)(hs:∀y∈ns,y.small):PC0 76 [.agg [.view (vwA ak.ac ns)]] (.t (abl (eo ns))):=by
 obtain⟨V,hV⟩:=nmE (vwA ak.ac ns)
 have hVx:bg V=(ns.length:Int):=by rw [aB,hV,bE]
 have hV0:0≤bg V:=by omega
 have hV1:bg V≤1048576:=by omega
 have hisN:∀n,isN ns n=rng n 1 (bg V):=fun n=>by rw [hVx];rfl
 have cD:=fun n=>rz ns n hl
 obtain⟨R,hR⟩:=nmE (eo ns)
 rw [←hR]
 rw [←hV]at cD⊢
 refine ae (aK f76) aD func76 fun g F hg hF=> ?_
 cbv
 cases h12:g .q .gtr (g .ln V) 12
 case true=>
  rw [cj hg,bD hg,zqp]at h12
  cbv
  exact bj hF (by rw [hR,xh hVx (by omega)])
 rw [cj hg,bD hg,zqo]at h12
 cbv
 refine bU hg aD (by kernel_rfl) (fun z:Int=>[(1,.p 0),(3,.i z)]) (fun _=>[.bx 32 1 [.view V]]) (fun z=>0≤z∧z≤bg V∧∀(i:Nat)(x:ak),i<z.toNat→ns[i]? =some x→fo ns ((i:Int)+1) x=true) (fun z=>(bg V).toNat-z.toNat)
  0 [some 0] ⟨Int.le_refl 0,hV0,fun i x hi=>by simp at hi⟩ (wkS [0] (by decide) ⟨⟨_,rfl,rfl,rfl⟩,trivial⟩ ⟨rfl,rfl,trivial⟩) (fun z B hst hB=> ?_)
 obtain⟨h0,h1,h2⟩:=hst
 cbv
 cases hc:g .q .lss z (g .ln V)
 ·rw [bn hg,bD hg,zqo]at hc
  cbv
  exact bj hF (by rw [hR,xg hVx (by omega) (by omega) h2])
 rw [bn hg,bD hg,zqp]at hc
 cbv
 obtain⟨x,hx⟩:=qT (xs:=ns) h0 (gJ hVx hc)
 have hyy:V[z.toNat]? =some x.ac:=by rw [hV];exact gV hx
 have hsx:=hs x (zqd hx)
 have hno:fo ns (z+1) x=false→R=false:=fun h=>by rw [hR];exact zi h0 hx h
 have hin:=C1 hVx h0 hc
 have hat:=FJ hx
 obtain⟨n,hn⟩:=nmE (z+1)
 rw [←hn]at hno hin hat
 obtain⟨OK,hOK⟩:=nmE (fo ns n x)
 have hnode:=hOK
 rw [fo]at hnode
 rw [←hOK]at hno
 obtain⟨A,hA⟩:=nmE (zq x.style)
 obtain⟨Dp,hDp⟩:=nmE (uF ns n)
 obtain⟨Bd,hBd⟩:=nmE (rng Dp 1 4)
 obtain⟨C,hC⟩:=nmE (CH ns n x.up)
 obtain⟨D,hD⟩:=nmE (x.kids.all (gL ns n))
 obtain⟨E,hE⟩:=nmE (Gn x)
 have hup:Bd=true→x.up≠0→isN ns x.up=true:=fun hb hu=>Da (by omega) hin hat (by rw [←hDp,←hBd];exact hb) hu
 rw [←hA,←hDp,←hBd,←hC,←hD,←hE]at hnode
 have cA:=ro x.style
 have cDn:=cD n
 have cB:=bm Dp 1 4
 have cT:=rl x.table.rules
 rw [←hA]at cA
 rw [←hDp]at cDn
 rw [←hBd]at cB
 have h1':∀(i:Nat)(y:ak),i<(z+1).toNat→ns[i]? =some y→OK=true→fo ns ((i:Int)+1) y=true:=fun i y hi hy hk=>by
  by_cases hi2:i<z.toNat
  ·exact h2 i y hi2 hy
  ·obtain rfl:i=z.toNat:=by omega
   rw [hx]at hy
   cases hy
   rw [show((z.toNat:Nat):Int)+1=n by omega,←hOK];exact hk
 obtain⟨a0,a1,⟨a2,a3,a4,a5,a6,a7,a8,a9,a10,a11,a12,⟨a13,a14⟩,⟨a15,a16⟩,⟨a17,a18⟩,⟨a19,a20⟩,⟨a21,a22⟩,⟨a23,a24⟩,⟨a25,a26⟩,a27,⟨⟨a28,a29⟩,⟨a30,a31⟩,⟨a32,a33⟩,⟨a34,a35⟩,⟨a36,a37⟩,⟨a38,a39⟩⟩,⟨⟨a40,a41⟩,⟨a42,a43⟩,⟨a44,a45⟩,⟨a46,a47⟩,⟨a48,a49⟩,⟨a50,a51⟩⟩,⟨a52,a53,a54,a55⟩,⟨a56,a57,a58,a59⟩,a60,a61⟩,a62,⟨a63⟩⟩:=x
 obtain⟨sa1,sa63,-⟩:=hsx
 replace cT:=cT sa63
 simp only at hup hC hD hE cA cT
 replace hyy:V[z.toNat]? =some [.J a0,.view (vw ao a1),.J a2,.J a3,.J a4,.J a5,.J a6,.J a7,.B a8,.B a9,.J a10,.J a11,.J a12,.J a13,.J a14,.J a15,.J a16,.J a17,.J a18,.J a19,.J a20,.J a21,.J a22,.J a23,.J a24,.J a25,.J a26,.J a27,.J a28,.J a29,.J a30,.J a31,.J a32,.J a33,.J a34,.J a35,.J a36,.J a37,.J a38,.J a39,.J a40,.J a41,.J a42,.J a43,.J a44,.J a45,.J a46,.J a47,.J a48,.J a49,.J a50,.J a51,.J a52,.J a53,.J a54,.J a55,.J a56,.J a57,.J a58,.J a59,.J a60,.J a61,.B a62,.view (vw aJ.c a63)]:=hyy
 obtain⟨TK,hTK⟩:=nmE (Du a63)
 rw [←hTK]at cT
 obtain⟨Va1,hVa1⟩:=nmE (vw ao a1)
 obtain⟨Va63,hVa63⟩:=nmE (vw aJ.c a63)
 have la1:=qx hVa1
 have la63:=qx hVa63
 have pa1:0≤bg Va1:=by omega
 have qa1:bg Va1≤1048576:=by omega
 rw [←hVa1,←hVa63]at hyy
 rw [←hVa63]at cT
 have e1:g .w .add .i64 z 1=n:=by rw [aM hg,aC _ (by omega),hn]
 refine goX hg _ h0 hyy rfl ?_
 cbv
 (first|refine ad hg cA ?_|refine aa hg cA ?_)
 cases A
 case false=>
  cbv
  exact bj hF (hno hnode).symm
 cbv
 rw [e1]
 (first|refine ad hg cDn ?_|refine aa hg cDn ?_)
 cbv
 (first|refine ad hg cB ?_|refine aa hg cB ?_)
 cases Bd
 case false=>
  cbv
  exact bj hF (hno (by rw [hnode];rfl)).symm
 replace hup:=hup rfl
 have hE2:E= !((a62&&(!TK||decide (0<bg Va1)))||(!a62&&decide (0<bg Va63))):=by rw [hE,hTK,la1,la63];rfl
 clear hE hTK
 by_cases hu:a0=0
 ·have hCt:C=true:=by rw [hC,CH,hu];rfl
  have eu:g .q .neq a0 0=false:=by rw [bk hg];simpa using hu
  cbv
  rw [eu]
  cbv
  refine bU hg aD (by kernel_rfl) (fun j:Int=>[(1,.p 0),(3,.i z),(4,.p 1),(5,.i j)]) (fun _=>[.bx 32 1 [.view V],.bx 148 64 [.J a0,.view Va1,.J a2,.J a3,.J a4,.J a5,.J a6,.J a7,.B a8,.B a9,.J a10,.J a11,.J a12,.J a13,.J a14,.J a15,.J a16,.J a17,.J a18,.J a19,.J a20,.J a21,.J a22,.J a23,.J a24,.J a25,.J a26,.J a27,.J a28,.J a29,.J a30,.J a31,.J a32,.J a33,.J a34,.J a35,.J a36,.J a37,.J a38,.J a39,.J a40,.J a41,.J a42,.J a43,.J a44,.J a45,.J a46,.J a47,.J a48,.J a49,.J a50,.J a51,.J a52,.J a53,.J a54,.J a55,.J a56,.J a57,.J a58,.J a59,.J a60,.J a61,.B a62,.view Va63]]) (fun j:Int=>0≤j∧j≤bg Va1∧∀(i:Nat)(v:Int),i<j.toNat→a1[i]? =some v→gL ns n v=true) (fun j=>(bg Va1).toNat-j.toNat)
   0 [some 0,some 1] ⟨Int.le_refl 0,pa1,fun i v hi=>by simp at hi⟩ (wkS [0,1] (by decide) ⟨⟨_,rfl,rfl,rfl⟩,⟨_,rfl,rfl,rfl⟩,trivial⟩ ⟨rfl,rfl,rfl,rfl,trivial⟩) (fun j B2 hst2 hB2=> ?_)
  obtain⟨k0,k1,k2⟩:=hst2
  cbv
  cases hk:g .q .lss j (g .ln Va1)
  ·rw [bn hg,bD hg,zqo]at hk
   have hDt:D=true:=by rw [hD];exact wJ la1 (by omega) k2
   replace hnode:OK=E:=by rw [hnode,hCt,hDt];simp
   cases a62
   ·replace hE2:E= !(decide (0<bg Va63)):=by rw [hE2];simp
    cbv
    cases ht:g .q .gtr (g .ln Va63) 0
    case true=>
     rw [cj hg,bD hg,zqp]at ht
     cbv
     exact bj hF (hno (by rw [hnode,hE2];simpa using ht)).symm
    rw [cj hg,bD hg,zqo]at ht
    have hOKt:OK=true:=by rw [hnode,hE2];simpa using ht
    cbv
    rw [e1,hn]
    exact gX hB (z+1) [some 0] (wkS [0] (by decide) ⟨⟨_,rfl,rfl,rfl⟩,trivial⟩ ⟨rfl,rfl,trivial⟩) ⟨by omega,by omega,fun i y hi hy=>h1' i y hi hy hOKt⟩ (by omega)
   ·replace hE2:E= !(!TK||decide (0<bg Va1)):=by rw [hE2];simp
    cbv
    (first|refine ad hg cT ?_|refine aa hg cT ?_)
    cases TK
    case false=>
     cbv
     exact bj hF (hno (by rw [hnode,hE2];rfl)).symm
    cbv
    cases ht:g .q .gtr (g .ln Va1) 0
    case true=>
     rw [cj hg,bD hg,zqp]at ht
     cbv
     exact bj hF (hno (by rw [hnode,hE2];simpa using ht)).symm
    rw [cj hg,bD hg,zqo]at ht
    have hOKt:OK=true:=by rw [hnode,hE2];simpa using ht
    cbv
    rw [e1,hn]
    exact gX hB (z+1) [some 0] (wkS [0] (by decide) ⟨⟨_,rfl,rfl,rfl⟩,trivial⟩ ⟨rfl,rfl,trivial⟩) ⟨by omega,by omega,fun i y hi hy=>h1' i y hi hy hOKt⟩ (by omega)
  rw [bn hg,bD hg,zqp]at hk
  cbv
  obtain⟨y,hy⟩:=qT (xs:=a1) k0 (gJ la1 hk)
  have hyk:Va1[j.toNat]? =some (lc (ao y)):=by rw [hVa1];exact bh hy
  have ci:=gx V y
  rw [←hisN y]at ci
  refine goX hg _ k0 hyk rfl ?_
  cbv
  cases hik:isN ns y
  ·rw [hik]at ci
   have hDf:D=false:=by rw [hD];exact oe hy (by rw [gL,hik];rfl)
   (first|refine ad hg ci ?_|refine aa hg ci ?_)
   cbv
   exact bj hF (hno (by rw [hnode,hDf];simp)).symm
  rw [hik]at ci
  (first|refine ad hg ci ?_|refine aa hg ci ?_)
  obtain⟨i1,i2,x,hxc⟩:=bF hik
  have hi2:y≤1048576:=Int.le_trans (qy hVx i2) hV1
  have hyc:V[(y-1).toNat]? =some x.ac:=by rw [hV];exact gV hxc
  have hupc:=sj hxc
  obtain⟨c0,c1,⟨c2,c3,c4,c5,c6,c7,c8,c9,c10,c11,c12,⟨c13,c14⟩,⟨c15,c16⟩,⟨c17,c18⟩,⟨c19,c20⟩,⟨c21,c22⟩,⟨c23,c24⟩,⟨c25,c26⟩,c27,⟨⟨c28,c29⟩,⟨c30,c31⟩,⟨c32,c33⟩,⟨c34,c35⟩,⟨c36,c37⟩,⟨c38,c39⟩⟩,⟨⟨c40,c41⟩,⟨c42,c43⟩,⟨c44,c45⟩,⟨c46,c47⟩,⟨c48,c49⟩,⟨c50,c51⟩⟩,⟨c52,c53,c54,c55⟩,⟨c56,c57,c58,c59⟩,c60,c61⟩,c62,⟨c63⟩⟩:=x
  simp only at hupc
  replace hyc:V[(y-1).toNat]? =some [.J c0,.view (vw ao c1),.J c2,.J c3,.J c4,.J c5,.J c6,.J c7,.B c8,.B c9,.J c10,.J c11,.J c12,.J c13,.J c14,.J c15,.J c16,.J c17,.J c18,.J c19,.J c20,.J c21,.J c22,.J c23,.J c24,.J c25,.J c26,.J c27,.J c28,.J c29,.J c30,.J c31,.J c32,.J c33,.J c34,.J c35,.J c36,.J c37,.J c38,.J c39,.J c40,.J c41,.J c42,.J c43,.J c44,.J c45,.J c46,.J c47,.J c48,.J c49,.J c50,.J c51,.J c52,.J c53,.J c54,.J c55,.J c56,.J c57,.J c58,.J c59,.J c60,.J c61,.B c62,.view (vw aJ.c c63)]:=hyc
  obtain⟨Vc1,hVc1⟩:=nmE (vw ao c1)
  obtain⟨Vc63,hVc63⟩:=nmE (vw aJ.c c63)
  rw [←hVc1,←hVc63]at hyc
  cbv
  refine goX hg _ k0 hyk rfl ?_
  cbv
  (first|refine ad hg (dc V y i1 hi2 hyc) ?_|refine aa hg (dc V y i1 hi2 hyc) ?_)
  cbv
  rw [e1]
  cases hq:g .q .neq c0 n
  case true=>
   rw [bk hg,bne_iff_ne]at hq
   have hDf:D=false:=by rw [hD];exact oe hy (by rw [gL,hik,hupc];simpa using hq)
   cbv
   exact bj hF (hno (by rw [hnode,hDf];simp)).symm
  rw [bk hg,zqq]at hq
  have hkok:gL ns n y=true:=by rw [gL,hik,hupc];simpa using hq
  cbv
  have e3:g .w .add .i64 j 1=j+1:=by rw [aM hg,aC _ (by omega)]
  rw [e3]
  exact gX hB2 (j+1) [some 0,some 1] (wkS [0,1] (by decide) ⟨⟨_,rfl,rfl,rfl⟩,⟨_,rfl,rfl,rfl⟩,trivial⟩ ⟨rfl,rfl,rfl,rfl,trivial⟩) ⟨by omega,by omega,fun i v hi hv=>by
   by_cases hi2:i<j.toNat
   ·exact k2 i v hi2 hv
   ·obtain rfl:i=j.toNat:=by omega
    rw [hy]at hv
    cases hv
    exact hkok⟩ (by omega)
 ·have eu:g .q .neq a0 0=true:=by rw [bk hg];simpa using hu
  have hiu:=hup hu
  obtain⟨u1,u2,xb,hxb⟩:=bF hiu
  have hu2:a0≤1048576:=Int.le_trans (qy hVx u2) hV1
  have hyb:V[(a0-1).toNat]? =some xb.ac:=by rw [hV];exact gV hxb
  have hkb:ue ns a0=xb.kids:=by unfold ue;rw [hxb]
  have hsb:=(hs xb (zqd hxb))
  obtain⟨b0,b1,⟨b2,b3,b4,b5,b6,b7,b8,b9,b10,b11,b12,⟨b13,b14⟩,⟨b15,b16⟩,⟨b17,b18⟩,⟨b19,b20⟩,⟨b21,b22⟩,⟨b23,b24⟩,⟨b25,b26⟩,b27,⟨⟨b28,b29⟩,⟨b30,b31⟩,⟨b32,b33⟩,⟨b34,b35⟩,⟨b36,b37⟩,⟨b38,b39⟩⟩,⟨⟨b40,b41⟩,⟨b42,b43⟩,⟨b44,b45⟩,⟨b46,b47⟩,⟨b48,b49⟩,⟨b50,b51⟩⟩,⟨b52,b53,b54,b55⟩,⟨b56,b57,b58,b59⟩,b60,b61⟩,b62,⟨b63⟩⟩:=xb
  obtain⟨sb1,sb63,-⟩:=hsb
  simp only at hkb
  replace hyb:V[(a0-1).toNat]? =some [.J b0,.view (vw ao b1),.J b2,.J b3,.J b4,.J b5,.J b6,.J b7,.B b8,.B b9,.J b10,.J b11,.J b12,.J b13,.J b14,.J b15,.J b16,.J b17,.J b18,.J b19,.J b20,.J b21,.J b22,.J b23,.J b24,.J b25,.J b26,.J b27,.J b28,.J b29,.J b30,.J b31,.J b32,.J b33,.J b34,.J b35,.J b36,.J b37,.J b38,.J b39,.J b40,.J b41,.J b42,.J b43,.J b44,.J b45,.J b46,.J b47,.J b48,.J b49,.J b50,.J b51,.J b52,.J b53,.J b54,.J b55,.J b56,.J b57,.J b58,.J b59,.J b60,.J b61,.B b62,.view (vw aJ.c b63)]:=hyb
  have cH:=mP b1 n sb1
  obtain⟨Cn,hCn⟩:=nmE (cnt b1 n)
  have hC2:C=decide (Cn=1):=by rw [hC,CH,hkb,hCn];simp [hu]
  rw [←hCn]at cH
  obtain⟨Vb1,hVb1⟩:=nmE (vw ao b1)
  obtain⟨Vb63,hVb63⟩:=nmE (vw aJ.c b63)
  rw [←hVb1,←hVb63]at hyb
  rw [←hVb1]at cH
  cbv
  rw [eu]
  cbv
  (first|refine ad hg (dc V a0 u1 hu2 hyb) ?_|refine aa hg (dc V a0 u1 hu2 hyb) ?_)
  cbv
  rw [e1]
  (first|refine ad hg cH ?_|refine aa hg cH ?_)
  cbv
  cases hcn:g .q .neq Cn 1
  case true=>
   rw [bk hg,bne_iff_ne]at hcn
   have hCf:C=false:=by rw [hC2];simpa using hcn
   cbv
   exact bj hF (hno (by rw [hnode,hCf];simp)).symm
  rw [bk hg,zqq]at hcn
  have hCt:C=true:=by rw [hC2,hcn];rfl
  cbv
  refine bU hg aD (by kernel_rfl) (fun j:Int=>[(1,.p 0),(3,.i z),(4,.p 1),(5,.i j)]) (fun _=>[.bx 32 1 [.view V],.bx 148 64 [.J a0,.view Va1,.J a2,.J a3,.J a4,.J a5,.J a6,.J a7,.B a8,.B a9,.J a10,.J a11,.J a12,.J a13,.J a14,.J a15,.J a16,.J a17,.J a18,.J a19,.J a20,.J a21,.J a22,.J a23,.J a24,.J a25,.J a26,.J a27,.J a28,.J a29,.J a30,.J a31,.J a32,.J a33,.J a34,.J a35,.J a36,.J a37,.J a38,.J a39,.J a40,.J a41,.J a42,.J a43,.J a44,.J a45,.J a46,.J a47,.J a48,.J a49,.J a50,.J a51,.J a52,.J a53,.J a54,.J a55,.J a56,.J a57,.J a58,.J a59,.J a60,.J a61,.B a62,.view Va63]]) (fun j:Int=>0≤j∧j≤bg Va1∧∀(i:Nat)(v:Int),i<j.toNat→a1[i]? =some v→gL ns n v=true) (fun j=>(bg Va1).toNat-j.toNat)
   0 [some 0,some 1] ⟨Int.le_refl 0,pa1,fun i v hi=>by simp at hi⟩ (wkS [0,1] (by decide) ⟨⟨_,rfl,rfl,rfl⟩,⟨_,rfl,rfl,rfl⟩,trivial⟩ ⟨rfl,rfl,rfl,rfl,trivial⟩) (fun j B2 hst2 hB2=> ?_)
  obtain⟨k0,k1,k2⟩:=hst2
  cbv
  cases hk:g .q .lss j (g .ln Va1)
  ·rw [bn hg,bD hg,zqo]at hk
   have hDt:D=true:=by rw [hD];exact wJ la1 (by omega) k2
   replace hnode:OK=E:=by rw [hnode,hCt,hDt];simp
   cases a62
   ·replace hE2:E= !(decide (0<bg Va63)):=by rw [hE2];simp
    cbv
    cases ht:g .q .gtr (g .ln Va63) 0
    case true=>
     rw [cj hg,bD hg,zqp]at ht
     cbv
     exact bj hF (hno (by rw [hnode,hE2];simpa using ht)).symm
    rw [cj hg,bD hg,zqo]at ht
    have hOKt:OK=true:=by rw [hnode,hE2];simpa using ht
    cbv
    rw [e1,hn]
    exact gX hB (z+1) [some 0] (wkS [0] (by decide) ⟨⟨_,rfl,rfl,rfl⟩,trivial⟩ ⟨rfl,rfl,trivial⟩) ⟨by omega,by omega,fun i y hi hy=>h1' i y hi hy hOKt⟩ (by omega)
   ·replace hE2:E= !(!TK||decide (0<bg Va1)):=by rw [hE2];simp
    cbv
    (first|refine ad hg cT ?_|refine aa hg cT ?_)
    cases TK
    case false=>
     cbv
     exact bj hF (hno (by rw [hnode,hE2];rfl)).symm
    cbv
    cases ht:g .q .gtr (g .ln Va1) 0
    case true=>
     rw [cj hg,bD hg,zqp]at ht
     cbv
     exact bj hF (hno (by rw [hnode,hE2];simpa using ht)).symm
    rw [cj hg,bD hg,zqo]at ht
    have hOKt:OK=true:=by rw [hnode,hE2];simpa using ht
    cbv
    rw [e1,hn]
    exact gX hB (z+1) [some 0] (wkS [0] (by decide) ⟨⟨_,rfl,rfl,rfl⟩,trivial⟩ ⟨rfl,rfl,trivial⟩) ⟨by omega,by omega,fun i y hi hy=>h1' i y hi hy hOKt⟩ (by omega)
  rw [bn hg,bD hg,zqp]at hk
  cbv
  obtain⟨y,hy⟩:=qT (xs:=a1) k0 (gJ la1 hk)
  have hyk:Va1[j.toNat]? =some (lc (ao y)):=by rw [hVa1];exact bh hy
  have ci:=gx V y
  rw [←hisN y]at ci
  refine goX hg _ k0 hyk rfl ?_
  cbv
  cases hik:isN ns y
  ·rw [hik]at ci
   have hDf:D=false:=by rw [hD];exact oe hy (by rw [gL,hik];rfl)
   (first|refine ad hg ci ?_|refine aa hg ci ?_)
   cbv
   exact bj hF (hno (by rw [hnode,hDf];simp)).symm
  rw [hik]at ci
  (first|refine ad hg ci ?_|refine aa hg ci ?_)
  obtain⟨i1,i2,x,hxc⟩:=bF hik
  have hi2:y≤1048576:=Int.le_trans (qy hVx i2) hV1
  have hyc:V[(y-1).toNat]? =some x.ac:=by rw [hV];exact gV hxc
  have hupc:=sj hxc
  obtain⟨c0,c1,⟨c2,c3,c4,c5,c6,c7,c8,c9,c10,c11,c12,⟨c13,c14⟩,⟨c15,c16⟩,⟨c17,c18⟩,⟨c19,c20⟩,⟨c21,c22⟩,⟨c23,c24⟩,⟨c25,c26⟩,c27,⟨⟨c28,c29⟩,⟨c30,c31⟩,⟨c32,c33⟩,⟨c34,c35⟩,⟨c36,c37⟩,⟨c38,c39⟩⟩,⟨⟨c40,c41⟩,⟨c42,c43⟩,⟨c44,c45⟩,⟨c46,c47⟩,⟨c48,c49⟩,⟨c50,c51⟩⟩,⟨c52,c53,c54,c55⟩,⟨c56,c57,c58,c59⟩,c60,c61⟩,c62,⟨c63⟩⟩:=x
  simp only at hupc
  replace hyc:V[(y-1).toNat]? =some [.J c0,.view (vw ao c1),.J c2,.J c3,.J c4,.J c5,.J c6,.J c7,.B c8,.B c9,.J c10,.J c11,.J c12,.J c13,.J c14,.J c15,.J c16,.J c17,.J c18,.J c19,.J c20,.J c21,.J c22,.J c23,.J c24,.J c25,.J c26,.J c27,.J c28,.J c29,.J c30,.J c31,.J c32,.J c33,.J c34,.J c35,.J c36,.J c37,.J c38,.J c39,.J c40,.J c41,.J c42,.J c43,.J c44,.J c45,.J c46,.J c47,.J c48,.J c49,.J c50,.J c51,.J c52,.J c53,.J c54,.J c55,.J c56,.J c57,.J c58,.J c59,.J c60,.J c61,.B c62,.view (vw aJ.c c63)]:=hyc
  obtain⟨Vc1,hVc1⟩:=nmE (vw ao c1)
  obtain⟨Vc63,hVc63⟩:=nmE (vw aJ.c c63)
  rw [←hVc1,←hVc63]at hyc
  cbv
  refine goX hg _ k0 hyk rfl ?_
  cbv
  (first|refine ad hg (dc V y i1 hi2 hyc) ?_|refine aa hg (dc V y i1 hi2 hyc) ?_)
  cbv
  rw [e1]
  cases hq:g .q .neq c0 n
  case true=>
   rw [bk hg,bne_iff_ne]at hq
   have hDf:D=false:=by rw [hD];exact oe hy (by rw [gL,hik,hupc];simpa using hq)
   cbv
   exact bj hF (hno (by rw [hnode,hDf];simp)).symm
  rw [bk hg,zqq]at hq
  have hkok:gL ns n y=true:=by rw [gL,hik,hupc];simpa using hq
  cbv
  have e3:g .w .add .i64 j 1=j+1:=by rw [aM hg,aC _ (by omega)]
  rw [e3]
  exact gX hB2 (j+1) [some 0,some 1] (wkS [0,1] (by decide) ⟨⟨_,rfl,rfl,rfl⟩,⟨_,rfl,rfl,rfl⟩,trivial⟩ ⟨rfl,rfl,rfl,rfl,trivial⟩) ⟨by omega,by omega,fun i v hi hv=>by
   by_cases hi2:i<j.toNat
   ·exact k2 i v hi2 hv
   ·obtain rfl:i=j.toNat:=by omega
    rw [hy]at hv
    cases hv
    exact hkok⟩ (by omega)
end Go.Proofs.YtdnnffbbhijmkaaGreat
