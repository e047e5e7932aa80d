/- A part of AM, a framework of the prover own: functions of any program as maps of data. -/
import Derived.Test.YtckchgoblpgpbaaGreatJ8ac
set_option linter.unusedVariables false
set_option linter.unusedSimpArgs false
set_option maxHeartbeats 1600000
namespace Go.Proofs.YtckchgoblpgpbaaGreat.Am
open Go.RowKit
theorem dy{α:Type}:∀(l:List α),mU l=l.length
 | []=>rfl
 |_::l=>by simp [mU,dy l]
theorem nA{α:Type}:∀(l:List α)(n:Nat)(y:α),Cs l n y=l.set n y
 | [],n,y=>by simp [Cs]
 |_::l,0,y=>by simp [Cs]
 |_::l,n+1,y=>by simp [Cs,nA l n y]
theorem ma:∀(l:List Value),si l=l.map .imm
 | []=>rfl
 |v::l=>by simp [si,ma l]
theorem mI:∀(l:List Value),sY l=l.all one
 | []=>rfl
 |v::l=>by simp only [sY,zqD];cases one v<;>simp [mI l]
theorem C2(x:List AC):∀(n:Nat),J7 x n=List.replicate n x
 |0=>rfl
 |n+1=>by simp [J7,C2 x n,List.replicate_succ]
theorem rR:∀(cs:List AC)(d:Nat)(ys:List AC),d+ys.length<=cs.length->tR cs d ys=pe cs d ys
 |cs,d,[],_=>by cases cs<;>cases d<;>simp [tR,pe]
 | [],d,y::ys,h=>by simp at h
 |c::cs,0,y::ys,h=>by
  have:=rR cs 0 ys (by simp at h⊢;omega)
  simp only [tR,this,pe]
  simp
 |c::cs,d+1,y::ys,h=>by
  have:=rR cs d (y::ys) (by simp at h⊢;omega)
  simp only [tR,this,pe]
  simp [Nat.add_right_comm]
  rw [show d+1+(ys.length+1)=d+(ys.length+1)+1 by omega]
  simp
theorem DV:∀(x:List AC)(d k:Nat),Iz x d k=(x.drop d).take k
 |x,0,k=>by simp [Iz]
 | [],d+1,k=>by simp [Iz]
 |c::x,d+1,k=>by simp [Iz,DV x d k]
theorem bV(h:EH):(toH h).length=h.length:=by simp [toH]
theorem o4(h h':EH):toH (h++h')=toH h++toH h':=by simp [toH]
theorem vA(h:EH)(r:Nat)(e:EE):toH (h.set r e)=(toH h).set r e.e:=by simp [toH,List.map_set]
variable {h:EH}
theorem uV{r t k:Nat}{x:List AC}(he:nth h r=some (.bx t k x)):(toH h)[r]? =some (.live ⟨t,k,[x]⟩):=by
 rw [fF]at he;simp [toH,he,EE.e]
theorem f9{r:Nat}{ab:AB}(he:nth h r=some (.rw ab)):(toH h)[r]? =some (.live ab):=by
 rw [fF]at he;simp [toH,he,EE.e]
theorem Bf{r:Nat}(he:EE.isLive (nth h r)=true):∃ab,(toH h)[r]? =some (.live ab):=by
 unfold EE.isLive at he
 split at he
 ·exact⟨_,uV (by assumption)⟩
 ·exact⟨_,f9 (by assumption)⟩
 ·cases he
theorem Ja(h:EH)(c:AC):okG h c=okc (toH h) c:=by
 have ha:∀r,EE.isLive (nth h r)=(match (toH h)[r]? with|some (.live _)=>true|_=>false):=fun r=>by
  rw [fF]
  simp only [toH,zqi]
  cases h[r]? with
  |none=>rfl
  |some e=>cases e<;>rfl
 cases c<;>simp only [okG,okc]<;>exact ha _
theorem oZ(h:EH):∀(l:List AC),zV h l=l.all (okc (toH h))
 | []=>rfl
 |c::l=>by simp only [zV,zqD,Ja];cases okc (toH h) c<;>simp [oZ h l]
variable {a b:Nat}
theorem bt(h:Nat.beq a b=true):a=b:=Nat.eq_of_beq_eq_true h
theorem bl(h:Nat.ble a b=true):a<=b:=Nat.le_of_ble_eq_true h
theorem blt(h:Nat.blt a b=true):a<b:=Nat.le_of_ble_eq_true h
section
variable {P:Program}{tab:List (TypeId × TI)}{n0 N:Nat}{T:Nat->AV}{h:EH}{n:Nat}
variable {t:TypeId}
theorem fL.info(hf:fL P tab){i:TI}(h:ti tab t=some i):uY P t=some i:=fL.at_ hf.ok h
theorem fL.fld(hf:fL P tab){i d:Nat}{u:TypeId}(h:((ti tab t).bind fun j=>nth j.flds i)=some (some (d,u))):kK P t i=some (d,u):=by
 cases hi:ti tab t with
 |none=>rw [hi]at h;cases h
 |some j=>rw [hi]at h;exact(dq (hf.info hi)).2.2.2.1 i d u h
theorem fL.elem(hf:fL P tab){e:TypeId×Nat×Nat}(h:((ti tab t).bind (·.elem))=some e):gB P t=some e:=by
 cases hi:ti tab t with
 |none=>rw [hi]at h;cases h
 |some j=>rw [hi]at h;exact(dq (hf.info hi)).2.2.2.2.1.trans h
theorem fL.int(hf:fL P tab){k:IntKind}(h:((ti tab t).bind (·.kd))=some (some k)):P.underlying t=some (.int k):=by
 cases hi:ti tab t with
 |none=>rw [hi]at h;cases h
 |some j=>rw [hi]at h;exact(dq (hf.info hi)).2.2.2.2.2.2.2 k h
theorem mg{q:Option Nat}{x:List AC}{off:Nat}{K K':AV->Prop}(hl:ldG q x off K)(hk:∀v,K v->K' v):ldA q x off K':=by
 unfold ldG at hl
 unfold ldA
 split at hl
 ·rename_i q
  split at hl
  ·rename_i c hc;exact⟨c,by rw [<-fF];exact hc,hk _ hl⟩
  ·exact hl.elim
 ·rename_i q k
  split at hl
  ·rename_i hb;rw [DV]at hl;exact⟨by have:=bl hb;rwa [dy]at this,hk _ hl⟩
  ·exact hl.elim
theorem sM(hf:fL P tab){t:TypeId}{i:TI}(hi:ti tab t=some i):∀(ps:List (Nat×Operand))(cs:List AC)(K:List AC->Prop)(K':List AC->Prop),(∀cs,K cs->K' cs)->FA tab T h i.flds ps cs K->kJ P T (toH h) t ps cs K'
 | [],cs,K,K',hk,hp=>hk _ hp
 |(j,x)::ps,cs,K,K',hk,hp=>by
  unfold FA at hp
  unfold kJ
  split at hp
  ·rename_i y hy
   rw [hy]
   split at hp
   ·rename_i d u hd
    rw [(dq (hf.info hi)).2.2.2.1 j d u hd]
    split at hp
    ·rename_i l hl
     split at hp
     ·rename_i h1
      split at hp
      ·rename_i h2
       split at hp
       ·rename_i h3
        have h1:=bt h1
        have h2:=bl h2
        simp only [dy]at h1 h2
        rw [rR _ _ _ h2]at hp
        rw [oZ]at h3
        exact⟨by rw [(dq (hf.info hl)).2.2.1,h1],h2,h3,sM hf hi ps _ K K' hk hp⟩
       ·exact hp.elim
      ·exact hp.elim
     ·exact hp.elim
    ·exact hp.elim
   ·exact hp.elim
  ·exact hp.elim
theorem qe{k:Nat}:∀(ps:List (Nat×Operand))(es:LLA)(K K':LLA->Prop),(∀es,K es->K' es)->Bo T h k ps es K->kI T (toH h) k ps es K'
 | [],cs,K,K',hk,hp=>hk _ hp
 |(j,x)::ps,cs,K,K',hk,hp=>by
  unfold Bo at hp
  unfold kI
  split at hp
  ·rename_i y hy
   rw [hy]
   split at hp
   ·rename_i h1
    split at hp
    ·rename_i h2
     split at hp
     ·rename_i h3
      have h1:=bt h1
      have h2:=blt h2
      simp only [dy]at h1 h2
      rw [nA]at hp
      rw [oZ]at h3
      exact⟨h1,h2,h3,qe ps _ K K' hk hp⟩
     ·exact hp.elim
    ·exact hp.elim
   ·exact hp.elim
  ·exact hp.elim
def Kof(K:AV->EH->Prop)(res:AV)(rows:List AB):Prop:=∃es:EH,toH es=rows.map .live/\K res es
variable {K:AV->EH->Prop}{res:AV}
theorem Kof.nil(h:K res []):Kof K res []:=⟨[],rfl,h⟩
theorem Kof.bx{t k:Nat}{x:List AC}(h:K res [.bx t k x]):Kof K res [⟨t,k,[x]⟩]:=⟨_,rfl,h⟩
theorem Kof.rw{ab:AB}(h:K res [.rw ab]):Kof K res [ab]:=⟨_,rfl,h⟩
variable {lo:Option Operand}
theorem AR(h:opI T lo=some none):lo=none:=by
 cases lo with
 |none=>rfl
 |some x=>simp only [opI]at h;split at h<;>cases h
theorem AQ{z:Int}(h:opI T lo=some (some z)):∃x k,lo=some x/\ev T x= .t (.c (.imm (.int k z))):=by
 cases lo with
 |none=>cases h
 |some x=>
  simp only [opI]at h
  split at h
  ·rename_i k z' hx;cases h;exact⟨x,k,rfl,hx⟩
  ·cases h
variable {zo:Option Int}
theorem vJ(h:opI T lo=some zo){a:Nat}(ha:match (generalizing:=false) zo with|none=>a=0|some z=>0<=z/\a=z.toNat):(match (generalizing:=false) lo with|none=>a=0|some l=>match ev T l with| .t (.c (.imm (.int _ z)))=>0<=z/\a=z.toNat|_=>False):=by
 cases zo with
 |none=>rw [AR h];exact ha
 |some z=>obtain⟨x,k,rfl,hx⟩:=AQ h;simp only [hx];exact ha
theorem vK{hi:Option Operand}(h:opI T hi=some zo){b len:Nat}(ha:match (generalizing:=false) zo with|none=>b=len|some z=>0<=z/\b=z.toNat):(match (generalizing:=false) hi with|none=>b=len|some l=>match ev T l with| .t (.c (.imm (.int _ z)))=>0<=z/\b=z.toNat|_=>False):=by
 cases zo with
 |none=>rw [AR h];exact ha
 |some z=>obtain⟨x,k,rfl,hx⟩:=AQ h;simp only [hx];exact ha
theorem B8{β:BP}(hf:fL P tab){op:BinOp}{t u:TypeId}{x y:Operand}(hp:mP (G0 P n0 N) tab T h n (.binOp op t x y u) K):pop P T (toH h) n (.binOp op t x y u) (Kof K):=by
 simp only [mP]at hp
 simp only [pop]
 split at hp
 ·rename_i k a hx
  split at hp
  ·rename_i k' b hy
   rw [hx,hy]
   simp only
   split at hp
   ·rename_i hk
    obtain rfl:=Jm hk
    cases op<;>first
     |exact hp.elim
     |exact⟨_,by simp only [bo];rw [if_pos trivial];rfl,Kof.nil hp⟩
     |exact⟨_,by simp only [bo];rw [if_pos trivial,if_neg hp.1];rfl,Kof.nil hp.2⟩
   ·cases op<;>first
     |exact hp.elim
     |exact⟨_,by simp only [bo];rw [if_neg (by have:=hp.1;omega)];rfl,Kof.nil hp.2⟩
  ·exact hp.elim
 ·rename_i a hx
  split at hp
  ·rename_i b hy
   rw [hx,hy]
   simp only
   split at hp
   ·rename_i hk
    have hu:P.underlying t=some .bool:=by
     cases hi:ti tab t with
     |none=>rw [hi]at hk;cases hk
     |some j=>rw [hi]at hk;exact(dq (hf.info hi)).2.2.2.2.2.2.1 (by simpa using hk)
    cases op<;>first
     |exact hp.elim
     |exact⟨hu,_,rfl,Kof.nil hp⟩
   ·exact hp.elim
  ·exact hp.elim
 ·rename_i xs hx
  split at hp
  ·rename_i ys hy
   rw [hx,hy]
   obtain⟨h1,h2,us,vs,r,h3,h4,h5,h6⟩:=hp
   refine⟨h1,h2,us,vs,r,h3,h4,h5,?_⟩
   cases op<;>first
    |exact h6.elim
    |exact Kof.nil h6
  ·exact hp.elim
 ·exact hp.elim
theorem C6{β:BP}(hf:fL P tab){x:Operand}(hp:mP (G0 P n0 N) tab T h n (.load t x) K):pop P T (toH h) n (.load t x) (Kof K):=by
 simp only [mP]at hp
 simp only [pop]
 split at hp
 ·rename_i i hi
  rw [(dq (hf.info hi)).1]
  split at hp
  ·rename_i r e off hx
   rw [hx]
   simp only
   split at hp
   ·rename_i a b y hr
    rw [uV hr]
    split at hp
    ·exact⟨y,rfl,mg hp fun v hv=>Kof.nil hv⟩
    ·exact hp.elim
   ·rename_i ab hr
    rw [f9 hr]
    obtain⟨y,hy,hp⟩:=hp
    exact⟨y,hy,mg hp fun v hv=>Kof.nil hv⟩
   ·exact hp.elim
  ·rename_i cs off hx
   rw [hx]
   exact mg hp fun v hv=>Kof.nil hv
  ·exact hp.elim
 ·exact hp.elim
theorem tU{β:BP}(hf:fL P tab){x:Operand}{i:Nat}(hp:mP (G0 P n0 N) tab T h n (.fieldAddr t x i) K):pop P T (toH h) n (.fieldAddr t x i) (Kof K):=by
 simp only [mP]at hp
 simp only [pop]
 split at hp
 ·rename_i d u hd
  rw [hf.fld hd]
  split at hp
  ·rename_i r j off hx
   rw [hx]
   split at hp
   ·rename_i hl
    obtain⟨ab,ha⟩:=Bf hl
    simp only [ha]
    exact Kof.nil hp
   ·exact hp.elim
  ·rename_i cs off hx
   rw [hx]
   exact Kof.nil hp
  ·exact hp.elim
 ·exact hp.elim
theorem B6{β:BP}(hf:fL P tab){x:Operand}{i:Nat}(hp:mP (G0 P n0 N) tab T h n (.field t x i) K):pop P T (toH h) n (.field t x i) (Kof K):=by
 simp only [mP]at hp
 simp only [pop]
 split at hp
 ·rename_i d u hd
  rw [hf.fld hd]
  split at hp
  ·rename_i xs hx
   rw [hx]
   split at hp
   ·rename_i j hj
    simp only [(dq (hf.info hj)).1]
    exact mg hp fun v hv=>Kof.nil hv
   ·exact hp.elim
  ·exact hp.elim
 ·exact hp.elim
theorem tS{β:BP}(hf:fL P tab){x i:Operand}(hp:mP (G0 P n0 N) tab T h n (.indexAddr t x i) K):pop P T (toH h) n (.indexAddr t x i) (Kof K):=by
 simp only [mP]at hp
 simp only [pop]
 split at hp
 ·rename_i e k by_ hd
  rw [hf.elem hd]
  split at hp
  ·rename_i kk z hz
   rw [hz]
   split at hp
   ·rename_i xs hx
    rw [hx]
    obtain⟨h1,y,h2,h3,h4⟩:=hp
    exact⟨h1,y,h2,h3,Kof.nil h4⟩
   ·rename_i r hx
    rw [hx]
    split at hp
    ·rename_i ab hr
     split at hp
     ·rename_i hb
      simp only [f9 hr]
      exact⟨bt hb,hp.1,hp.2.1,Kof.nil hp.2.2⟩
     ·exact hp.elim
    ·exact hp.elim
   ·rename_i r lo m hx
    rw [hx]
    split at hp
    ·rename_i ab hr
     split at hp
     ·rename_i hb
      simp only [f9 hr]
      exact⟨bt hb,hp.1,hp.2.1,Kof.nil hp.2.2⟩
     ·exact hp.elim
    ·exact hp.elim
   ·exact hp.elim
  ·exact hp.elim
 ·exact hp.elim
theorem C4{β:BP}(hf:fL P tab){x y:Operand}(hp:mP (G0 P n0 N) tab T h n (.makeSlice t x y) K):pop P T (toH h) n (.makeSlice t x y) (Kof K):=by
 simp only [mP]at hp
 simp only [pop]
 split at hp
 ·rename_i a hx
  split at hp
  ·rename_i b hy
   rw [hx,hy]
   split at hp
   ·rename_i e k by_ hd
    rw [hf.elem hd]
    split at hp
    ·rename_i j hj
     split at hp
     ·rename_i h1
      split at hp
      ·rename_i h2
       split at hp
       ·rename_i h3
        obtain⟨⟨g1,g2,g3,g4⟩,hp⟩:=hp
        have h1:=bt h1
        have h2:=blt h2
        rw [dy]at h1
        rw [mI]at h3
        refine⟨g1,g2,g3,g4,j.zero,(dq (hf.info hj)).2.1,h1,h2,h3,?_⟩
        rw [ma]at hp
        exact Kof.rw hp
       ·exact hp.elim
      ·exact hp.elim
     ·exact hp.elim
    ·exact hp.elim
   ·exact hp.elim
  ·exact hp.elim
 ·exact hp.elim
variable {ps:Array (Nat×Operand)}
theorem B7{β:BP}(hf:fL P tab)(hp:mP (G0 P n0 N) tab T h n (.build t ps) K):pop P T (toH h) n (.build t ps) (Kof K):=by
 simp only [mP]at hp
 simp only [pop]
 split at hp
 ·rename_i i hi
  split at hp
  ·rename_i h1
   split at hp
   ·rename_i h2
    rw [mI]at h2
    rw [ma]at hp
    rw [(dq (hf.info hi)).2.1,(dq (hf.info hi)).2.2.2.2.2.1]
    exact⟨h1,h2,sM hf hi _ _ _ _ (fun cs hc=>Kof.nil hc) hp⟩
   ·exact hp.elim
  ·exact hp.elim
 ·exact hp.elim
theorem rX{β:BP}(hf:fL P tab){len:Nat}(hp:mP (G0 P n0 N) tab T h n (.buildSlice t len ps) K):pop P T (toH h) n (.buildSlice t len ps) (Kof K):=by
 simp only [mP]at hp
 simp only [pop]
 split at hp
 ·rename_i e k by_ hd
  rw [hf.elem hd]
  split at hp
  ·rename_i j hj
   split at hp
   ·rename_i h1
    split at hp
    ·rename_i h2
     split at hp
     ·rename_i h3
      split at hp
      ·rename_i h4
       have h1:=bt h1
       have h2:=blt h2
       have h3:=bl h3
       rw [dy]at h1
       rw [mI]at h4
       rw [C2,ma]at hp
       exact⟨j.zero,(dq (hf.info hj)).2.1,h1,h2,h3,h4,qe _ _ _ _ (fun es he=>Kof.rw he) hp⟩
      ·exact hp.elim
     ·exact hp.elim
    ·exact hp.elim
   ·exact hp.elim
  ·exact hp.elim
 ·exact hp.elim
theorem B5{β:BP}(hf:fL P tab){x:Operand}{lo hi mx:Option Operand}(hp:mP (G0 P n0 N) tab T h n (.slice t x lo hi mx) K):pop P T (toH h) n (.slice t x lo hi mx) (Kof K):=by
 cases mx with
 |some _=>exact hp.elim
 |none=>
  simp only [mP]at hp
  simp only [pop]
  split at hp
  ·rename_i e k by_ hd
   rw [hf.elem hd]
   split at hp
   ·rename_i zlo hlo
    split at hp
    ·rename_i zhi hhi
     split at hp
     ·rename_i hx
      rw [hx]
      obtain⟨h1,a,b,h2,h3,h4,h5,h6⟩:=hp
      exact⟨a,b,vJ hlo h2,vK hhi h3,h4,h5,Kof.nil h6⟩
     ·rename_i xs hx
      rw [hx]
      obtain⟨h1,a,b,h2,h3,h4,h5,h6⟩:=hp
      exact⟨a,b,vJ hlo h2,vK hhi h3,h4,h5,h1,Kof.nil h6⟩
     ·rename_i r hx
      rw [hx]
      split at hp
      ·rename_i ab hr
       split at hp
       ·rename_i hb
        obtain⟨a,b,h2,h3,h4,h5,h6⟩:=hp
        simp only [Cb,f9 hr]
        exact⟨a,b,vJ hlo h2,vK hhi h3,h4,h5,bt hb,Kof.nil h6⟩
       ·exact hp.elim
      ·exact hp.elim
     ·exact hp.elim
    ·exact hp.elim
   ·exact hp.elim
  ·exact hp.elim
theorem C7{β:BP}(hf:fL P tab){c:Call}(hp:mP (G0 P n0 N) tab T h n (.call c) K):pop P T (toH h) n (.call c) (Kof K):=by
 simp only [mP]at hp
 simp only [pop]
 split at hp
 ·rename_i hc
  split at hp
  ·rename_i x hx
   split at hp
   ·rename_i t ht
    rw [hc,hx,ht]
    split at hp
    ·rename_i e he
     simp only [hf.elem he]
     split at hp
     ·rename_i hv;rw [hv];exact⟨0,rfl,Kof.nil hp⟩
     ·rename_i xs hv;rw [hv];exact⟨_,rfl,Kof.nil hp⟩
     ·rename_i r hv
      rw [hv]
      split at hp
      ·rename_i ab hr
       exact⟨ab.es.length,by simp only [Cb,f9 hr],Kof.nil hp⟩
      ·exact hp.elim
     ·rename_i r lo m hv
      rw [hv]
      split at hp
      ·rename_i ab hr
       exact⟨m,by simp only [Cb,f9 hr],Kof.nil hp⟩
      ·exact hp.elim
     ·exact hp.elim
    ·exact hp.elim
   ·exact hp.elim
  ·exact hp.elim
 ·rename_i hc
  split at hp
  ·rename_i x y hxy
   split at hp
   ·rename_i a hx
    split at hp
    ·rename_i b hy
     simp only [hc,hxy,hx,hy]
     exact Kof.nil hp
    ·exact hp.elim
   ·exact hp.elim
  ·exact hp.elim
 ·rename_i hc
  split at hp
  ·rename_i x y hxy
   split at hp
   ·rename_i a hx
    split at hp
    ·rename_i b hy
     simp only [hc,hxy,hx,hy]
     exact Kof.nil hp
    ·exact hp.elim
   ·exact hp.elim
  ·exact hp.elim
 ·exact hp.elim
theorem B4{β:BP}(hf:fL P tab){o:Op}(hp:mP (G0 P n0 N) tab T h n o K):pop P T (toH h) n o (Kof K):=by
 cases o<;>first
  |exact hp.elim
  |exact B8 hf hp
  |exact C6 hf hp
  |exact tU hf hp
  |exact B6 hf hp
  |exact tS hf hp
  |exact C4 hf hp
  |exact B7 hf hp
  |exact rX hf hp
  |exact B5 hf hp
  |exact C7 hf hp
  |exact Kof.nil hp
  |skip
 case pick c a b=>
  simp only [mP]at hp
  simp only [pop]
  split at hp
  ·rename_i q hq
   rw [hq]
   cases q
   ·exact⟨fun hb=>(by cases hb),fun _=>Kof.nil hp⟩
   ·exact⟨fun _=>Kof.nil hp,fun hb=>(by cases hb)⟩
  ·exact hp.elim
 case alloc t=>
  simp only [mP]at hp
  simp only [pop]
  split at hp
  ·rename_i i hi
   split at hp
   ·rename_i h1
    split at hp
    ·rename_i h2
     have h1:=bt h1
     rw [dy]at h1
     rw [mI]at h2
     rw [ma]at hp
     rw [(dq (hf.info hi)).2.1,(dq (hf.info hi)).2.2.1]
     exact⟨h1,h2,Kof.bx hp⟩
    ·exact hp.elim
   ·exact hp.elim
  ·exact hp.elim
 case box t x=>
  simp only [mP]at hp
  simp only [pop]
  split at hp
  ·rename_i y hy
   split at hp
   ·rename_i i hi
    split at hp
    ·rename_i h1
     split at hp
     ·rename_i h2
      have h1:=bt h1
      rw [dy]at h1
      rw [oZ]at h2
      rw [hy,(dq (hf.info hi)).2.2.1]
      exact⟨h1,h2,Kof.bx hp⟩
     ·exact hp.elim
    ·exact hp.elim
   ·exact hp.elim
  ·exact hp.elim
 case unOp op t x=>
  simp only [mP]at hp
  simp only [pop]
  split at hp
  ·rename_i k a hx
   rw [hx]
   split at hp
   ·exact⟨_,rfl,Kof.nil hp⟩
   ·exact hp.elim
  ·rename_i a hx
   rw [hx]
   split at hp
   ·refine⟨_,rfl,?_⟩
    cases a<;>exact Kof.nil hp
   ·exact hp.elim
  ·exact hp.elim
 case extract x i=>
  simp only [mP]at hp
  simp only [pop]
  split at hp
  ·rename_i xs hx
   rw [hx]
   split at hp
   ·rename_i y hy
    exact⟨y,by rw [<-fF];exact hy,Kof.nil hp⟩
   ·exact hp.elim
  ·exact hp.elim
 case nilCheck x=>
  simp only [mP]at hp
  simp only [pop]
  split at hp
  ·rename_i r i off hx
   rw [hx]
   split at hp
   ·rename_i hl
    obtain⟨ab,ha⟩:=Bf hl
    simp only [ha]
    exact Kof.nil hp
   ·exact hp.elim
  ·rename_i cs off hx
   rw [hx]
   exact Kof.nil hp
  ·rename_i f rs hx
   rw [hx]
   exact Kof.nil hp
  ·exact hp.elim
 case makeFunc fn first cap=>
  simp only [mP]at hp
  simp only [pop]
  split at hp
  ·split at hp
   ·rename_i f _ hfst
    split at hp
    ·rename_i rs hrs
     rw [hfst,hrs]
     exact Kof.nil hp
    ·exact hp.elim
   ·exact hp.elim
  ·exact hp.elim
 case convert s d x=>
  simp only [mP]at hp
  simp only [pop]
  split at hp
  ·rename_i kk a hx
   rw [hx]
   split at hp
   ·rename_i k1 h1
    split at hp
    ·rename_i k2 h2
     rw [hf.int h1,hf.int h2]
     exact Kof.nil hp
    ·exact hp.elim
   ·exact hp.elim
  ·exact hp.elim
end
section
variable {P:Program}{tab:List (TypeId × TI)}{n0 N:Nat}{T:Nat->AV}{h:EH}{n:Nat}
def Hof(K:AV->EH->Prop)(res:AV)(h':AH):Prop:=∃eh,toH eh=h'/\K res eh
theorem wb{h:AH}{o:Op}{K K':AV->List AB->Prop}(hk:∀r s,K r s->K' r s)(hp:pop P T h n o K):pop P T h n o K':=by
 have fa:∀(t:TypeId)(ps:List (Nat×Operand))(cs:List AC)(K K':List AC->Prop),(∀cs,K cs->K' cs)->kJ P T h t ps cs K->kJ P T h t ps cs K':=by
  intro t ps
  induction ps with
  |nil=>intro cs K K' hk hp;exact hk _ hp
  |cons p ps ih=>
   obtain⟨i,x⟩:=p
   intro cs K K' hk hp
   unfold kJ at hp⊢
   split at hp
   ·exact⟨hp.1,hp.2.1,hp.2.2.1,ih _ _ _ hk hp.2.2.2⟩
   ·exact hp
 have fe:∀(k:Nat)(ps:List (Nat×Operand))(cs:LLA)(K K':LLA->Prop),(∀cs,K cs->K' cs)->kI T h k ps cs K->kI T h k ps cs K':=by
  intro t ps
  induction ps with
  |nil=>intro cs K K' hk hp;exact hk _ hp
  |cons p ps ih=>
   obtain⟨i,x⟩:=p
   intro cs K K' hk hp
   unfold kI at hp⊢
   split at hp
   ·exact⟨hp.1,hp.2.1,hp.2.2.1,ih _ _ _ hk hp.2.2.2⟩
   ·exact hp
 have fl:∀(q:Option Nat)(x:List AC)(off:Nat)(K K':AV->Prop),(∀v,K v->K' v)->ldA q x off K->ldA q x off K':=by
  intro q x off K K' hk hp
  unfold ldA at hp⊢
  cases q with
  |none=>obtain⟨c,h1,h2⟩:=hp;exact⟨c,h1,hk _ h2⟩
  |some k=>exact⟨hp.1,hk _ hp.2⟩
 cases o<;>simp only [pop]at hp⊢ <;>first
  |exact hk _ _ hp
  |exact hp
  |skip
 case pick c a b=>split at hp<;>first|exact⟨fun h=>hk _ _ (hp.1 h),fun h=>hk _ _ (hp.2 h)⟩|exact hp
 case alloc t=>split at hp<;>first|exact⟨hp.1,hp.2.1,hk _ _ hp.2.2⟩|exact hp
 case box t x=>split at hp<;>first|exact⟨hp.1,hp.2.1,hk _ _ hp.2.2⟩|exact hp
 case build t ps=>
  refine⟨hp.1,?_⟩
  obtain⟨_,hp⟩:=hp
  split at hp
  ·exact⟨hp.1,fa _ _ _ _ _ (fun cs hc=>hk _ _ hc) hp.2⟩
  ·exact hp
 case buildSlice t len ps=>
  split at hp
  ·obtain⟨z,h1,h2,h3,h4,h5,h6⟩:=hp
   exact⟨z,h1,h2,h3,h4,h5,fe _ _ _ _ _ (fun cs hc=>hk _ _ hc) h6⟩
  ·exact hp
 case load t x=>
  split at hp
  ·split at hp
   ·obtain⟨y,h1,h2⟩:=hp;exact⟨y,h1,fl _ _ _ _ _ (fun v hv=>hk _ _ hv) h2⟩
   ·exact hp
  ·exact fl _ _ _ _ _ (fun v hv=>hk _ _ hv) hp
  ·exact hp
 case nilCheck x=>
  split at hp
  ·split at hp
   ·exact hk _ _ hp
   ·exact hp
  ·exact hk _ _ hp
  ·exact hk _ _ hp
  ·exact hp
 case binOp op t x y u=>
  split at hp
  ·obtain⟨z,h1,h2⟩:=hp;exact⟨z,h1,hk _ _ h2⟩
  ·obtain⟨h0,z,h1,h2⟩:=hp;exact⟨h0,z,h1,hk _ _ h2⟩
  ·obtain⟨h0,h1,us,vs,r,h2,h3,h4,h5⟩:=hp
   refine⟨h0,h1,us,vs,r,h2,h3,h4,?_⟩
   cases op<;>first|exact h5|exact hk _ _ h5
  ·exact hp
 case unOp op t x=>split at hp<;>first|(obtain⟨z,h1,h2⟩:=hp;exact⟨z,h1,hk _ _ h2⟩)|exact hp
 case convert s d x=>split at hp<;>first|exact hk _ _ hp|exact hp
 case makeFunc fn first cap=>split at hp<;>first|exact hk _ _ hp|exact hp
 case makeSlice t l c=>
  split at hp
  ·obtain⟨h1,h2,h3,h4,z,h5,h6,h7,h8,h9⟩:=hp
   exact⟨h1,h2,h3,h4,z,h5,h6,h7,h8,hk _ _ h9⟩
  ·exact hp
 case slice t x lo hi mx=>
  cases mx with
  |some _=>exact hp
  |none=>
   simp only at hp⊢
   split at hp
   ·split at hp
    ·obtain⟨a,b,h1,h2,h3,h4,h5⟩:=hp
     refine⟨a,b,h1,h2,h3,h4,?_⟩
     split at h5
     ·exact hk _ _ h5
     ·exact⟨h5.1,hk _ _ h5.2⟩
     ·split at h5
      ·exact⟨h5.1,hk _ _ h5.2⟩
      ·exact h5
     ·exact h5
    ·exact hp
   ·exact hp
 case fieldAddr t x i=>
  split at hp
  ·split at hp
   ·exact hk _ _ hp
   ·exact hp
  ·exact hk _ _ hp
  ·exact hp
 case field t x i=>
  split at hp
  ·split at hp
   ·exact fl _ _ _ _ _ (fun v hv=>hk _ _ hv) hp
   ·exact hp
  ·exact hp
 case indexAddr t x i=>
  split at hp
  ·obtain⟨h1,y,h2,h3,h4⟩:=hp;exact⟨h1,y,h2,h3,hk _ _ h4⟩
  ·split at hp
   ·exact⟨hp.1,hp.2.1,hp.2.2.1,hk _ _ hp.2.2.2⟩
   ·exact hp
  ·split at hp
   ·exact⟨hp.1,hp.2.1,hp.2.2.1,hk _ _ hp.2.2.2⟩
   ·exact hp
  ·exact hp
 case extract x i=>
  split at hp
  ·obtain⟨y,h1,h2⟩:=hp;exact⟨y,h1,hk _ _ h2⟩
  ·exact hp
 case call c=>
  split at hp
  ·split at hp
   ·obtain⟨m,h1,h2⟩:=hp;exact⟨m,h1,hk _ _ h2⟩
   ·exact hp
  ·split at hp
   ·exact hk _ _ hp
   ·exact hp
  ·split at hp
   ·exact hk _ _ hp
   ·exact hp
  ·exact hp
theorem C3{h:AH}{o:Op}{K:AV->List AB->Prop}(hp:pop P T h n o K):∃res rows,pop P T h n o (fun r s=>r=res/\s=rows)/\K res rows:=by
 have fa:∀(t:TypeId)(ps:List (Nat×Operand))(cs:List AC)(K:List AC->Prop),kJ P T h t ps cs K->∃r,kJ P T h t ps cs (fun x=>x=r)/\K r:=by
  intro t ps
  induction ps with
  |nil=>intro cs K hp;exact⟨cs,rfl,hp⟩
  |cons p ps ih=>
   obtain⟨i,x⟩:=p
   intro cs K hp
   unfold kJ at hp
   split at hp
   ·obtain⟨r,h1,h2⟩:=ih _ _ hp.2.2.2
    refine⟨r,?_,h2⟩
    rename_i y d u h3 h4
    unfold kJ
    rw [h3,h4]
    exact⟨hp.1,hp.2.1,hp.2.2.1,h1⟩
   ·exact hp.elim
 have fe:∀(k:Nat)(ps:List (Nat×Operand))(cs:LLA)(K:LLA->Prop),kI T h k ps cs K->∃r,kI T h k ps cs (fun x=>x=r)/\K r:=by
  intro t ps
  induction ps with
  |nil=>intro cs K hp;exact⟨cs,rfl,hp⟩
  |cons p ps ih=>
   obtain⟨i,x⟩:=p
   intro cs K hp
   unfold kI at hp
   split at hp
   ·obtain⟨r,h1,h2⟩:=ih _ _ hp.2.2.2
    refine⟨r,?_,h2⟩
    rename_i y h3
    unfold kI
    rw [h3]
    exact⟨hp.1,hp.2.1,hp.2.2.1,h1⟩
   ·exact hp.elim
 have fl:∀(q:Option Nat)(x:List AC)(off:Nat)(K:AV->Prop),ldA q x off K->∃r,ldA q x off (fun v=>v=r)/\K r:=by
  intro q x off K hp
  unfold ldA at hp⊢
  cases q with
  |none=>obtain⟨c,h1,h2⟩:=hp;exact⟨_,⟨c,h1,rfl⟩,h2⟩
  |some k=>exact⟨_,⟨hp.1,rfl⟩,hp.2⟩
 cases o<;>simp only [pop]at hp⊢ <;>first
  |exact⟨_,_,⟨rfl,rfl⟩,hp⟩
  |exact hp.elim
  |skip
 case pick c a b=>
  split at hp
  ·rename_i q hq
   cases q
   ·exact⟨_,_,⟨fun h=>(by cases h),fun _=>⟨rfl,rfl⟩⟩,hp.2 rfl⟩
   ·exact⟨_,_,⟨fun _=>⟨rfl,rfl⟩,fun h=>(by cases h)⟩,hp.1 rfl⟩
  ·exact hp.elim
 case alloc t=>
  split at hp
  ·exact⟨_,_,⟨hp.1,hp.2.1,rfl,rfl⟩,hp.2.2⟩
  ·exact hp.elim
 case box t x=>
  split at hp
  ·exact⟨_,_,⟨hp.1,hp.2.1,rfl,rfl⟩,hp.2.2⟩
  ·exact hp.elim
 case build t ps=>
  obtain⟨h0,hp⟩:=hp
  split at hp
  ·rename_i z hz
   obtain⟨r,h1,h2⟩:=fa _ _ _ _ hp.2
   refine⟨_,_,⟨h0,hp.1,?_⟩,h2⟩
   exact(show∀cs K K',(∀c,K c->K' c)->kJ P T h t ps.toList cs K->kJ P T h t ps.toList cs K' from by
    generalize ps.toList=l
    induction l with
    |nil=>intro cs K K' hk hp;exact hk _ hp
    |cons p ps ih=>
     obtain⟨i,x⟩:=p
     intro cs K K' hk hp
     unfold kJ at hp⊢
     split at hp
     ·exact⟨hp.1,hp.2.1,hp.2.2.1,ih _ _ _ hk hp.2.2.2⟩
     ·exact hp) _ _ _ (fun c hc=>by subst hc;exact⟨rfl,rfl⟩) h1
  ·exact hp.elim
 case buildSlice t len ps=>
  split at hp
  ·rename_i e k b he
   obtain⟨z,h1,h2,h3,h4,h5,h6⟩:=hp
   obtain⟨r,h7,h8⟩:=fe _ _ _ _ h6
   refine⟨_,_,⟨z,h1,h2,h3,h4,h5,?_⟩,h8⟩
   exact(show∀cs K K',(∀c,K c->K' c)->kI T h k ps.toList cs K->kI T h k ps.toList cs K' from by
    generalize ps.toList=l
    induction l with
    |nil=>intro cs K K' hk hp;exact hk _ hp
    |cons p ps ih=>
     obtain⟨i,x⟩:=p
     intro cs K K' hk hp
     unfold kI at hp⊢
     split at hp
     ·exact⟨hp.1,hp.2.1,hp.2.2.1,ih _ _ _ hk hp.2.2.2⟩
     ·exact hp) _ _ _ (fun c hc=>by subst hc;exact⟨rfl,rfl⟩) h7
  ·exact hp.elim
 case load t x=>
  have fm:∀(q:Option Nat)(x:List AC)(off:Nat)(r:AV),ldA q x off (fun v=>v=r)->ldA q x off (fun v=>v=r/\([]:List AB)=[]):=by
   intro q x off r hp
   unfold ldA at hp⊢
   cases q with
   |none=>obtain⟨c,h1,h2⟩:=hp;exact⟨c,h1,h2,rfl⟩
   |some k=>exact⟨hp.1,hp.2,rfl⟩
  split at hp
  ·split at hp
   ·rename_i h1 h2 _ ab h3
    obtain⟨y,h4,h5⟩:=hp
    obtain⟨r,h6,h7⟩:=fl _ _ _ _ h5
    exact⟨r,[],⟨y,h4,fm _ _ _ _ h6⟩,h7⟩
   ·exact hp.elim
  ·obtain⟨r,h6,h7⟩:=fl _ _ _ _ hp
   exact⟨r,[],fm _ _ _ _ h6,h7⟩
  ·exact hp.elim
 case nilCheck x=>
  split at hp
  ·split at hp
   ·exact⟨_,_,⟨rfl,rfl⟩,hp⟩
   ·exact hp.elim
  ·exact⟨_,_,⟨rfl,rfl⟩,hp⟩
  ·exact⟨_,_,⟨rfl,rfl⟩,hp⟩
  ·exact hp.elim
 case makeFunc fn first cap=>
  split at hp
  ·exact⟨_,_,⟨rfl,rfl⟩,hp⟩
  ·exact hp.elim
 case binOp op t x y u=>
  split at hp
  ·obtain⟨z,h1,h2⟩:=hp;exact⟨_,_,⟨z,h1,rfl,rfl⟩,h2⟩
  ·obtain⟨h0,z,h1,h2⟩:=hp;exact⟨_,_,⟨h0,z,h1,rfl,rfl⟩,h2⟩
  ·obtain⟨h0,h1,us,vs,r,h2,h3,h4,h5⟩:=hp
   cases op<;>first
    |exact h5.elim
    |exact⟨_,_,⟨h0,h1,us,vs,r,h2,h3,h4,rfl,rfl⟩,h5⟩
  ·exact hp.elim
 case unOp op t x=>
  split at hp
  ·obtain⟨z,h1,h2⟩:=hp;exact⟨_,_,⟨z,h1,rfl,rfl⟩,h2⟩
  ·exact hp.elim
 case convert s d x=>
  split at hp
  ·exact⟨_,_,⟨rfl,rfl⟩,hp⟩
  ·exact hp.elim
 case makeSlice t l c=>
  split at hp
  ·obtain⟨h1,h2,h3,h4,z,h5,h6,h7,h8,h9⟩:=hp
   exact⟨_,_,⟨h1,h2,h3,h4,z,h5,h6,h7,h8,rfl,rfl⟩,h9⟩
  ·exact hp.elim
 case slice t x lo hi mx=>
  cases mx with
  |some _=>exact hp.elim
  |none=>
   simp only at hp⊢
   split at hp
   ·split at hp
    ·rename_i y e k b hx he _ len hl
     obtain⟨a,b,h1,h2,h3,h4,h5⟩:=hp
     cases y<;>first
      |exact h5.elim
      |exact⟨_,_,⟨a,b,h1,h2,h3,h4,rfl,rfl⟩,h5⟩
      |exact⟨_,_,⟨a,b,h1,h2,h3,h4,h5.1,rfl,rfl⟩,h5.2⟩
      |skip
     case own r=>
      simp only at h5
      split at h5
      ·rename_i ab hr
       refine⟨.t (.c (.sub r a (b-a))),[],⟨a,b,h1,h2,h3,h4,?_⟩,h5.2⟩
       show(match h[r]? with|some (.live ab)=>ab.k=k/\AV.t (AT.c (AC.sub r a (b-a)))=AV.t (AT.c (AC.sub r a (b-a)))/\([]:List AB)=[]|_=>False)
       rw [hr]
       exact⟨h5.1,rfl,rfl⟩
      ·exact h5.elim
    ·exact hp.elim
   ·exact hp.elim
 case fieldAddr t x i=>
  split at hp
  ·split at hp
   ·exact⟨_,_,⟨rfl,rfl⟩,hp⟩
   ·exact hp.elim
  ·exact⟨_,_,⟨rfl,rfl⟩,hp⟩
  ·exact hp.elim
 case field t x i=>
  have fm:∀(q:Option Nat)(x:List AC)(off:Nat)(r:AV),ldA q x off (fun v=>v=r)->ldA q x off (fun v=>v=r/\([]:List AB)=[]):=by
   intro q x off r hp
   unfold ldA at hp⊢
   cases q with
   |none=>obtain⟨c,h1,h2⟩:=hp;exact⟨c,h1,h2,rfl⟩
   |some k=>exact⟨hp.1,hp.2,rfl⟩
  split at hp
  ·split at hp
   ·obtain⟨r,h6,h7⟩:=fl _ _ _ _ hp
    exact⟨r,[],fm _ _ _ _ h6,h7⟩
   ·exact hp.elim
  ·exact hp.elim
 case indexAddr t x i=>
  split at hp
  ·obtain⟨h1,y,h2,h3,h4⟩:=hp;exact⟨_,_,⟨h1,y,h2,h3,rfl,rfl⟩,h4⟩
  ·split at hp
   ·exact⟨_,_,⟨hp.1,hp.2.1,hp.2.2.1,rfl,rfl⟩,hp.2.2.2⟩
   ·exact hp.elim
  ·split at hp
   ·exact⟨_,_,⟨hp.1,hp.2.1,hp.2.2.1,rfl,rfl⟩,hp.2.2.2⟩
   ·exact hp.elim
  ·exact hp.elim
 case extract x i=>
  split at hp
  ·obtain⟨y,h1,h2⟩:=hp;exact⟨_,_,⟨y,h1,rfl,rfl⟩,h2⟩
  ·exact hp.elim
 case call c=>
  split at hp
  ·split at hp
   ·obtain⟨m,h1,h2⟩:=hp;exact⟨_,_,⟨m,h1,rfl,rfl⟩,h2⟩
   ·exact hp.elim
  ·split at hp
   ·exact⟨_,_,⟨rfl,rfl⟩,hp⟩
   ·exact hp.elim
  ·split at hp
   ·exact⟨_,_,⟨rfl,rfl⟩,hp⟩
   ·exact hp.elim
  ·exact hp.elim
end
section
variable {P:Program}{tab:List (TypeId × TI)}{n0 N:Nat}{T:Nat->AV}{h:EH}{n:Nat}
theorem CN{β:BP}(hf:fL P tab){t:TypeId}{x y:Operand}{K:EH->Prop}(hp:stG (G0 P n0 N) tab T h t x y K):stA P T (toH h) t x y (fun h'=>∃eh,toH eh=h'/\K eh):=by
 simp only [stG]at hp
 simp only [stA]
 split at hp
 ·rename_i r i off hx
  split at hp
  ·rename_i v hy
   split at hp
   ·rename_i j hj
    rw [hx,hy,(dq (hf.info hj)).2.2.1]
    simp only
    split at hp
    ·rename_i h1
     split at hp
     ·rename_i h2
      have h1:=bt h1
      rw [dy]at h1
      rw [oZ]at h2
      split at hp
      ·rename_i t' k e hr
       split at hp
       ·split at hp
        ·rename_i h3
         have h3:=bl h3
         rw [dy]at h3
         rw [rR _ _ _ (by rw [h1];exact h3),nA]at hp
         rw [uV hr]
         exact⟨e,rfl,h1,h3,h2,_,by rw [vA];rfl,hp⟩
        ·exact hp.elim
       ·exact hp.elim
      ·rename_i ab hr
       split at hp
       ·rename_i hk
        split at hp
        ·obtain⟨⟨e,he,hl⟩,hp⟩:=hp
         have hk:=bt hk
         rw [nA]at hp
         rw [f9 hr]
         have hs:pe e 0 v.cells=v.cells:=by
          unfold pe
          rw [List.drop_of_length_le (by rw [hl,h1,hk];omega)]
          simp
         exact⟨e,he,h1,by rw [hl,hk];omega,h2,_,by rw [vA,hs];rfl,hp⟩
        ·exact hp.elim
       ·obtain⟨e,he,hp⟩:=hp
        split at hp
        ·rename_i h3
         have h3:=bl h3
         rw [dy]at h3
         rw [rR _ _ _ (by rw [h1];exact h3),nA]at hp
         rw [f9 hr]
         exact⟨e,he,h1,h3,h2,_,by rw [vA];rfl,hp⟩
        ·exact hp.elim
      ·exact hp.elim
     ·exact hp.elim
    ·exact hp.elim
   ·exact hp.elim
  ·exact hp.elim
 ·exact hp.elim
theorem EO{β:BP}{z:AC}{ys:LLA}(hz:Kt (G0 P n0 N) h z=some ys):Hi (toH h) z=some ys:=by
 unfold Kt at hz
 unfold Hi
 split at hz
 ·exact hz
 ·exact hz
 ·split at hz
  ·rename_i hr;simp only [f9 hr];exact hz
  ·cases hz
 ·split at hz
  ·rename_i hr;simp only [f9 hr];exact hz
  ·cases hz
 ·cases hz
variable {K:AV->EH->Prop}
theorem D6{β:BP}(hf:fL P tab){c:Call}(hc:c.callee= .builtin .append)(hp:apG (G0 P n0 N) tab T h c K):apA P T (toH h) c (Hof K):=by
 simp only [apG]at hp
 simp only [apA]
 split at hp
 ·rename_i s x hsx
  split at hp
  ·rename_i t t' ht
   rw [hc,hsx,ht]
   simp only
   split at hp
   ·rename_i h0
    refine⟨bt h0,?_⟩
    split at hp
    ·rename_i e k by_ hd
     rw [hf.elem hd]
     split at hp
     ·rename_i j hj
      split at hp
      ·rename_i h1
       split at hp
       ·rename_i h2
        have h1:=bt h1
        have h2:=blt h2
        rw [dy]at h1
        split at hp
        ·rename_i z hz
         split at hp
         ·rename_i ys ha
          have ha:=EO ha
          split at hp
          ·rename_i hs
           rw [hs,hz]
           obtain⟨⟨g1,g2,g3⟩,hp⟩:=hp
           refine⟨[],toH h,ys,j.zero,rfl,ha,g1,(dq (hf.info hj)).2.1,h1,h2,by simpa using g2,by simpa using g3,h++[.rw ⟨e,k,[]++ys⟩],by rw [o4];rfl,?_⟩
           rw [dy]at hp
           rw [bV]
           exact hp
          ·rename_i r hs
           rw [hs,hz]
           split at hp
           ·rename_i ab hr
            split at hp
            ·rename_i h3
             split at hp
             ·rename_i h4
              obtain⟨⟨g1,g2,g3⟩,hp⟩:=hp
              refine⟨ab.es,(toH h).set r .gone,ys,j.zero,by simp only [JE,f9 hr];rw [if_pos ⟨bt h3,bt h4⟩],ha,g1,(dq (hf.info hj)).2.1,h1,h2,g2,g3,Cs h r .gn++[.rw ⟨e,k,ab.es++ys⟩],by rw [o4,nA,vA];rfl,?_⟩
              rw [dy]at hp
              rw [bV]
              exact hp
             ·exact hp.elim
            ·exact hp.elim
           ·exact hp.elim
          ·exact hp.elim
         ·exact hp.elim
        ·exact hp.elim
       ·exact hp.elim
      ·exact hp.elim
     ·exact hp.elim
    ·exact hp.elim
   ·exact hp.elim
  ·exact hp.elim
 ·exact hp.elim
theorem oY:∀(l:List Operand)(args:List AT),zT T l=some args->l.map (ev T)=args.map .t
 | [],args,h=>by cases h;rfl
 |x::l,args,h=>by
  unfold zT at h
  split at h
  ·rename_i y hy
   split at h
   ·rename_i ys hys
    cases h
    simp [hy,oY l ys hys]
   ·cases h
  ·cases h
theorem wc{β:BP}(hf:fL P tab){o:Op}(hp:mP (G0 P n0 N) tab T h (mU h) o (fun res ha=>K res (h++ha))):pop P T (toH h) (toH h).length o (fun res ha=>Hof K res (toH h++ha.map .live)):=by
 have:=B4 hf hp
 rw [dy]at this
 rw [bV]
 exact wb (fun r s⟨es,h1,h2⟩=>⟨h++es,by rw [o4,h1],h2⟩) this
theorem Df{β:BP}(hf:fL P tab){o:Op}(hp:opG (G0 P n0 N) tab T h o K):opA P T (toH h) o (Hof K):=by
 unfold opG at hp
 unfold opA
 split at hp
 ·exact CN hf hp
 ·rename_i c
  split at hp
  ·rename_i hc
   simp only [hc]
   exact D6 hf hc hp
  ·rename_i f hc
   simp only [hc]
   split at hp
   ·rename_i args ha
    exact⟨args,oY _ _ ha,hp⟩
   ·exact hp.elim
  ·rename_i t hc
   simp only [hc]
   split at hp
   ·rename_i f rs ht
    rw [ht]
    split at hp
    ·rename_i args ha
     exact⟨args,oY _ _ ha,hp⟩
    ·exact hp.elim
   ·exact hp.elim
  ·rename_i hn1 hn2 hn3
   have:=wc hf hp
   dsimp only
   split
   ·rename_i h1;exact(hn1 h1).elim
   ·rename_i f h1;exact(hn2 f h1).elim
   ·rename_i t h1;exact(hn3 t h1).elim
   ·exact this
 ·rename_i hn1 hn2
  have:=wc hf hp
  split
  ·rename_i t x y;exact(hn1 t x y rfl).elim
  ·rename_i c;exact(hn2 c rfl).elim
  ·exact this
theorem Cd{β:BP}(hf:fL P tab){o:Op}(hp:Iw (G0 P n0 N) tab T h o K):∃res hb,Ct P T (toH h) (toH h).length o (fun r s=>r=res/\s=hb)/\Hof K res (toH h++hb.map .live):=by
 unfold Iw at hp
 unfold Ct
 split at hp
 ·rename_i c
  split at hp
  ·rename_i f hc
   simp only [hc]
   split at hp
   ·rename_i args ha
    obtain⟨res,hb,h1,es,h2,h3⟩:=hp
    rw [dy,<-bV]at h1
    exact⟨res,hb,⟨args,oY _ _ ha,h1⟩,h++es,by rw [o4,h2],h3⟩
   ·exact hp.elim
  ·rename_i hn
   obtain⟨res,hb,h1,h2⟩:=C3 (wc hf hp)
   refine⟨res,hb,?_,h2⟩
   dsimp only
   split
   ·rename_i f h3;exact(hn f h3).elim
   ·exact h1
 ·rename_i hn
  obtain⟨res,hb,h1,h2⟩:=C3 (wc hf hp)
  refine⟨res,hb,?_,h2⟩
  split
  ·rename_i c;exact(hn c rfl).elim
  ·exact h1
def QH(Q:List (Nat×AV)->EH->Prop)(T:Nat->AV)(h:AH):Prop:=∃l eh,T=lkT l/\h=toH eh/\Q l eh
theorem uQ(l:List (Nat×AV))(d:Option Tmp)(v:AV):put (lkT l) d v=lkT (s9 l d v):=by cases d<;>rfl
def goG(g:Gd)(tab:List (TypeId×TI))(ops:List Oper)(Q:List (Nat×AV)->EH->Prop)(o:Oper)(os:List Oper)(hd:Nat)(l:List (Nat×AV))(h:EH):Prop:=
 match hd with
 |0=>opG g tab (lkT l) h o.op (fun res h'=>lz g tab ops Q os 0 (s9 l o.dst res) h')
 |hd+1=>Iw g tab (lkT l) h o.op (fun res h'=>lz g tab ops Q os hd (s9 l o.dst res) h')
def goA [BP](P:Program)(ops:Array Oper)(Q:List (Nat×AV)->EH->Prop)(o:Oper)(os:List Oper)(hd:Nat)(l:List (Nat×AV))(h:EH):Prop:=
 match hd with
 |0=>opA P (lkT l) (toH h) o.op (fun res h'=>s8 P ops (QH Q) os (put (lkT l) o.dst res) h')
 |hd+1=>∃res rows,Ct P (lkT l) (toH h) (toH h).length o.op (fun r s=>r=res/\s=rows)/\na P ops (fun T h=>s8 P ops (QH Q) (os.drop hd) T h) (os.take hd) (put (lkT l) o.dst res) (toH h++rows.map .live)
def skA [BP](P:Program)(ops:Array Oper)(Q:List (Nat×AV)->EH->Prop)(o:Oper)(os:List Oper)(hd:Nat)(l:List (Nat×AV))(h:EH):Prop:=
 match hd with
 |0=>s8 P ops (QH Q) os (put (lkT l) o.dst (.t (.c (.imm undef)))) (toH h)
 |hd+1=>na P ops (fun T h=>s8 P ops (QH Q) (os.drop hd) T h) (os.take hd) (put (lkT l) o.dst (.t (.c (.imm undef)))) (toH h)
theorem cj{β:BP}(hf:fL P tab){ops:Array Oper}{Q:List (Nat×AV)->EH->Prop}:∀(os:List Oper)(hd:Nat)(l:List (Nat×AV))(h:EH),lz (G0 P n0 N) tab ops.toList Q os hd l h->
  na P ops (fun T h=>s8 P ops (QH Q) (os.drop hd) T h) (os.take hd) (lkT l) (toH h)
 | [],hd,l,h,hp=>by
  have:QH Q (lkT l) (toH h):=⟨l,h,rfl,rfl,hp⟩
  simp only [List.take_nil,List.drop_nil]
  exact this
 |o::os,hd,l,h,hp=>by
  have he:∀i,Hz ops.toList i=(ops[i]?).bind (·.dst):=fun i=>by
   unfold Hz
   rw [fF,Array.getElem?_toList]
   cases ops[i]? <;>rfl
  have run:∀(hr:goG (G0 P n0 N) tab ops.toList Q o os hd l h),goA P ops Q o os hd l h:=by
   intro hr
   cases hd with
   |zero=>
    have h1:=Df hf (o:=o.op) (K:=fun res h'=>lz (G0 P n0 N) tab ops.toList Q os 0 (s9 l o.dst res) h') hr
    have hc:∀res h',Hof (fun res h'=>lz (G0 P n0 N) tab ops.toList Q os 0 (s9 l o.dst res) h') res h'->s8 P ops (QH Q) os (put (lkT l) o.dst res) h':=by
     rintro res h' ⟨eh,rfl,h3⟩
     rw [uQ]
     exact cj hf os 0 _ _ h3
    exact(show∀(K K':AV->AH->Prop),(∀r s,K r s->K' r s)->opA P (lkT l) (toH h) o.op K->opA P (lkT l) (toH h) o.op K' from by
     intro K K' hk hp
     unfold opA at hp⊢
     split at hp
     ·rename_i t x y
      unfold stA at hp⊢
      split at hp
      ·rename_i r i off v k hx hy hz
       split at hp
       ·rename_i ab hr
        obtain⟨e,g1,g2,g3,g4,g5⟩:=hp
        exact⟨e,g1,g2,g3,g4,hk _ _ g5⟩
       ·exact hp.elim
      ·exact hp.elim
     ·rename_i c
      split at hp
      ·unfold apA at hp⊢
       split at hp
       ·refine⟨hp.1,?_⟩
        obtain⟨_,hp⟩:=hp
        split at hp
        ·obtain⟨old,hb,ys,z0,g1,g2,g3,g4,g5,g6,g7,g8,g9⟩:=hp
         exact⟨old,hb,ys,z0,g1,g2,g3,g4,g5,g6,g7,g8,hk _ _ g9⟩
        ·exact hp.elim
       ·exact hp.elim
      ·obtain⟨args,g1,g2⟩:=hp
       exact⟨args,g1,g2.mono fun r s h=>hk _ _ h⟩
      ·split at hp
       ·obtain⟨args,g1,g2⟩:=hp
        exact⟨args,g1,g2.mono fun r s h=>hk _ _ h⟩
       ·exact hp
      ·exact wb (fun r s h=>hk _ _ h) hp
     ·exact wb (fun r s h=>hk _ _ h) hp) _ _ hc h1
   |succ hd=>
    obtain⟨res,hh,h1,eh,h2,h3⟩:=Cd hf (o:=o.op) (K:=fun res h'=>lz (G0 P n0 N) tab ops.toList Q os hd (s9 l o.dst res) h') hr
    refine⟨res,hh,h1,?_⟩
    rw [uQ,<-h2]
    exact cj hf os hd _ _ h3
  have skip:∀(hr:lz (G0 P n0 N) tab ops.toList Q os hd.pred (s9 l o.dst (.t (.c (.imm undef)))) h),skA P ops Q o os hd l h:=by
   intro hr
   have:=cj hf os hd.pred _ _ hr
   rw [<-uQ]at this
   cases hd with
   |zero=>exact this
   |succ hd=>exact this
  have ha:∀(A B:Prop),(∀hr:goG (G0 P n0 N) tab ops.toList Q o os hd l h,A)->
    (∀hr:lz (G0 P n0 N) tab ops.toList Q os hd.pred (s9 l o.dst (.t (.c (.imm undef)))) h,B)->grd ops o (lkT l) A B:=by
   intro A B hA hB
   simp only [lz]at hp
   unfold grd
   split at hp
   ·rename_i hg;rw [hg];exact hA hp
   ·rename_i gi want hg
    rw [hg]
    simp only
    rw [<-he]
    split at hp
    ·rename_i ht;rw [ht];exact hB hp
    ·rename_i t ht
     rw [ht]
     simp only
     split at hp
     ·rename_i b hb
      rw [hb]
      simp only
      cases want<;>cases b<;>first
       |exact⟨fun h=>(by cases h),fun _=>hB hp⟩
       |exact⟨fun _=>hA hp,fun h=>(by cases h)⟩
     ·rename_i u hn hu
      rw [hu]
      cases u<;>first|exact hB hp|(rename_i b;exact(hn b rfl).elim)
     ·exact hp.elim
  cases hd with
  |zero=>exact ha _ _ run skip
  |succ hd=>exact ha _ _ run skip
def QE(Q:Exit->List (Nat×AV)->EH->Prop)(e:Exit)(T:Nat->AV)(h:AH):Prop:=∃l eh,T=lkT l/\h=toH eh/\Q e l eh
theorem fM{β:BP}(hf:fL P tab):∀(c:Code)(Q:Exit->List (Nat×AV)->EH->Prop)(l:List (Nat×AV))(h:EH),fS N c=true->vV (G0 P n0 N) tab c Q l h->VC P n0 N c (QE Q) (lkT l) (toH h)
 | .skip,Q,l,h,_,hp=>yN ⟨l,h,rfl,rfl,hp⟩
 | .ret,Q,l,h,_,hp=>CD ⟨l,h,rfl,rfl,hp⟩
 | .exit id,Q,l,h,_,hp=>yO ⟨l,h,rfl,rfl,hp⟩
 | .seq x y,Q,l,h,ho,hp=>by
  simp only [fS,zqs]at ho
  refine zZ (fD (fun e T h hq=> ?_) (fM hf x _ l h ho.1 hp))
  obtain⟨l,eh,rfl,rfl,hq⟩:=hq
  cases e<;>first
   |exact⟨l,eh,rfl,rfl,hq⟩
   |exact fM hf y Q l eh ho.2 hq
 | .cond c x y,Q,l,h,ho,hp=>by
  simp only [fS,zqs]at ho
  simp only [vV]at hp
  split at hp
  ·rename_i b hb
   refine yQ hb (fun hb=> ?_) (fun hb=> ?_)
   ·subst hb;exact fM hf x Q l h ho.1 hp
   ·subst hb;exact fM hf y Q l h ho.2 hp
  ·exact hp.elim
 | .block id c,Q,l,h,ho,hp=>by
  refine vx (fD (fun e T h hq=> ?_) (fM hf c _ l h ho hp))
  obtain⟨l,eh,rfl,rfl,hq⟩:=hq
  cases e<;>first
   |exact⟨l,eh,rfl,rfl,hq⟩
   |skip
  rename_i i
  simp only [yy]
  simp only at hq
  split at hq
  ·rename_i hb
   rw [if_pos (bt hb)]
   exact⟨l,eh,rfl,rfl,hq⟩
  ·rename_i hb
   rw [if_neg (fun he=>by subst he;simp at hb)]
   exact⟨l,eh,rfl,rfl,hq⟩
 | .region id ops draw,Q,l,h,ho,hp=>by
  obtain⟨os⟩:=ops
  simp only [fS,zqs,Bool.or_eq_true,Bool.not_eq_true']at ho
  cases draw with
  |false=>exact rq ho.1 (cj hf os 0 l h hp)
  |true=>
   obtain⟨h1,h2⟩:=ho
   rcases h2 with h2|h2
   ·cases h2
   ·exact yP _ hf.mix h1 h2 (cj hf os _ l h hp)
 | .loop c,Q,l,h,_,hp=>hp
 | .rangeFunc _ _ _ _,_,_,_,_,hp=>hp.elim
 | .scope _,_,_,_,_,hp=>hp.elim
 | .label _,_,_,_,_,hp=>hp.elim
 | .goto _,_,_,_,_,hp=>hp.elim
 | .refuse _,_,_,_,_,hp=>hp.elim
end
end Go.Proofs.YtckchgoblpgpbaaGreat.Am
