/-
  Texts of the executors: HxLoop, HxSub, HxFn, HxU, HxBt, CxTab, CxEnv, CxFn, CxWorks, HxTab, HxC0, HxLib0, HxEnvS, HxCtr0, V76z, W76z, V100z, W100z, SoP, SoC, HxSrt, HxC, HxLib, V5.
-/
import Derived.Test.YtmnaiddobipclaaSensePacks6
import Derived.Test.YtmnaiddobipclaaProg
import Derived.ChangeKeysEq
import Derived.KernelRfl
import Derived.Shelf.SlSortCmp.NoneTotal
set_option linter.all false
noncomputable section
namespace HX
open Go CX
variable {ro:Addr->Option V}
def Sub (lo:Nat) (σ T:St):Prop:=∀(ro:Addr->Option V) (C:Cx ro) S,Sim C σ S->lo<=σ.next->∃C':Cx ro,Sim C' T S/\Ext lo C σ S C' T S
def loopQ {X:Type} (lo:Nat) (T:X->St) (Inv:X->Prop) (μ:X->Nat) (Q:Ex->St->Prop) (x:X):Ex->St->Prop
 |.normal,σ=>∃x',Inv x'/\μ x' < μ x/\Sub lo σ (T x')
 |e,σ=>Q e σ
theorem loop_ok {E:CX.Env} {rd:Option Nat} {lo:Nat} {c:Code} {Q:Ex->St->Prop} {σ:St} {X:Type} (T:X->St) (Inv:X->Prop) (μ:X->Nat) (x0:X) (h0:Inv x0) (hs:Sub lo σ (T x0)) (hT:∀x,lo<=(T x).next)
  (round:∀x,Inv x->SWP E rd lo c (loopQ lo T Inv μ Q x) (T x)):SWP E rd lo (.loop c) Q σ:=by
 have key:∀(m:Nat) (x:X),μ x<=m->Inv x->SWP E rd lo (.loop c) Q (T x):=by
  intro m
  induction m with
  |zero=>
   intro x hm hx C S hS hlo hrd
   obtain ⟨e,S1,C1,σ1,k1,k2,k3,k4⟩:=round x hx C S hS hlo hrd
   cases e with
   |normal=>obtain ⟨x',_,h2,_⟩:=k4;omega
   |ret=>
    refine ⟨.ret,S1,C1,σ1,k1.succ fun n hn=>?_,k2,k3,k4⟩
    show cxBody E (cx E n) (rd.map C.ids) (.loop c) S=_
    simp only [cxBody,hn]
   |exit i=>
    refine ⟨.exit i,S1,C1,σ1,k1.succ fun n hn=>?_,k2,k3,k4⟩
    show cxBody E (cx E n) (rd.map C.ids) (.loop c) S=_
    simp only [cxBody,hn]
  |succ m ih=>
   intro x hm hx C S hS hlo hrd
   obtain ⟨e,S1,C1,σ1,k1,k2,k3,k4⟩:=round x hx C S hS hlo hrd
   cases e with
   |normal=>
    obtain ⟨x',h1,h2,h3⟩:=k4
    obtain ⟨C2,s1,s2⟩:=h3 _ C1 S1 k2 k3.m.le
    obtain ⟨e,S3,C3,σ3,l1,l2,l3,l4⟩:=ih x' (by omega) h1 C2 S1 s1 (hT x') hrd
    have e12:=k3.trans s2
    have hmap:rd.map C2.ids=rd.map C.ids:=by
     cases rd with
     |none=>rfl
     |some l=>simp only [zX];rw [e12.m.ag.ids l (hrd l rfl)]
    refine ⟨e,S3,C3,σ3,(k1.and l1).succ fun n hn=>?_,l2,e12.trans l3,l4⟩
    show cxBody E (cx E n) (rd.map C.ids) (.loop c) S=_
    have h2':=hn.2
    rw [hmap] at h2'
    simp only [cxBody,hn.1,h2']
   |ret=>
    refine ⟨.ret,S1,C1,σ1,k1.succ fun n hn=>?_,k2,k3,k4⟩
    show cxBody E (cx E n) (rd.map C.ids) (.loop c) S=_
    simp only [cxBody,hn]
   |exit i=>
    refine ⟨.exit i,S1,C1,σ1,k1.succ fun n hn=>?_,k2,k3,k4⟩
    show cxBody E (cx E n) (rd.map C.ids) (.loop c) S=_
    simp only [cxBody,hn]
 intro C S hS hlo hrd
 obtain ⟨C1,s1,s2⟩:=hs _ C S hS hlo
 obtain ⟨e,S3,C3,σ3,l1,l2,l3,l4⟩:=key _ x0 (zB _) h0 C1 S s1 (hT x0) hrd
 have hmap:rd.map C1.ids=rd.map C.ids:=by
  cases rd with
  |none=>rfl
  |some l=>simp only [zX];rw [s2.m.ag.ids l (hrd l rfl)]
 rw [hmap] at l1
 exact ⟨e,S3,C3,σ3,l1,l2,s2.trans l3,l4⟩
theorem SWP.again {E:CX.Env} {rd:Option Nat} {lo:Nat} {c:Code} {Q:Ex->St->Prop} {σ T:St} (hs:Sub lo σ T) (hT:lo<=T.next) (h:SWP E rd lo c Q T):SWP E rd lo c Q σ:=by
 intro C S hS hlo hrd
 obtain ⟨C1,s1,s2⟩:=hs _ C S hS hlo
 obtain ⟨e,S3,C3,σ3,l1,l2,l3,l4⟩:=h C1 S s1 hT hrd
 have hmap:rd.map C1.ids=rd.map C.ids:=by
  cases rd with
  |none=>rfl
  |some l=>simp only [zX];rw [s2.m.ag.ids l (hrd l rfl)]
 rw [hmap] at l1
 exact ⟨e,S3,C3,σ3,l1,l2,s2.trans l3,l4⟩
abbrev Sgm:=List (Nat×Option Nat)
mutual
def infSV:SV->SV->Sgm->Sgm
 |.slc i',.slc i,s=>match look s i' with
  |some _=>s
  |none=>(i',some i) :: s
 |.slc i',.nils,s=>match look s i' with
  |some _=>s
  |none=>(i',none) :: s
 |.ptr i' _,.ptr i _,s=>match look s i' with
  |some _=>s
  |none=>(i',some i) :: s
 |.map i',.map i,s=>match look s i' with
  |some _=>s
  |none=>(i',some i) :: s
 |.mel i' _,.mel i _,s=>match look s i' with
  |some _=>s
  |none=>(i',some i) :: s
 |.sc i' _ _ _,.sc i _ _ _,s=>match look s i' with
  |some _=>s
  |none=>(i',some i) :: s
 |.yield i',.yield i,s=>match look s i' with
  |some _=>s
  |none=>(i',some i) :: s
 |.agg l',.agg l,s=>infL l' l s
 |.tup l',.tup l,s=>infL l' l s
 |.fn _ a' b',.fn _ a b,s=>infL b' b (infL a' a s)
 |.iface _ v',.iface _ v,s=>infSV v' v s
 |_,_,s=>s
def infL:List SV->List SV->Sgm->Sgm
 |x' :: r',x :: r,s=>infL r' r (infSV x' x s)
 |_,_,s=>s
end
def infRegs (S:List (Nat×SV)):List (Nat×SV)->Sgm->Sgm
 |[],s=>s
 |(t,v') :: r,s=>match look S t with
  |some v=>infRegs S r (infSV v' v s)
  |none=>infRegs S r s
def imgN (lo:Nat) (s:Sgm) (i':Nat):Option Nat:=
 match bltN i' lo with
 |true=>some i'
 |false=>match look s i' with
  |some (some i)=>some i
  |_=>none
def infObjs (lo:Nat) (S:List (Nat×SO)):List (Nat×SO)->Sgm->Sgm
 |[],s=>s
 |(i',.cells l') :: r,s=>match imgN lo s i' with
  |some i=>match look S i with
   |some (.cells l)=>infObjs lo S r (infL l' l s)
   |_=>infObjs lo S r s
  |none=>infObjs lo S r s
 |(i',.mat _ _ _ rn' _) :: r,s=>match imgN lo s i' with
  |some i=>match look S i with
   |some (.mat _ _ _ rn _)=>match look s rn' with
    |some _=>infObjs lo S r s
    |none=>infObjs lo S r ((rn',some rn) :: s)
   |_=>infObjs lo S r s
  |none=>infObjs lo S r s
 |_ :: r,s=>infObjs lo S r s
def infDf:List Nat->List Nat->Sgm->Sgm
 |d' :: r',d :: r,s=>infDf r' r (match look s d' with
  |some _=>s
  |none=>(d',some d) :: s)
 |_,_,s=>s
structure Bd where
 s:Sgm
 lo:Nat
 nx:Nat
def ckNm (B:Bd) (i' i:Nat):Bool:=bltN i' B.nx && (match imgN B.lo B.s i' with |some j=>beqN j i |none=>false)
def ckNil (B:Bd) (i':Nat):Bool:=bltN i' B.nx && (match bltN i' B.lo with |true=>false |false=>match look B.s i' with |some none=>true |_=>false)
def ckB (B:Bd) (b' b:Nat):Bool:=
 match bltN B.lo b' with
 |true=>bleN b' B.nx
 |false=>beqN b' b && bleN b B.lo
def ckF (B:Bd) (b':Nat):Bool:=bltN B.lo b' && bleN b' B.nx
mutual
def ckSV (σ:St) (B:Bd):SV->SV->Option (List Prop)
 |.int k' n',.int k n=>match decide (k'=k) with
  |true=>some [n'=n]
  |false=>none
 |.bool b',.bool b=>some [b'=b]
 |.sym b',.sym b=>some [b'=b]
 |.sym b',.bool b=>some [b'=b]
 |.str s',.str s=>some [s'=s]
 |.ptr i' o',.ptr i o=>match beqN o' o && ckNm B i' i with
  |true=>some []
  |false=>none
 |.el i' es' x' o',.el i es x o=>match beqN o' o && beqN es' es && ckNm B i' i with
  |true=>some [x'=x]
  |false=>none
 |.fel b' ks' rows' x' o',.fel b ks rows x o=>match beqN o' o && kdsEq ks' ks && ckB B b' b with
  |true=>some [rows'=rows,x'=x]
  |false=>none
 |.nilp,.nilp=>some []
 |.slc i',.slc i=>match ckNm B i' i with
  |true=>some []
  |false=>none
 |.slc i',.nils=>match ckNil B i' with
  |true=>some []
  |false=>none
 |.vw i' lo' n',.vw i lo n=>match ckNm B i' i with
  |true=>some [lo'=lo,n'=n]
  |false=>none
 |.sc i' es' o' n',.sc i es o n=>match ckNm B i' i && beqN es' es && beqN o' o && beqN n' n with
  |true=>some []
  |false=>none
 |.fz b' ks' rows',.fz b ks rows=>match kdsEq ks' ks && ckB B b' b with
  |true=>some [rows'=rows]
  |false=>none
 |.fz b' ks' rows',.slc i=>match look σ.objs i with
  |some (.frz ks rows)=>match kdsEq ks' ks && ckF B b' with
   |true=>some [rows'=rows]
   |false=>none
  |_=>none
 |.fz b' _ rows',.nils=>match ckF B b' with
  |true=>some [rows'=[]]
  |false=>none
 |.nils,.nils=>some []
 |.map i',.map i=>match ckNm B i' i with
  |true=>some []
  |false=>none
 |.nilm,.nilm=>some []
 |.fn f' a' b',.fn f a b=>match beqN f' f,ckL σ B a' a,ckL σ B b' b with
  |true,some p,some q=>some (p++q)
  |_,_,_=>none
 |.yield i',.yield i=>match ckNm B i' i with
  |true=>some []
  |false=>none
 |.nilf,.nilf=>some []
 |.iface t' v',.iface t v=>match beqN t' t with
  |true=>ckSV σ B v' v
  |false=>none
 |.nili,.nili=>some []
 |.agg l',.agg l=>ckL σ B l' l
 |.tup l',.tup l=>ckL σ B l' l
 |.mel i' x',.mel i x=>match ckNm B i' i with
  |true=>some [x'=x]
  |false=>none
 |_,_=>none
def ckL (σ:St) (B:Bd):List SV->List SV->Option (List Prop)
 |[],[]=>some []
 |x' :: r',x :: r=>match ckSV σ B x' x with
  |some p=>match ckL σ B r' r with
   |some q=>some (p++q)
   |none=>none
  |none=>none
 |_,_=>none
end
def ckRegs (σ:St) (B:Bd) (S:List (Nat×SV)):List (Nat×SV)->Option (List Prop)
 |[]=>some []
 |(t,v') :: r=>match look S t with
  |some v=>match ckSV σ B v' v with
   |some p=>match ckRegs σ B S r with
    |some q=>some (p++q)
    |none=>none
   |none=>none
  |none=>none
def ckOb (σ:St) (B:Bd) (i':Nat):SO->Option (List Prop)
 |.gone=>match bltN i' B.nx with
  |true=>some []
  |false=>none
 |.cells l'=>match imgN B.lo B.s i' with
  |some i=>match look σ.objs i with
   |some (.cells l)=>match ckNm B i' i with
    |true=>ckL σ B l' l
    |false=>none
   |_=>none
  |none=>none
 |.arr _ ks' rows'=>match imgN B.lo B.s i' with
  |some i=>match look σ.objs i with
   |some (.arr _ ks rows)=>match ckNm B i' i && kdsEq ks' ks with
    |true=>some [rows'=rows]
    |false=>none
   |_=>none
  |none=>match ckNil B i' && decide (0 < ks'.length) with
   |true=>some [rows'=[]]
   |false=>none
 |.mat _ ks' rows' rn' none=>match imgN B.lo B.s i' with
  |some i=>match look σ.objs i with
   |some (.mat _ ks rows rn none)=>match ckNm B i' i && kdsEq ks' ks && ckNm B rn' rn with
    |true=>some [rows'=rows]
    |false=>none
   |_=>none
  |none=>none
 |.mat _ _ _ _ (some _)=>none
 |.frz ks' rows'=>match imgN B.lo B.s i' with
  |some i=>match look σ.objs i with
   |some (.frz ks rows)=>match ckNm B i' i && kdsEq ks' ks with
    |true=>some [rows'=rows]
    |false=>none
   |_=>none
  |none=>none
 |.mp ka' va' kk' vk' ent'=>match imgN B.lo B.s i' with
  |some i=>match look σ.objs i with
   |some (.mp ka va kk vk ent)=>match ckNm B i' i && (sameA ka' ka && sameA va' va && (kdsEq kk' kk && kdsEq vk' vk)) with
    |true=>some [ent'=ent]
    |false=>none
   |_=>none
  |none=>none
 |.dfr b'=>match imgN B.lo B.s i' with
  |some i=>match look σ.objs i with
   |some (.dfr b)=>match ckNm B i' i with
    |true=>some [b'=b]
    |false=>none
   |_=>none
  |none=>none
 |.loop st' j' nt' regs' ps' a' b' d'=>match imgN B.lo B.s i' with
  |some i=>match look σ.objs i with
   |some (.loop st j nt regs ps a b d)=>match ckNm B i' i && ckNm B d' d && beqN nt' nt with
    |true=>match ckRegs σ B regs regs' with
     |some q=>some ((st'=st) :: (j'=j) :: (ps'=ps) :: (a'=a) :: (b'=b) :: q)
     |none=>none
    |false=>none
   |_=>none
  |none=>none
def ckObjs (σ:St) (B:Bd):List (Nat×SO)->Option (List Prop)
 |[]=>some []
 |(i',x') :: r=>match ckOb σ B i' x' with
  |some p=>match ckObjs σ B r with
   |some q=>some (p++q)
   |none=>none
  |none=>none
def ckDf (B:Bd):List Nat->List Nat->Bool
 |[],[]=>true
 |d' :: r',d :: r=>ckNm B d' d && ckDf B r' r
 |_,_=>false
def memN (x:Nat):List Nat->Bool
 |[]=>false
 |y :: r=>match beqN x y with
  |true=>true
  |false=>memN x r
def nodupN:List Nat->Bool
 |[]=>true
 |x :: r=>!memN x r && nodupN r
def imgs (B:Bd):List (Nat×SO)->List Nat
 |[]=>[]
 |(_,.gone) :: r=>imgs B r
 |(_,.frz ..) :: r=>imgs B r
 |(i',_) :: r=>match imgN B.lo B.s i' with
  |some i=>i :: imgs B r
  |none=>imgs B r
structure StuckS (B:Bd) (σ T:St):Prop where
 out:False
def allP:List Prop->Prop
 |[]=>True
 |[p]=>p
 |p :: r=>p/\allP r
def bdOf (lo:Nat) (σ T:St):Bd:=
 ⟨infObjs lo σ.objs T.objs (infObjs lo σ.objs T.objs (infDf T.df σ.df (infRegs σ.regs T.regs []))),lo,T.next⟩
def subP (lo:Nat) (σ T:St):Prop:=
 match bdOf lo σ T with
 |⟨s,lo,nx⟩=>match beqN σ.nt T.nt && bltN lo T.next && nodupN (imgs ⟨s,lo,nx⟩ T.objs) && ckDf ⟨s,lo,nx⟩ T.df σ.df with
  |false=>StuckS ⟨s,lo,nx⟩ σ T
  |true=>match ckRegs σ ⟨s,lo,nx⟩ σ.regs T.regs,ckObjs σ ⟨s,lo,nx⟩ T.objs with
   |some p,some q=>allP (p++q)
   |_,_=>StuckS ⟨s,lo,nx⟩ σ T
theorem allP_ok:∀l:List Prop,allP l->∀p∈l,p
 |[],_,_,h=>by simp at h
 |[p],h,q,hq=>by
  simp only [xE] at hq
  subst hq;exact h
 |p :: q :: r,h,x,hx=>by
  rcases zT.1 hx with rfl |hx
  ·exact h.1
  exact allP_ok (q :: r) h.2 x hx
theorem memN_iff {x:Nat}:∀{l:List Nat},memN x l=true↔x∈l
 |[]=>by simp [memN]
 |y :: r=>by
  simp only [memN,zT]
  split
  next h=>simp only [beqN_iff] at h;simp [h]
  rename_i h;simp only [beqN_not] at h;rw [memN_iff];simp [h]
theorem nodupN_ok:∀{l:List Nat},nodupN l=true->l.Nodup
 |[],_=>.nil
 |x :: r,h=>by
  simp only [nodupN,zC,kG,Bool.eq_false_iff] at h
  exact List.nodup_cons.2 ⟨fun hx=>h.1 (memN_iff.2 hx),nodupN_ok h.2⟩
def Cx.ren (C:Cx ro) (B:Bd) (nx:Nat):Cx ro:=
 ⟨fun i'=>match imgN B.lo B.s i' with |some i=>C.ids i |none=>0,fun i'=>match imgN B.lo B.s i' with |some i=>C.hdr i |none=>.nils,C.g,fun b=>if b<=B.lo then C.bd b else nx⟩
theorem imgN_lo {lo:Nat} {s:Sgm} {i:Nat} (h:i < lo):imgN lo s i=some i:=by
 have:bltN i lo=true:=by simpa using h
 simp only [imgN,this]
theorem Ag.ren (C:Cx ro) (B:Bd) (nx:Nat):Ag B.lo C (C.ren B nx):=
 ⟨fun nm h=>by simp only [Cx.ren,imgN_lo h],fun nm h=>by simp only [Cx.ren,imgN_lo h],fun b h=>by simp only [Cx.ren];rw [if_pos h],fun _ _ h=>h⟩
section
variable {C:Cx ro} {σ:St} {bar:Nat} {h:Nat->Option O} {nx:Nat} (hM:MSim C σ.objs σ.next bar h nx) {B:Bd}
include hM
theorem ckNm_ok {i' i:Nat} (hk:ckNm B i' i=true):i' < B.nx/\imgN B.lo B.s i'=some i/\(C.ren B nx).ids i'=C.ids i/\(C.ren B nx).hdr i'=C.hdr i:=by
 simp only [ckNm,zC,bltN_iff] at hk
 obtain ⟨h1,h2⟩:=hk
 split at h2
 next j hj=>
  simp only [beqN_iff] at h2
  subst h2
  exact ⟨h1,hj,by simp only [Cx.ren,hj],by simp only [Cx.ren,hj]⟩
 cases h2
theorem ckNil_ok {i':Nat} (hk:ckNil B i'=true):i' < B.nx/\imgN B.lo B.s i'=none/\(C.ren B nx).hdr i'=.nils:=by
 simp only [ckNil,zC,bltN_iff] at hk
 obtain ⟨h1,h2⟩:=hk
 split at h2
 ·cases h2
 rename_i hlo
 split at h2
 next hs=>
  have:imgN B.lo B.s i'=none:=by simp only [imgN,hlo,hs]
  exact ⟨h1,this,by simp only [Cx.ren,this]⟩
 cases h2
theorem ckB_ok {b' b:Nat} (hb:b<=σ.next) (hk:ckB B b' b=true) (hlo:B.lo<=B.nx):b'<=B.nx/\C.bd b<=(C.ren B nx).bd b':=by
 unfold ckB at hk
 split at hk
 next h1=>
  simp only [bltN_iff] at h1
  simp only [bleN_iff] at hk
  refine ⟨hk,?_⟩
  simp only [Cx.ren]
  rw [if_neg (by omega)]
  exact hM.bd b hb
 simp only [zC,beqN_iff,bleN_iff] at hk
 obtain ⟨rfl,h2⟩:=hk
 refine ⟨by omega,?_⟩
 simp only [Cx.ren]
 rw [if_pos h2]
 exact zB _
theorem ckF_ok {b':Nat} (hk:ckF B b'=true):b'<=B.nx/\(C.ren B nx).bd b'=nx:=by
 simp only [ckF,zC,bltN_iff,bleN_iff] at hk
 refine ⟨hk.2,?_⟩
 simp only [Cx.ren]
 rw [if_neg (by omega)]
mutual
theorem ckSV_ok (hlo:B.lo<=B.nx):∀(s' s:SV) (ps:List Prop),ckSV σ B s' s=some ps->(∀p∈ps,p)->∀v,RvS C σ.next s v->RvS (C.ren B nx) B.nx s' v:=by
 intro s' s ps hc hp v hv
 unfold ckSV at hc
 split at hc
 ·split at hc
  next hk=>
   have hk:=zQ hk
   subst hk
   simp only [zA] at hc
   subst hc
   have:=hp _ (.head _)
   subst this
   exact hv
  cases hc
 ·simp only [zA] at hc
  subst hc
  have:=hp _ (.head _)
  subst this
  exact hv
 ·simp only [zA] at hc
  subst hc
  have:=hp _ (.head _)
  subst this
  exact hv
 ·simp only [zA] at hc
  subst hc
  have:=hp _ (.head _)
  subst this
  exact hv
 ·simp only [zA] at hc
  subst hc
  have:=hp _ (.head _)
  subst this
  exact hv
 ·split at hc
  next hk=>
   simp only [zC,beqN_iff] at hk
   obtain ⟨rfl,hk⟩:=hk
   obtain ⟨a,b,c,d⟩:=ckNm_ok hM hk
   simp only [RvS] at hv ⊢
   exact ⟨a,by rw [c];exact hv.2⟩
  cases hc
 ·split at hc
  next hk=>
   simp only [zC,beqN_iff] at hk
   obtain ⟨⟨rfl,rfl⟩,hk⟩:=hk
   obtain ⟨a,b,c,d⟩:=ckNm_ok hM hk
   simp only [zA] at hc
   subst hc
   have:=hp _ (.head _)
   subst this
   simp only [RvS] at hv ⊢
   exact ⟨a,by rw [c];exact hv.2⟩
  cases hc
 ·split at hc
  next hk=>
   simp only [zC,beqN_iff] at hk
   obtain ⟨⟨rfl,hk1⟩,hk⟩:=hk
   have hk1:=kds_eq hk1
   subst hk1
   simp only [zA] at hc
   subst hc
   have:=hp _ (.head _)
   subst this
   have:=hp _ (.tail _ (.head _))
   subst this
   simp only [RvS,FelR] at hv ⊢
   obtain ⟨h0,⟨id,base,t,m,a1,a2,a3,a4,a5⟩ |⟨a,a1,a5⟩⟩:=hv<;>obtain ⟨b1,b2⟩:=ckB_ok hM h0 hk hlo
   ·exact ⟨b1,.inl ⟨id,base,t,m,a1,by omega,a3,a4,FzR.mono (fun _ _ _ h=>h) b2 _ _ _ _ a5⟩⟩
   exact ⟨b1,.inr ⟨a,a1,FzR.mono (fun _ _ _ h=>h) b2 _ _ _ _ a5⟩⟩
  cases hc
 ·simpa [RvS] using hv
 ·split at hc
  next hk=>
   obtain ⟨a,b,c,d⟩:=ckNm_ok hM hk
   simp only [RvS] at hv ⊢
   exact ⟨a,by rw [d];exact hv.2.1,hv.2.2⟩
  cases hc
 ·split at hc
  next hk=>
   obtain ⟨a,b,c⟩:=ckNil_ok hM hk
   simp only [RvS] at hv ⊢
   exact ⟨a,by rw [c];exact hv,.inl hv⟩
  cases hc
 ·split at hc
  next hk=>
   obtain ⟨a,b,c,d⟩:=ckNm_ok hM hk
   simp only [zA] at hc
   subst hc
   have:=hp _ (.head _)
   subst this
   have:=hp _ (.tail _ (.head _))
   subst this
   simp only [RvS,VwR] at hv ⊢
   exact ⟨a,by rw [c,d];exact hv.2⟩
  cases hc
 ·split at hc
  next hk=>
   simp only [zC,beqN_iff] at hk
   obtain ⟨⟨⟨hk,rfl⟩,rfl⟩,rfl⟩:=hk
   obtain ⟨a,b,c,d⟩:=ckNm_ok hM hk
   simp only [RvS] at hv ⊢
   exact ⟨a,hv.2.1,by rw [c];exact hv.2.2⟩
  cases hc
 ·split at hc
  next hk=>
   simp only [zC] at hk
   obtain ⟨hk1,hk⟩:=hk
   have hk1:=kds_eq hk1
   subst hk1
   simp only [zA] at hc
   subst hc
   have:=hp _ (.head _)
   subst this
   simp only [RvS] at hv ⊢
   obtain ⟨b1,b2⟩:=ckB_ok hM hv.1 hk hlo
   exact ⟨b1,FzC.mono (fun _ _ _ h=>h) b2 _ _ _ hv.2⟩
  cases hc
 ·split at hc
  next hl=>
   split at hc
   next hk=>
    simp only [zC] at hk
    obtain ⟨hk1,hk⟩:=hk
    have hk1:=kds_eq hk1
    subst hk1
    simp only [zA] at hc
    subst hc
    have:=hp _ (.head _)
    subst this
    obtain ⟨b1,b2⟩:=ckF_ok (C:=C) hM hk
    simp only [RvS] at hv ⊢
    obtain ⟨_,rfl,_⟩:=hv
    exact ⟨b1,by rw [b2];exact (hM.ob _ _ hl).2.1⟩
   cases hc
  cases hc
 ·split at hc
  next hk=>
   simp only [zA] at hc
   subst hc
   have:=hp _ (.head _)
   subst this
   obtain ⟨b1,b2⟩:=ckF_ok (C:=C) hM hk
   simp only [RvS] at hv ⊢
   subst hv
   exact ⟨b1,by simp only [FzC,D.rows];exact ⟨⟨[],rfl,fun _ h=>(by cases h),by simp⟩,.inl (by simp)⟩⟩
  cases hc
 ·simpa [RvS] using hv
 ·split at hc
  next hk=>
   obtain ⟨a,b,c,d⟩:=ckNm_ok hM hk
   simp only [RvS] at hv ⊢
   exact ⟨a,by rw [c];exact hv.2⟩
  cases hc
 ·simpa [RvS] using hv
 ·split at hc
  next p q hf hp1 hp2=>
   simp only [beqN_iff] at hf
   subst hf
   simp only [zA] at hc
   subst hc
   simp only [RvS] at hv ⊢
   obtain ⟨x,y,a1,a2,a3⟩:=hv
   exact ⟨x,y,ckL_ok hlo _ _ _ hp1 (fun r hr=>hp r (xW _ hr)) x a1,ckL_ok hlo _ _ _ hp2 (fun r hr=>hp r (xP _ hr)) y a2,a3⟩
  cases hc
 ·split at hc
  next hk=>
   obtain ⟨a,b,c,d⟩:=ckNm_ok hM hk
   simp only [RvS] at hv ⊢
   exact ⟨a,by rw [c];exact hv.2⟩
  cases hc
 ·simpa [RvS] using hv
 ·split at hc
  next hk=>
   simp only [beqN_iff] at hk
   subst hk
   simp only [RvS] at hv ⊢
   obtain ⟨y,a1,a2⟩:=hv
   exact ⟨y,ckSV_ok hlo _ _ _ hc hp y a1,a2⟩
  cases hc
 ·simpa [RvS] using hv
 ·simp only [RvS] at hv ⊢
  obtain ⟨x,a1,a2⟩:=hv
  exact ⟨x,ckL_ok hlo _ _ _ hc hp x a1,a2⟩
 ·simp only [RvS] at hv ⊢
  obtain ⟨x,a1,a2⟩:=hv
  exact ⟨x,ckL_ok hlo _ _ _ hc hp x a1,a2⟩
 ·split at hc
  next hk=>
   obtain ⟨a,b,c,d⟩:=ckNm_ok hM hk
   simp only [zA] at hc
   subst hc
   have:=hp _ (.head _)
   subst this
   simp only [RvS] at hv ⊢
   exact ⟨a,by rw [c];exact hv.2⟩
  cases hc
 cases hc
theorem ckL_ok (hlo:B.lo<=B.nx):∀(l' l:List SV) (ps:List Prop),ckL σ B l' l=some ps->(∀p∈ps,p)->∀x,RvSL C σ.next l x->RvSL (C.ren B nx) B.nx l' x
 |[],[],ps,hc,hp,x,hx=>by
  cases x with
  |nil=>trivial
  |cons _ _=>simp [RvSL] at hx
 |s' :: l',s :: l,ps,hc,hp,x,hx=>by
  simp only [ckL] at hc
  split at hc
  next p hp1=>
   split at hc
   next q hq1=>
    simp only [zA] at hc
    subst hc
    cases x with
    |nil=>simp [RvSL] at hx
    |cons v x=>
     simp only [RvSL] at hx ⊢
     exact ⟨ckSV_ok hlo _ _ _ hp1 (fun r hr=>hp r (xW _ hr)) v hx.1,ckL_ok hlo _ _ _ hq1 (fun r hr=>hp r (xP _ hr)) x hx.2⟩
   cases hc
  cases hc
 |[],_ :: _,ps,hc,_,_,_=>by simp [ckL] at hc
 |_ :: _,[],ps,hc,_,_,_=>by simp [ckL] at hc
end
end
end HX

namespace HX
open Go CX
variable {ro:Addr->Option V}
section
variable {C:Cx ro} {σ:St} {bar:Nat} {h:Nat->Option O} {nx:Nat} (hM:MSim C σ.objs σ.next bar h nx) {B:Bd}
include hM
theorem ckRegs_ok (hlo:B.lo<=B.nx) {S:List (Nat×SV)} {regs:T V} (hR:RegsS C σ.next S regs):∀(l:List (Nat×SV)) (ps:List Prop),ckRegs σ B S l=some ps->(∀p∈ps,p)->RegsS (C.ren B nx) B.nx l regs
 |[],ps,_,_,t,s,hl=>by simp [look] at hl
 |(t',v') :: r,ps,hc,hp,t,s,hl=>by
  simp only [ckRegs] at hc
  split at hc
  rotate_left
  ·cases hc
  rename_i v hv
  split at hc
  rotate_left
  ·cases hc
  rename_i p hp1
  split at hc
  next q hq1=>
   simp only [zA] at hc
   subst hc
   rw [look_cons] at hl
   split at hl
   next e=>
    simp only [zA] at hl
    subst e hl
    rcases hR _ _ hv with h0 |⟨u,u1,u2⟩
    ·subst h0
     exfalso
     cases v'<;>simp [ckSV] at hp1
    exact .inr ⟨u,u1,ckSV_ok hM hlo _ _ _ hp1 (fun r hr=>hp r (xW _ hr)) u u2⟩
   exact ckRegs_ok hlo hR r q hq1 (fun x hx=>hp x (xP _ hx)) t s hl
  cases hc
theorem ckOb_ok (hlo:B.lo<=B.nx) (hlon:B.lo<=σ.next) {i':Nat} {so':SO} {ps:List Prop} (hc:ckOb σ B i' so'=some ps) (hp:∀p∈ps,p) :
  i' < B.nx/\ObS (C.ren B nx) B.nx h nx i' so'/\(∀id,owns (C.ren B nx) i' so' id->∃i so,imgN B.lo B.s i'=some i/\look σ.objs i=some so/\owns C i so id):=by
 have ha:=Ag.ren C B nx
 unfold ckOb at hc
 split at hc
 ·split at hc
  next hk=>
   simp only [bltN_iff] at hk
   exact ⟨hk,trivial,fun id h=>absurd h owns_gone⟩
  cases hc
 ·split at hc
  rotate_left
  ·cases hc
  rename_i i hi
  split at hc
  rotate_left
  ·cases hc
  rename_i l hl
  split at hc
  rotate_left
  ·cases hc
  rename_i hk
  obtain ⟨a,b,c,d⟩:=ckNm_ok hM hk
  refine ⟨a,?_,fun id ho=>⟨i,_,hi,hl,by rcases ho with ho |ho;exact .inl ⟨trivial,by rw [<-c];exact ho.2⟩;exact ho.elim⟩⟩
  have hob:=hM.ob _ _ hl
  simp only [ObS] at hob ⊢
  obtain ⟨t,o1,o2⟩:=hob
  have key:∀(l' l:List SV) (ps:List Prop),ckL σ B l' l=some ps->(∀p∈ps,p)->l'.length=l.length/\∀(j:Nat) (s':SV),l'[j]?=some s'->∃(s:SV) (p:List Prop),l[j]?=some s/\ckSV σ B s' s=some p/\∀x∈p,x:=by
   intro l'
   induction l' with
   |nil=>
    intro l ps hc hp
    cases l with
    |nil=>exact ⟨rfl,fun j s' h=>by simp at h⟩
    |cons _ _=>simp [ckL] at hc
   |cons s' l' ih=>
    intro l ps hc hp
    cases l with
    |nil=>simp [ckL] at hc
    |cons s l=>
     simp only [ckL] at hc
     split at hc
     next p hp1=>
      split at hc
      next q hq1=>
       simp only [zA] at hc
       subst hc
       obtain ⟨h1,h2⟩:=ih l q hq1 (fun x hx=>hp x (xP _ hx))
       refine ⟨by simp [h1],fun j s'' hj=>?_⟩
       cases j with
       |zero=>
        simp only [zL,zA] at hj
        subst hj
        exact ⟨s,p,by simp,hp1,fun x hx=>hp x (xW _ hx)⟩
       |succ j=>
        obtain ⟨s2,p2,e1,e2⟩:=h2 j s'' (by simpa using hj)
        exact ⟨s2,p2,by simpa using e1,e2⟩
      cases hc
     cases hc
  obtain ⟨k1,k2⟩:=key _ _ _ hc hp
  refine ⟨t,by rw [c,k1];exact o1,fun j s' hj=>?_⟩
  obtain ⟨s,p,e1,e2,e3⟩:=k2 j s' hj
  obtain ⟨v,v1,v2,v3⟩:=o2 j s e1
  exact ⟨v,v1,v2,ckSV_ok hM hlo _ _ _ e2 e3 v v3⟩
 next og' ks' rows'=>
  split at hc
  next i hi=>
   split at hc
   next og ks rows hl=>
    split at hc
    next hk=>
     rw [zC] at hk
     have hks:=kds_eq hk.2
     subst hks
     obtain ⟨a,b,c,d⟩:=ckNm_ok hM hk.1
     simp only [zA] at hc
     subst hc
     have:=hp _ (.head _)
     subst this
     refine ⟨a,?_,fun id ho=>⟨i,_,hi,hl,by rcases ho with ho |ho;exact .inl ⟨by simpa only [ownS,d] using ho.1,by rw [<-c];exact ho.2⟩;exact ho.elim⟩⟩
     have hob:=hM.ob _ _ hl
     simp only [ObS,c,d] at hob ⊢
     exact hob
    cases hc
   cases hc
  split at hc
  next hk=>
   rw [zC] at hk
   obtain ⟨a,b,c⟩:=ckNil_ok hM hk.1
   simp only [zA] at hc
   subst hc
   have:=hp _ (.head _)
   subst this
   refine ⟨a,?_,fun id ho=>by rcases ho with ho |ho;exact absurd c ho.1;exact ho.elim⟩
   simp only [ObS]
   exact ⟨⟨zQ hk.2,fun _ h=>(by cases h),by simp⟩,.inl ⟨trivial,c⟩⟩
  cases hc
 ·split at hc
  rotate_left
  ·cases hc
  rename_i og' ks' rows' rn' i hi
  split at hc
  rotate_left
  ·cases hc
  rename_i og ks rows rn hl
  split at hc
  rotate_left
  ·cases hc
  rename_i hk
  simp only [zC] at hk
  obtain ⟨⟨hk1,hk2⟩,hk3⟩:=hk
  have hks:=kds_eq hk2
  subst hks
  obtain ⟨a,b,c,d⟩:=ckNm_ok hM hk1
  obtain ⟨a2,b2,c2,d2⟩:=ckNm_ok hM hk3
  simp only [zA] at hc
  subst hc
  have:=hp _ (.head _)
  subst this
  refine ⟨a,?_,fun id ho=>⟨i,_,hi,hl,?_⟩⟩
  ·have hob:=hM.ob _ _ hl
   simp only [ObS,c,d,d2] at hob ⊢
   exact ⟨a2,hob.2⟩
  rcases ho with ho |ho
  ·exact .inl ⟨by simpa only [ownS,d] using ho.1,by rw [<-c];exact ho.2⟩
  exact .inr (by simpa only [subS,d2] using ho)
 ·cases hc
 ·split at hc
  rotate_left
  ·cases hc
  rename_i i hi
  split at hc
  next ks rows hl=>
   split at hc
   next hk=>
    rw [zC] at hk
    have hks:=kds_eq hk.2
    subst hks
    obtain ⟨a,b,c,d⟩:=ckNm_ok hM hk.1
    simp only [zA] at hc
    subst hc
    have:=hp _ (.head _)
    subst this
    refine ⟨a,?_,fun id ho=>by rcases ho with ho |ho;exact ho.1.elim;exact ho.elim⟩
    have hob:=hM.ob _ _ hl
    simp only [ObS,c,d] at hob ⊢
    exact hob
   cases hc
  cases hc
 ·split at hc
  rotate_left
  ·cases hc
  rename_i i hi
  split at hc
  rotate_left
  ·cases hc
  rename_i ka va kk vk ent hl
  split at hc
  rotate_left
  ·cases hc
  rename_i hk
  simp only [zC] at hk
  obtain ⟨hk,⟨hk1,hk2⟩,hk3,hk4⟩:=hk
  have hk1:=sameA_eq hk1
  have hk2:=sameA_eq hk2
  have hk3:=kds_eq hk3
  have hk4:=kds_eq hk4
  subst hk1 hk2 hk3 hk4
  obtain ⟨a,b,c,d⟩:=ckNm_ok hM hk
  simp only [zA] at hc
  subst hc
  have:=hp _ (.head _)
  subst this
  refine ⟨a,?_,fun id ho=>⟨i,_,hi,hl,by rcases ho with ho |ho;exact .inl ⟨trivial,by rw [<-c];exact ho.2⟩;exact ho.elim⟩⟩
  have hob:=hM.ob _ _ hl
  simp only [ObS,c] at hob ⊢
  exact hob
 ·split at hc
  next i hi=>
   split at hc
   next b hl=>
    split at hc
    next hk=>
     obtain ⟨a,b,c,d⟩:=ckNm_ok hM hk
     simp only [zA] at hc
     subst hc
     have:=hp _ (.head _)
     subst this
     refine ⟨a,?_,fun id ho=>⟨i,_,hi,hl,by rcases ho with ho |ho;exact .inl ⟨trivial,by rw [<-c];exact ho.2⟩;exact ho.elim⟩⟩
     have hob:=hM.ob _ _ hl
     simp only [ObS,c] at hob ⊢
     exact hob
    cases hc
   cases hc
  cases hc
 split at hc
 rotate_left
 ·cases hc
 rename_i i hi
 split at hc
 rotate_left
 ·cases hc
 rename_i st j nt regs ps0 a0 b0 d hl
 split at hc
 rotate_left
 ·cases hc
 rename_i hk
 simp only [zC,beqN_iff] at hk
 obtain ⟨⟨hk1,hk2⟩,rfl⟩:=hk
 obtain ⟨a,b,c,_⟩:=ckNm_ok hM hk1
 obtain ⟨a2,b2,c2,_⟩:=ckNm_ok hM hk2
 split at hc
 next q hq=>
  simp only [zA] at hc
  subst hc
  have e1:=hp _ (.head _)
  have e2:=hp _ (.tail _ (.head _))
  have e3:=hp _ (.tail _ (.tail _ (.head _)))
  have e4:=hp _ (.tail _ (.tail _ (.tail _ (.head _))))
  have e5:=hp _ (.tail _ (.tail _ (.tail _ (.tail _ (.head _)))))
  subst e1 e2 e3 e4 e5
  refine ⟨a,?_,fun id ho=>⟨i,_,hi,hl,by rcases ho with ho |ho;exact .inl ⟨trivial,by rw [<-c];exact ho.2⟩;exact ho.elim⟩⟩
  have hob:=hM.ob _ _ hl
  simp only [ObS,c,c2] at hob ⊢
  obtain ⟨h1,rg,h2,h3⟩:=hob
  exact ⟨a2,rg,h2,ckRegs_ok hM hlo h3 _ _ hq fun x hx=>hp x (.tail _ (.tail _ (.tail _ (.tail _ (.tail _ hx)))))⟩
 cases hc
theorem ckObjs_ok:∀(l:List (Nat×SO)) (ps:List Prop),ckObjs σ B l=some ps->(∀p∈ps,p)->∀i' so',look l i'=some so'->∃p,ckOb σ B i' so'=some p/\∀x∈p,x
 |[],ps,_,_,i',so',hl=>by simp [look] at hl
 |(i,x) :: r,ps,hc,hp,i',so',hl=>by
  simp only [ckObjs] at hc
  split at hc
  next p hp1=>
   split at hc
   next q hq1=>
    simp only [zA] at hc
    subst hc
    rw [look_cons] at hl
    split at hl
    next e=>
     simp only [zA] at hl
     subst e hl
     exact ⟨p,hp1,fun y hy=>hp y (xW _ hy)⟩
    exact ckObjs_ok r q hq1 (fun y hy=>hp y (xP _ hy)) i' so' hl
   cases hc
  cases hc
omit hM in
theorem imgs_mem:∀(l:List (Nat×SO)) (i':Nat) (so:SO) (i:Nat),look l i'=some so->(∀C:Cx ro,ownS C i' so->True)->so≠.gone->(∀ks rows,so≠.frz ks rows)->imgN B.lo B.s i'=some i->i∈imgs B l
 |[],i',so,i,hl,_,_,_,_=>by simp [look] at hl
 |(j,x) :: r,i',so,i,hl,h0,h1,h2,hi=>by
  rw [look_cons] at hl
  split at hl
  next e=>
   simp only [zA] at hl
   subst e hl
   cases x with
   |gone=>exact absurd rfl h1
   |frz ks rows=>exact absurd rfl (h2 ks rows)
   |_=>all_goals (simp only [imgs,hi];exact List.mem_cons_self)
  have ih:=imgs_mem r i' so i hl h0 h1 h2 hi
  unfold imgs
  split
  ·cases ‹(j,x) :: r=[]›
  next heq=>simp only [xM] at heq;obtain ⟨_,rfl⟩:=heq;exact ih
  next heq=>simp only [xM] at heq;obtain ⟨_,rfl⟩:=heq;exact ih
  rename_i heq
  simp only [xM] at heq
  obtain ⟨_,rfl⟩:=heq
  split
  ·exact List.mem_cons_of_mem _ ih
  exact ih
omit hM in
theorem imgs_inj:∀(l:List (Nat×SO)),(imgs B l).Nodup->∀(a b:Nat) (x y:SO) (i:Nat),a≠b->look l a=some x->look l b=some y->x≠.gone->(∀ks rows,x≠.frz ks rows)->y≠.gone->(∀ks rows,y≠.frz ks rows)->imgN B.lo B.s a=some i->imgN B.lo B.s b=some i->False
 |[],_,a,b,x,y,i,_,hl,_,_,_,_,_,_,_=>by simp [look] at hl
 |(j,z) :: r,hn,a,b,x,y,i,hab,hla,hlb,hx,hx',hy,hy',hia,hib=>by
  have hr:(imgs B r).Nodup:=by
   unfold imgs at hn
   split at hn
   ·cases ‹(j,z) :: r=[]›
   next heq=>simp only [xM] at heq;obtain ⟨_,rfl⟩:=heq;exact hn
   next heq=>simp only [xM] at heq;obtain ⟨_,rfl⟩:=heq;exact hn
   rename_i heq
   simp only [xM] at heq
   obtain ⟨_,rfl⟩:=heq
   split at hn
   ·exact (List.nodup_cons.1 hn).2
   exact hn
  have head:∀(w:SO),w≠.gone->(∀ks rows,w≠.frz ks rows)->z=w->imgN B.lo B.s j=some i->i∉imgs B r:=by
   intro w h1 h2 e hi
   subst e
   have:imgs B ((j,z) :: r)=i :: imgs B r:=by
    cases z with
    |gone=>exact absurd rfl h1
    |frz ks rows=>exact absurd rfl (h2 ks rows)
    |_=>all_goals simp only [imgs,hi]
   rw [this] at hn
   exact (List.nodup_cons.1 hn).1
  rw [look_cons] at hla hlb
  split at hla
  next e=>
   simp only [zA] at hla
   subst e
   split at hlb
   next e2=>exact hab e2
   exact head x hx hx' hla hia (imgs_mem (ro:=fun _=>none) r b y i hlb (fun _ _=>trivial) hy hy' hib)
  split at hlb
  next e=>
   simp only [zA] at hlb
   subst e
   exact head y hy hy' hlb hib (imgs_mem (ro:=fun _=>none) r a x i hla (fun _ _=>trivial) hx hx' hia)
  exact imgs_inj r hr a b x y i hab hla hlb hx hx' hy hy' hia hib
end
theorem ownS_ne {C:Cx ro} {nm:Nat} {so:SO} (h:ownS C nm so):so≠.gone/\∀ks rows,so≠.frz ks rows:=by
 cases so<;>simp_all [ownS]
theorem owns_ne {C:Cx ro} {nm id:Nat} {so:SO} (h:owns C nm so id):so≠.gone/\∀ks rows,so≠.frz ks rows:=by
 rcases h with h |h
 ·exact ownS_ne h.1
 cases so<;>simp_all [subS]
theorem subP_ok {lo:Nat} {σ T:St} (hs:subP lo σ T):Sub lo σ T:=by
 intro ro C S hS hlon
 unfold subP at hs
 split at hs
 rename_i s lo' nx' hB
 have hlo':lo'=lo:=by have:=congrArg Bd.lo hB;exact this.symm
 have hnx':nx'=T.next:=by have:=congrArg Bd.nx hB;exact this.symm
 subst hlo' hnx'
 split at hs
 ·exact hs.out.elim
 rename_i hb
 simp only [zC,beqN_iff,bltN_iff] at hb
 obtain ⟨⟨⟨b1,b2⟩,b3⟩,b4⟩:=hb
 split at hs
 rotate_left
 ·exact hs.out.elim
 rename_i p q hp hq
 have hall:=allP_ok _ hs
 have hM:=hS.m
 have hle:(⟨s,lo',T.next⟩:Bd).lo<=(⟨s,lo',T.next⟩:Bd).nx:=qB b2
 have hobs:=ckObjs_ok hM T.objs q hq (fun x hx=>hall x (xP _ hx))
 have ob:∀{i' so'},look T.objs i'=some so'->_:=fun {i' so'} hl=>(fun ⟨pp,h1,h2⟩=>ckOb_ok hM hle hlon h1 h2) (hobs i' so' hl)
 have hnd:=nodupN_ok b3
 refine ⟨C.ren ⟨s,lo',T.next⟩ S.nx,⟨by rw [hS.nt,b1],ckRegs_ok hM hle hS.regs T.regs p hp (fun x hx=>hall x (xW _ hx)),⟨fun nm so hl=>(ob hl).1,fun nm so hl=>(ob hl).2.1,fun nm so hl id ho=>?_,fun a b x y hla hlb id hoa hob=>?_,hM.fz,fun b hb=>?_,?_,hM.barle,((Ag.ren C ⟨s,lo',T.next⟩ S.nx).bd 0 (xZ _)).trans hM.z⟩,?_,?_⟩,⟨Ag.ren C ⟨s,lo',T.next⟩ S.nx,qB b2,zB _,fun _ _ _=>rfl,fun id hid=>?_,fun id o hg=>.inl hg⟩,rfl,fun _ h=>.inl h⟩
 ·obtain ⟨i,so0,h1,h2,h3⟩:=(ob hl).2.2 id ho
  exact hM.own' _ _ h2 _ h3
 ·obtain ⟨i,x0,h1,h2,h3⟩:=(ob hla).2.2 id hoa
  obtain ⟨j,y0,k1,k2,k3⟩:=(ob hlb).2.2 id hob
  have e:=hM.inj' _ _ _ _ h2 k2 _ h3 k3
  subst e
  exact Classical.byContradiction fun hne=>imgs_inj T.objs hnd a b x y i hne hla hlb (owns_ne hoa).1 (owns_ne hoa).2 (owns_ne hob).1 (owns_ne hob).2 h1 k1
 ·simp only [Cx.ren]
  split
  next hbl=>exact hM.bd b (zY hbl hlon)
  exact zB _
 ·simp only [Cx.ren]
  rw [if_neg (Nat.not_le.2 b2)]
 ·have own':∀id,OwnId (C.ren ⟨s,lo',T.next⟩ S.nx) T.objs id->OwnId C σ.objs id:=fun id hid=>by
   obtain ⟨nm,so,hl,ho⟩:=hid
   obtain ⟨i,so0,h1,h2,h3⟩:=(ob hl).2.2 id ho
   exact ⟨i,so0,h2,h3⟩
  have key:∀{l ids:List Nat},DfR C σ.objs S.bar S.h.get S.nx l ids->∀l',ckDf ⟨s,lo',T.next⟩ l' l=true->DfR (C.ren ⟨s,lo',T.next⟩ S.nx) T.objs S.bar S.h.get S.nx l' ids:=by
   intro l ids k
   induction k with
   |nil=>
    intro l' h
    cases l' with
    |nil=>exact .nil
    |cons _ _=>simp [ckDf] at h
   |nm he hi _ ih=>
    intro l' h
    cases l' with
    |nil=>simp [ckDf] at h
    |cons d' l'=>
     simp only [ckDf,zC] at h
     exact .nm ((ckNm_ok hM h.1).2.2.1.trans he) hi (ih l' h.2)
   |mk hx hn _ ih=>exact fun l' h=>.mk ⟨hx.1,hx.2.1,hx.2.2.1,fun ho=>hx.2.2.2.1 (own' _ ho),hx.2.2.2.2⟩ hn (ih l' h)
  exact key hS.df _ b4
 ·have key:∀(l' l:List Nat),ckDf ⟨s,lo',T.next⟩ l' l=true->∀d∈l',d < T.next:=by
   intro l'
   induction l' with
   |nil=>intro l h d hd;cases hd
   |cons d' l' ih=>
    intro l h d hd
    cases l with
    |nil=>simp [ckDf] at h
    |cons d0 l=>
     simp only [ckDf,zC] at h
     rcases zT.1 hd with rfl |hd
     ·exact (ckNm_ok hM h.1).1
     exact ih l h.2 d hd
  exact key _ _ b4
 obtain ⟨nm,so,hl,ho⟩:=hid
 obtain ⟨i,so0,h1,h2,h3⟩:=(ob hl).2.2 id ho
 exact .inl ⟨i,so0,h2,h3⟩
end HX

namespace HX
open Go CX
variable {ro:Addr->Option V}
mutual
def ShK:Kd->D->Prop
 |.int _,d=>∃n,d=.i n
 |.bool,d=>∃b,d=.b b
 |.str,d=>∃s,d=.s s
 |.fnc _,d=>d=.nil
 |.pt k,d=>ShK k d
 |.sl ks,d=>∃rows,d=.l rows/\(∀row∈rows,ShL ks row)/\rows.length<=9223372036854775807
def ShL:List Kd->List D->Prop
 |[],[]=>True
 |k :: ks,d :: ds=>ShK k d/\ShL ks ds
 |_,_=>False
end
def ShR (ks:List Kd) (rows:Rows):Prop:=(∀row∈rows,ShL ks row)/\rows.length<=9223372036854775807
mutual
theorem ShK.of {g:Nat->Option O} {B:Nat}:∀(k:Kd) (d:D) (v:V),FzC ro g B k d v->ShK k d
 |.int _,_,_,h=>by simp only [FzC] at h;simp only [ShK];exact h.1
 |.bool,_,_,h=>by simp only [FzC] at h;simp only [ShK];exact h.1
 |.str,_,_,h=>by simp only [FzC] at h;simp only [ShK];exact h.1
 |.fnc _,_,_,h=>by simp only [FzC] at h;simp only [ShK];exact h.1
 |.pt k,_,_,h=>by
  simp only [FzC] at h
  obtain ⟨_,_,_,_,_,_,_,_,_,_,h6⟩:=h
  simp only [ShK]
  exact ShK.of k _ _ h6
 |.sl ks,_,_,h=>by
  simp only [FzC] at h
  simp only [ShK]
  obtain ⟨⟨rows,rfl,hl⟩,h⟩:=h
  refine ⟨rows,rfl,fun row hr=>?_,hl.2⟩
  obtain ⟨i,hi,rfl⟩:=List.getElem_of_mem hr
  rcases h with ⟨h,_⟩ |⟨id,off,cap,_,_,_,_,t,m,_,_,h⟩ |⟨a,cap,_,_,_,h⟩
  ·simp only [D.rows] at h;subst h;simp at hi
  all_goals
   have:=ShL.of ks (gt rows i) _ 0 (h i hi) rows[i] (hl.1 _ hr) (fun j hj=>by simp [gt,zI,hi])
   exact this
theorem ShL.of {g:Nat->Option O} {B:Nat}:∀(ks:List Kd) (f:Nat->D) (u:Nat->Option V) (c:Nat),FzR ro g B ks f u c->∀row:List D,row.length=ks.length->(∀j,j < ks.length->f (c+j)=row.getD j .nil)->ShL ks row
 |[],_,_,_,_,row,hl,_=>by
  have:row=[]:=xA.1 hl
  subst this;trivial
 |k :: ks,f,u,c,h,row,hl,hf=>by
  simp only [FzR] at h
  cases row with
  |nil=>simp at hl
  |cons d row=>
   simp only [ShL]
   obtain ⟨⟨v,_,h1⟩,h2⟩:=h
   refine ⟨?_,ShL.of ks f u (c+1) h2 row (by simpa using hl) fun j hj=>?_⟩
   ·have:=hf 0 (by simp)
    simp only [kB,List.getD_cons_zero] at this
    rw [<-this];exact ShK.of k _ v h1
   have:=hf (j+1) (by simp;omega)
   rw [show c+1+j=c+(j+1) by omega,this];simp
end
def allK:Kd->(D->Prop)->Prop
 |.int _,K=>∀n:Int,K (.i n)
 |.bool,K=>∀b:Bool,K (.b b)
 |.str,K=>∀s:List Nat,K (.s s)
 |.fnc _,K=>K .nil
 |.pt k,K=>allK k K
 |.sl ks,K=>∀rows:Rows,ShR ks rows->K (.l rows)
def allL:List Kd->(List D->Prop)->Prop
 |[],K=>K []
 |k :: ks,K=>allK k fun d=>allL ks fun l=>K (d :: l)
def allA:List (Bool×List Kd)->(List (List D)->Prop)->Prop
 |[],K=>K []
 |(_,ks) :: r,K=>allL ks fun d=>allA r fun l=>K (d :: l)
theorem allK_ok:∀{k:Kd} {K:D->Prop},allK k K->∀{d:D},ShK k d->K d
 |.int _,K,h,d,hd=>by simp only [ShK] at hd;simp only [allK] at h;obtain ⟨n,rfl⟩:=hd;exact h n
 |.bool,K,h,d,hd=>by simp only [ShK] at hd;simp only [allK] at h;obtain ⟨n,rfl⟩:=hd;exact h n
 |.str,K,h,d,hd=>by simp only [ShK] at hd;simp only [allK] at h;obtain ⟨n,rfl⟩:=hd;exact h n
 |.sl _,K,h,d,hd=>by simp only [ShK] at hd;simp only [allK] at h;obtain ⟨rows,rfl,hr⟩:=hd;exact h rows hr
 |.fnc _,K,h,d,hd=>by simp only [ShK] at hd;simp only [allK] at h;subst hd;exact h
 |.pt k,K,h,d,hd=>by simp only [ShK] at hd;simp only [allK] at h;exact allK_ok (k:=k) h hd
theorem allL_ok:∀{ks:List Kd} {K:List D->Prop},allL ks K->∀{l:List D},ShL ks l->K l
 |[],K,h,[],_=>h
 |k :: ks,K,h,d :: l,hd=>by
  simp only [ShL] at hd
  exact allL_ok (K:=fun l=>K (d :: l)) (allK_ok h hd.1) hd.2
 |[],_,_,_ :: _,hd=>by simp [ShL] at hd
 |_ :: _,_,_,[],hd=>by simp [ShL] at hd
theorem ShL_arg {g:Nat->Option O} {B:Nat} {a:Bool} {ks:List Kd} {d:List D} {v:V} (hl:d.length=ks.length) (h:FzA ro g B a ks (fun c=>d.getD c .nil) v):ShL ks d:=by
 obtain ⟨x,x1,x2,_⟩:=h
 exact ShL.of (g:=g) (B:=B) ks (fun c=>d.getD c .nil) (fun j=>x[j]?) 0 (FzR.of _ _ _ _ fun j k hk=>by simpa using x2 j k hk) d hl (fun j _=>by simp)
theorem allA_ok {g:Nat->Option O} {B:Nat}:∀{ps:List (Bool×List Kd)} {K:List (List D)->Prop},allA ps K->∀{ds:List (List D)} {vs:List V},ArgsFz ro g B ps ds vs->K ds
 |[],K,h,[],_,_=>h
 |(a,ks) :: ps,K,h,d :: ds,v :: vs,hd=>by
  simp only [ArgsFz] at hd
  exact allA_ok (K:=fun l=>K (d :: l)) (allL_ok h (ShL_arg hd.1 hd.2.1)) hd.2.2
 |[],_,_,_ :: _,_,hd=>by simp [ArgsFz] at hd
 |_ :: _,_,_,[],_,hd=>by simp [ArgsFz] at hd
 |_ :: _,_,_,_ :: _,[],hd=>by simp [ArgsFz] at hd
def argC (b:Nat):Kd->D->SV
 |.int k,.i n=>.int k n
 |.bool,.b x=>.sym x
 |.str,.s x=>.str x
 |.fnc f,.nil=>.fn f [] []
 |.sl ks,.l rows=>.fz b ks rows
 |.pt k,d=>.fel b [k] [[d]] 0 0
 |_,_=>.unk
def argL (b:Nat):List Kd->List D->List SV
 |k :: ks,d :: ds=>argC b k d :: argL b ks ds
 |_,_=>[]
def argsSV (b:Nat):List (Bool×List Kd)->List (List D)->Option (List SV)
 |[],[]=>some []
 |(g,ks) :: ps,d :: ds=>match pack g (argL b ks d),argsSV b ps ds with
  |some v,some vs=>some (v :: vs)
  |_,_=>none
 |_,_=>none
def eqRow (f:Nat->D):List D->Nat->List Prop
 |[],_=>[]
 |d :: ds,c=>(f c=d) :: eqRow f ds (c+1)
def eqRes (r:Nat->Nat->D):List (List D)->Nat->List Prop
 |[],_=>[]
 |d :: ds,i=>eqRow (r i) d 0++eqRes r ds (i+1)
def whole:SV->SV
 |.vw nm _ _=>.slc nm
 |v=>v
def retD (A:Ar) (fn:Func) (sg:Sig) (r:Nat->Nat->D) (vs:List SV) (σ:St):Prop:=
 match argsD A σ false sg.results vs with
 |some ds=>allP (eqRes r ds 0)
 |none=>StuckR fn.name σ
def retRP (E:Env) (fn:Func) (sg:Sig) (r:Nat->Nat->D) (σ:St):Prop:=
 match takeS σ.df σ.objs with
 |some objs=>match resAll E (σ.mem objs σ.next) fn.results.toList with
  |some vs=>retD E.A fn sg r vs (σ.mem (frzL objs (vs.map whole)) σ.next)
  |none=>StuckR fn.name σ
 |none=>StuckR fn.name σ
def retX (E:Env) (fn:Func) (sg:Sig) (r:Nat->Nat->D):Ex->St->Prop
 |.ret,σ=>retRP E fn sg r σ
 |.normal,σ=>retRP E fn sg r σ
 |_,σ=>StuckR fn.name σ
def fnVC (b0 n0:Nat) (E:Env) (inl:Nat->Option Func) (n:Nat) (fn:Func) (sg:Sig) (r:Nat->Nat->D) (ds:List (List D)):Prop:=
 match fn.body with
 |some c=>match argsSV b0 sg.params ds with
  |some vs=>match bleN vs.length fn.ntmps with
   |true=>vc E none 0 (ciN E inl n) c (retX E fn sg r) ⟨fn.ntmps,enterS 0 vs,[],n0,[]⟩
   |false=>False
  |none=>False
 |none=>False
theorem argL_ok {C:Cx ro} {n b:Nat} (hb:b<=n):∀{ks:List Kd} {d:List D},ShL ks d->∀{x:List V},x.length=ks.length->(∀j k,ks[j]?=some k->∃u,x[j]?=some u/\FzC ro C.g (C.bd b) k (d.getD j .nil) u)->RvSL C n (argL b ks d) x
 |[],[],_,x,hx,_=>by
  have:x=[]:=xA.1 hx
  subst this;trivial
 |k :: ks,d :: ds,hd,x,hx,h=>by
  simp only [ShL] at hd
  cases x with
  |nil=>simp at hx
  |cons v x=>
   simp only [argL,RvSL]
   refine ⟨?_,argL_ok hb hd.2 (by simpa using hx) fun j k' hk=>?_⟩
   ·obtain ⟨u,h1,h2⟩:=h 0 k (by simp)
    simp only [zL,zA,List.getD_cons_zero] at h1 h2
    subst h1
    have hs:=hd.1
    cases k<;>simp only [ShK] at hs
    ·obtain ⟨n,rfl⟩:=hs;simp only [FzC] at h2;simp only [argC,RvS];exact h2.2
    ·obtain ⟨n,rfl⟩:=hs;simp only [FzC] at h2;simp only [argC,RvS];exact h2.2
    ·obtain ⟨n,rfl⟩:=hs;simp only [FzC] at h2;simp only [argC,RvS];exact h2.2
    ·obtain ⟨rows,rfl,_⟩:=hs;simp only [argC,RvS];exact ⟨hb,h2⟩
    ·subst hs;simp only [FzC] at h2;simp only [argC,RvS];exact ⟨[],[],trivial,trivial,h2.2⟩
    simp only [FzC] at h2
    obtain ⟨id,base,t,m,u,rfl,h2,h3,h4,h5,h6⟩:=h2
    simp only [argC,RvS,FelR]
    refine ⟨hb,.inl ⟨id,base,t,m,rfl,h2,h3,h4,?_⟩⟩
    simp only [FzR]
    exact ⟨⟨u,h5,h6⟩,trivial⟩
   obtain ⟨u,h1,h2⟩:=h (j+1) k' (by simpa using hk)
   exact ⟨u,by simpa using h1,by simpa using h2⟩
 |[],_ :: _,hd,_,_,_=>by simp [ShL] at hd
 |_ :: _,[],hd,_,_,_=>by simp [ShL] at hd
theorem argsSV_ok {C:Cx ro} {n b:Nat} (hb:b<=n):∀{ps:List (Bool×List Kd)} {ds:List (List D)} {l:List SV},argsSV b ps ds=some l->∀{x:List V},ArgsFz ro C.g (C.bd b) ps ds x->RvSL C n l x
 |[],[],l,h,x,hx=>by
  simp only [argsSV,zA] at h
  subst h
  cases x with
  |nil=>trivial
  |cons _ _=>simp [ArgsFz] at hx
 |(a,ks) :: ps,d :: ds,l,h,x,hx=>by
  simp only [argsSV] at h
  split at h
  rotate_left
  ·cases h
  rename_i s ss hs hss
  simp only [zA] at h
  subst h
  cases x with
  |nil=>simp [ArgsFz] at hx
  |cons v x=>
   simp only [ArgsFz] at hx
   simp only [RvSL]
   refine ⟨?_,argsSV_ok hb hss hx.2.2⟩
   have hsh:=ShL_arg hx.1 hx.2.1
   obtain ⟨y,y1,y2,y3⟩:=hx.2.1
   have hy:=argL_ok hb (C:=C) (n:=n) hsh y1 y2
   obtain ⟨u,u1,u2⟩:=pack_ok hs hy
   cases a with
   |true=>
    simp only at y3
    subst y3
    simp only [pack,zA] at hs
    subst hs
    simp only [RvS]
    exact ⟨y,hy,rfl⟩
   |false=>
    simp only at y3
    obtain ⟨w,rfl,rfl⟩:=y3
    unfold pack at hs
    simp only at hs
    split at hs
    next w' hw=>
     simp only [zA] at hs
     subst hs
     rw [hw] at hy
     simp only [RvSL] at hy
     exact hy.1
    cases hs
 |[],_ :: _,l,h,_,_=>by simp [argsSV] at h
 |_ :: _,[],l,h,_,_=>by simp [argsSV] at h
theorem eqRow_ok {f:Nat->D}:∀(ds:List D) (c:Nat),(∀p∈eqRow f ds c,p)->∀j,j < ds.length->f (c+j)=ds.getD j .nil
 |[],c,_,j,hj=>by simp at hj
 |d :: ds,c,h,j,hj=>by
  simp only [eqRow] at h
  cases j with
  |zero=>simpa using h _ (.head _)
  |succ j=>
   have:=eqRow_ok ds (c+1) (fun p hp=>h p (.tail _ hp)) j (by simpa using hj)
   rw [show c+(j+1)=c+1+j by omega,this];simp
theorem eqRes_ok {g:Nat->Option O} {B:Nat} {r:Nat->Nat->D}:∀{ps:List (Bool×List Kd)} {ds:List (List D)} {i:Nat},(∀p∈eqRes r ds i,p)->∀{x:List V},ArgsFz ro g B ps ds x->ResFz ro g B r ps i x
 |[],[],i,_,x,hx=>by
  cases x with
  |nil=>trivial
  |cons _ _=>simp [ArgsFz] at hx
 |(a,ks) :: ps,d :: ds,i,h,x,hx=>by
  cases x with
  |nil=>simp [ArgsFz] at hx
  |cons v x=>
   simp only [ArgsFz] at hx
   simp only [ResFz]
   simp only [eqRes] at h
   refine ⟨?_,eqRes_ok (fun p hp=>h p (xP _ hp)) hx.2.2⟩
   obtain ⟨y,y1,y2,y3⟩:=hx.2.1
   refine ⟨y,y1,fun j k hk=>?_,y3⟩
   obtain ⟨u,u1,u2⟩:=y2 j k hk
   have hj:j < d.length:=by rw [hx.1];exact (xD.1 hk).1
   have:=eqRow_ok d 0 (fun p hp=>h p (xW _ hp)) j hj
   rw [zU] at this
   exact ⟨u,u1,by rw [this];exact u2⟩
 |[],_ :: _,i,_,x,hx=>by simp [ArgsFz] at hx
 |_ :: _,[],i,_,x,hx=>by simp [ArgsFz] at hx
theorem of_vcG {E:Env} (hE:EnvOk E) {inl:Nat->Option Func} (hinl:∀f fn,inl f=some fn->E.E.fn f=some fn/\E.E.ext f=none) (n:Nat) {f:Nat} {fn:Func} {sg:Sig} {pre:List (List D)->Prop} {res:List (List D)->Nat->Nat->D} (hf:E.E.fn f=some fn/\E.E.ext f=none)
  (b0 n0:Nat) (hb0:b0<=n0) (h:allA sg.params fun ds=>pre ds->fnVC b0 n0 E inl n fn sg (res ds) ds) {ds:List (List D)} (hpre:pre ds) {g:Nat->Option O} {bar nx:Nat} {hp:T O} {args:List V} (C:Cx E.E.ro) (hCg:C.g=g) (hM:MSim C [] n0 bar hp.get nx)
  (hargs:ArgsFz E.E.ro C.g (C.bd b0) sg.params ds args) :
  ∃(vs:List V) (h':T O) (nx':Nat) (g':Nat->Option O),Evt (fun n=>∀k,callF E.E (cx E.E n) bar hp nx f args k=k (CX.one vs) h' nx')/\nx<=nx'/\(∀id,id < nx->h'.get id=hp.get id)/\(∀id o,g id=some o->g' id=some o)/\
   (∀id o,g' id=some o->(id < nx'/\h'.get id=some o)/\(g id=some o\/nx<=id))/\ResFz E.E.ro g' nx' (res ds) sg.results 0 vs:=by
 subst hCg
 have hvc:=allA_ok h hargs hpre
 unfold fnVC at hvc
 split at hvc
 rotate_left
 ·exact hvc.elim
 rename_i c hc
 split at hvc
 rotate_left
 ·exact hvc.elim
 rename_i vs hvs
 split at hvc
 rotate_left
 ·exact hvc.elim
 rename_i hle
 simp only [bleN_iff] at hle
 have hrel:RvSL C n0 vs args:=argsSV_ok hb0 hvs hargs
 obtain ⟨t',t1,t2⟩:=enter_ok (C:=C) (n:=n0) _ _ 0 .e [] hrel (fun t s h=>by simp [look] at h) (fun j s h=>by simp [look] at h)
 obtain ⟨e,S',C',σ',k1,k2,k3,k4⟩:=vc_ok hE (ciN_ok hE hinl n) (rd:=none) (lo:=0) c _ _ hvc C ⟨fn.ntmps,bar,t',hp,nx,[]⟩ ⟨rfl,fun j s hl=>.inr (t2 j s hl),hM,.nil,fun d hd=>by cases hd⟩ (xZ _) (fun l hl=>by cases hl)
 have none0:∀id,¬OwnId C [] id:=fun id h=>by obtain ⟨_,_,hl,_⟩:=h;simp [look] at hl
 have fin:retRP E fn sg (res ds) σ'->(e=.normal\/e=.ret)->∃(vs:List V) (h':T O) (nx':Nat) (g':Nat->Option O),Evt (fun n=>∀k,callF E.E (cx E.E n) bar hp nx f args k=k (CX.one vs) h' nx')/\nx<=nx'/\(∀id,id < nx->h'.get id=hp.get id)/\(∀id o,C.g id=some o->g' id=some o)/\
   (∀id o,g' id=some o->(id < nx'/\h'.get id=some o)/\(C.g id=some o\/nx<=id))/\ResFz E.E.ro g' nx' (res ds) sg.results 0 vs:=by
  intro hr he
  unfold retRP at hr
  split at hr
  rotate_left
  ·exact hr.out.elim
  rename_i objs ho
  split at hr
  rotate_left
  ·exact hr.out.elim
  rename_i rs hrs
  unfold retD at hr
  split at hr
  rotate_left
  ·exact hr.out.elim
  rename_i ds' hds
  obtain ⟨h',t1',t2',t3'⟩:=take_ok S'.df σ'.df σ'.objs objs S'.h ho k2.m k2.df k2.dflt
  obtain ⟨x,x1,x2⟩:=resAll_ok (σ:=σ'.mem objs σ'.next) hE t2' k2.regs fn.results.toList hrs
  obtain ⟨C2,m2,e2⟩:=t2'.frzL (rs.map whole)
  have hA:=argsD_ok hE.A (σ:=σ'.mem (frzL objs (rs.map whole)) σ'.next) m2 (fun _ _ h=>h) (fun e=>by cases e) hds (RvSL.ag e2.ag (zB _) _ _ x1)
  have hext:MExt C [] 0 hp.get nx C2 (frzL objs (rs.map whole)) σ'.next h'.get S'.nx:=yext (k3.m.took t3' (fun i hi=>(k3.df i hi).resolve_left (by intro h;cases h))) (MExt.refl _ _ _ _ _) ((MExt.refl _ _ _ _ _).less (xZ _)) e2
  have hbar':S'.bar=bar:=k3.bar
  refine ⟨x,h',S'.nx,C2.g,k1.mono fun n hn k=>?_,hext.nxle,fun id hid=>hext.keep id hid (none0 id),fun id o hgo=>hext.ag.g id o hgo,fun id o hgo=>⟨m2.fz id o hgo,?_⟩,eqRes_ok (allP_ok _ hr) hA⟩
  ·have hlen:Nat.ble (CX.len args) fn.ntmps=true:=bleT (by rw [len_eq,hrel.length];exact hle)
   have hn':cx E.E n none c ⟨fn.ntmps,bar,t',hp,nx,[]⟩=some (e,S'):=hn
   have hrun:outV (takeDf bar S'.df S'.h fun h=>resultsX E.E S'.regs h fn.results.toList fun l=>retV (CX.one l) h S'.nx) k=k (CX.one x) h' S'.nx:=by
    rw [<-hbar',t1',x2];rfl
   simp only [callF,hf.1,hf.2,hc,hlen,t1,hn']
   rcases he with rfl |rfl<;>exact hrun
  rcases hext.g id o hgo with h |h |h
  ·exact .inl h
  ·exact absurd h (none0 id)
  exact .inr h
 cases e with
 |normal=>exact fin k4 (.inl rfl)
 |ret=>exact fin k4 (.inr rfl)
 |exit i=>exact (StuckR.out k4).elim
theorem PureC.of_vc {E:Env} (hE:EnvOk E) {inl:Nat->Option Func} (hinl:∀f fn,inl f=some fn->E.E.fn f=some fn/\E.E.ext f=none) (n:Nat) {f:Nat} {fn:Func} {sg:Sig} {pre:List (List D)->Prop} {res:List (List D)->Nat->Nat->D} (hf:E.E.fn f=some fn/\E.E.ext f=none)
  (h:allA sg.params fun ds=>pre ds->fnVC 1 1 E inl n fn sg (res ds) ds):PureC E.E f sg pre res:=by
 intro ds hpre g bar nx hp args hg hbar hargs
 refine of_vcG hE hinl n hf 1 1 (zB _) h hpre (bar:=bar) ⟨fun _=>0,fun _=>.nils,g,fun b=>if b=0 then 0 else nx⟩ rfl ?_ hargs
 exact ⟨fun _ _ h=>by simp [look] at h,fun _ _ h=>by simp [look] at h,fun _ _ h=>by simp [look] at h,fun _ _ _ _ h=>by simp [look] at h,hg,fun b _=>by show (if b=0 then 0 else nx)<=nx;split<;>omega,rfl,hbar,rfl⟩
def PureC0 (E:CX.Env) (f:Nat) (sg:Sig) (pre:List (List D)->Prop) (fn:List (List D)->Nat->Nat->D):Prop:=
 ∀ds,pre ds->∀(args:List V),ArgsFz E.ro (fun _=>none) 0 sg.params ds args->
  ∃(vs:List V) (h':T O) (nx':Nat) (g':Nat->Option O),Evt (fun n=>∀k,callF E (cx E n) 0 .e 0 f args k=k (CX.one vs) h' nx')/\ResFz E.ro g' nx' (fn ds) sg.results 0 vs
theorem PureC0.of_vc {E:Env} (hE:EnvOk E) {inl:Nat->Option Func} (hinl:∀f fn,inl f=some fn->E.E.fn f=some fn/\E.E.ext f=none) (n:Nat) {f:Nat} {fn:Func} {sg:Sig} {pre:List (List D)->Prop} {res:List (List D)->Nat->Nat->D} (hf:E.E.fn f=some fn/\E.E.ext f=none)
  (h:allA sg.params fun ds=>pre ds->fnVC 0 0 E inl n fn sg (res ds) ds):PureC0 E.E f sg pre res:=by
 intro ds hpre args hargs
 obtain ⟨vs,h',nx',g',c1,_,_,_,_,c6⟩:=of_vcG hE hinl n hf 0 0 (zB _) h hpre (bar:=0) (hp:=.e) (nx:=0) ⟨fun _=>0,fun _=>.nils,fun _=>none,fun _=>0⟩ rfl
  ⟨fun _ _ h=>by simp [look] at h,fun _ _ h=>by simp [look] at h,fun _ _ h=>by simp [look] at h,fun _ _ _ _ h=>by simp [look] at h,fun _ _ h=>(by cases h),fun _ _=>zB _,rfl,zB _,rfl⟩ hargs
 exact ⟨vs,h',nx',g',c1,c6⟩
end HX

namespace HX
open Go CX
def addN (l:List Nat) (x:Nat):List Nat:=
 match memN x l with
 |true=>l
 |false=>l++[x]
def addAll (l:List Nat):List Nat->List Nat
 |[]=>l
 |x :: r=>addAll (addN l x) r
def asg:Code->List (Nat×Nat)
 |.region _ ops _=>ops.toList.filterMap fun o=>match o.dst with
  |some d=>some (d,o.type)
  |none=>none
 |.seq a b=>asg a++asg b
 |.cond _ a b=>asg a++asg b
 |.block _ a=>asg a
 |.loop a=>asg a
 |.scope a=>asg a
 |.rangeFunc _ ps a b=>(ps.toList.map fun p=>(p,0))++(asg a++asg b)
 |_=>[]
def fstsU (seen:List Nat):List (Nat×Nat)->List (Nat×Nat)
 |[]=>[]
 |(t,y) :: r=>match memN t seen with
  |true=>fstsU seen r
  |false=>(t,y) :: fstsU (t :: seen) r
def memF (t:Nat):List (Nat×Nat)->Bool
 |[]=>false
 |(x,_) :: r=>match beqN t x with
  |true=>true
  |false=>memF t r
def tmplV (E:Env) (σ:St) (b ty:Nat) (s:SV) (d:D) (n:Nat):Option (SV×List (Nat×SO)×Nat):=
 match s with
 |.int k _=>some (.int k d.int,[],n)
 |.bool _=>some (.sym d.boo,[],n)
 |.sym _=>some (.sym d.boo,[],n)
 |.str _=>some (.str d.str,[],n)
 |.slc nm=>match look σ.objs nm with
  |some (.arr _ ks _)=>some (.slc n,[(n,.arr n ks d.rows)],n+1)
  |some (.frz ks _)=>some (.fz b ks d.rows,[],n)
  |_=>none
 |.fz _ ks _=>some (.fz b ks d.rows,[],n)
 |.nils=>match eKs E ty with
  |some (ks,_)=>some (.slc n,[(n,.arr n ks d.rows)],n+1)
  |none=>none
 |_=>none
def tmplL (E:Env) (σ:St) (b:Nat):List Nat->List SV->List D->Nat->Option (List SV×List (Nat×SO)×Nat)
 |_,[],_,n=>some ([],[],n)
 |ty,s :: l,ds,n=>match (match ds with |d :: _=>tmplV E σ b (ty.headD 0) s d n |[]=>none) with
  |some (v,o,n)=>match tmplL E σ b (ty.drop 1) l (ds.drop 1) n with
   |some (vs,os,n)=>some (v :: vs,o++os,n)
   |none=>none
  |none=>match tmplL E σ b (ty.drop 1) l (ds.drop 1) n with
   |some (vs,os,n)=>some (s :: vs,os,n)
   |none=>none
def tmplA (E:Env) (σ:St) (b ty:Nat) (s:SV) (d:D) (n:Nat):Option (SV×List (Nat×SO)×Nat):=
 match s with
 |.agg l=>match tmplL E σ b [] l (d.rows.getD 0 []) n with
  |some (vs,os,n)=>some (.agg vs,os,n)
  |none=>none
 |s=>tmplV E σ b ty s d n
def dataV:SV->Bool
 |.int ..=>true
 |.bool _=>true
 |.sym _=>true
 |.str _=>true
 |.slc _=>true
 |.fz ..=>true
 |.nils=>true
 |.agg _=>true
 |_=>false
def carried (regs:List (Nat×SV)) (drop:List Nat):List (Nat×Nat)->List (Nat×Nat×SV)
 |[]=>[]
 |(t,y) :: r=>match memN t drop with
  |true=>carried regs drop r
  |false=>match look regs t with
   |some v=>match dataV v with
    |true=>(t,y,v) :: carried regs drop r
    |false=>carried regs drop r
   |none=>carried regs drop r
def newRegs (E:Env) (σ:St) (b:Nat):List (Nat×Nat×SV)->List D->Nat->List (Nat×SV)×List (Nat×SO)×Nat×List D
 |[],ds,n=>([],[],n,ds)
 |(t,y,v) :: r,ds,n=>match tmplA E σ b y v (ds.headD .nil) n with
  |some (v',o,n)=>match newRegs E σ b r (ds.drop 1) n with
   |(rs,os,n,ds)=>((t,v') :: rs,o++os,n,ds)
  |none=>newRegs E σ b r (ds.drop 1) n
def keepR (asl:List (Nat×Nat)) (seen:List Nat):List (Nat×SV)->List (Nat×SV)
 |[]=>[]
 |(t,v) :: r=>match memF t asl || memN t seen with
  |true=>keepR asl seen r
  |false=>(t,v) :: keepR asl (t :: seen) r
def newObjs (E:Env) (σ:St) (drop:List Nat) (b:Nat):List (Nat×List Nat)->List D->Nat->List (Nat×SO)×Nat
 |[],_,n=>([],n)
 |(nm,tys) :: r,ds,n=>match look σ.objs nm with
  |some (.cells l)=>match tmplL E σ b tys l ((ds.headD .nil).rows.getD 0 []) n with
   |some (vs,os,n)=>match newObjs E σ drop b r (ds.drop 1) n with
    |(os',n)=>((nm,.cells vs) :: (os++os'),n)
   |none=>newObjs E σ drop b r (ds.drop 1) n
  |some (.arr og ks _)=>match newObjs E σ drop b r (ds.drop 1) n with
   |(os',n)=>((nm,.arr og ks (ds.headD .nil).rows) :: os',n)
  |some (.mat og ks _ _ _)=>match newObjs E σ drop b r (ds.drop 1) (n+1) with
   |(os',n')=>((nm,.mat og ks (ds.headD .nil).rows n none) :: os',n')
  |some (.mp ka va kk vk _)=>match newObjs E σ drop b r (ds.drop 1) n with
   |(os',n)=>((nm,.mp ka va kk vk (ds.headD .nil).rows) :: os',n)
  |some (.loop st j nt regs ps a c d)=>match fstsU [] (asg a++asg c) with
   |asl=>match newRegs E σ b (carried regs drop asl) ds n with
    |(rs,os,n,ds)=>match newObjs E σ drop b r ds n with
     |(os',n)=>((nm,.loop st j nt (rs++keepR asl [] regs) ps a c d) :: (os++os'),n)
  |_=>newObjs E σ drop b r (ds.drop 1) n
mutual
def svNs:SV->List Nat
 |.ptr n _=>[n]
 |.el n _ _ _=>[n]
 |.mel n _=>[n]
 |.mrow n rn _=>[n,rn]
 |.slc n=>[n]
 |.vw n _ _=>[n]
 |.sc n _ _ _=>[n]
 |.map n=>[n]
 |.yield n=>[n]
 |.fn _ a b=>svNsL a++svNsL b
 |.iface _ v=>svNs v
 |.agg l=>svNsL l
 |.tup l=>svNsL l
 |_=>[]
def svNsL:List SV->List Nat
 |[]=>[]
 |v :: l=>svNs v++svNsL l
end
def regNs:List (Nat×SV)->List Nat
 |[]=>[]
 |(_,v) :: r=>svNs v++regNs r
def objNs:SO->List Nat
 |.cells l=>svNsL l
 |.loop _ _ _ regs _ _ _ d=>d :: regNs regs
 |_=>[]
def reach1 (lo:Nat) (s seen:List Nat):List (Nat×SO)->List Nat
 |[]=>s
 |(i,o) :: r=>match memN i seen with
  |true=>reach1 lo s seen r
  |false=>match bltN i lo || memN i s with
   |true=>reach1 lo (addAll s (objNs o)) (i :: seen) r
   |false=>reach1 lo s (i :: seen) r
def reach (lo:Nat) (objs:List (Nat×SO)):Nat->List Nat->List Nat
 |0,s=>s
 |n+1,s=>reach lo objs n (reach1 lo s [] objs)
def keepO (lo:Nat) (s seen:List Nat):List (Nat×SO)->List (Nat×SO)
 |[]=>[]
 |(i,o) :: r=>match memN i seen with
  |true=>keepO lo s seen r
  |false=>match o with
   |.gone=>keepO lo s (i :: seen) r
   |o=>match bltN i lo || memN i s with
    |true=>(i,o) :: keepO lo s (i :: seen) r
    |false=>keepO lo s (i :: seen) r
def maxN (a b:Nat):Nat:=
 match bltN a b with
 |true=>b
 |false=>a
def slcNs:List SV->List Nat
 |[]=>[]
 |.slc n :: r=>n :: slcNs r
 |_ :: r=>slcNs r
def replC:List (Nat×Nat×SV)->List Nat
 |[]=>[]
 |(_,_,v) :: r=>slcNs (flat v)++replC r
def replO (σ:St):List (Nat×List Nat)->List Nat
 |[]=>[]
 |(nm,_) :: r=>match look σ.objs nm with
  |some (.cells l)=>slcNs l++replO σ r
  |_=>replO σ r
def anyN (l:List Nat):List Nat->Bool
 |[]=>false
 |x :: r=>match memN x l with
  |true=>true
  |false=>anyN l r
def forget (l:List Nat):List (Nat×SV)->List (Nat×SV)
 |[]=>[]
 |(t,v) :: r=>match anyN l (svNs v) with
  |true=>forget l r
  |false=>(t,v) :: forget l r
def goneN:List (Nat×SO)->List Nat
 |[]=>[]
 |(i,.gone) :: r=>i :: goneN r
 |_ :: r=>goneN r
def updT (E:Env) (lo:Nat) (c:Code) (σ:St) (drop:List Nat) (names:List (Nat×List Nat)) (vals:List D):St:=
 match fstsU [] (asg c) with
 |asl=>match newRegs E σ (maxN lo σ.next+1) (carried σ.regs drop asl) vals (maxN lo σ.next+1) with
  |(rs,os,n,ds)=>match newObjs E σ drop (maxN lo σ.next+1) names ds n with
   |(os',n)=>match rs++forget (goneN σ.objs++(replC (carried σ.regs drop asl)++replO σ names)) (keepR asl [] σ.regs),os++(os'++σ.objs) with
    |regs,objs=>⟨σ.nt,regs,keepO lo (reach lo objs 4 (addAll (addAll [] (regNs regs)) σ.df)) (replC (carried σ.regs drop asl)++replO σ names) objs,maxN n (maxN lo σ.next+1),σ.df⟩
theorem le_maxN (a b:Nat):a<=maxN a b/\b<=maxN a b:=by
 unfold maxN
 split
 next h=>simp only [bltN_iff] at h;omega
 rename_i h;simp only [bltN_not] at h;omega
theorem updT_lo {E:Env} {lo:Nat} {c:Code} {σ:St} {drop:List Nat} {names:List (Nat×List Nat)} {vals:List D}:lo<=(updT E lo c σ drop names vals).next:=by
 unfold updT
 simp only
 exact zY (Nat.le_succ_of_le (le_maxN lo σ.next).1) (le_maxN _ _).2
def endQ (K:St->Prop) (Q:Ex->St->Prop):Ex->St->Prop
 |.normal,σ=>K σ
 |e,σ=>Q e σ
theorem Leaf.gen {E:CX.Env} {rd:Option Nat} {lo:Nat} {c:Code} {Q:Ex->St->Prop} {σ:St} (h:∀s,s=σ->Leaf E rd lo c Q s):Leaf E rd lo c Q σ:=h σ rfl
def lookAll (regs:List (Nat×SV)):List Nat->List SV
 |[]=>[]
 |t :: r=>match look regs t with
  |some v=>v :: lookAll regs r
  |none=>lookAll regs r
def frzT (ts:List Nat) (σ:St):St:=⟨σ.nt,σ.regs,frzL σ.objs (lookAll σ.regs ts),σ.next,σ.df⟩
theorem Sub.frz {lo:Nat} {σ T:St} (ts:List Nat) (h:Sub lo (frzT ts σ) T):Sub lo σ T:=by
 intro ro C S hS hlo
 obtain ⟨C1,m1,e1⟩:=hS.m.frzL (lookAll σ.regs ts)
 have hS1:Sim C1 (frzT ts σ) S:=⟨hS.nt,RegsS.ag e1.ag (zB _) hS.regs,m1,by
  exact hS.df.ext e1 hS.dflt,hS.dflt⟩
 have hx:Ext lo C σ S C1 (frzT ts σ) S:=⟨e1.less hlo,rfl,fun _ h=>.inl h⟩
 obtain ⟨C2,s1,s2⟩:=h ro C1 S hS1 hlo
 exact ⟨C2,s1,hx.trans s2⟩
def rtk1 (A:Ar) (t:Nat) (σ:St):St:=
 match look σ.regs t with
 |some (.vw nm 0 n)=>match look σ.objs nm with
  |some (.arr og ks rows)=>⟨σ.nt,(t,.slc σ.next) :: σ.regs,(σ.next,.arr og ks (A.sub' rows 0 n)) :: (nm,.gone) :: σ.objs,σ.next+1,σ.df⟩
  |_=>σ
 |_=>σ
def rtk (A:Ar):List Nat->St->St
 |[],σ=>σ
 |t :: r,σ=>rtk A r (rtk1 A t σ)
theorem rtk1_sub {E:Env} (hA:E.A=Ar.std) {lo:Nat} {σ T:St} (t:Nat) (h:Sub lo (rtk1 E.A t σ) T):Sub lo σ T:=by
 intro ro C S hS hlo
 unfold rtk1 at h
 split at h
 rotate_left
 ·exact h ro C S hS hlo
 rename_i nm n hr
 split at h
 rotate_left
 ·exact h ro C S hS hlo
 rename_i og ks rows hl
 have hM:=hS.m
 have hob:=hM.ob _ _ hl
 simp only [ObS] at hob
 obtain ⟨⟨hks,hlr⟩,hob⟩:=hob
 have esub:E.A.sub' rows 0 n=rows.take n:=by rw [hA];show (rows.drop 0).take n=_;rw [xU]
 have fin:∀(C1:Cx ro) (v:V),S.regs.get t=some v->MSim C1 ((σ.next,.arr og ks (E.A.sub' rows 0 n)) :: (nm,.gone) :: σ.objs) (σ.next+1) S.bar S.h.get S.nx->
   MExt C σ.objs σ.next S.h.get S.nx C1 ((σ.next,.arr og ks (E.A.sub' rows 0 n)) :: (nm,.gone) :: σ.objs) (σ.next+1) S.h.get S.nx->RvS C1 (σ.next+1) (.slc σ.next) v->∃C':Cx ro,Sim C' T S/\Ext lo C σ S C' T S:=by
  intro C1 v g1 m1 e1 v1
  have hS1:Sim C1 ⟨σ.nt,(t,.slc σ.next) :: σ.regs,(σ.next,.arr og ks (E.A.sub' rows 0 n)) :: (nm,.gone) :: σ.objs,σ.next+1,σ.df⟩ S:=by
   refine ⟨hS.nt,fun t' s hl'=>?_,m1,?_,fun d hd=>Nat.lt_succ_of_lt (hS.dflt d hd)⟩
   ·rw [look_cons] at hl'
    split at hl'
    next e=>
     simp only [zA] at hl'
     subst e hl'
     exact .inr ⟨v,g1,v1⟩
    exact RegsS.ag e1.ag (zZ _) hS.regs t' s hl'
   exact hS.df.ext e1 hS.dflt
  have hx:Ext lo C σ S C1 ⟨σ.nt,(t,.slc σ.next) :: σ.regs,(σ.next,.arr og ks (E.A.sub' rows 0 n)) :: (nm,.gone) :: σ.objs,σ.next+1,σ.df⟩ S:=⟨e1.less hlo,rfl,fun _ h=>.inl h⟩
  obtain ⟨C2,s1,s2⟩:=h ro C1 S hS1 (Nat.le_succ_of_le hlo)
  exact ⟨C2,s1,hx.trans s2⟩
 rcases hS.regs _ _ hr with h0 |⟨v,g1,g2⟩
 ·cases h0
 simp only [RvS,VwR] at g2
 obtain ⟨hnm,⟨hh0,hv0,hn0⟩ |⟨es,len,cap0,off,cap,hh0,rfl,hoff,hcap,hln⟩⟩:=g2
 ·subst hn0 hv0
  obtain ⟨a,b⟩:=hM.put0 (dead:=some nm) (og:=og) hks (fun nm' e=>by cases e;exact ⟨_,hl⟩)
  have e0:E.A.sub' rows 0 0=[]:=by rw [esub];rfl
  refine fin _ _ g1 (by rw [e0];exact a) (by rw [e0];exact b) ?_
  simp only [RvS,Cx.put,if_true,isHdr]
  exact ⟨zO _,trivial,.inl trivial⟩
 obtain ⟨_,hh1⟩ |⟨t0,m0,cap1,hh1,o1,o2,o3,o4⟩:=hob
 ·rw [hh0] at hh1;cases hh1
 have hown:ownS C nm (.arr og ks rows):=by simp only [ownS,hh0];intro e;cases e
 rw [hh0] at hh1
 simp only [V.slc.injEq,true_and] at hh1
 obtain ⟨rfl,rfl,rfl⟩:=hh1
 have hoff:off=0:=by
  rcases hoff with ⟨_,h⟩ |h
  ·exact h
  rw [h];exact Nat.zero_mul _
 subst hoff
 have tl:(rows.take n).length=n:=by rw [zM];omega
 obtain ⟨q1,q2,q3⟩:=hM.own _ _ hl hown
 obtain ⟨C1,a,b,d⟩:=put_arr (E:=⟨E.A,⟨E.E.T,E.E.fn,E.E.ext,ro⟩,E.ks,E.sig,E.pre,E.fn⟩) hM (dead:=some nm) (og:=og) hks (rows:=rows.take n) ⟨fun row h=>hlr.1 row (kK h),by rw [tl];have:=hlr.2;omega⟩ (j:=C.ids nm) (nx':=S.nx) (cap:=cap) (t:=t0) (m:=m0) (h':=S.h.get)
  (fun nm' e=>by cases e;exact ⟨_,hl⟩) q1 q2 (zB _) q3 (fun nm' s hl' id ho' e=>by
   rcases look_kill hl' with ⟨rfl,_⟩ |⟨hl',hne⟩
   ·rcases ho' with h |h
    ·exact h.1
    exact h
   exact hne (by rw [hM.inj' _ _ _ _ hl' hl id ho' (.inl ⟨hown,e.symm⟩)])) (fun _ _ _=>rfl) (.inl ⟨nm,_,hl,.inl ⟨hown,rfl⟩⟩) o1 (by rw [tl];exact zY (zR _ (by omega)) o2)
  (fun c hc=>by
   obtain ⟨h1,c0,h2,h3⟩:=hcap c hc
   exact ⟨by rw [tl];exact h1,zY (zR _ h3) (o3 c0 h2).2⟩)
  (fun i hi=>by
   rw [tl] at hi
   have e:∀c,gt (rows.take n) i c=gt rows i c:=fun c=>by simp only [gt,zI,xO,if_pos hi]
   rw [show gt (rows.take n) i=gt rows i from funext e]
   exact o4 i (by omega))
 rw [tl] at d
 exact fin C1 _ g1 (by rw [esub];exact a) (by rw [esub];exact b) d
theorem rtk_sub {E:Env} (hA:E.A=Ar.std) {lo:Nat} {T:St}:∀(l:List Nat) {σ:St},Sub lo (rtk E.A l σ) T->Sub lo σ T
 |[],_,h=>h
 |t :: r,_,h=>rtk1_sub hA t (rtk_sub hA r h)
theorem loopB {E:Env} (hE:EnvOk E) {inl:Nat->Option Func} (hinl:∀f fn,inl f=some fn->E.E.fn f=some fn/\E.E.ext f=none) {rd:Option Nat} {lo:Nat} (n:Nat) (fz drop:List Nat) (names:List (Nat×List Nat)) {c:Code} {Q:Ex->St->Prop} {σ:St} {X:Type} (vals:X->List D) (Inv:X->Prop) (μ:X->Nat) (x0:X) (h0:Inv x0)
  (hs:subP lo (frzT fz σ) (updT E lo c (frzT fz σ) drop names (vals x0)))
  (round:∀x,Inv x->∀K:St->Prop,(∀x' σ',Inv x'->μ x' < μ x->subP lo (frzT fz σ') (updT E lo c (frzT fz σ) drop names (vals x'))->K σ')->vc E rd lo (ciN E inl n) c (endQ K Q) (updT E lo c (frzT fz σ) drop names (vals x))) :
  Leaf E.E rd lo (.loop c) Q σ:=by
 refine ⟨loop_ok (fun x=>updT E lo c (frzT fz σ) drop names (vals x)) Inv μ x0 h0 ((subP_ok hs).frz fz) (fun _=>updT_lo) fun x hx=>?_⟩
 have e:loopQ lo (fun x=>updT E lo c (frzT fz σ) drop names (vals x)) Inv μ Q x=endQ (fun σ'=>∃x',Inv x'/\μ x' < μ x/\Sub lo σ' (updT E lo c (frzT fz σ) drop names (vals x'))) Q:=by
  funext e σ'
  cases e<;>rfl
 rw [e]
 exact vc_ok hE (ciN_ok hE hinl n) c _ _ (round x hx _ fun x' σ' h1 h2 h3=>⟨x',h1,h2,(subP_ok h3).frz fz⟩)
theorem loopC {E:Env} (hE:EnvOk E) {inl:Nat->Option Func} (hinl:∀f fn,inl f=some fn->E.E.fn f=some fn/\E.E.ext f=none) {rd:Option Nat} {lo:Nat} (n:Nat) (pt fz drop:List Nat) (names:List (Nat×List Nat)) {c:Code} {Q:Ex->St->Prop} {σ:St} {X:Type} (vals:X->List D) (Inv:X->Prop) (μ:X->Nat) (x0:X) (h0:Inv x0)
  (hs:subP lo (frzT fz (rtk E.A pt σ)) (updT E lo c (frzT fz (rtk E.A pt σ)) drop names (vals x0)))
  (round:∀x,Inv x->∀K:St->Prop,(∀x' σ',Inv x'->μ x' < μ x->subP lo (frzT fz (rtk E.A pt σ')) (updT E lo c (frzT fz (rtk E.A pt σ)) drop names (vals x'))->K σ')->vc E rd lo (ciN E inl n) c (endQ K Q) (updT E lo c (frzT fz (rtk E.A pt σ)) drop names (vals x))) :
  Leaf E.E rd lo (.loop c) Q σ:=by
 refine ⟨loop_ok (fun x=>updT E lo c (frzT fz (rtk E.A pt σ)) drop names (vals x)) Inv μ x0 h0 (rtk_sub hE.A pt ((subP_ok hs).frz fz)) (fun _=>updT_lo) fun x hx=>?_⟩
 have e:loopQ lo (fun x=>updT E lo c (frzT fz (rtk E.A pt σ)) drop names (vals x)) Inv μ Q x=endQ (fun σ'=>∃x',Inv x'/\μ x' < μ x/\Sub lo σ' (updT E lo c (frzT fz (rtk E.A pt σ)) drop names (vals x'))) Q:=by
  funext e σ'
  cases e<;>rfl
 rw [e]
 exact vc_ok hE (ciN_ok hE hinl n) c _ _ (round x hx _ fun x' σ' h1 h2 h3=>⟨x',h1,h2,rtk_sub hE.A pt ((subP_ok h3).frz fz)⟩)
end HX

namespace HX
open Go CX
inductive BT (α:Type) where
 |e
 |n (l:BT α) (k:Nat) (v:α) (r:BT α)
def BT.get {α:Type}:BT α->Nat->Option α
 |.e,_=>none
 |.n l k v r,i=>match beqN i k with
  |true=>some v
  |false=>match bltN i k with
   |true=>l.get i
   |false=>r.get i
def BT.All {α:Type} (p:Nat->α->Prop):BT α->Prop
 |.e=>True
 |.n l k v r=>l.All p/\p k v/\r.All p
theorem BT.All.get {α:Type} {p:Nat->α->Prop}:∀{t:BT α},t.All p->∀{i:Nat} {v:α},t.get i=some v->p i v
 |.e,_,i,v,h=>by simp [BT.get] at h
 |.n l k v0 r,ha,i,v,h=>by
  simp only [BT.get] at h
  split at h
  next hb=>
   simp only [beqN_iff] at hb
   simp only [zA] at h
   subst hb h
   exact ha.2.1
  split at h
  ·exact BT.All.get ha.1 h
  exact BT.All.get ha.2.2 h
end HX

namespace CX
open Go Go.Proofs
def ty1:Ty:=⟨false,1,8,[.nilf],(.n .e (some (.nilf)) .e),.other,false⟩
def ty2:Ty:=⟨false,1,8,[.int .i64 0],(.n .e (some (.int .i64 0)) .e),.int .i64,false⟩
def ty3:Ty:=⟨false,1,8,[.int .i64 0],(.n .e (some (.int .i64 0)) .e),.int .i64,false⟩
def ty4:Ty:=⟨false,1,1,[.bool false],(.n .e (some (.bool false)) .e),.bool,false⟩
def ty5:Ty:=⟨false,1,1,[.int .u8 0],(.n .e (some (.int .u8 0)) .e),.int .u8,false⟩
def ty6:Ty:=⟨false,1,1,[.int .u8 0],(.n .e (some (.int .u8 0)) .e),.int .u8,false⟩
def ty7:Ty:=⟨true,4,24,[.int .i64 0,.int .i64 0,.bool false,.int .u8 0],(.n (.n (.n .e (some (.int .u8 0)) .e) (some (.int .i64 0)) .e) (some (.int .i64 0)) (.n .e (some (.bool false)) .e)),.struct [(0,2),(1,3),(2,4),(3,6)],true⟩
def ty8:Ty:=⟨true,4,24,[.int .i64 0,.int .i64 0,.bool false,.int .u8 0],(.n (.n (.n .e (some (.int .u8 0)) .e) (some (.int .i64 0)) .e) (some (.int .i64 0)) (.n .e (some (.bool false)) .e)),.struct [(0,2),(1,3),(2,4),(3,6)],true⟩
def ty9:Ty:=⟨false,1,16,[.str []],(.n .e (some (.str [])) .e),.str,false⟩
def ty10:Ty:=⟨false,1,16,[.str []],(.n .e (some (.str [])) .e),.str,false⟩
def ty11:Ty:=⟨false,1,16,[.str []],(.n .e (some (.str [])) .e),.str,false⟩
def ty12:Ty:=⟨false,1,8,[.int .u64 0],(.n .e (some (.int .u64 0)) .e),.int .u64,false⟩
def ty13:Ty:=⟨true,2,24,[.str [],.int .u64 0],(.n (.n .e (some (.int .u64 0)) .e) (some (.str [])) .e),.struct [(0,9),(1,12)],false⟩
def ty14:Ty:=⟨true,2,24,[.str [],.int .u64 0],(.n (.n .e (some (.int .u64 0)) .e) (some (.str [])) .e),.struct [(0,9),(1,12)],false⟩
def ty15:Ty:=⟨false,1,8,[.nilp],(.n .e (some (.nilp)) .e),.ptr 171,false⟩
def ty16:Ty:=⟨false,1,8,[.nilp],(.n .e (some (.nilp)) .e),.ptr 174,false⟩
def ty17:Ty:=⟨false,1,8,[.nilp],(.n .e (some (.nilp)) .e),.ptr 182,false⟩
def ty18:Ty:=⟨true,1,8,[.nilp],(.n .e (some (.nilp)) .e),.struct [(0,17)],false⟩
def ty19:Ty:=⟨true,1,8,[.nilp],(.n .e (some (.nilp)) .e),.struct [(0,17)],false⟩
def ty20:Ty:=⟨false,1,16,[.nili],(.n .e (some (.nili)) .e),.iface,false⟩
def ty21:Ty:=⟨false,1,4,[.int .i32 0],(.n .e (some (.int .i32 0)) .e),.int .i32,false⟩
def ty22:Ty:=⟨true,3,24,[.int .i64 0,.int .i64 0,.int .i64 0],(.n (.n .e (some (.int .i64 0)) .e) (some (.int .i64 0)) (.n .e (some (.int .i64 0)) .e)),.struct [(0,3),(1,3),(2,3)],true⟩
def ty23:Ty:=⟨true,3,24,[.int .i64 0,.int .i64 0,.int .i64 0],(.n (.n .e (some (.int .i64 0)) .e) (some (.int .i64 0)) (.n .e (some (.int .i64 0)) .e)),.struct [(0,3),(1,3),(2,3)],true⟩
def ty24:Ty:=⟨false,1,24,[.nils],(.n .e (some (.nils)) .e),.slice 25,false⟩
def ty25:Ty:=⟨false,1,24,[.nils],(.n .e (some (.nils)) .e),.slice 3,false⟩
def ty26:Ty:=⟨false,1,24,[.nils],(.n .e (some (.nils)) .e),.slice 65,false⟩
def ty27:Ty:=⟨false,1,8,[.nilf],(.n .e (some (.nilf)) .e),.other,false⟩
def ty28:Ty:=⟨false,1,8,[.int .i64 0],(.n .e (some (.int .i64 0)) .e),.int .i64,false⟩
def ty30:Ty:=⟨false,1,8,[.nilf],(.n .e (some (.nilf)) .e),.other,false⟩
def ty31:Ty:=⟨true,3,24,[.int .i64 0,.int .i64 0,.int .i64 0],(.n (.n .e (some (.int .i64 0)) .e) (some (.int .i64 0)) (.n .e (some (.int .i64 0)) .e)),.struct [(0,3),(1,3),(2,3)],true⟩
def ty32:Ty:=⟨false,1,8,[.nilf],(.n .e (some (.nilf)) .e),.other,false⟩
def ty33:Ty:=⟨false,1,8,[.nilf],(.n .e (some (.nilf)) .e),.other,false⟩
def ty34:Ty:=⟨false,1,8,[.nilf],(.n .e (some (.nilf)) .e),.other,false⟩
def ty36:Ty:=⟨false,1,8,[.nilf],(.n .e (some (.nilf)) .e),.other,false⟩
def ty37:Ty:=⟨false,1,8,[.nilf],(.n .e (some (.nilf)) .e),.other,false⟩
def ty38:Ty:=⟨false,1,8,[.nilf],(.n .e (some (.nilf)) .e),.other,false⟩
def ty39:Ty:=⟨false,1,8,[.nilf],(.n .e (some (.nilf)) .e),.other,false⟩
def ty40:Ty:=⟨false,1,8,[.nilf],(.n .e (some (.nilf)) .e),.other,false⟩
def ty41:Ty:=⟨false,1,8,[.nilf],(.n .e (some (.nilf)) .e),.other,false⟩
def ty42:Ty:=⟨true,2,16,[.int .i64 0,.int .i64 0],(.n (.n .e (some (.int .i64 0)) .e) (some (.int .i64 0)) .e),.struct [(0,3),(1,3)],true⟩
def ty43:Ty:=⟨true,2,16,[.int .i64 0,.int .i64 0],(.n (.n .e (some (.int .i64 0)) .e) (some (.int .i64 0)) .e),.struct [(0,3),(1,3)],true⟩
def ty44:Ty:=⟨true,2,16,[.int .i64 0,.int .i64 0],(.n (.n .e (some (.int .i64 0)) .e) (some (.int .i64 0)) .e),.struct [(0,3),(1,3)],true⟩
def ty45:Ty:=⟨true,2,16,[.int .i64 0,.int .i64 0],(.n (.n .e (some (.int .i64 0)) .e) (some (.int .i64 0)) .e),.struct [(0,3),(1,3)],true⟩
def ty46:Ty:=⟨false,1,8,[.nilf],(.n .e (some (.nilf)) .e),.other,false⟩
def ty47:Ty:=⟨true,2,16,[.int .i64 0,.int .i64 0],(.n (.n .e (some (.int .i64 0)) .e) (some (.int .i64 0)) .e),.struct [(0,3),(1,3)],true⟩
def ty48:Ty:=⟨false,1,8,[.nilf],(.n .e (some (.nilf)) .e),.other,false⟩
def ty49:Ty:=⟨false,1,8,[.nilf],(.n .e (some (.nilf)) .e),.other,false⟩
def ty50:Ty:=⟨true,2,16,[.int .i64 0,.int .i64 0],(.n (.n .e (some (.int .i64 0)) .e) (some (.int .i64 0)) .e),.struct [(0,3),(1,3)],true⟩
def ty51:Ty:=⟨false,1,8,[.nilf],(.n .e (some (.nilf)) .e),.other,false⟩
def ty52:Ty:=⟨false,1,8,[.nilf],(.n .e (some (.nilf)) .e),.other,false⟩
def ty53:Ty:=⟨false,1,24,[.nils],(.n .e (some (.nils)) .e),.slice 5,false⟩
def ty55:Ty:=⟨false,1,8,[.nilf],(.n .e (some (.nilf)) .e),.other,false⟩
def ty56:Ty:=⟨false,1,8,[.nilf],(.n .e (some (.nilf)) .e),.other,false⟩
def ty57:Ty:=⟨false,1,8,[.nilf],(.n .e (some (.nilf)) .e),.other,false⟩
def ty58:Ty:=⟨false,1,8,[.nilf],(.n .e (some (.nilf)) .e),.other,false⟩
def ty59:Ty:=⟨false,1,8,[.nilf],(.n .e (some (.nilf)) .e),.other,false⟩
def ty60:Ty:=⟨false,1,8,[.nilf],(.n .e (some (.nilf)) .e),.other,false⟩
def ty61:Ty:=⟨false,1,8,[.nilf],(.n .e (some (.nilf)) .e),.other,false⟩
def ty62:Ty:=⟨false,1,8,[.nilf],(.n .e (some (.nilf)) .e),.other,false⟩
def ty63:Ty:=⟨false,1,8,[.nilm],(.n .e (some (.nilm)) .e),.map 65 4,false⟩
def ty64:Ty:=⟨true,2,16,[.int .i64 0,.int .i64 0],(.n (.n .e (some (.int .i64 0)) .e) (some (.int .i64 0)) .e),.struct [(0,3),(1,3)],true⟩
def ty65:Ty:=⟨true,2,16,[.int .i64 0,.int .i64 0],(.n (.n .e (some (.int .i64 0)) .e) (some (.int .i64 0)) .e),.struct [(0,3),(1,3)],true⟩
def ty66:Ty:=⟨false,1,8,[.nilf],(.n .e (some (.nilf)) .e),.other,false⟩
def ty67:Ty:=⟨false,1,2,[.int .u16 0],(.n .e (some (.int .u16 0)) .e),.int .u16,false⟩
def ty68:Ty:=⟨false,1,24,[.nils],(.n .e (some (.nils)) .e),.slice 69,false⟩
def ty69:Ty:=⟨false,1,2,[.int .i16 0],(.n .e (some (.int .i16 0)) .e),.int .i16,false⟩
def ty70:Ty:=⟨false,1,8,[.nilf],(.n .e (some (.nilf)) .e),.other,false⟩
def ty71:Ty:=⟨false,1,8,[.nilf],(.n .e (some (.nilf)) .e),.other,false⟩
def ty72:Ty:=⟨false,1,24,[.nils],(.n .e (some (.nils)) .e),.slice 137,false⟩
def ty73:Ty:=⟨false,1,4,[.int .u32 0],(.n .e (some (.int .u32 0)) .e),.int .u32,false⟩
def ty74:Ty:=⟨false,1,8,[.nilf],(.n .e (some (.nilf)) .e),.other,false⟩
def ty75:Ty:=⟨false,1,8,[.nilf],(.n .e (some (.nilf)) .e),.other,false⟩
def ty76:Ty:=⟨false,1,8,[.nilf],(.n .e (some (.nilf)) .e),.other,false⟩
def ty77:Ty:=⟨false,1,8,[.nilp],(.n .e (some (.nilp)) .e),.ptr 85,false⟩
def ty78:Ty:=⟨false,1,8,[.nilf],(.n .e (some (.nilf)) .e),.other,false⟩
def ty79:Ty:=⟨false,1,8,[.nilf],(.n .e (some (.nilf)) .e),.other,false⟩
def ty80:Ty:=⟨false,1,8,[.nilf],(.n .e (some (.nilf)) .e),.other,false⟩
def ty81:Ty:=⟨false,1,8,[.nilf],(.n .e (some (.nilf)) .e),.other,false⟩
def ty82:Ty:=⟨false,1,8,[.nilf],(.n .e (some (.nilf)) .e),.other,false⟩
def ty83:Ty:=⟨false,1,8,[.nilf],(.n .e (some (.nilf)) .e),.other,false⟩
def ty84:Ty:=⟨true,2,32,[.bool false,.nils],(.n (.n .e (some (.nils)) .e) (some (.bool false)) .e),.struct [(0,4),(1,26)],false⟩
def ty85:Ty:=⟨true,2,32,[.bool false,.nils],(.n (.n .e (some (.nils)) .e) (some (.bool false)) .e),.struct [(0,4),(1,26)],false⟩
def ty86:Ty:=⟨false,1,24,[.nils],(.n .e (some (.nils)) .e),.slice 77,false⟩
def ty87:Ty:=⟨false,1,8,[.nilf],(.n .e (some (.nilf)) .e),.other,false⟩
def ty88:Ty:=⟨false,1,8,[.nilf],(.n .e (some (.nilf)) .e),.other,false⟩
def ty89:Ty:=⟨false,1,8,[.nilf],(.n .e (some (.nilf)) .e),.other,false⟩
def ty90:Ty:=⟨false,1,8,[.nilf],(.n .e (some (.nilf)) .e),.other,false⟩
def ty91:Ty:=⟨false,1,8,[.nilf],(.n .e (some (.nilf)) .e),.other,false⟩
def ty92:Ty:=⟨false,1,8,[.nilf],(.n .e (some (.nilf)) .e),.other,false⟩
def ty93:Ty:=⟨false,1,8,[.nilf],(.n .e (some (.nilf)) .e),.other,false⟩
def ty94:Ty:=⟨false,1,8,[.nilf],(.n .e (some (.nilf)) .e),.other,false⟩
def ty95:Ty:=⟨false,1,8,[.nilf],(.n .e (some (.nilf)) .e),.other,false⟩
def ty96:Ty:=⟨false,1,8,[.nilf],(.n .e (some (.nilf)) .e),.other,false⟩
def ty97:Ty:=⟨false,1,8,[.nilf],(.n .e (some (.nilf)) .e),.other,false⟩
def ty98:Ty:=⟨false,1,8,[.nilm],(.n .e (some (.nilm)) .e),.map 3 3,false⟩
def ty99:Ty:=⟨false,1,8,[.nilf],(.n .e (some (.nilf)) .e),.other,false⟩
def ty100:Ty:=⟨false,1,8,[.nilf],(.n .e (some (.nilf)) .e),.other,false⟩
def ty101:Ty:=⟨false,1,8,[.nilf],(.n .e (some (.nilf)) .e),.other,false⟩
def ty103:Ty:=⟨false,1,8,[.nilf],(.n .e (some (.nilf)) .e),.other,false⟩
def ty104:Ty:=⟨false,1,8,[.nilf],(.n .e (some (.nilf)) .e),.other,false⟩
def ty105:Ty:=⟨false,1,8,[.nilf],(.n .e (some (.nilf)) .e),.other,false⟩
def ty106:Ty:=⟨false,1,8,[.nilf],(.n .e (some (.nilf)) .e),.other,false⟩
def ty107:Ty:=⟨false,1,8,[.int .u64 0],(.n .e (some (.int .u64 0)) .e),.int .u64,false⟩
def ty108:Ty:=⟨false,1,8,[.nilf],(.n .e (some (.nilf)) .e),.other,false⟩
def ty109:Ty:=⟨false,1,8,[.nilf],(.n .e (some (.nilf)) .e),.other,false⟩
def ty110:Ty:=⟨true,2,16,[.int .i64 0,.int .i64 0],(.n (.n .e (some (.int .i64 0)) .e) (some (.int .i64 0)) .e),.struct [(0,3),(1,3)],true⟩
def ty111:Ty:=⟨true,2,16,[.int .i64 0,.int .i64 0],(.n (.n .e (some (.int .i64 0)) .e) (some (.int .i64 0)) .e),.struct [(0,3),(1,3)],true⟩
def ty112:Ty:=⟨false,1,8,[.nilf],(.n .e (some (.nilf)) .e),.other,false⟩
def ty113:Ty:=⟨false,1,8,[.nilf],(.n .e (some (.nilf)) .e),.other,false⟩
def ty115:Ty:=⟨false,1,8,[.nilf],(.n .e (some (.nilf)) .e),.other,false⟩
def ty116:Ty:=⟨true,2,2,[.int .u8 0,.int .u8 0],(.n (.n .e (some (.int .u8 0)) .e) (some (.int .u8 0)) .e),.arr 2 5,true⟩
def ty117:Ty:=⟨false,1,8,[.nilf],(.n .e (some (.nilf)) .e),.other,false⟩
def ty118:Ty:=⟨false,1,8,[.nilf],(.n .e (some (.nilf)) .e),.other,false⟩
def ty119:Ty:=⟨false,1,8,[.nilf],(.n .e (some (.nilf)) .e),.other,false⟩
def ty120:Ty:=⟨true,2,16,[.int .i64 0,.int .i64 0],(.n (.n .e (some (.int .i64 0)) .e) (some (.int .i64 0)) .e),.struct [(0,3),(1,3)],true⟩
def ty121:Ty:=⟨true,2,16,[.int .i64 0,.int .i64 0],(.n (.n .e (some (.int .i64 0)) .e) (some (.int .i64 0)) .e),.struct [(0,3),(1,3)],true⟩
def ty122:Ty:=⟨false,1,8,[.nilf],(.n .e (some (.nilf)) .e),.other,false⟩
def ty123:Ty:=⟨false,1,8,[.nilf],(.n .e (some (.nilf)) .e),.other,false⟩
def ty124:Ty:=⟨false,1,8,[.nilf],(.n .e (some (.nilf)) .e),.other,false⟩
def ty125:Ty:=⟨false,1,8,[.nilf],(.n .e (some (.nilf)) .e),.other,false⟩
def ty126:Ty:=⟨false,1,8,[.nilp],(.n .e (some (.nilp)) .e),.ptr 128,false⟩
def ty127:Ty:=⟨true,3,40,[.nils,.int .i64 0,.bool false],(.n (.n .e (some (.int .i64 0)) .e) (some (.nils)) (.n .e (some (.bool false)) .e)),.struct [(0,53),(1,3),(2,4)],false⟩
def ty128:Ty:=⟨true,3,40,[.nils,.int .i64 0,.bool false],(.n (.n .e (some (.int .i64 0)) .e) (some (.nils)) (.n .e (some (.bool false)) .e)),.struct [(0,53),(1,3),(2,4)],false⟩
def ty129:Ty:=⟨false,1,8,[.nilf],(.n .e (some (.nilf)) .e),.other,false⟩
def ty130:Ty:=⟨false,1,24,[.nils],(.n .e (some (.nils)) .e),.slice 26,false⟩
def ty131:Ty:=⟨false,1,8,[.nilf],(.n .e (some (.nilf)) .e),.other,false⟩
def ty132:Ty:=⟨false,1,8,[.nilf],(.n .e (some (.nilf)) .e),.other,false⟩
def ty133:Ty:=⟨false,1,8,[.nilf],(.n .e (some (.nilf)) .e),.other,false⟩
def ty134:Ty:=⟨false,1,8,[.nilf],(.n .e (some (.nilf)) .e),.other,false⟩
def ty135:Ty:=⟨false,1,8,[.nilf],(.n .e (some (.nilf)) .e),.other,false⟩
def ty136:Ty:=⟨false,1,8,[.nilf],(.n .e (some (.nilf)) .e),.other,false⟩
def ty137:Ty:=⟨true,2,8,[.int .u32 0,.int .u32 0],(.n (.n .e (some (.int .u32 0)) .e) (some (.int .u32 0)) .e),.arr 2 73,true⟩
def ty138:Ty:=⟨false,1,8,[.nilf],(.n .e (some (.nilf)) .e),.other,false⟩
def ty139:Ty:=⟨false,1,8,[.nilf],(.n .e (some (.nilf)) .e),.other,false⟩
def ty140:Ty:=⟨false,1,8,[.nilf],(.n .e (some (.nilf)) .e),.other,false⟩
def ty141:Ty:=⟨false,1,8,[.nilf],(.n .e (some (.nilf)) .e),.other,false⟩
def ty142:Ty:=⟨false,1,8,[.nilp],(.n .e (some (.nilp)) .e),.ptr 53,false⟩
def ty143:Ty:=⟨false,1,8,[.nilf],(.n .e (some (.nilf)) .e),.other,false⟩
def ty144:Ty:=⟨false,1,8,[.nilf],(.n .e (some (.nilf)) .e),.other,false⟩
def ty145:Ty:=⟨false,1,8,[.nilp],(.n .e (some (.nilp)) .e),.ptr 121,false⟩
def ty146:Ty:=⟨false,1,8,[.nilf],(.n .e (some (.nilf)) .e),.other,false⟩
def ty147:Ty:=⟨false,1,8,[.nilf],(.n .e (some (.nilf)) .e),.other,false⟩
def ty148:Ty:=⟨false,1,8,[.nilf],(.n .e (some (.nilf)) .e),.other,false⟩
def ty149:Ty:=⟨false,1,8,[.nilf],(.n .e (some (.nilf)) .e),.other,false⟩
def ty150:Ty:=⟨false,1,8,[.nilf],(.n .e (some (.nilf)) .e),.other,false⟩
def ty151:Ty:=⟨false,1,8,[.nilf],(.n .e (some (.nilf)) .e),.other,false⟩
def ty152:Ty:=⟨false,1,8,[.int .i64 0],(.n .e (some (.int .i64 0)) .e),.int .i64,false⟩
def ty154:Ty:=⟨false,1,8,[.nilf],(.n .e (some (.nilf)) .e),.other,false⟩
def ty155:Ty:=⟨false,1,8,[.nilf],(.n .e (some (.nilf)) .e),.other,false⟩
def ty156:Ty:=⟨false,1,8,[.nilf],(.n .e (some (.nilf)) .e),.other,false⟩
def ty157:Ty:=⟨false,1,8,[.nilf],(.n .e (some (.nilf)) .e),.other,false⟩
def ty158:Ty:=⟨false,1,8,[.nilf],(.n .e (some (.nilf)) .e),.other,false⟩
def ty159:Ty:=⟨false,1,8,[.nilf],(.n .e (some (.nilf)) .e),.other,false⟩
def ty160:Ty:=⟨false,1,8,[.int .u64 0],(.n .e (some (.int .u64 0)) .e),.int .u64,false⟩
def ty161:Ty:=⟨false,1,8,[.int .u64 0],(.n .e (some (.int .u64 0)) .e),.int .u64,false⟩
def ty162:Ty:=⟨false,1,8,[.nilf],(.n .e (some (.nilf)) .e),.other,false⟩
def ty163:Ty:=⟨false,1,8,[.nilf],(.n .e (some (.nilf)) .e),.other,false⟩
def ty164:Ty:=⟨false,1,8,[.nilf],(.n .e (some (.nilf)) .e),.other,false⟩
def ty165:Ty:=⟨false,1,8,[.nilp],(.n .e (some (.nilp)) .e),.ptr 3,false⟩
def ty166:Ty:=⟨false,1,8,[.nilf],(.n .e (some (.nilf)) .e),.other,false⟩
def ty167:Ty:=⟨false,1,8,[.nilp],(.n .e (some (.nilp)) .e),.ptr 161,false⟩
def ty168:Ty:=⟨false,1,8,[.nilf],(.n .e (some (.nilf)) .e),.other,false⟩
def ty169:Ty:=⟨false,1,8,[.nilf],(.n .e (some (.nilf)) .e),.other,false⟩
def ty170:Ty:=⟨true,4,40,[.nilp,.nilp,.nilp,.str []],(.n (.n (.n .e (some (.str [])) .e) (some (.nilp)) .e) (some (.nilp)) (.n .e (some (.nilp)) .e)),.struct [(0,17),(1,17),(2,17),(3,9)],false⟩
def ty171:Ty:=⟨true,4,40,[.nilp,.nilp,.nilp,.str []],(.n (.n (.n .e (some (.str [])) .e) (some (.nilp)) .e) (some (.nilp)) (.n .e (some (.nilp)) .e)),.struct [(0,17),(1,17),(2,17),(3,9)],false⟩
def ty172:Ty:=⟨true,0,0,[],.e,.arr 0 16,false⟩
def ty173:Ty:=⟨true,0,0,[],.e,.struct [(0,172)],false⟩
def ty174:Ty:=⟨true,0,0,[],.e,.struct [(0,172)],false⟩
def ty175:Ty:=⟨false,1,1,[.int .u8 0],(.n .e (some (.int .u8 0)) .e),.int .u8,false⟩
def ty176:Ty:=⟨false,1,1,[.int .u8 0],(.n .e (some (.int .u8 0)) .e),.int .u8,false⟩
def ty177:Ty:=⟨false,1,8,[.nilf],(.n .e (some (.nilf)) .e),.other,false⟩
def ty178:Ty:=⟨false,1,8,[.nilp],(.n .e (some (.nilp)) .e),.ptr 5,false⟩
def ty179:Ty:=⟨false,1,4,[.int .i32 0],(.n .e (some (.int .i32 0)) .e),.int .i32,false⟩
def ty180:Ty:=⟨false,1,4,[.int .i32 0],(.n .e (some (.int .i32 0)) .e),.int .i32,false⟩
def ty181:Ty:=⟨true,11,48,[.int .u64 0,.int .u64 0,.int .u32 0,.int .u8 0,.int .u8 0,.int .u8 0,.int .u8 0,.nilf,.nilp,.int .i32 0,.int .i32 0],(.n (.n (.n (.n .e (some (.nilf)) .e) (some (.int .u8 0)) .e) (some (.int .u64 0)) (.n (.n .e (some (.int .i32 0)) .e) (some (.int .u8 0)) .e)) (some (.int .u64 0)) (.n (.n (.n .e (some (.nilp)) .e) (some (.int .u8 0)) .e) (some (.int .u32 0)) (.n (.n .e (some (.int .i32 0)) .e) (some (.int .u8 0)) .e))),.struct [(0,12),(1,12),(2,73),(3,175),(4,5),(5,5),(6,176),(7,177),(8,178),(9,179),(10,180)],false⟩
def ty182:Ty:=⟨true,11,48,[.int .u64 0,.int .u64 0,.int .u32 0,.int .u8 0,.int .u8 0,.int .u8 0,.int .u8 0,.nilf,.nilp,.int .i32 0,.int .i32 0],(.n (.n (.n (.n .e (some (.nilf)) .e) (some (.int .u8 0)) .e) (some (.int .u64 0)) (.n (.n .e (some (.int .i32 0)) .e) (some (.int .u8 0)) .e)) (some (.int .u64 0)) (.n (.n (.n .e (some (.nilp)) .e) (some (.int .u8 0)) .e) (some (.int .u32 0)) (.n (.n .e (some (.int .i32 0)) .e) (some (.int .u8 0)) .e))),.struct [(0,12),(1,12),(2,73),(3,175),(4,5),(5,5),(6,176),(7,177),(8,178),(9,179),(10,180)],false⟩
def ty183:Ty:=⟨false,1,8,[.nilp],(.n .e (some (.nilp)) .e),.other,false⟩
def tyT:T Ty:=(.n (.n (.n (.n (.n (.n (.n (.n .e (some ty127) .e) (some ty63) .e) (some ty31) (.n (.n .e (some ty159) .e) (some ty95) .e)) (some ty15) (.n (.n (.n .e (some ty143) .e) (some ty79) .e) (some ty47) (.n (.n .e (some ty175) .e) (some ty111) .e))) (some ty7) (.n (.n (.n (.n .e (some ty135) .e) (some ty71) .e) (some ty39) (.n (.n .e (some ty167) .e) (some ty103) .e)) (some ty23) (.n (.n (.n .e (some ty151) .e) (some ty87) .e) (some ty55) (.n (.n .e (some ty183) .e) (some ty119) .e)))) (some ty3) (.n (.n (.n (.n (.n .e (some ty131) .e) (some ty67) .e) none (.n (.n .e (some ty163) .e) (some ty99) .e)) (some ty19) (.n (.n (.n .e (some ty147) .e) (some ty83) .e) (some ty51) (.n (.n .e (some ty179) .e) (some ty115) .e))) (some ty11) (.n (.n (.n (.n .e (some ty139) .e) (some ty75) .e) (some ty43) (.n (.n .e (some ty171) .e) (some ty107) .e)) (some ty27) (.n (.n (.n .e (some ty155) .e) (some ty91) .e) (some ty59) (.n .e (some ty123) .e))))) (some ty1) (.n (.n (.n (.n (.n (.n .e (some ty129) .e) (some ty65) .e) (some ty33) (.n (.n .e (some ty161) .e) (some ty97) .e)) (some ty17) (.n (.n (.n .e (some ty145) .e) (some ty81) .e) (some ty49) (.n (.n .e (some ty177) .e) (some ty113) .e))) (some ty9) (.n (.n (.n (.n .e (some ty137) .e) (some ty73) .e) (some ty41) (.n (.n .e (some ty169) .e) (some ty105) .e)) (some ty25) (.n (.n .e (some ty89) .e) (some ty57) (.n .e (some ty121) .e)))) (some ty5) (.n (.n (.n (.n (.n .e (some ty133) .e) (some ty69) .e) (some ty37) (.n (.n .e (some ty165) .e) (some ty101) .e)) (some ty21) (.n (.n (.n .e (some ty149) .e) (some ty85) .e) (some ty53) (.n (.n .e (some ty181) .e) (some ty117) .e))) (some ty13) (.n (.n (.n (.n .e (some ty141) .e) (some ty77) .e) (some ty45) (.n (.n .e (some ty173) .e) (some ty109) .e)) none (.n (.n (.n .e (some ty157) .e) (some ty93) .e) (some ty61) (.n .e (some ty125) .e)))))) none (.n (.n (.n (.n (.n (.n (.n .e (some ty128) .e) (some ty64) .e) (some ty32) (.n (.n .e (some ty160) .e) (some ty96) .e)) (some ty16) (.n (.n (.n .e (some ty144) .e) (some ty80) .e) (some ty48) (.n (.n .e (some ty176) .e) (some ty112) .e))) (some ty8) (.n (.n (.n (.n .e (some ty136) .e) (some ty72) .e) (some ty40) (.n (.n .e (some ty168) .e) (some ty104) .e)) (some ty24) (.n (.n (.n .e (some ty152) .e) (some ty88) .e) (some ty56) (.n .e (some ty120) .e)))) (some ty4) (.n (.n (.n (.n (.n .e (some ty132) .e) (some ty68) .e) (some ty36) (.n (.n .e (some ty164) .e) (some ty100) .e)) (some ty20) (.n (.n (.n .e (some ty148) .e) (some ty84) .e) (some ty52) (.n (.n .e (some ty180) .e) (some ty116) .e))) (some ty12) (.n (.n (.n (.n .e (some ty140) .e) (some ty76) .e) (some ty44) (.n (.n .e (some ty172) .e) (some ty108) .e)) (some ty28) (.n (.n (.n .e (some ty156) .e) (some ty92) .e) (some ty60) (.n .e (some ty124) .e))))) (some ty2) (.n (.n (.n (.n (.n (.n .e (some ty130) .e) (some ty66) .e) (some ty34) (.n (.n .e (some ty162) .e) (some ty98) .e)) (some ty18) (.n (.n (.n .e (some ty146) .e) (some ty82) .e) (some ty50) (.n (.n .e (some ty178) .e) none .e))) (some ty10) (.n (.n (.n (.n .e (some ty138) .e) (some ty74) .e) (some ty42) (.n (.n .e (some ty170) .e) (some ty106) .e)) (some ty26) (.n (.n (.n .e (some ty154) .e) (some ty90) .e) (some ty58) (.n .e (some ty122) .e)))) (some ty6) (.n (.n (.n (.n (.n .e (some ty134) .e) (some ty70) .e) (some ty38) (.n (.n .e (some ty166) .e) none .e)) (some ty22) (.n (.n (.n .e (some ty150) .e) (some ty86) .e) none (.n (.n .e (some ty182) .e) (some ty118) .e))) (some ty14) (.n (.n (.n (.n .e (some ty142) .e) (some ty78) .e) (some ty46) (.n (.n .e (some ty174) .e) (some ty110) .e)) (some ty30) (.n (.n (.n .e (some ty158) .e) (some ty94) .e) (some ty62) (.n .e (some ty126) .e)))))))
def fnT:T Func:=(.n (.n (.n (.n (.n (.n (.n .e (some Try.f63) .e) (some Try.f31) (.n .e (some Try.f95) .e)) (some Try.f15) (.n (.n .e (some Try.f79) .e) (some Try.f47) (.n .e (some Try.f111) .e))) (some Try.f7) (.n (.n (.n .e (some Try.f71) .e) (some Try.f39) (.n .e (some Try.f103) .e)) (some Try.f23) (.n (.n .e (some Try.f87) .e) (some Try.f55) .e))) (some Try.f3) (.n (.n (.n (.n .e (some Try.f67) .e) (some Try.f35) (.n .e (some Try.f99) .e)) (some Try.f19) (.n (.n .e (some Try.f83) .e) (some Try.f51) (.n .e (some Try.f115) .e))) (some Try.f11) (.n (.n (.n .e (some Try.f75) .e) (some Try.f43) (.n .e (some Try.f107) .e)) (some Try.f27) (.n (.n .e (some Try.f91) .e) (some Try.f59) .e)))) none (.n (.n (.n (.n (.n .e (some Try.f65) .e) (some Try.f33) (.n .e (some Try.f97) .e)) (some Try.f17) (.n (.n .e (some Try.f81) .e) (some Try.f49) (.n .e (some Try.f113) .e))) (some Try.f9) (.n (.n (.n .e (some Try.f73) .e) (some Try.f41) (.n .e (some Try.f105) .e)) (some Try.f25) (.n (.n .e (some Try.f89) .e) (some Try.f57) .e))) (some Try.f5) (.n (.n (.n (.n .e (some Try.f69) .e) (some Try.f37) (.n .e (some Try.f101) .e)) (some Try.f21) (.n (.n .e (some Try.f85) .e) (some Try.f53) (.n .e (some Try.f117) .e))) (some Try.f13) (.n (.n (.n .e (some Try.f77) .e) (some Try.f45) (.n .e (some Try.f109) .e)) (some Try.f29) (.n (.n .e (some Try.f93) .e) (some Try.f61) .e))))) none (.n (.n (.n (.n (.n (.n .e (some Try.f64) .e) (some Try.f32) (.n .e (some Try.f96) .e)) (some Try.f16) (.n (.n .e (some Try.f80) .e) (some Try.f48) (.n .e (some Try.f112) .e))) (some Try.f8) (.n (.n (.n .e (some Try.f72) .e) (some Try.f40) (.n .e (some Try.f104) .e)) (some Try.f24) (.n (.n .e (some Try.f88) .e) (some Try.f56) .e))) (some Try.f4) (.n (.n (.n (.n .e (some Try.f68) .e) (some Try.f36) (.n .e (some Try.f100) .e)) (some Try.f20) (.n (.n .e (some Try.f84) .e) (some Try.f52) (.n .e (some Try.f116) .e))) (some Try.f12) (.n (.n (.n .e (some Try.f76) .e) (some Try.f44) (.n .e (some Try.f108) .e)) (some Try.f28) (.n (.n .e (some Try.f92) .e) (some Try.f60) .e)))) (some Try.f2) (.n (.n (.n (.n (.n .e (some Try.f66) .e) (some Try.f34) (.n .e (some Try.f98) .e)) (some Try.f18) (.n (.n .e (some Try.f82) .e) (some Try.f50) (.n .e (some Try.f114) .e))) (some Try.f10) (.n (.n (.n .e (some Try.f74) .e) (some Try.f42) (.n .e (some Try.f106) .e)) (some Try.f26) (.n (.n .e (some Try.f90) .e) (some Try.f58) .e))) (some Try.f6) (.n (.n (.n (.n .e (some Try.f70) .e) (some Try.f38) (.n .e (some Try.f102) .e)) (some Try.f22) (.n (.n .e (some Try.f86) .e) (some Try.f54) (.n .e (some Try.f118) .e))) (some Try.f14) (.n (.n (.n .e (some Try.f78) .e) (some Try.f46) (.n .e (some Try.f110) .e)) (some Try.f30) (.n (.n .e (some Try.f94) .e) (some Try.f62) .e))))))
def env:Env:=⟨fun t=>match Nat.blt t 184 with |true=>tyT.get t |false=>none,fun f=>fnT.get f,fun _=>none,fun _=>none⟩
end CX

namespace CX
open Go
noncomputable section
def zOk:V->Value->Bool
 |.int k n,.int k' n'=>kindEq k k' && ieq n n'
 |.bool false,.bool false=>true
 |.str [],.string s=>Nat.beq s.size 0
 |.nils,.slice none 0 0=>true
 |.nilp,.pointer none=>true
 |.nilf,.nilFunc=>true
 |.nili,.nilIface=>true
 |.nilm,.map none=>true
 |_,_=>false
def zOks:List V->List Value->Bool
 |[],[]=>true
 |k :: ks,v :: vs=>zOk k v && zOks ks vs
 |_,_=>false
def sameZ:V->V->Bool
 |.int k n,.int k' n'=>kindEq k k' && ieq n n'
 |.bool false,.bool false=>true
 |.str [],.str []=>true
 |.nils,.nils=>true
 |.nilp,.nilp=>true
 |.nilf,.nilf=>true
 |.nili,.nili=>true
 |.nilm,.nilm=>true
 |_,_=>false
def ztOk (t:T V):Nat->List V->Bool
 |_,[]=>true
 |i,v :: l=>(match t.get i with |some u=>sameZ u v |none=>false) && ztOk t (Nat.succ i) l
def fsEq:List Field->List (Nat×Nat)->Bool
 |[],[]=>true
 |f :: r,(o,t) :: s=>Nat.beq f.offset o && Nat.beq f.type t && fsEq r s
 |_,_=>false
def kdChk (P:Program) (kd:TK) (d:TypeDesc):Bool:=
 match kd with
 |.other=>match d with
  |.interface _=>false
  |_=>true
 |.int k=>match d with
  |.int k'=>kindEq k k'
  |_=>false
 |.bool=>match d with
  |.bool=>true
  |_=>false
 |.str=>match d with
  |.string=>true
  |_=>false
 |.struct fs=>match d with
  |.struct fields=>fsEq fields.toList fs && fields.toList.all fun f=>(P.info? f.type).isSome
  |_=>false
 |.arr n e=>match d with
  |.array n' e'=>Nat.beq n n' && Nat.beq e e'
  |_=>false
 |.slice e=>match d with
  |.slice e'=>Nat.beq e e'
  |_=>false
 |.map k e=>match d with
  |.map k' e'=>Nat.beq k k' && Nat.beq e e'
  |_=>false
 |.ptr e=>match d with
  |.pointer e'=>Nat.beq e e'
  |_=>false
 |.iface=>true
def sKind (P:Program) (z:V) (t:Nat):Bool:=
 match z with
 |.int _ _=>match P.underlying t with
  |some (.int _)=>true
  |_=>false
 |.bool _=>match P.underlying t with
  |some .bool=>true
  |_=>false
 |.str _=>match P.underlying t with
  |some .string=>true
  |_=>false
 |_=>false
def chkF (P:Program):List Field->List V->Nat->Bool
 |[],[],_=>true
 |f :: fs,z :: zs,i=>(f.name != "_") && Nat.beq f.offset i && sKind P z f.type && chkF P fs zs (Nat.succ i)
 |_,_,_=>false
def chkF1 (P:Program):List Field->List V->Nat->Bool
 |[],zs,_=>zs.isEmpty
 |f :: fs,zs,i=>match zs with
  |[]=>false
  |z :: zs'=>match (f.name != "_") && Nat.beq f.offset i with
   |false=>false
   |true=>match sKind P z f.type with
    |true=>chkF1 P fs zs' (Nat.succ i)
    |false=>match P.underlying f.type,P.info? f.type with
     |some (.struct fields'),some inf=>!P.stoodInHeld f.type && Nat.ble inf.size (len (z :: zs')) && chkF P fields'.toList ((z :: zs').take inf.size) 0 && chkF1 P fs ((z :: zs').drop inf.size) (Nat.add i inf.size)
     |_,_=>false
def eqChk (P:Program) (t:Nat) (ty:Ty) (d:TypeDesc):Bool:=
 match ty.eqp with
 |false=>true
 |true=>!P.eqGuardType P.depth t && (match d with
  |.struct fields=>!P.stoodInHeld t && chkF1 P fields.toList ty.zero 0
  |.array n e=>(P.info? e).isSome && Nat.beq (P.cellsOf e) 1 && Nat.beq (len ty.zero) n && ty.zero.all fun z=>sKind P z e
  |_=>false)
def tyChk (P:Program) (t:Nat) (ty:Ty):Bool:=
 match P.info? t,P.underlying t with
 |some i,some d=>
  Nat.beq i.size ty.size && Nat.beq i.bytes ty.bytes &&
   (match i.zero with
    |some z=>zOks ty.zero z.cells.toList && (match z with |.agg _=>ty.agg |_=>!ty.agg)
    |none=>false) &&
   Nat.beq (len ty.zero) ty.size && ztOk ty.zt 0 ty.zero && (isAggD d == ty.agg) && kdChk P ty.kd d && eqChk P t ty d
 |_,_=>false
end
theorem zOk_ok {v:V} {u:Value} (h:zOk v u=true):one1 v=true/\∀ρ n,Rv ρ n v u:=by
 unfold zOk at h
 split at h
 ·simp only [zC] at h
  have h1:=kindEq_ok h.1
  have h2:=h.2
  rw [ieq_eq,qY] at h2
  subst h1 h2
  exact ⟨rfl,fun ρ n=>by simp [Rv]⟩
 ·exact ⟨rfl,fun ρ n=>by simp [Rv]⟩
 next s=>
  have:s.size=0:=by simpa using h
  have hs:s=ByteArray.empty:=ByteArray.ext (Array.eq_empty_of_size_eq_zero this)
  exact ⟨rfl,fun ρ n=>by simp only [Rv];exact ⟨by simp,by rw [hs];rfl⟩⟩
 all_goals first |(cases h;done) |exact ⟨rfl,fun ρ n=>by simp [Rv]⟩
theorem zOks_ok:∀(l:List V) (us:List Value),zOks l us=true->(∀v∈l,one1 v=true)/\∀ρ n,RvL ρ n l us
 |[],[],_=>⟨by simp,fun _ _=>by simp [RvL]⟩
 |v :: l,u :: us,h=>by
  simp only [zOks,zC] at h
  obtain ⟨h1,h2⟩:=zOk_ok h.1
  obtain ⟨h3,h4⟩:=zOks_ok l us h.2
  refine ⟨fun x hx=>?_,fun ρ n=>by simp only [RvL];exact ⟨h2 ρ n,h4 ρ n⟩⟩
  rcases zT.1 hx with rfl |hx
  ·exact h1
  exact h3 x hx
 |[],_ :: _,h=>by simp [zOks] at h
 |_ :: _,[],h=>by simp [zOks] at h
theorem sameZ_ok {a b:V} (h:sameZ a b=true):a=b:=by
 unfold sameZ at h
 split at h
 ·simp only [zC] at h
  have h1:=kindEq_ok h.1
  have h2:=h.2
  rw [ieq_eq,qY] at h2
  subst h1 h2;rfl
 all_goals first |rfl |cases h
theorem ztOk_ok {t:T V}:∀(l:List V) (i:Nat),ztOk t i l=true->∀j,j < l.length->t.get (i+j)=l[j]?
 |[],_,_,j,hj=>by simp at hj
 |v :: l,i,h,j,hj=>by
  simp only [ztOk,zC] at h
  cases j with
  |zero=>
   have h1:=h.1
   split at h1
   next u hu=>
    rw [kB,hu,sameZ_ok h1];rfl
   cases h1
  |succ j=>
   have:=ztOk_ok l (Nat.succ i) h.2 j (by simpa using hj)
   rw [show i+(j+1)=Nat.succ i+j by omega,this];rfl
theorem fsEq_ok:∀(l:List Field) (fs:List (Nat×Nat)),fsEq l fs=true->l.map (fun f=>(f.offset,f.type))=fs
 |[],[],_=>rfl
 |f :: r,(o,t) :: s,h=>by
  simp only [fsEq,zC,kC] at h
  rw [kH,fsEq_ok r s h.2,h.1.1,h.1.2]
 |[],_ :: _,h=>by simp [fsEq] at h
 |_ :: _,[],h=>by simp [fsEq] at h
theorem kdChk_ok {P:Program} {kd:TK} {d:TypeDesc} (h:kdChk P kd d=true):KdOk P kd d:=by
 cases kd with
 |other=>
  intro ms e
  subst e
  simp [kdChk] at h
 |int k=>
  simp only [kdChk] at h
  split at h
  ·rw [kindEq_ok h];rfl
  cases h
 |bool=>simp only [kdChk] at h;split at h;rfl;cases h
 |str=>simp only [kdChk] at h;split at h;rfl;cases h
 |struct fs=>
  simp only [kdChk] at h
  split at h
  next fields=>
   simp only [zC] at h
   refine ⟨fields,rfl,fsEq_ok _ _ h.1,fun f hf=>?_⟩
   have:=qG.1 h.2 f (by simpa using hf)
   exact Option.isSome_iff_exists.1 this
  cases h
 |arr n e=>
  simp only [kdChk] at h
  split at h
  ·simp only [zC,kC] at h
   simp only [KdOk,h.1,h.2]
  cases h
 |slice e=>
  simp only [kdChk] at h
  split at h
  ·simp only [kC] at h
   simp only [KdOk,h]
  cases h
 |map k e=>
  simp only [kdChk] at h
  split at h
  ·simp only [zC,kC] at h
   simp only [KdOk,h.1,h.2]
  cases h
 |ptr e=>
  simp only [kdChk] at h
  split at h
  ·simp only [kC] at h
   simp only [KdOk,h]
  cases h
 |iface=>trivial
section
variable {P:Program} {ρ:Nm} {n:Nat}
theorem cell_eq {D:Nat} {z a b:V} {x y:Value} {t:Nat} {r:Bool} {w:World} (hz:sKind P z t=true) (ha:Rv ρ n a x) (hb:Rv ρ n b y)
  (h:eqK z a b=some r):(Op.equalIn (D+1) t x y).run P w=.ok r w/\∀cs:Array Value,∀off,cs[off]?=some x->(Go.part t cs off).run P w=.ok x w:=by
 have pt:∀d,P.underlying t=some d->isAggD d=false->∀cs:Array Value,∀off,cs[off]?=some x->(Go.part t cs off).run P w=.ok x w:=by
  intro d hd hag cs off hc
  simp only [Go.part,zN,run_isAgg' hd,zG]
  cases d<;>simp_all [isAggD]
 cases z with
 |int k0 n0=>
  simp only [eqK] at h
  obtain ⟨k',hu⟩:∃k',P.underlying t=some (.int k'):=by
   simp only [sKind] at hz
   split at hz
   ·exact ⟨_,by assumption⟩
   cases hz
  cases a with
  |int k1 a1=>
   simp only [Rv] at ha
   subst ha
   cases b with
   |int k2 b1=>
    simp only [Rv] at hb
    subst hb
    simp only [eq1] at h
    split at h
    next hk=>
     have:=kindEq_ok hk
     subst this
     simp only [zA] at h
     subst h
     exact ⟨by rw [run_equalIn_int w D t k1 k' _ _ hu,ieq_eq],pt _ hu rfl⟩
    cases h
   |_=>simp [eq1] at h
  |_=>simp at h
 |bool b0=>
  simp only [eqK] at h
  have hu:P.underlying t=some .bool:=by
   simp only [sKind] at hz
   split at hz
   ·assumption
   cases hz
  cases a with
  |bool a1=>
   simp only [Rv] at ha
   subst ha
   cases b with
   |bool b1=>
    simp only [Rv] at hb
    subst hb
    refine ⟨?_,pt _ hu rfl⟩
    rw [run_equalIn_bool' w D t _ _ hu]
    cases a1<;>cases b1<;>simp_all [eq1]
   |_=>simp [eq1] at h
  |_=>simp at h
 |str s0=>
  simp only [eqK] at h
  have hu:P.underlying t=some .string:=by
   simp only [sKind] at hz
   split at hz
   ·assumption
   cases hz
  cases a with
  |str a1=>
   simp only [Rv] at ha
   obtain ⟨ha1,rfl⟩:=ha
   cases b with
   |str b1=>
    simp only [Rv] at hb
    obtain ⟨hb1,rfl⟩:=hb
    simp only [eq1,zA] at h
    subst h
    refine ⟨?_,pt _ hu rfl⟩
    rw [run_equalIn_string w D t _ _ hu,beq_bytes ha1 hb1]
   |_=>simp [eq1] at h
  |_=>simp at h
 |_=>simp [eqK] at h
theorem sKind_und {z:V} {t:Nat} (hz:sKind P z t=true):∃d,P.underlying t=some d/\isAggD d=false:=by
 cases z<;>simp only [sKind] at hz<;>first |(cases hz;done) |(split at hz<;>first |(cases hz;done) |exact ⟨_,by assumption,rfl⟩)
theorem lists_get {xs:Array Value} {i:Nat} {u:Value} {us:List Value} (h:xs.toList.drop i=u :: us):xs[i]?=some u/\xs.toList.drop (i+1)=us:=by
 have h1:(xs.toList.drop i)[0]?=some u:=by rw [h];rfl
 rw [xT] at h1
 refine ⟨by simpa using h1,?_⟩
 rw [show i+1=i+1 from rfl,<-List.drop_drop,h];rfl
theorem eqFields_ok {D:Nat} {w:World} {xs ys:Array Value}:∀(fs:List Field) (zs:List V) (i:Nat) (a b:List V) {r:Bool},chkF P fs zs i=true->RvL ρ n a (xs.toList.drop i)->RvL ρ n b (ys.toList.drop i)->eqZ zs a b=some r->
  (Op.eqFields (D+1) xs ys fs).run P w=.ok r w
 |[],[],i,[],[],r,_,_,_,h=>by
  simp only [eqZ,zA] at h
  subst h
  simp [Op.eqFields]
 |f :: fs,z :: zs,i,a :: as0,b :: bs,r,hc,ha,hb,h=>by
  simp only [chkF,zC,kC,bne_iff_ne] at hc
  obtain ⟨⟨⟨h1,h2⟩,h3⟩,h4⟩:=hc
  cases hx:xs.toList.drop i with
  |nil=>rw [hx] at ha;simp [RvL] at ha
  |cons x xr=>
   cases hy:ys.toList.drop i with
   |nil=>rw [hy] at hb;simp [RvL] at hb
   |cons y yr=>
    rw [hx] at ha
    rw [hy] at hb
    simp only [RvL] at ha hb
    obtain ⟨gx,ex⟩:=lists_get hx
    obtain ⟨gy,ey⟩:=lists_get hy
    simp only [eqZ] at h
    have step:∀c,eqK z a b=some c->(Op.eqFields (D+1) xs ys (f :: fs)).run P w=if c then (Op.eqFields (D+1) xs ys fs).run P w else .ok false w:=by
     intro c hcc
     obtain ⟨k1,k2⟩:=cell_eq (w:=w) h3 ha.1 hb.1 hcc
     have k3:(Go.part f.type ys f.offset).run P w=.ok y w:=by
      obtain ⟨d,hd,hag⟩:=sKind_und h3
      simp only [Go.part,zN,run_isAgg' hd,zG,h2,gy]
      cases d<;>simp_all [isAggD]
     rw [h2] at k3
     simp only [Op.eqFields,if_pos h1,zN]
     rw [h2,k2 xs i gx,zG,k3,zG,k1,zG]
     cases c<;>simp
    split at h
    next hcc=>
     rw [step true hcc,if_pos rfl]
     exact eqFields_ok fs zs (Nat.succ i) as0 bs h4 (by rw [Nat.succ_eq_add_one,ex];exact ha.2) (by rw [Nat.succ_eq_add_one,ey];exact hb.2) h
    next hcc=>
     simp only [zA] at h
     subst h
     rw [step false hcc];rfl
    cases h
 |[],[],_,_ :: _,_,_,_,_,_,h=>by simp [eqZ] at h
 |[],[],_,[],_ :: _,_,_,_,_,h=>by simp [eqZ] at h
 |[],_ :: _,_,_,_,_,h,_,_,_=>by simp [chkF] at h
 |_ :: _,[],_,_,_,_,h,_,_,_=>by simp [chkF] at h
 |_ :: _,_ :: _,_,[],_,_,_,_,_,h=>by simp [eqZ] at h
 |_ :: _,_ :: _,_,_ :: _,[],_,_,_,_,h=>by simp [eqZ] at h
theorem eqZ_split:∀(s:Nat) (zs a b:List V) {r:Bool},s<=zs.length->eqZ zs a b=some r->
  ∃c,eqZ (zs.take s) (a.take s) (b.take s)=some c/\(c=false->r=false)/\(c=true->eqZ (zs.drop s) (a.drop s) (b.drop s)=some r)
 |0,zs,a,b,r,_,h=>⟨true,by simp [eqZ],fun e=>(by cases e),fun _=>by simpa using h⟩
 |s+1,z :: zs,a :: as0,b :: bs,r,hs,h=>by
  simp only [eqZ] at h
  split at h
  next hc=>
   obtain ⟨c,h1,h2,h3⟩:=eqZ_split s zs as0 bs (by simpa using hs) h
   exact ⟨c,by simp only [qU,eqZ,hc];exact h1,h2,h3⟩
  next hc=>
   simp only [zA] at h
   subst h
   exact ⟨false,by simp only [qU,eqZ,hc],fun _=>rfl,fun e=>by cases e⟩
  cases h
 |s+1,[],_,_,_,hs,_=>by simp at hs
 |s+1,_ :: _,[],_,_,_,h=>by simp [eqZ] at h
 |s+1,_ :: _,_ :: _,[],_,_,h=>by simp [eqZ] at h
theorem eqFields1_ok {D:Nat} {w:World} {xs ys:Array Value}:∀(fs:List Field) (zs:List V) (i:Nat) (a b:List V) {r:Bool},chkF1 P fs zs i=true->RvL ρ n a (xs.toList.drop i)->RvL ρ n b (ys.toList.drop i)->eqZ zs a b=some r->
  (Op.eqFields (D+2) xs ys fs).run P w=.ok r w
 |[],zs,i,a,b,r,hc,_,_,h=>by
  cases zs with
  |nil=>
   cases a<;>cases b<;>simp only [eqZ,zA] at h<;>first |(cases h;done) |skip
   subst h
   simp [Op.eqFields]
  |cons _ _=>simp [chkF1] at hc
 |f :: fs,[],i,a,b,r,hc,_,_,h=>by simp [chkF1] at hc
 |f :: fs,z :: zs,i,a,b,r,hc,ha,hb,h=>by
  cases h12:((f.name != "_") && Nat.beq f.offset i) with
  |false=>simp only [chkF1,h12] at hc;cases hc
  |true=>
   simp only [chkF1,h12] at hc
   simp only [zC,kC,bne_iff_ne] at h12
   obtain ⟨h1,h2⟩:=h12
   split at hc
   next h3=>
    cases a with
    |nil=>simp [eqZ] at h
    |cons a as0=>
    cases b with
    |nil=>simp [eqZ] at h
    |cons b bs=>
    cases hx:xs.toList.drop i with
    |nil=>rw [hx] at ha;simp [RvL] at ha
    |cons x xr=>
     cases hy:ys.toList.drop i with
     |nil=>rw [hy] at hb;simp [RvL] at hb
     |cons y yr=>
      rw [hx] at ha
      rw [hy] at hb
      simp only [RvL] at ha hb
      obtain ⟨gx,ex⟩:=lists_get hx
      obtain ⟨gy,ey⟩:=lists_get hy
      simp only [eqZ] at h
      have step:∀c,eqK z a b=some c->(Op.eqFields (D+2) xs ys (f :: fs)).run P w=if c then (Op.eqFields (D+2) xs ys fs).run P w else .ok false w:=by
       intro c hcc
       obtain ⟨k1,k2⟩:=cell_eq (D:=D+1) (w:=w) h3 ha.1 hb.1 hcc
       have k3:(Go.part f.type ys f.offset).run P w=.ok y w:=by
        obtain ⟨d,hd,hag⟩:=sKind_und h3
        simp only [Go.part,zN,run_isAgg' hd,zG,h2,gy]
        cases d<;>simp_all [isAggD]
       rw [h2] at k3
       simp only [Op.eqFields,if_pos h1,zN]
       rw [h2,k2 xs i gx,zG,k3,zG,k1,zG]
       cases c<;>simp
      split at h
      next hcc=>
       rw [step true hcc,if_pos rfl]
       exact eqFields1_ok fs zs (Nat.succ i) as0 bs hc (by rw [Nat.succ_eq_add_one,ex];exact ha.2) (by rw [Nat.succ_eq_add_one,ey];exact hb.2) h
      next hcc=>
       simp only [zA] at h
       subst h
       rw [step false hcc];rfl
      cases h
   split at hc
   rotate_left
   ·cases hc
   rename_i fields' inf hu hinf
   simp only [zC,kG] at hc
   obtain ⟨⟨⟨c1,c2⟩,c3⟩,c4⟩:=hc
   have c2:inf.size<=(z :: zs).length:=by rw [len_eq] at c2;simpa using c2
   obtain ⟨c,e1,e2,e3⟩:=eqZ_split inf.size (z :: zs) a b c2 h
   have hp:∀us:Array Value,(Go.part f.type us i).run P w=.ok (.agg (us.extract i (i+inf.size))) w:=fun us=>by
    simp only [Go.part,zN,run_isAgg' hu,zG]
    simp [isAggD,run_sizeOf' hinf]
   have hto:∀us:Array Value,(us.extract i (i+inf.size)).toList.drop 0=(us.toList.drop i).take inf.size:=fun us=>by
    simp [Array.toList_extract,List.extract_eq_take_drop]
   have hfo:P.fieldsOf f.type=fields':=by simp [Program.fieldsOf,hu]
   have hrun:(Op.equalIn (D+1+1) f.type (.agg (xs.extract i (i+inf.size))) (.agg (ys.extract i (i+inf.size)))).run P w=.ok c w:=by
    rw [run_equalIn_struct w (D+1) f.type _ _ (by rw [hfo];exact hu) c1,hfo]
    exact eqFields_ok fields'.toList _ 0 _ _ c3 (by rw [hto];exact RvL.take inf.size ha) (by rw [hto];exact RvL.take inf.size hb) e1
   have step:(Op.eqFields (D+2) xs ys (f :: fs)).run P w=if c then (Op.eqFields (D+2) xs ys fs).run P w else .ok false w:=by
    simp only [Op.eqFields,if_pos h1,zN]
    rw [h2,hp xs,zG,hp ys,zG,hrun,zG]
    cases c<;>simp
   rw [step]
   cases c with
   |true=>
    rw [if_pos rfl]
    refine eqFields1_ok fs _ (Nat.add i inf.size) (a.drop inf.size) (b.drop inf.size) c4 ?_ ?_ (e3 rfl)
    ·have:=RvL.drop inf.size ha
     rw [List.drop_drop] at this
     exact this
    have:=RvL.drop inf.size hb
    rw [List.drop_drop] at this
    exact this
   |false=>rw [e2 rfl];rfl
theorem eqItems_ok {D:Nat} {w:World} {xs ys:Array Value} {e:Nat}:∀(m i:Nat) (zs:List V) (a b:List V) {r:Bool},zs.length=m->(∀z∈zs,sKind P z e=true)->RvL ρ n a (xs.toList.drop i)->RvL ρ n b (ys.toList.drop i)->eqZ zs a b=some r->
  (Op.eqItems (D+1) e 1 xs ys (List.range' i m)).run P w=.ok r w
 |0,i,[],[],[],r,_,_,_,_,h=>by
  simp only [eqZ,zA] at h
  subst h
  simp [Op.eqItems]
 |m+1,i,z :: zs,a :: as0,b :: bs,r,hm,hc,ha,hb,h=>by
  have h3:=hc z (by simp)
  cases hx:xs.toList.drop i with
  |nil=>rw [hx] at ha;simp [RvL] at ha
  |cons x xr=>
   cases hy:ys.toList.drop i with
   |nil=>rw [hy] at hb;simp [RvL] at hb
   |cons y yr=>
    rw [hx] at ha
    rw [hy] at hb
    simp only [RvL] at ha hb
    obtain ⟨gx,ex⟩:=lists_get hx
    obtain ⟨gy,ey⟩:=lists_get hy
    simp only [eqZ] at h
    have step:∀c,eqK z a b=some c->(Op.eqItems (D+1) e 1 xs ys (List.range' i (m+1))).run P w=if c then (Op.eqItems (D+1) e 1 xs ys (List.range' (i+1) m)).run P w else .ok false w:=by
     intro c hcc
     obtain ⟨k1,k2⟩:=cell_eq (w:=w) h3 ha.1 hb.1 hcc
     have k3:(Go.part e ys i).run P w=.ok y w:=by
      obtain ⟨d,hd,hag⟩:=sKind_und h3
      simp only [Go.part,zN,run_isAgg' hd,zG,gy]
      cases d<;>simp_all [isAggD]
     simp only [List.range'_succ,Op.eqItems,Nat.mul_one,zN]
     rw [k2 xs i gx,zG,k3,zG,k1,zG]
     cases c<;>simp
    split at h
    next hcc=>
     rw [step true hcc,if_pos rfl]
     exact eqItems_ok m (i+1) zs as0 bs (by simpa using hm) (fun z hz=>hc z (by simp [hz])) (by rw [ex];exact ha.2) (by rw [ey];exact hb.2) h
    next hcc=>
     simp only [zA] at h
     subst h
     rw [step false hcc];rfl
    cases h
 |0,_,_ :: _,_,_,_,hm,_,_,_,_=>by simp at hm
 |_+1,_,[],_,_,_,hm,_,_,_,_=>by simp at hm
 |0,_,[],_ :: _,_,_,_,_,_,_,h=>by simp [eqZ] at h
 |0,_,[],[],_ :: _,_,_,_,_,_,h=>by simp [eqZ] at h
 |_+1,_,_ :: _,[],_,_,_,_,_,_,h=>by simp [eqZ] at h
 |_+1,_,_ :: _,_ :: _,[],_,_,_,_,_,h=>by simp [eqZ] at h
end
theorem tyChk_ok {P:Program} {t:Nat} {ty:Ty} (h:tyChk P t ty=true):TyOk P t ty:=by
 unfold tyChk at h
 split at h
 rotate_left
 ·cases h
 rename_i i d hi hd
 simp only [zC,kC] at h
 obtain ⟨⟨⟨⟨⟨⟨⟨h1,h2⟩,h3⟩,h4⟩,h5⟩,h6⟩,h7⟩,h8⟩:=h
 rw [len_eq] at h4
 split at h3
 rotate_left
 ·cases h3
 rename_i z hz
 simp only [zC] at h3
 obtain ⟨hz1,hz2⟩:=zOks_ok _ _ h3.1
 have h3b:=h3.2
 replace h6:isAggD d=ty.agg:=eq_of_beq h6
 refine ⟨⟨i,z,hi,h1,h2,hz,hz2,fun ha=>?_,fun ha=>?_⟩,h4,hz1,fun j hj=>?_,⟨d,hd,h6,kdChk_ok h7⟩,fun he=>?_⟩
 ·split at h3b
  ·rfl
  rw [ha] at h3b;cases h3b
 ·split at h3b
  ·rw [ha] at h3b;cases h3b
  rename_i hne
  cases z<;>first |rfl |exact (hne _ rfl).elim
 ·have:=ztOk_ok _ 0 h5 j (by omega)
  simpa using this
 unfold eqChk at h8
 rw [he] at h8
 simp only [zC,kG] at h8
 obtain ⟨g1,g2⟩:=h8
 refine ⟨g1,fun ρ n a b xs ys r w ha hb hr=>?_⟩
 split at g2
 next fields=>
  simp only [zC,kG] at g2
  have hfo:P.fieldsOf t=fields:=by simp [Program.fieldsOf,hd]
  rw [run_equalIn_struct w 9999 t _ _ (by rw [hfo];exact hd) g2.1,hfo]
  exact eqFields1_ok (D:=9997) fields.toList ty.zero 0 a b g2.2 (by simpa using ha) (by simpa using hb) hr
 next m e=>
  simp only [zC,kC] at g2
  obtain ⟨⟨⟨q1,q2⟩,q3⟩,q4⟩:=g2
  obtain ⟨ie,hie⟩:=Option.isSome_iff_exists.1 q1
  rw [run_equalIn_array w 9999 _ _ hd hie,q2,List.range_eq_range']
  rw [len_eq] at q3
  exact eqItems_ok (D:=9998) m 0 ty.zero a b q3 (fun z hz=>qG.1 q4 z hz) (by simpa using ha) (by simpa using hb) hr
 cases g2
def T.All {α:Type} (p:Nat->α->Prop):T α->(Nat->Nat)->Prop
 |.e,_=>True
 |.n l v r,φ=>T.All p l (fun i=>φ (2 * i+1))/\(match v with |some x=>p (φ 0) x |none=>True)/\T.All p r (fun i=>φ (2 * i+2))
theorem T.All.get {α:Type} {p:Nat->α->Prop}:∀(t:T α) (φ:Nat->Nat),T.All p t φ->∀i x,t.get i=some x->p (φ i) x
 |.e,_,_,i,x,h=>by simp [T.get] at h
 |.n l v r,φ,ha,0,x,h=>by
  have h1:=ha.2.1
  have h2:v=some x:=h
  rw [h2] at h1
  exact h1
 |.n l v r,φ,ha,j+1,x,h=>by
  have hj:(T.n l v r).get (j+1)=if j % 2=0 then l.get (j / 2) else r.get (j / 2):=T.get_succ l v r j
  rw [hj] at h
  split at h
  ·have:=T.All.get l _ ha.1 (j / 2) x h
   rw [show 2 * (j / 2)+1=j+1 by omega] at this
   exact this
  have:=T.All.get r _ ha.2.2 (j / 2) x h
  rw [show 2 * (j / 2)+2=j+1 by omega] at this
  exact this
def T.allB {α:Type} (p:α->Bool):T α->Bool
 |.e=>true
 |.n l v r=>T.allB p l && (match v with |some x=>p x |none=>true) && T.allB p r
theorem T.allB_ok {α:Type} {p:α->Bool}:∀(t:T α) (φ:Nat->Nat),T.allB p t=true->T.All (fun _ x=>p x=true) t φ
 |.e,_,_=>trivial
 |.n l v r,φ,h=>by
  simp only [T.allB,zC] at h
  refine ⟨T.allB_ok l _ h.1.1,?_,T.allB_ok r _ h.2⟩
  cases v with
  |none=>trivial
  |some x=>exact h.1.2
def tabChk (P:Program) (T:Nat->Option Ty):Nat->Bool
 |0=>true
 |n+1=>(match T n with
  |some ty=>tyChk P n ty
  |none=>true) && tabChk P T n
theorem tabChk_ok {P:Program} {T:Nat->Option Ty}:∀n,tabChk P T n=true->∀t ty,t < n->T t=some ty->TyOk P t ty
 |0,_,t,_,h,_=>by omega
 |n+1,hc,t,ty,ht,h=>by
  simp only [tabChk,zC] at hc
  by_cases e:t=n
  ·subst e
   rw [h] at hc
   exact tyChk_ok hc.1
  exact tabChk_ok n hc.2 t ty (by omega) h
end CX

namespace CX
open Go Go.Proofs
theorem fnT_ok:T.All (fun f fn=>Try.prog.funcs[f]?=some fn) fnT id:=(And.intro (And.intro (And.intro (And.intro (And.intro (And.intro (And.intro trivial (And.intro Try.func63 trivial)) (And.intro Try.func31 (And.intro trivial (And.intro Try.func95 trivial)))) (And.intro Try.func15 (And.intro (And.intro trivial (And.intro Try.func79 trivial)) (And.intro Try.func47 (And.intro trivial (And.intro Try.func111 trivial)))))) (And.intro Try.func7 (And.intro (And.intro (And.intro trivial (And.intro Try.func71 trivial)) (And.intro Try.func39 (And.intro trivial (And.intro Try.func103 trivial)))) (And.intro Try.func23 (And.intro (And.intro trivial (And.intro Try.func87 trivial)) (And.intro Try.func55 trivial)))))) (And.intro Try.func3 (And.intro (And.intro (And.intro (And.intro trivial (And.intro Try.func67 trivial)) (And.intro Try.func35 (And.intro trivial (And.intro Try.func99 trivial)))) (And.intro Try.func19 (And.intro (And.intro trivial (And.intro Try.func83 trivial)) (And.intro Try.func51 (And.intro trivial (And.intro Try.func115 trivial)))))) (And.intro Try.func11 (And.intro (And.intro (And.intro trivial (And.intro Try.func75 trivial)) (And.intro Try.func43 (And.intro trivial (And.intro Try.func107 trivial)))) (And.intro Try.func27 (And.intro (And.intro trivial (And.intro Try.func91 trivial)) (And.intro Try.func59 trivial)))))))) (And.intro trivial (And.intro (And.intro (And.intro (And.intro (And.intro trivial (And.intro Try.func65 trivial)) (And.intro Try.func33 (And.intro trivial (And.intro Try.func97 trivial)))) (And.intro Try.func17 (And.intro (And.intro trivial (And.intro Try.func81 trivial)) (And.intro Try.func49 (And.intro trivial (And.intro Try.func113 trivial)))))) (And.intro Try.func9 (And.intro (And.intro (And.intro trivial (And.intro Try.func73 trivial)) (And.intro Try.func41 (And.intro trivial (And.intro Try.func105 trivial)))) (And.intro Try.func25 (And.intro (And.intro trivial (And.intro Try.func89 trivial)) (And.intro Try.func57 trivial)))))) (And.intro Try.func5 (And.intro (And.intro (And.intro (And.intro trivial (And.intro Try.func69 trivial)) (And.intro Try.func37 (And.intro trivial (And.intro Try.func101 trivial)))) (And.intro Try.func21 (And.intro (And.intro trivial (And.intro Try.func85 trivial)) (And.intro Try.func53 (And.intro trivial (And.intro Try.func117 trivial)))))) (And.intro Try.func13 (And.intro (And.intro (And.intro trivial (And.intro Try.func77 trivial)) (And.intro Try.func45 (And.intro trivial (And.intro Try.func109 trivial)))) (And.intro Try.func29 (And.intro (And.intro trivial (And.intro Try.func93 trivial)) (And.intro Try.func61 trivial)))))))))) (And.intro trivial (And.intro (And.intro (And.intro (And.intro (And.intro (And.intro trivial (And.intro Try.func64 trivial)) (And.intro Try.func32 (And.intro trivial (And.intro Try.func96 trivial)))) (And.intro Try.func16 (And.intro (And.intro trivial (And.intro Try.func80 trivial)) (And.intro Try.func48 (And.intro trivial (And.intro Try.func112 trivial)))))) (And.intro Try.func8 (And.intro (And.intro (And.intro trivial (And.intro Try.func72 trivial)) (And.intro Try.func40 (And.intro trivial (And.intro Try.func104 trivial)))) (And.intro Try.func24 (And.intro (And.intro trivial (And.intro Try.func88 trivial)) (And.intro Try.func56 trivial)))))) (And.intro Try.func4 (And.intro (And.intro (And.intro (And.intro trivial (And.intro Try.func68 trivial)) (And.intro Try.func36 (And.intro trivial (And.intro Try.func100 trivial)))) (And.intro Try.func20 (And.intro (And.intro trivial (And.intro Try.func84 trivial)) (And.intro Try.func52 (And.intro trivial (And.intro Try.func116 trivial)))))) (And.intro Try.func12 (And.intro (And.intro (And.intro trivial (And.intro Try.func76 trivial)) (And.intro Try.func44 (And.intro trivial (And.intro Try.func108 trivial)))) (And.intro Try.func28 (And.intro (And.intro trivial (And.intro Try.func92 trivial)) (And.intro Try.func60 trivial)))))))) (And.intro Try.func2 (And.intro (And.intro (And.intro (And.intro (And.intro trivial (And.intro Try.func66 trivial)) (And.intro Try.func34 (And.intro trivial (And.intro Try.func98 trivial)))) (And.intro Try.func18 (And.intro (And.intro trivial (And.intro Try.func82 trivial)) (And.intro Try.func50 (And.intro trivial (And.intro Try.func114 trivial)))))) (And.intro Try.func10 (And.intro (And.intro (And.intro trivial (And.intro Try.func74 trivial)) (And.intro Try.func42 (And.intro trivial (And.intro Try.func106 trivial)))) (And.intro Try.func26 (And.intro (And.intro trivial (And.intro Try.func90 trivial)) (And.intro Try.func58 trivial)))))) (And.intro Try.func6 (And.intro (And.intro (And.intro (And.intro trivial (And.intro Try.func70 trivial)) (And.intro Try.func38 (And.intro trivial (And.intro Try.func102 trivial)))) (And.intro Try.func22 (And.intro (And.intro trivial (And.intro Try.func86 trivial)) (And.intro Try.func54 (And.intro trivial (And.intro Try.func118 trivial)))))) (And.intro Try.func14 (And.intro (And.intro (And.intro trivial (And.intro Try.func78 trivial)) (And.intro Try.func46 (And.intro trivial (And.intro Try.func110 trivial)))) (And.intro Try.func30 (And.intro (And.intro trivial (And.intro Try.func94 trivial)) (And.intro Try.func62 trivial))))))))))))
end CX

namespace CX
open Go Go.Proofs
theorem names_ok:T.allB (fun fn:Func=>fn.name != "runtime.NumGoroutine") fnT=true:=by kernel_rfl
theorem types_ok:tabChk Try.prog env.T 184=true:=by kernel_rfl
theorem env_ok:EnvOk env Try.prog:=by
 refine ⟨fun t ty h=>?_,fun f fn h=>?_,by kernel_rfl,fun _ _ h=>(by cases h),fun _ _ _ _ _ _ _ h=>(by cases h),fun _ h=>(by cases h),fun _ _ h=>by cases h⟩
 ·refine tabChk_ok 184 types_ok t ty ?_ h
  simp only [env] at h
  split at h
  next hb=>simpa [kL] using hb
  cases h
 refine ⟨T.All.get fnT id fnT_ok f fn h,?_⟩
 have:=T.All.get fnT id (T.allB_ok fnT id names_ok) f fn h
 simpa using this
theorem works_run:callF env (cx env 1000) 0 .e 0 13 [] (fun v _ _=>retV v .e 0)=some (.normal,⟨0,0,.n .e (some (.bool true)) .e,.e,0,[]⟩):=by kernel_rfl
theorem works_ok (w:World):Calls Try.prog 13 #[] w fun e w'=>e=.returned (.bool true)/\Kept w w':=by
 refine (cx_call env_ok (fun _=>rfl) (xs:=[]) (by simp [RvL]) works_run w).mono fun e w' he=>?_
 obtain ⟨u,ρ,n,rfl,h,rest⟩:=he
 simp only [Rv] at h
 subst h
 exact ⟨rfl,rest⟩
end CX

namespace HX
open Go Go.Proofs
def tyB:BT CX.Ty:=(.n (.n (.n (.n (.n (.n (.n (.n .e 1 CX.ty1 .e) 2 CX.ty2 .e) 3 CX.ty3 (.n (.n .e 4 CX.ty4 .e) 5 CX.ty5 .e)) 6 CX.ty6 (.n (.n (.n .e 7 CX.ty7 .e) 8 CX.ty8 .e) 9 CX.ty9 (.n (.n .e 10 CX.ty10 .e) 11 CX.ty11 .e))) 12 CX.ty12 (.n (.n (.n (.n .e 13 CX.ty13 .e) 14 CX.ty14 .e) 15 CX.ty15 (.n (.n .e 16 CX.ty16 .e) 17 CX.ty17 .e)) 18 CX.ty18 (.n (.n (.n .e 19 CX.ty19 .e) 20 CX.ty20 .e) 21 CX.ty21 (.n .e 22 CX.ty22 .e)))) 23 CX.ty23 (.n (.n (.n (.n (.n .e 24 CX.ty24 .e) 25 CX.ty25 .e) 26 CX.ty26 (.n (.n .e 27 CX.ty27 .e) 28 CX.ty28 .e)) 30 CX.ty30 (.n (.n (.n .e 31 CX.ty31 .e) 32 CX.ty32 .e) 33 CX.ty33 (.n .e 34 CX.ty34 .e))) 36 CX.ty36 (.n (.n (.n (.n .e 37 CX.ty37 .e) 38 CX.ty38 .e) 39 CX.ty39 (.n (.n .e 40 CX.ty40 .e) 41 CX.ty41 .e)) 42 CX.ty42 (.n (.n (.n .e 43 CX.ty43 .e) 44 CX.ty44 .e) 45 CX.ty45 (.n .e 46 CX.ty46 .e))))) 47 CX.ty47 (.n (.n (.n (.n (.n (.n .e 48 CX.ty48 .e) 49 CX.ty49 .e) 50 CX.ty50 (.n (.n .e 51 CX.ty51 .e) 52 CX.ty52 .e)) 53 CX.ty53 (.n (.n (.n .e 55 CX.ty55 .e) 56 CX.ty56 .e) 57 CX.ty57 (.n .e 58 CX.ty58 .e))) 59 CX.ty59 (.n (.n (.n (.n .e 60 CX.ty60 .e) 61 CX.ty61 .e) 62 CX.ty62 (.n (.n .e 63 CX.ty63 .e) 64 CX.ty64 .e)) 65 CX.ty65 (.n (.n (.n .e 66 CX.ty66 .e) 67 CX.ty67 .e) 68 CX.ty68 (.n .e 69 CX.ty69 .e)))) 70 CX.ty70 (.n (.n (.n (.n (.n .e 71 CX.ty71 .e) 72 CX.ty72 .e) 73 CX.ty73 (.n (.n .e 74 CX.ty74 .e) 75 CX.ty75 .e)) 76 CX.ty76 (.n (.n (.n .e 77 CX.ty77 .e) 78 CX.ty78 .e) 79 CX.ty79 (.n .e 80 CX.ty80 .e))) 81 CX.ty81 (.n (.n (.n (.n .e 82 CX.ty82 .e) 83 CX.ty83 .e) 84 CX.ty84 (.n (.n .e 85 CX.ty85 .e) 86 CX.ty86 .e)) 87 CX.ty87 (.n (.n (.n .e 88 CX.ty88 .e) 89 CX.ty89 .e) 90 CX.ty90 (.n .e 91 CX.ty91 .e)))))) 92 CX.ty92 (.n (.n (.n (.n (.n (.n (.n .e 93 CX.ty93 .e) 94 CX.ty94 .e) 95 CX.ty95 (.n (.n .e 96 CX.ty96 .e) 97 CX.ty97 .e)) 98 CX.ty98 (.n (.n (.n .e 99 CX.ty99 .e) 100 CX.ty100 .e) 101 CX.ty101 (.n (.n .e 103 CX.ty103 .e) 104 CX.ty104 .e))) 105 CX.ty105 (.n (.n (.n (.n .e 106 CX.ty106 .e) 107 CX.ty107 .e) 108 CX.ty108 (.n (.n .e 109 CX.ty109 .e) 110 CX.ty110 .e)) 111 CX.ty111 (.n (.n (.n .e 112 CX.ty112 .e) 113 CX.ty113 .e) 115 CX.ty115 (.n .e 116 CX.ty116 .e)))) 117 CX.ty117 (.n (.n (.n (.n (.n .e 118 CX.ty118 .e) 119 CX.ty119 .e) 120 CX.ty120 (.n (.n .e 121 CX.ty121 .e) 122 CX.ty122 .e)) 123 CX.ty123 (.n (.n (.n .e 124 CX.ty124 .e) 125 CX.ty125 .e) 126 CX.ty126 (.n .e 127 CX.ty127 .e))) 128 CX.ty128 (.n (.n (.n (.n .e 129 CX.ty129 .e) 130 CX.ty130 .e) 131 CX.ty131 (.n (.n .e 132 CX.ty132 .e) 133 CX.ty133 .e)) 134 CX.ty134 (.n (.n (.n .e 135 CX.ty135 .e) 136 CX.ty136 .e) 137 CX.ty137 (.n .e 138 CX.ty138 .e))))) 139 CX.ty139 (.n (.n (.n (.n (.n (.n .e 140 CX.ty140 .e) 141 CX.ty141 .e) 142 CX.ty142 (.n (.n .e 143 CX.ty143 .e) 144 CX.ty144 .e)) 145 CX.ty145 (.n (.n (.n .e 146 CX.ty146 .e) 147 CX.ty147 .e) 148 CX.ty148 (.n .e 149 CX.ty149 .e))) 150 CX.ty150 (.n (.n (.n (.n .e 151 CX.ty151 .e) 152 CX.ty152 .e) 154 CX.ty154 (.n (.n .e 155 CX.ty155 .e) 156 CX.ty156 .e)) 157 CX.ty157 (.n (.n (.n .e 158 CX.ty158 .e) 159 CX.ty159 .e) 160 CX.ty160 (.n .e 161 CX.ty161 .e)))) 162 CX.ty162 (.n (.n (.n (.n (.n .e 163 CX.ty163 .e) 164 CX.ty164 .e) 165 CX.ty165 (.n (.n .e 166 CX.ty166 .e) 167 CX.ty167 .e)) 168 CX.ty168 (.n (.n (.n .e 169 CX.ty169 .e) 170 CX.ty170 .e) 171 CX.ty171 (.n .e 172 CX.ty172 .e))) 173 CX.ty173 (.n (.n (.n (.n .e 174 CX.ty174 .e) 175 CX.ty175 .e) 176 CX.ty176 (.n (.n .e 177 CX.ty177 .e) 178 CX.ty178 .e)) 179 CX.ty179 (.n (.n (.n .e 180 CX.ty180 .e) 181 CX.ty181 .e) 182 CX.ty182 (.n .e 183 CX.ty183 .e)))))))
def ksB:BT (List Kd):=(.n (.n (.n (.n (.n (.n .e 2 [.int .i64] .e) 3 [.int .i64] (.n .e 4 [.bool] .e)) 5 [.int .u8] (.n (.n .e 6 [.int .u8] .e) 7 [.int .i64,.int .i64,.bool,.int .u8] .e)) 8 [.int .i64,.int .i64,.bool,.int .u8] (.n (.n (.n .e 9 [.str] .e) 10 [.str] (.n .e 11 [.str] .e)) 12 [.int .u64] (.n (.n .e 13 [.str,.int .u64] .e) 14 [.str,.int .u64] .e))) 21 [.int .i32] (.n (.n (.n (.n .e 22 [.int .i64,.int .i64,.int .i64] .e) 23 [.int .i64,.int .i64,.int .i64] (.n .e 24 [.sl [.sl [.int .i64]]] .e)) 25 [.sl [.int .i64]] (.n (.n .e 26 [.sl [.int .i64,.int .i64]] .e) 28 [.int .i64] .e)) 31 [.int .i64,.int .i64,.int .i64] (.n (.n (.n .e 42 [.int .i64,.int .i64] .e) 43 [.int .i64,.int .i64] (.n .e 44 [.int .i64,.int .i64] .e)) 45 [.int .i64,.int .i64] (.n (.n .e 47 [.int .i64,.int .i64] .e) 50 [.int .i64,.int .i64] .e)))) 53 [.sl [.int .u8]] (.n (.n (.n (.n (.n .e 64 [.int .i64,.int .i64] .e) 65 [.int .i64,.int .i64] (.n .e 67 [.int .u16] .e)) 68 [.sl [.int .i16]] (.n (.n .e 69 [.int .i16] .e) 72 [.sl [.int .u32,.int .u32]] .e)) 73 [.int .u32] (.n (.n (.n .e 84 [.bool,.sl [.int .i64,.int .i64]] .e) 85 [.bool,.sl [.int .i64,.int .i64]] (.n .e 107 [.int .u64] .e)) 110 [.int .i64,.int .i64] (.n (.n .e 111 [.int .i64,.int .i64] .e) 116 [.int .u8,.int .u8] .e))) 120 [.int .i64,.int .i64] (.n (.n (.n (.n .e 121 [.int .i64,.int .i64] .e) 127 [.sl [.int .u8],.int .i64,.bool] (.n .e 128 [.sl [.int .u8],.int .i64,.bool] .e)) 130 [.sl [.sl [.int .i64,.int .i64]]] (.n (.n .e 137 [.int .u32,.int .u32] .e) 152 [.int .i64] .e)) 160 [.int .u64] (.n (.n (.n .e 161 [.int .u64] .e) 175 [.int .u8] .e) 176 [.int .u8] (.n (.n .e 179 [.int .i32] .e) 180 [.int .i32] .e)))))
end HX

namespace HX
open Go Go.Proofs CX
def tyF (t:Nat):Option CX.Ty:=tyB.get t
def ksF (t:Nat):Option (List Kd):=ksB.get t
def fnF (f:Nat):Option Func:=CX.env.fn f
def extS (s:Nat->Option Nat) (f:Nat):Option CX.Ext:=match beqN f 13 with
 |true=>some (.bool true)
 |false=>match s f with
  |some c=>some (.sort c)
  |none=>none
def cxS (s:Nat->Option Nat) (ro:Addr->Option V):CX.Env:=⟨tyF,fnF,extS s,ro⟩
def no1 (_:Nat):Option Nat:=none
def cxE0 (ro:Addr->Option V):CX.Env:=cxS no1 ro
structure Ctr where
 f:Nat
 sg:Sig
 pre:List (List D)->Prop
 res:List (List D)->Nat->Nat->D
def inlL (l:List (Nat×Func)) (f:Nat):Option Func:=look l f
def sigL (l:List (Nat×Sig)) (f:Nat):Option Sig:=look l f
def sigs (l:List Ctr):List (Nat×Sig):=l.map fun c=>(c.f,c.sg)
def ctrOf:List Ctr->Nat->Option Ctr
 |[],_=>none
 |c :: r,f=>if c.f=f then some c else ctrOf r f
def preOf (l:List Ctr) (f:Nat) (ds:List (List D)):Prop:=match ctrOf l f with
 |some c=>c.pre ds
 |none=>False
def resOf (l:List Ctr) (f:Nat) (ds:List (List D)):Nat->Nat->D:=match ctrOf l f with
 |some c=>c.res ds
 |none=>fun _ _=>.nil
end HX

namespace HX
open Go Go.Proofs CX
inductive Inls (E:CX.Env):List (Nat×Func)->Prop
 |nil:Inls E []
 |cons {f:Nat} {fn:Func} {l:List (Nat×Func)} (h:E.fn f=some fn) (h':E.ext f=none) (r:Inls E l):Inls E ((f,fn) :: l)
theorem Inls.ok {E:CX.Env}:∀{l:List (Nat×Func)},Inls E l->∀f fn,inlL l f=some fn->E.fn f=some fn/\E.ext f=none
 |[],_,f,fn,h=>by simp [inlL,look] at h
 |(g,gn) :: l,.cons h1 h2 r,f,fn,h=>by
  unfold inlL at h
  rw [look_cons] at h
  split at h
  next e=>
   simp only [zA] at h
   subst e h
   exact ⟨h1,h2⟩
  exact r.ok f fn h
theorem dt {p:Prop} [d:Decidable p] (h:decide p=true):p:=zQ h
theorem df {p:Prop} [d:Decidable p] (h:decide p=false):¬p:=of_decide_eq_false h
theorem nt {b:Bool} (h:(!b)=true):b=false:=by simpa using h
theorem nf {b:Bool} (h:(!b)=false):b=true:=by simpa using h
theorem and_t {a b:Bool} (h:(a && b)=true):a=true/\b=true:=by simpa using h
theorem and_f {a b:Bool} (h:(a && b)=false):a=false\/b=false:=by cases a<;>cases b<;>simp_all
end HX

namespace HX
open Go Go.Proofs CX
theorem tyB_ok:tyB.All (fun t ty=>CX.env.T t=some ty):=by
 unfold tyB
 simp only [BT.All,true_and,and_true]
 repeat' apply And.intro
 all_goals rfl
theorem cxS_ok {s:Nat->Option Nat} (hs:∀f c,s f=some c->CX.SortOk Try.prog f c) (ro:Addr->Option V):CX.EnvOk (cxS s ro) Try.prog:=by
 refine ⟨fun t ty h=>CX.env_ok.T t ty (tyB_ok.get h),fun f fn h=>CX.env_ok.fn f fn h,CX.env_ok.mixed,fun f b h w=>?_,fun f _ _ _ _ _ _ h=>?_,fun f h=>?_,fun f c h=>?_⟩
 all_goals (simp only [cxS,extS] at h)
 ·split at h
  next hb=>
   simp only [beqN_iff] at hb
   simp only [zA,CX.Ext.bool.injEq] at h
   subst hb h
   exact (CX.works_ok w).mono fun e w' ⟨h1,h2,h3,h4,h5,h6⟩=>⟨h1,h2,h3,h4,h5,h6⟩
  split at h<;>cases h
 ·split at h
  ·cases h
  split at h<;>cases h
 ·split at h
  ·cases h
  split at h<;>cases h
 split at h
 ·cases h
 split at h
 next c' hc=>
  cases h
  exact hs f c hc
 cases h
theorem cxS_srt {s:Nat->Option Nat} (hs:∀f c,s f=some c->∃fn b,CX.env.fn f=some fn/\fn.body=some b/\2<=fn.ntmps) {ro:Addr->Option V}:∀f c,(cxS s ro).ext f=some (.sort c)->∃fn b,(cxS s ro).fn f=some fn/\fn.body=some b/\2<=fn.ntmps:=fun f c h=>by
 simp only [cxS,extS] at h
 split at h
 ·cases h
 split at h
 next c' hc=>
  cases h
  exact hs f c hc
 cases h
theorem cxE0_ok (ro:Addr->Option V):CX.EnvOk (cxE0 ro) Try.prog:=cxS_ok (fun _ _ h=>by cases h) ro
theorem hxEnv0 {ro:Addr->Option V} {sig:Nat->Option Sig} {pre:Nat->List (List D)->Prop} {fn:Nat->List (List D)->Nat->Nat->D} (h:∀f sg,sig f=some sg->PureC (cxE0 ro) f sg (pre f) (fn f)):EnvOk ⟨Ar.std,cxE0 ro,ksF,sig,pre,fn⟩:=⟨rfl,TOk.of (cxE0_ok ro),h,cxS_srt (fun _ _ h=>by cases h)⟩
theorem call_ro {P:Program} {E:CX.Env} (hE:CX.EnvOk E P) {f:FuncId} {n:Nat} {v:V} {args:List V} {xs:List Value} {h':T O} {nx':Nat} {w:World} (hro:RoAt E.ro w) (ha:RvL (fun _=>none) 0 args xs)
  (h:callF E (cx E n) 0 .e 0 f args (fun v h nx=>retV v h nx)=retV v h' nx') :
  Calls P f xs.toArray w fun e w'=>∃u ρ n,e=.returned u/\Rv ρ n v u/\Kept w w':=by
 obtain ⟨v',g',n',fn,h1,_,_,h2⟩:=callF_ok hE (cx_ok hE n).1 (ρ:=fun _=>none) (n:=0) (bar:=0) (g:=.e) (w:=w) (xs:=xs) ⟨hro,fun a v h id o L _ _ hL=>by cases hL⟩ ⟨fun id o h=>by simp [T.get] at h,fun id o id' o' h=>by simp [T.get] at h,fun _ _=>rfl,fun _ _ h=>by cases h⟩ ha h
 have e:v'=v:=by
  simp only [retV,zA,zJ,CX.St.mk.injEq,CX.T.n.injEq,true_and,and_true] at h1
  exact h1.1
 subst e
 refine (callsIn_wide.1 (h2 none)).mono fun e w' he=>?_
 obtain ⟨u,ρ',rfl,d1,_,_,_,d5⟩:=he
 refine ⟨u,ρ',n',rfl,d1,d5.os,d5.tape,d5.output,d5.size,fun b hb=>d5.keep b hb ?_⟩
 rintro ⟨id,o,L,_,h,_⟩
 simp [T.get] at h
end HX

namespace HX
open Go Go.Proofs CX
inductive Ctrs (E:CX.Env):List Ctr->Prop
 |nil:Ctrs E []
 |cons {c:Ctr} {l:List Ctr} (h:PureC E c.f c.sg c.pre c.res) (r:Ctrs E l):Ctrs E (c :: l)
theorem Ctrs.find {E:CX.Env}:∀{l:List Ctr},Ctrs E l->∀{f:Nat} {sg:Sig},sigL (sigs l) f=some sg->PureC E f sg (preOf l f) (resOf l f)
 |[],_,f,sg,h=>by simp [sigL,sigs,look] at h
 |c :: l,.cons h1 h2,f,sg,h=>by
  simp only [sigL,sigs,kH] at h
  rw [look_cons] at h
  split at h
  next e=>
   simp only [zA] at h
   subst e h
   have e1:preOf (c :: l) c.f=c.pre:=by funext ds;simp [preOf,ctrOf]
   have e2:resOf (c :: l) c.f=c.res:=by funext ds;simp [resOf,ctrOf]
   rw [e1,e2];exact h1
  rename_i e
  have e1:preOf (c :: l) f=preOf l f:=by funext ds;simp [preOf,ctrOf,e]
  have e2:resOf (c :: l) f=resOf l f:=by funext ds;simp [resOf,ctrOf,e]
  rw [e1,e2]
  exact h2.find h
theorem env0L {ro:Addr->Option V} {l:List Ctr} (h:Ctrs (cxE0 ro) l):EnvOk ⟨Ar.std,cxE0 ro,ksF,sigL (sigs l),preOf l,resOf l⟩:=hxEnv0 fun _ _ hs=>h.find hs
end HX

namespace HX
open Go Go.Proofs CX
structure V76z (pre:Nat->List (List D)->Prop) (fn:Nat->List (List D)->Nat->Nat->D) (a0_0:Int) (a0_1:Int) (a1_0:Int) (a1_1:Int) (R:Nat->Nat->D) (I0:Int->Int->Prop) (m0:Int->Int->Nat):Prop where
 g0:pre 100 [[D.i a0_0],[D.i a1_0]]
 g1:pre 100 [[D.i a0_1],[D.i a1_1]]
 i0:I0 0 0
 g3:∀x0_0 x0_1,I0 x0_0 x0_1->(x0_1 < (([[D.i (D.int (fn 100 [[D.i a0_0],[D.i a1_0]] 0 0))],[D.i (D.int (fn 100 [[D.i a0_1],[D.i a1_1]] 0 0))]]).length:Int))->0<=x0_1
 g4:∀x0_0 x0_1,I0 x0_0 x0_1->(x0_1 < (([[D.i (D.int (fn 100 [[D.i a0_0],[D.i a1_0]] 0 0))],[D.i (D.int (fn 100 [[D.i a0_1],[D.i a1_1]] 0 0))]]).length:Int))->x0_1 < (([[D.i (D.int (fn 100 [[D.i a0_0],[D.i a1_0]] 0 0))],[D.i (D.int (fn 100 [[D.i a0_1],[D.i a1_1]] 0 0))]]).length:Int)
 g5:∀x0_0 x0_1,I0 x0_0 x0_1->(x0_1 < (([[D.i (D.int (fn 100 [[D.i a0_0],[D.i a1_0]] 0 0))],[D.i (D.int (fn 100 [[D.i a0_1],[D.i a1_1]] 0 0))]]).length:Int))->(((Int.toNat x0_1:Nat):Int)) < (([[D.i (D.int (fn 100 [[D.i a0_0],[D.i a1_0]] 0 0))],[D.i (D.int (fn 100 [[D.i a0_1],[D.i a1_1]] 0 0))]]).length:Int)
 g6:∀x0_0 x0_1,I0 x0_0 x0_1->(x0_1 < (([[D.i (D.int (fn 100 [[D.i a0_0],[D.i a1_0]] 0 0))],[D.i (D.int (fn 100 [[D.i a0_1],[D.i a1_1]] 0 0))]]).length:Int))->(¬(D.int (gt [[D.i (D.int (fn 100 [[D.i a0_0],[D.i a1_0]] 0 0))],[D.i (D.int (fn 100 [[D.i a0_1],[D.i a1_1]] 0 0))]] x0_1.toNat 0))=0)->R 0 0=D.i (D.int (gt [[D.i (D.int (fn 100 [[D.i a0_0],[D.i a1_0]] 0 0))],[D.i (D.int (fn 100 [[D.i a0_1],[D.i a1_1]] 0 0))]] x0_1.toNat 0))
 g7:∀x0_0 x0_1,I0 x0_0 x0_1->(x0_1 < (([[D.i (D.int (fn 100 [[D.i a0_0],[D.i a1_0]] 0 0))],[D.i (D.int (fn 100 [[D.i a0_1],[D.i a1_1]] 0 0))]]).length:Int))->((D.int (gt [[D.i (D.int (fn 100 [[D.i a0_0],[D.i a1_0]] 0 0))],[D.i (D.int (fn 100 [[D.i a0_1],[D.i a1_1]] 0 0))]] x0_1.toNat 0))=0)->-9223372036854775808<=(x0_1+1)/\(x0_1+1)<=9223372036854775807
 n8:∀x0_0 x0_1,I0 x0_0 x0_1->(x0_1 < (([[D.i (D.int (fn 100 [[D.i a0_0],[D.i a1_0]] 0 0))],[D.i (D.int (fn 100 [[D.i a0_1],[D.i a1_1]] 0 0))]]).length:Int))->((D.int (gt [[D.i (D.int (fn 100 [[D.i a0_0],[D.i a1_0]] 0 0))],[D.i (D.int (fn 100 [[D.i a0_1],[D.i a1_1]] 0 0))]] x0_1.toNat 0))=0)->I0 x0_0 (x0_1+1)/\m0 x0_0 (x0_1+1) < m0 x0_0 x0_1
 g9:∀x0_0 x0_1,I0 x0_0 x0_1->(¬x0_1 < (([[D.i (D.int (fn 100 [[D.i a0_0],[D.i a1_0]] 0 0))],[D.i (D.int (fn 100 [[D.i a0_1],[D.i a1_1]] 0 0))]]).length:Int))->R 0 0=D.i 0
end HX

namespace HX
open Go Go.Proofs CX
set_option maxHeartbeats 4000000 in
set_option maxRecDepth 100000 in
theorem walk76z {ro A pre fn} (hE:EnvOk ⟨A,(cxE0 ro),ksF,sigL [(100,⟨[(false,[.int .i64]),(false,[.int .i64])],[(false,[.int .i64])],false⟩)],pre,fn⟩) {P:List (List D)->Prop} {res:List (List D)->Nat->Nat->D}
  (hv:∀(a0_0:Int) (a0_1:Int) (a1_0:Int) (a1_1:Int),P [[.i a0_0,.i a0_1],[.i a1_0,.i a1_1]]->∃(I0:Int->Int->Prop) (m0:Int->Int->Nat),V76z pre fn a0_0 a0_1 a1_0 a1_1 (res [[.i a0_0,.i a0_1],[.i a1_0,.i a1_1]]) I0 m0) :
  PureC (cxE0 ro) 76 ⟨[(true,[.int .i64,.int .i64]),(true,[.int .i64,.int .i64])],[(false,[.int .i64])],false⟩ P res:=by
 have h:=hE.A
 simp only [] at h
 have hinl:∀f fn,inlL [(99,Try.f99)] f=some fn->(cxE0 ro).fn f=some fn/\(cxE0 ro).ext f=none:=Inls.ok (by repeat (first |exact .nil |refine .cons rfl rfl ?_))
 refine PureC.of_vc hE hinl 6 (f:=76) (fn:=Try.f76) ⟨rfl,rfl⟩ ?_
 intro a0_0 a0_1 a1_0 a1_1 hP
 obtain ⟨R,hR⟩:∃R,res [[.i a0_0,.i a0_1],[.i a1_0,.i a1_1]]=R:=⟨_,rfl⟩
 rw [hR]
 obtain ⟨I0,m0,hV⟩:=hv a0_0 a0_1 a1_0 a1_1  hP
 rw [hR] at hV
 clear hR hP hv
 cbv
 repeat' first|(refine Br.mk (fun _=>?_) (fun _=>?_)<;>cbv)|(refine NilB.mk (fun _=>?_) ?_<;>cbv)|refine And.intro ?_ ?_|exact True.intro
 ·subst h;exact hV.g0
 ·subst h;exact hV.g1
 refine Leaf.gen fun σz hσz=>?_
 refine loopB hE hinl 6 [] [] [] (fun x:Int×Int=>[.i x.1,.i x.2]) (fun x=>I0 x.1 x.2) (fun x=>m0 x.1 x.2) (0,0) (by subst h;exact hV.i0) ?_ ?_<;>subst hσz
 ·clear hE hinl hV;cbv;(try repeat' first|rfl|assumption|constructor)
 intro ⟨x0_0,x0_1⟩ hI0 K0 hK0
 cbv
 repeat' first|(refine Br.mk (fun _=>?_) (fun _=>?_)<;>cbv)|(refine NilB.mk (fun _=>?_) ?_<;>cbv)|refine And.intro ?_ ?_|exact True.intro
 ·next a=>subst h;exact hV.g3 _ _ hI0 (dt a)
 ·next a=>subst h;exact hV.g4 _ _ hI0 (dt a)
 ·next a=>subst h;exact hV.g5 _ _ hI0 (dt a)
 ·next a b=>subst h;exact hV.g6 _ _ hI0 (dt a) (df (nt b))
 ·next a b=>subst h;exact hV.g7 _ _ hI0 (dt a) (dt (nf b))
 next p8a p8b=>
  refine hK0 (x0_0,A.add x0_1 1) _ ?_ ?_ ?_
  ·subst h;exact (hV.n8 _ _ hI0 (dt p8a) (dt (nf p8b))).1
  ·subst h;exact (hV.n8 _ _ hI0 (dt p8a) (dt (nf p8b))).2
  clear hE hinl hV hK0;cbv;(try repeat' first|rfl|assumption|constructor)
 next a=>subst h;exact hV.g9 _ _ hI0 (df a)
end HX

namespace HX
open Go Go.Proofs CX
structure V100z (a0:Int) (a1:Int) (R:Nat->Nat->D)  : Prop where
 g0:(¬a0=a0)->(¬a1=a1)->R 0 0=D.i 0
 g1:(¬a0=a0)->(a1=a1)->R 0 0=D.i (-1)
 g2:(a0=a0)->(¬a1=a1)->R 0 0=D.i 1
 g3:(a0=a0)->(a1=a1)->(a0 < a1)->R 0 0=D.i (-1)
 g4:(a0=a0)->(a1=a1)->(¬a0 < a1)->(a1 < a0)->R 0 0=D.i 1
 g5:(a0=a0)->(a1=a1)->(¬a0 < a1)->(¬a1 < a0)->R 0 0=D.i 0
end HX

namespace HX
open Go Go.Proofs CX
set_option maxHeartbeats 4000000 in
set_option maxRecDepth 100000 in
theorem walk100z {ro A pre fn} (hE:EnvOk ⟨A,(cxE0 ro),ksF,sigL [],pre,fn⟩) {P:List (List D)->Prop} {res:List (List D)->Nat->Nat->D}
  (hv:∀(a0:Int) (a1:Int),P [[.i a0],[.i a1]]->V100z a0 a1 (res [[.i a0],[.i a1]]) ) :
  PureC (cxE0 ro) 100 ⟨[(false,[.int .i64]),(false,[.int .i64])],[(false,[.int .i64])],false⟩ P res:=by
 have h:=hE.A
 simp only [] at h
 have hinl:∀f fn,inlL [(112,Try.f112)] f=some fn->(cxE0 ro).fn f=some fn/\(cxE0 ro).ext f=none:=Inls.ok (by repeat (first |exact .nil |refine .cons rfl rfl ?_))
 refine PureC.of_vc hE hinl 6 (f:=100) (fn:=Try.f100) ⟨rfl,rfl⟩ ?_
 intro a0 a1 hP
 obtain ⟨R,hR⟩:∃R,res [[.i a0],[.i a1]]=R:=⟨_,rfl⟩
 rw [hR]
 have hV:=hv a0 a1  hP
 rw [hR] at hV
 clear hR hP hv
 cbv
 repeat' first|(refine Br.mk (fun _=>?_) (fun _=>?_)<;>cbv)|(refine NilB.mk (fun _=>?_) ?_<;>cbv)|refine And.intro ?_ ?_|exact True.intro
 next hp0_0 hp0_1=>
  subst h;exact hV.g0 (df (nt hp0_0)) (df (nt hp0_1))
 next hp1_0 hp1_1=>
  subst h;exact hV.g1 (df (nt hp1_0)) (dt (nf hp1_1))
 next hp2_0 hp2_1=>
  subst h;exact hV.g2 (dt (nf hp2_0)) (df (nt hp2_1))
 next hp3_0 hp3_1 hp3_2=>
  subst h;exact hV.g3 (dt (nf hp3_0)) (dt (nf hp3_1)) (dt hp3_2)
 next hp4_0 hp4_1 hp4_2 hp4_3=>
  subst h;exact hV.g4 (dt (nf hp4_0)) (dt (nf hp4_1)) (df hp4_2) (dt hp4_3)
 rename_i hp5_0 hp5_1 hp5_2 hp5_3
 subst h;exact hV.g5 (dt (nf hp5_0)) (dt (nf hp5_1)) (df hp5_2) (df hp5_3)
end HX

namespace Go.Proofs
open Go.Shelf
def Try.sortEv_ren:Go.Shelf.Ren:=⟨fun |6=>75 |15=>98 |14=>97 |28=>110 |29=>111 |20=>102 |21=>103 |22=>104 |23=>105 |24=>106 |25=>107 |26=>108 |27=>109 |46=>113 |47=>114 |48=>115 |49=>116 |50=>117 |57=>118 |n=>n,fun |22=>26 |24=>65 |25=>133 |3=>3 |39=>107 |0=>0 |53=>73 |55=>160 |4=>4 |46=>153 |45=>152 |50=>102 |5=>5 |9=>9 |66=>161 |70=>165 |76=>167 |77=>114 |n=>n,fun |n=>n⟩
theorem Try.sortEv:Go.Proofs.SlLaysF0.n6 Try.prog Try.sortEv_ren:={
 mixed:=by kernel_rfl
 f6:=⟨Try.f75.name,by decide,Try.func75.trans (congrArg some (by kernel_rfl))⟩
 f14:=⟨Try.f97.name,by decide,Try.func97.trans (congrArg some (by kernel_rfl))⟩
 f15:=Try.func98.trans (congrArg some (by kernel_rfl))
 f20:=⟨Try.f102.name,by decide,Try.func102.trans (congrArg some (by kernel_rfl))⟩
 f21:=⟨Try.f103.name,by decide,Try.func103.trans (congrArg some (by kernel_rfl))⟩
 f22:=⟨Try.f104.name,by decide,Try.func104.trans (congrArg some (by kernel_rfl))⟩
 f23:=⟨Try.f105.name,by decide,Try.func105.trans (congrArg some (by kernel_rfl))⟩
 f24:=⟨Try.f106.name,by decide,Try.func106.trans (congrArg some (by kernel_rfl))⟩
 f25:=⟨Try.f107.name,by decide,Try.func107.trans (congrArg some (by kernel_rfl))⟩
 f26:=⟨Try.f108.name,by decide,Try.func108.trans (congrArg some (by kernel_rfl))⟩
 f27:=⟨Try.f109.name,by decide,Try.func109.trans (congrArg some (by kernel_rfl))⟩
 f28:=Try.func110.trans (congrArg some (by kernel_rfl))
 f29:=Try.func111.trans (congrArg some (by kernel_rfl))
 f46:=⟨Try.f113.name,by decide,Try.func113.trans (congrArg some (by kernel_rfl))⟩
 f47:=Try.func114.trans (congrArg some (by kernel_rfl))
 f48:=Try.func115.trans (congrArg some (by kernel_rfl))
 f49:=⟨Try.f116.name,by decide,Try.func116.trans (congrArg some (by kernel_rfl))⟩
 f50:=⟨Try.f117.name,by decide,Try.func117.trans (congrArg some (by kernel_rfl))⟩
 f57:=⟨Try.f118.name,by decide,Try.func118.trans (congrArg some (by kernel_rfl))⟩
 t0:=Try.underlying0
 a0:=Try.isAgg0
 z0:=Try.sizeOf0
 v0:=Try.zeroValue0
 t3:=Try.underlying3
 a3:=Try.isAgg3
 z3:=Try.sizeOf3
 v3:=Try.zeroValue3
 t4:=Try.underlying4
 a4:=Try.isAgg4
 z4:=Try.sizeOf4
 v4:=Try.zeroValue4
 t5:=Try.underlying5
 a5:=Try.isAgg5
 z5:=Try.sizeOf5
 v5:=Try.zeroValue5
 t9:=Try.underlying9
 a9:=Try.isAgg9
 z9:=Try.sizeOf9
 v9:=Try.zeroValue9
 t22:=Try.underlying26
 a22:=Try.isAgg26
 z22:=Try.sizeOf26
 v22:=Try.zeroValue26
 t25:=Try.underlying133
 a25:=Try.isAgg133
 z25:=Try.sizeOf133
 v25:=Try.zeroValue133
 t39:=Try.underlying107
 a39:=Try.isAgg107
 z39:=Try.sizeOf107
 v39:=Try.zeroValue107
 t45:=Try.underlying152
 a45:=Try.isAgg152
 z45:=Try.sizeOf152
 v45:=Try.zeroValue152
 t46:=Try.underlying153
 a46:=Try.isAgg153
 z46:=Try.sizeOf153
 v46:=Try.zeroValue153
 t50:=Try.underlying102
 a50:=Try.isAgg102
 z50:=Try.sizeOf102
 v50:=Try.zeroValue102
 t53:=Try.underlying73
 a53:=Try.isAgg73
 z53:=Try.sizeOf73
 v53:=Try.zeroValue73
 t55:=Try.underlying160
 a55:=Try.isAgg160
 z55:=Try.sizeOf160
 v55:=Try.zeroValue160
 t66:=Try.underlying161
 a66:=Try.isAgg161
 z66:=Try.sizeOf161
 v66:=Try.zeroValue161
 t70:=Try.underlying165
 a70:=Try.isAgg165
 z70:=Try.sizeOf165
 v70:=Try.zeroValue165
 t76:=Try.underlying167
 a76:=Try.isAgg167
 z76:=Try.sizeOf167
 v76:=Try.zeroValue167
 t77:=Try.underlying114
 a77:=Try.isAgg114
 z77:=Try.sizeOf114
 v77:=Try.zeroValue114 }
end Go.Proofs
namespace CX
open Go Go.Proofs Go.Shelf Go.RowKit Go.Lib Go.Sort
def encE (x:Int×Int):List Value:=[.int .i64 x.1,.int .i64 x.2]
def cmpI0 (a b:Int):Int:=if a < b then -1 else if b < a then 1 else 0
def cfE (x y:Int×Int):Int:=if cmpI0 x.1 y.1=0 then cmpI0 x.2 y.2 else cmpI0 x.1 y.1
theorem cfE_lt (x y:Int×Int):ltOf cfE x y=ltP x y:=by
 have e:(cfE x y < 0)↔(x.1 < y.1\/(x.1=y.1/\x.2 < y.2)):=by
  unfold cfE cmpI0
  by_cases h1:x.1 < y.1
  ·simp [h1]
  by_cases h2:y.1 < x.1
  ·simp [h1,h2];omega
  have h3:x.1=y.1:=by omega
  simp [h1,h2,h3]
  by_cases h4:x.2 < y.2
  ·simp [h4]
  by_cases h5:y.2 < x.2<;>simp [h4,h5]
 simp only [ltOf,ltP,decide_eq_decide,e]
theorem swoE:SWO (ltOf cfE) where
 irrefl x:=by rw [cfE_lt];simp [ltP]
 trans x y z h1 h2:=by rw [cfE_lt] at *;simp only [ltP,decide_eq_true_eq] at *;omega
 ntrans x y z h1 h2:=by rw [cfE_lt] at *;simp only [ltP,decide_eq_false_iff_not] at *;omega
theorem totE (x y:Int×Int) (h1:ltOf cfE x y=false) (h2:ltOf cfE y x=false):x=y:=by
 rw [cfE_lt] at *
 simp only [ltP,decide_eq_false_iff_not] at *
 exact Prod.ext (by omega) (by omega)
theorem flat_valP (d:List (Int×Int)):flatK encE 2 d.toArray=(valP d).toArray:=by
 apply Array.ext_getElem?
 intro j
 have key:∀(d:List (Int×Int)) (j:Nat),j < d.length * 2->(valP d)[j]?=some ((encE (d.getD (j / 2) (0,0))).getD (j % 2) undef):=by
  intro d
  induction d with
  |nil=>intro j h;simp at h
  |cons a d ih=>
   intro j h
   match j with
   |0=>rfl
   |1=>rfl
   |j+2=>
    have h2:(j+2) / 2=j / 2+1:=by omega
    have h3:(j+2) % 2=j % 2:=by omega
    rw [h2,h3,List.getD_cons_succ]
    simp only [List.length_cons] at h
    exact ih j (by omega)
 have vl:∀d:List (Int×Int),(valP d).length=d.length * 2:=by
  intro d;induction d with
  |nil=>rfl
  |cons a d ih=>simp only [valP,List.length_cons,ih];omega
 have ev:(valP d).toArray[j]?=(valP d)[j]?:=by simp
 rw [ev]
 by_cases hj:j < d.length * 2
 ·rw [key d j hj]
  have h:=get_flatK encE 2 d.toArray j (by simpa using hj)
  have hlt:j < (flatK encE 2 d.toArray).size:=by rw [size_flatK];simpa using hj
  rw [Array.getElem?_eq_getElem hlt]
  rw [getElem!_pos _ j hlt] at h
  rw [h]
  have hi:j / 2 < d.length:=by omega
  have e1:d.toArray[j / 2]! = d.getD (j / 2) (0,0):=by
   rw [getElem!_pos _ _ (by simpa using hi),List.getD_eq_getElem?_getD,List.getElem?_eq_getElem hi]
   rfl
  rw [e1]
  rcases Nat.mod_two_eq_zero_or_one j with hm |hm<;>rw [hm]<;>rfl
 rw [Array.getElem?_eq_none (by rw [size_flatK];simpa using hj),List.getElem?_eq_none (by rw [vl];omega)]
theorem valP_len0 (d:List (Int×Int)):(valP d).length=d.length * 2:=by
 induction d with
 |nil=>rfl
 |cons a d ih=>simp only [valP,List.length_cons,ih];omega
theorem sortW_more {w:World} {blk off n:Nat} {os:Array Obj} {cur:Array Value} {ty:TypeId} {d:List (Int×Int)} (h:w.heap[blk]?=some (.cells cur ty (0,0))) (hle:off+2 * d.length<=cur.size) :
  MoreW (w.setRow blk (cur.toList.take off++valP d++cur.toList.drop (off+(valP d).length)).toArray) (sortWorldK encE 2 w blk off n d.toArray os):=by
 have hb:=(Array.getElem?_eq_some_iff.1 h).1
 have hsz:(w.setRow blk (cur.toList.take off++valP d++cur.toList.drop (off+(valP d).length)).toArray).heap.size=w.heap.size:=by simp [World.setRow]
 refine ⟨rfl,rfl,⟨rfl,Nat.le_add_right _ _⟩,?_,fun i hi=>?_⟩
 ·rw [hsz]
  simp [sortWorldK,grow,putRowK,putRow,mapBlock,Sort.ahead]
 rw [hsz] at hi
 have e:(sortWorldK encE 2 w blk off n d.toArray os).heap[i]?=(w.heap.modify blk (onCells (putCells id off (valP d).toArray)))[i]?:=by
  show ((w.heap.modify blk (onCells (putCells id off (flatK encE 2 d.toArray))))++os)[i]?=_
  rw [flat_valP,Array.getElem?_append_left (by simpa using hi)]
 rw [e]
 by_cases hne:i=blk
 rotate_left
 ·rw [setRow_other w blk i _ hne,Array.getElem?_modify,if_neg (Ne.symm hne)]
 subst hne
 rw [setRow_heap w i cur _ ty (0,0) h,Array.getElem?_modify,if_pos rfl,h]
 simp only [Option.map_some,onCells]
 congr 2
 apply Array.ext_getElem?
 intro k
 simp only [putCells,Array.getElem?_mapIdx,List.getElem?_toArray,List.size_toArray]
 have vl:=valP_len0 d
 by_cases hk:k < cur.size
 ·rw [Array.getElem?_eq_getElem hk,Option.map_some]
  by_cases h1:k < off
  ·rw [if_neg (by omega),List.append_assoc,List.getElem?_append_left (by simp;omega),List.getElem?_take,if_pos h1]
   simp [hk]
  by_cases h2:k < off+(valP d).length
  ·rw [if_pos ⟨by omega,by omega⟩,List.append_assoc,List.getElem?_append_right (by simp;omega),List.getElem?_append_left (by simp;omega)]
   have e1:(List.take off cur.toList).length=off:=by simp;omega
   rw [e1]
   have hlt:k - off < (valP d).length:=by omega
   rw [List.getElem?_eq_getElem hlt]
   simp [hlt]
  rw [if_neg (by omega),List.append_assoc,List.getElem?_append_right (by simp;omega),List.getElem?_append_right (by simp;omega)]
  have e1:(List.take off cur.toList).length=off:=by simp;omega
  rw [e1,List.getElem?_drop]
  rw [show off+(valP d).length+(k - off - (valP d).length)=k by omega]
  simp [hk]
 rw [Array.getElem?_eq_none (by omega),Option.map_none,List.getElem?_eq_none (by simp;omega)]
def CmpE (P:Program) (g:Nat):Prop:=(∀args w,(callFunc g args).run P w=.ok (.enter g args) w)/\
 ∀(x y:Int×Int) (w:World),Calls P g #[.agg (encE x).toArray,.agg (encE y).toArray] w fun e w'=>e=.returned (.int .i64 (cfE x y))/\∃q os',w'=grow (w.drewN q) os'
theorem sort_ok (hc:CmpE Try.prog 76):SortOk Try.prog 75 76:=by
 refine ⟨fun p cap w=>(AnyF.slices_SortFunc_none Try.sortEv p cap (.func (.func 76) #[] #[]) w).mono fun e w' ⟨h1,h2⟩=>⟨h1,?_⟩,fun d blk off cap w cur ty h hle hcell hlen=>?_⟩
 ·subst h2;exact ⟨rfl,rfl,⟨rfl,Nat.le_refl _⟩,Nat.le_refl _,fun _ _=>rfl⟩
 have hb:=(Array.getElem?_eq_some_iff.1 h).1
 have hH:HoldsK encE 2 w blk off d.toArray:=by
  show Holds id w blk off (flatK encE 2 d.toArray)
  rw [flat_valP]
  intro j hj
  have hj:j < (valP d).length:=by simpa using hj
  have h1:=hcell j _ (List.getElem?_eq_getElem hj)
  refine ⟨?_,?_⟩
  ·simp only [World.cell?,h]
   rw [getElem!_pos _ j (by simpa using hj)]
   simpa using h1
  simp [World.frozen?,h]
 have:=AnyQ.slices_SortFunc_total Try.sortEv 2 (fun w=>by kernel_rfl) (fun w=>by kernel_rfl) encE (fun _=>rfl) (fun x v hv=>by simp [encE] at hv;rcases hv with rfl |rfl<;>rfl) cfE swoE 76 #[] blk off cap d.toArray w hc.1
  (fun m os dk hs x y=>hc.2 x y _) hH hb (by simpa using hlen) totE
 have hE:(fun x y:Int×Int=>!(ltOf cfE) y x)=fun x y=>!ltP y x:=by funext x y;rw [cfE_lt]
 rw [hE] at this
 change Calls Try.prog 75 _ _ _ at this
 refine Calls.mono (by simpa using this) fun e w' he=>?_
 obtain ⟨h1,n,os,rfl⟩:=he
 have hp:(psort d).length=d.length:=List.length_mergeSort d
 exact ⟨h1,sortW_more h (by rw [hp];exact hle)⟩
end CX

namespace HX
open Go Go.Proofs CX
theorem law100z {a b:Int} {R:Nat->Nat->D} (hR:R 0 0=.i (cmpI0 a b)):V100z a b R:=by
 constructor
 case g0=>intro h;exact absurd rfl h
 case g1=>intro h;exact absurd rfl h
 case g2=>intro _ h;exact absurd rfl h
 case g3=>intro _ _ h;rw [hR,cmpI0,if_pos h]
 case g4=>intro _ _ h h2;rw [hR,cmpI0,if_neg h,if_pos h2]
 case g5=>intro _ _ h h2;rw [hR,cmpI0,if_neg h,if_neg h2]
def cmpE0 (t i t2 i2:Int):Int:=if cmpI0 t t2=0 then cmpI0 i i2 else cmpI0 t t2
theorem law76z {pre:Nat->List (List D)->Prop} {fn:Nat->List (List D)->Nat->Nat->D} (hp:∀x,pre 100 x) (hf:∀a b,fn 100 [[.i a],[.i b]] 0 0=.i (cmpI0 a b)) {t i t2 i2:Int} {R:Nat->Nat->D} (hR:R 0 0=.i (cmpE0 t i t2 i2)) :
  V76z pre fn t i t2 i2 R (fun _ k=>k=0\/(k=1/\cmpI0 t t2=0)\/(k=2/\cmpI0 t t2=0/\cmpI0 i i2=0)) (fun _ k=>(2 - k).toNat):=by
 have hi:∀n:Int,(D.i n).int=n:=fun _=>rfl
 constructor
 all_goals (try simp only [hf,hi,zH,zK])
 case g0 |g1=>exact hp _
 case i0=>left;trivial
 all_goals (intro u k hI)
 case g6=>
  intro hk h
  rcases hI with rfl |⟨rfl,e⟩ |⟨rfl,e,e2⟩
  ·have h:¬cmpI0 t t2=0:=h
   rw [hR,cmpE0,if_neg h]
   rfl
  ·rw [hR,cmpE0,if_pos e]
   rfl
  omega
 case n8=>
  intro hk h
  rcases hI with rfl |⟨rfl,e⟩ |⟨rfl,e,e2⟩
  ·exact ⟨.inr (.inl ⟨rfl,h⟩),by omega⟩
  ·exact ⟨.inr (.inr ⟨rfl,e,h⟩),by omega⟩
  omega
 case g9=>
  intro hk
  rcases hI with rfl |⟨rfl,e⟩ |⟨rfl,e,e2⟩
  ·omega
  ·omega
  rw [hR,cmpE0,if_pos e,e2]
 all_goals (intros;omega)
def r100z:List (List D)->Nat->Nat->D
 |[[a],[b]]=>fun _ _=>.i (cmpI0 a.int b.int)
 |_=>fun _ _=>.nil
def r76z:List (List D)->Nat->Nat->D
 |[[a,b],[c,d]]=>fun _ _=>.i (cmpE0 a.int b.int c.int d.int)
 |_=>fun _ _=>.nil
def c100z:Ctr:=⟨100,⟨[(false,[.int .i64]),(false,[.int .i64])],[(false,[.int .i64])],false⟩,fun _=>True,r100z⟩
def c76z:Ctr:=⟨76,⟨[(true,[.int .i64,.int .i64]),(true,[.int .i64,.int .i64])],[(false,[.int .i64])],false⟩,fun _=>True,r76z⟩
theorem k100z (ro:Addr->Option V):PureC (cxE0 ro) c100z.f c100z.sg c100z.pre c100z.res:=walk100z (env0L (l:=[]) .nil) fun _ _ _=>law100z rfl
theorem k76z (ro:Addr->Option V):PureC (cxE0 ro) c76z.f c76z.sg c76z.pre c76z.res:=walk76z (env0L (l:=[c100z]) (.cons (k100z ro) .nil)) fun _ _ _ _ _=>⟨_,_,law76z (fun _=>trivial) (fun _ _=>rfl) rfl⟩
theorem grow_of {w w':World} (h1:w'.os=w.os) (h2:w'.tape=w.tape) (h3:Io w w') (hs:w.heap.size<=w'.heap.size) (hk:∀b,b < w.heap.size->w'.heap[b]?=w.heap[b]?):∃q os',w'=Go.Sort.grow (w.drewN q) os':=by
 refine ⟨w'.drawn - w.drawn,w'.heap.extract w.heap.size w'.heap.size,?_⟩
 have hh:w'.heap=w.heap++w'.heap.extract w.heap.size w'.heap.size:=by
  apply Array.ext_getElem?
  intro i
  by_cases hi:i < w.heap.size
  ·rw [Array.getElem?_append_left hi]
   exact hk i hi
  rw [Array.getElem?_append_right (by omega),Array.getElem?_extract]
  by_cases h2:i < w'.heap.size
  ·rw [if_pos (by omega),show w.heap.size+(i - w.heap.size)=i by omega]
  rw [if_neg (by omega),Array.getElem?_eq_none (by omega)]
 obtain ⟨heap,tape,drawn,os,output⟩:=w
 obtain ⟨heap',tape',drawn',os',output'⟩:=w'
 obtain ⟨h3,h4⟩:=h3
 simp only at h1 h2 h3 h4 hh
 simp only [Go.Sort.grow,World.drewN,World.mk.injEq]
 refine ⟨hh,h2,by omega,h1,h3⟩
theorem cmp_ok:CmpE Try.prog 76:=by
 refine ⟨enters_of Try.func76 (by kernel_rfl) rfl,fun x y w=>?_⟩
 have hE:=cxE0_ok (fun _=>none)
 have ha:ArgsFz (fun _=>none) (fun _=>none) 0 c76z.sg.params [[.i x.1,.i x.2],[.i y.1,.i y.2]] [.agg [.int .i64 x.1,.int .i64 x.2],.agg [.int .i64 y.1,.int .i64 y.2]]:=by
  have key:∀p:Int×Int,FzA (fun _=>none) (fun _=>none) 0 true [.int .i64,.int .i64] (fun c=>[D.i p.1,D.i p.2].getD c .nil) (.agg [.int .i64 p.1,.int .i64 p.2]):=fun p=>by
   refine ⟨_,rfl,fun j k hj=>?_,rfl⟩
   match j,hj with
   |0,hj=>
    simp only [zL,zA] at hj
    subst hj
    exact ⟨_,rfl,by simp only [FzC];exact ⟨⟨_,rfl⟩,rfl⟩⟩
   |1,hj=>
    simp only [kI,zL,zA] at hj
    subst hj
    exact ⟨_,rfl,by simp only [FzC];exact ⟨⟨_,rfl⟩,rfl⟩⟩
   |j+2,hj=>simp at hj
  exact ⟨rfl,key x,rfl,key y,trivial⟩
 obtain ⟨vs,h',nx',g',⟨n,hn⟩,_,_,_,_,hr⟩:=k76z (fun _=>none) [[.i x.1,.i x.2],[.i y.1,.i y.2]] trivial (fun _=>none) 0 0 .e _ (fun id o h=>by cases h) (zB _) ha
 have hn:=hn n (zB _)
 have hv:vs=[.int .i64 (cfE x y)]:=by
  match vs,hr with
  |[v],hr=>
   simp only [c76z,ResFz] at hr
   obtain ⟨⟨l,l1,l2,u,rfl,rfl⟩,_⟩:=hr
   obtain ⟨u',e,hu⟩:=l2 0 _ rfl
   simp only [zL,zA] at e
   subst e
   simp only [FzC] at hu
   rw [hu.2]
   rfl
  |[],hr=>simp [c76z,ResFz] at hr
  |_ :: _ :: _,hr=>simp [c76z,ResFz] at hr
 subst hv
 obtain ⟨v,g2,n2,fn,h1,_,_,h2⟩:=callF_ok hE (cx_ok hE n).1 (ρ:=fun _=>none) (n:=0) (bar:=0) (g:=.e) (w:=w) (xs:=[.agg (encE x).toArray,.agg (encE y).toArray]) (f:=76)
  (args:=[.agg [.int .i64 x.1,.int .i64 x.2],.agg [.int .i64 y.1,.int .i64 y.2]]) (k:=fun v h nx=>retV v h nx) ⟨fun a v h=>(by cases h),fun a v h id o L _ _ hL=>(by cases hL)⟩ ⟨fun id o h=>by simp [T.get] at h,fun id o id' o' h=>by simp [T.get] at h,fun _ _=>rfl,fun _ _ h=>by cases h⟩
  (by simp only [RvL,Rv,and_true];exact ⟨⟨encE x,by simp [encE,RvL,Rv],rfl⟩,⟨encE y,by simp [encE,RvL,Rv],rfl⟩⟩) (hn _)
 have e:v=.int .i64 (cfE x y):=by
  simp only [retV,zA,zJ,CX.St.mk.injEq,CX.T.n.injEq,true_and,and_true] at h1
  exact h1.1
 subst e
 refine (callsIn_wide.1 (h2 none)).mono fun e w' he=>?_
 obtain ⟨u,ρ',rfl,d1,_,_,_,d5⟩:=he
 simp only [Rv] at d1
 subst d1
 refine ⟨rfl,grow_of d5.os d5.tape d5.output d5.size fun b hb=>d5.keep b hb ?_⟩
 rintro ⟨id,o,L,_,h,_⟩
 simp [T.get] at h
end HX

namespace HX
open Go Go.Proofs CX
def srtF (f:Nat):Option Nat:=match beqN f 75 with
 |true=>some 76
 |false=>none
theorem srtF_ok:∀f c,srtF f=some c->CX.SortOk Try.prog f c/\∃fn b,CX.env.fn f=some fn/\fn.body=some b/\2<=fn.ntmps:=fun f c h=>by
 unfold srtF at h
 split at h
 next hb=>
  simp only [beqN_iff] at hb
  subst hb
  cases h
  exact ⟨sort_ok cmp_ok,Try.f75,_,rfl,rfl,by decide⟩
 cases h
end HX

namespace HX
open Go Go.Proofs CX
def cxE (ro:Addr->Option V):CX.Env:=cxS srtF ro
end HX


namespace HX
open Go Go.Proofs CX
abbrev v5a (fn:Nat->List (List D)->Nat->Nat->D) (a0:Rows):=((Ar.std.strD (D.rows (fn 27 [[D.l a0]] 0 0)))=(Ar.std.strD (D.rows (fn 28 [[D.l a0]] 0 0))))
abbrev v5b (fn:Nat->List (List D)->Nat->Nat->D) (a2:Rows):=(D.boo (fn 17 [[D.l (D.rows (fn 29 [[D.l a2]] 0 0))],[D.l (D.rows (fn 30 [[D.l a2]] 0 0))]] 0 0)=true)
abbrev v5c (fn:Nat->List (List D)->Nat->Nat->D) (a0:Rows):=((D.int (fn 27 [[D.l a0]] 1 0))=(D.int (fn 28 [[D.l a0]] 1 0)))
abbrev v5d (fn:Nat->List (List D)->Nat->Nat->D) (a0:Rows) (a1:Rows):=(D.boo (fn 17 [[D.l (D.rows (fn 31 [[D.l a0],[D.l a1]] 0 0))],[D.l (D.rows (fn 32 [[D.l a0],[D.l a1]] 0 0))]] 0 0)=true)
abbrev v5e (fn:Nat->List (List D)->Nat->Nat->D) (a2:Rows):=((D.int (fn 29 [[D.l a2]] 1 0))=(D.int (fn 30 [[D.l a2]] 1 0)))
abbrev v5f (a0:Rows):=(¬200 < (a0.length:Int))
abbrev v5g (a1:Rows):=(¬200 < (a1.length:Int))
abbrev v5h (a2:Rows):=(¬600 < (a2.length:Int))
abbrev v5i (fn:Nat->List (List D)->Nat->Nat->D) (a0:Rows) (a1:Rows):=((D.int (fn 31 [[D.l a0],[D.l a1]] 1 0))=(D.int (fn 32 [[D.l a0],[D.l a1]] 1 0)))
abbrev v5j (fn:Nat->List (List D)->Nat->Nat->D) (a0:Rows) (a3:Int) (a4:Int):=(fn 17 [[D.l (D.rows (fn 33 [[D.l a0],[D.i a3],[D.i a4]] 0 0))],[D.l (D.rows (fn 34 [[D.l a0],[D.i a3],[D.i a4]] 0 0))]] 0 0)
structure V5 (pre:Nat->List (List D)->Prop) (fn:Nat->List (List D)->Nat->Nat->D) (a0:Rows) (a1:Rows) (a2:Rows) (a3:Int) (a4:Int) (R:Nat->Nat->D):Prop where
 g0:(200 < (a0.length:Int))->pre 13 []
 g1:(200 < (a0.length:Int))->R 0 0=D.b (D.boo (fn 13 [] 0 0))
 g2:(v5f a0)->(200 < (a1.length:Int))->pre 13 []
 g3:(v5f a0)->(200 < (a1.length:Int))->R 0 0=D.b (D.boo (fn 13 [] 0 0))
 g4:(v5f a0)->(v5g a1)->(600 < (a2.length:Int))->pre 13 []
 g5:(v5f a0)->(v5g a1)->(600 < (a2.length:Int))->R 0 0=D.b (D.boo (fn 13 [] 0 0))
 g6:(v5f a0)->(v5g a1)->(v5h a2)->pre 27 [[D.l a0]]
 g7:(v5f a0)->(v5g a1)->(v5h a2)->pre 28 [[D.l a0]]
 g8:(v5f a0)->(v5g a1)->(v5h a2)->Ar.std.pU8 (D.rows (fn 27 [[D.l a0]] 0 0))
 g9:(v5f a0)->(v5g a1)->(v5h a2)->Ar.std.pU8 (D.rows (fn 28 [[D.l a0]] 0 0))
 g10:(v5f a0)->(v5g a1)->(v5h a2)->(¬(Ar.std.strD (D.rows (fn 27 [[D.l a0]] 0 0)))=(Ar.std.strD (D.rows (fn 28 [[D.l a0]] 0 0))))->R 0 0=D.b false
 g11:(v5f a0)->(v5g a1)->(v5h a2)->(v5a fn a0)->(¬(D.int (fn 27 [[D.l a0]] 1 0))=(D.int (fn 28 [[D.l a0]] 1 0)))->R 0 0=D.b false
 g12:(v5f a0)->(v5g a1)->(v5h a2)->(v5a fn a0)->(v5c fn a0)->pre 29 [[D.l a2]]
 g13:(v5f a0)->(v5g a1)->(v5h a2)->(v5a fn a0)->(v5c fn a0)->pre 30 [[D.l a2]]
 g14:(v5f a0)->(v5g a1)->(v5h a2)->(v5a fn a0)->(v5c fn a0)->pre 17 [[D.l (D.rows (fn 29 [[D.l a2]] 0 0))],[D.l (D.rows (fn 30 [[D.l a2]] 0 0))]]
 g15:(v5f a0)->(v5g a1)->(v5h a2)->(v5a fn a0)->(v5c fn a0)->(D.boo (fn 17 [[D.l (D.rows (fn 29 [[D.l a2]] 0 0))],[D.l (D.rows (fn 30 [[D.l a2]] 0 0))]] 0 0)=false)->R 0 0=D.b false
 g16:(v5f a0)->(v5g a1)->(v5h a2)->(v5a fn a0)->(v5c fn a0)->(v5b fn a2)->(¬(D.int (fn 29 [[D.l a2]] 1 0))=(D.int (fn 30 [[D.l a2]] 1 0)))->R 0 0=D.b false
 g17:(v5f a0)->(v5g a1)->(v5h a2)->(v5a fn a0)->(v5c fn a0)->(v5b fn a2)->(v5e fn a2)->pre 31 [[D.l a0],[D.l a1]]
 g18:(v5f a0)->(v5g a1)->(v5h a2)->(v5a fn a0)->(v5c fn a0)->(v5b fn a2)->(v5e fn a2)->pre 32 [[D.l a0],[D.l a1]]
 g19:(v5f a0)->(v5g a1)->(v5h a2)->(v5a fn a0)->(v5c fn a0)->(v5b fn a2)->(v5e fn a2)->pre 17 [[D.l (D.rows (fn 31 [[D.l a0],[D.l a1]] 0 0))],[D.l (D.rows (fn 32 [[D.l a0],[D.l a1]] 0 0))]]
 g20:(v5f a0)->(v5g a1)->(v5h a2)->(v5a fn a0)->(v5c fn a0)->(v5b fn a2)->(v5e fn a2)->(D.boo (fn 17 [[D.l (D.rows (fn 31 [[D.l a0],[D.l a1]] 0 0))],[D.l (D.rows (fn 32 [[D.l a0],[D.l a1]] 0 0))]] 0 0)=false)->R 0 0=D.b false
 g21:(v5f a0)->(v5g a1)->(v5h a2)->(v5a fn a0)->(v5c fn a0)->(v5b fn a2)->(v5e fn a2)->(v5d fn a0 a1)->(¬(D.int (fn 31 [[D.l a0],[D.l a1]] 1 0))=(D.int (fn 32 [[D.l a0],[D.l a1]] 1 0)))->R 0 0=D.b false
 g22:(v5f a0)->(v5g a1)->(v5h a2)->(v5a fn a0)->(v5c fn a0)->(v5b fn a2)->(v5e fn a2)->(v5d fn a0 a1)->(v5i fn a0 a1)->pre 33 [[D.l a0],[D.i a3],[D.i a4]]
 g23:(v5f a0)->(v5g a1)->(v5h a2)->(v5a fn a0)->(v5c fn a0)->(v5b fn a2)->(v5e fn a2)->(v5d fn a0 a1)->(v5i fn a0 a1)->pre 34 [[D.l a0],[D.i a3],[D.i a4]]
 g24:(v5f a0)->(v5g a1)->(v5h a2)->(v5a fn a0)->(v5c fn a0)->(v5b fn a2)->(v5e fn a2)->(v5d fn a0 a1)->(v5i fn a0 a1)->pre 17 [[D.l (D.rows (fn 33 [[D.l a0],[D.i a3],[D.i a4]] 0 0))],[D.l (D.rows (fn 34 [[D.l a0],[D.i a3],[D.i a4]] 0 0))]]
 g25:(v5f a0)->(v5g a1)->(v5h a2)->(v5a fn a0)->(v5c fn a0)->(v5b fn a2)->(v5e fn a2)->(v5d fn a0 a1)->(v5i fn a0 a1)->(D.boo (v5j fn a0 a3 a4)=true)->((D.int (fn 33 [[D.l a0],[D.i a3],[D.i a4]] 1 0))=(D.int (fn 34 [[D.l a0],[D.i a3],[D.i a4]] 1 0)))->pre 13 []
 g26:(v5f a0)->(v5g a1)->(v5h a2)->(v5a fn a0)->(v5c fn a0)->(v5b fn a2)->(v5e fn a2)->(v5d fn a0 a1)->(v5i fn a0 a1)->(D.boo (v5j fn a0 a3 a4)=true)->((D.int (fn 33 [[D.l a0],[D.i a3],[D.i a4]] 1 0))=(D.int (fn 34 [[D.l a0],[D.i a3],[D.i a4]] 1 0)))->R 0 0=D.b (D.boo (fn 13 [] 0 0))
 g27:(v5f a0)->(v5g a1)->(v5h a2)->(v5a fn a0)->(v5c fn a0)->(v5b fn a2)->(v5e fn a2)->(v5d fn a0 a1)->(v5i fn a0 a1)->(D.boo (v5j fn a0 a3 a4)=true)->(¬(D.int (fn 33 [[D.l a0],[D.i a3],[D.i a4]] 1 0))=(D.int (fn 34 [[D.l a0],[D.i a3],[D.i a4]] 1 0)))->R 0 0=D.b false
 g28:(v5f a0)->(v5g a1)->(v5h a2)->(v5a fn a0)->(v5c fn a0)->(v5b fn a2)->(v5e fn a2)->(v5d fn a0 a1)->(v5i fn a0 a1)->(D.boo (v5j fn a0 a3 a4)=false)->R 0 0=D.b false
end HX
