/-
  Texts of the executors: HxW2, HxW3, HxW4, HxExec, HxSeq, HxDraw, HxVc, HxDrawOk.
-/
import Derived.Test.YtmnaiddobipclaaSenseRecords4
set_option linter.all false
namespace HX
open Go CX
variable {ro:Addr→Option V}
def footV:V→List Nat
 |.ptr id _=>[id]
 |.slc id _ _ _ _=>[id]
 |.map id=>[id]
 |_=>[]
theorem foot1_eq {evc:Operand→Option V} {x:Operand} {v:V} (h:evc x=some v):foot1 evc x=some (footV v):=by
 simp only [foot1,h]
 cases v<;>rfl
theorem rep_get {x:List V}:∀(m i c:Nat),i < m→c < x.length→(CX.rep m x)[i * x.length+c]?=x[c]?
 |0,i,c,h,_=>by omega
 |m+1,0,c,_,hc=>by simp only [CX.rep,Nat.zero_mul,Nat.zero_add];rw [List.getElem?_append_left hc]
 |m+1,i+1,c,h,hc=>by
  simp only [CX.rep]
  rw [List.getElem?_append_right (by rw [Nat.add_mul];omega),show (i+1) * x.length+c - x.length=i * x.length+c by rw [Nat.add_mul];omega]
  exact rep_get m i c (by omega) hc
theorem over_get {α:Type}:∀(l:List α) (off:Nat) (s:List α) (i:Nat),off+s.length≤l.length→(over l off s)[i]?=if off≤i∧i < off+s.length then s[i - off]? else l[i]?
 |l,off,[],i,_=>by
  rw [if_neg (by simp)]
  cases l<;>simp [over]
 |[],off,_ :: _,i,h=>by simp at h
 |a :: l,0,b :: s,0,h=>by simp [over]
 |a :: l,0,b :: s,i+1,h=>by
  simp only [over,List.getElem?_cons_succ]
  rw [over_get l 0 s i (by simp at h ⊢;omega)]
  simp only [Nat.zero_le,true_and,Nat.zero_add,List.length_cons,Nat.sub_zero,List.getElem?_cons_succ,Nat.add_lt_add_iff_right]
 |a :: l,o+1,b :: s,0,h=>by simp [over]
 |a :: l,o+1,b :: s,i+1,h=>by
  simp only [over,List.getElem?_cons_succ]
  rw [over_get l o (b :: s) i (by simp at h ⊢;omega)]
  have e:i+1 - (o+1)=i - o:=by omega
  rw [e]
  by_cases c:o≤i∧i < o+(b :: s).length
  ·rw [if_pos c,if_pos (by omega)]
  ·rw [if_neg c,if_neg (by omega)]
theorem RvSL.all_one {C:Cx ro} {n:Nat} {l:List SV} {x:List V} (h:RvSL C n l x) (ho:l.all oneC=true):∀(i:Nat) (v:V),x[i]?=some v→one1 v=true:=by
 have:=one_all h ho
 rw [oneAll_iff] at this
 exact fun i v hv=>this v (List.mem_of_getElem? hv)
section
variable {E:Env} (hA:E.A=Ar.std) (hT:TOk E.E) {C:Cx ro} {σ:St} {bar:Nat} {h:Nat→Option O} {nx:Nat} (hM:MSim C σ.objs σ.next bar h nx)
include hM hA
include hT in
theorem makeSlice_ok {t:Nat} {l c:Operand} {ev:Operand→SV} {evc:Operand→Option V} (hev:EvOk C σ.next ev evc) {w:WR} (hw:xmakeSlice E σ t (ev l) (ev c)=some w) (hp:∀p∈w.pre,p) :
  Writes C σ.objs σ.next bar h nx [] (fun barv hv k=>opM E.E barv evc hv nx (.makeSlice t l c) k) w.sv w.objs w.next:=by
 unfold xmakeSlice at hw
 split at hw
 ·rename_i ks ety n m hks hl hc
  split at hw
  ·rename_i z hz
   simp only [Option.some.injEq] at hw
   subst hw
   have p1:=hp _ (.head _)
   have p2:=hp _ (.tail _ (.head _))
   have p3:=hp _ (.tail _ (.tail _ (.head _)))
   have p4:=hp _ (.tail _ (.tail _ (.tail _ (.head _))))
   rw [hA] at p1 p2 p3 p4
   have p1:0≤n:=p1
   have p2:n≤m:=p2
   obtain ⟨n',rfl,_⟩:=toNat_of hA p1
   obtain ⟨m',rfl,_⟩:=toNat_of hA (Int.le_trans p1 p2)
   have p2:n'≤m':=by have:((n':Nat):Int)≤m':=p2;omega
   have p3:m' * ety.size≤4096:=by have h3:((m':Nat):Int) * (ety.size:Int)≤4096:=p3;rw [←Int.natCast_mul] at h3;omega
   have p4:m' * ety.bytes≤140737488355328:=by have h4:((m':Nat):Int) * (ety.bytes:Int)≤140737488355328:=p4;rw [←Int.natCast_mul] at h4;omega
   obtain ⟨e,k1,k2,k3,k4,k5⟩:=eKs_ok hks
   obtain ⟨vl,e1,e2⟩:=hev.get hl (by intro e;cases e)
   obtain ⟨vc,e3,e4⟩:=hev.get hc (by intro e;cases e)
   simp only [RvS] at e2 e4
   subst e2 e4
   obtain ⟨⟨z1,z0⟩,z2⟩:=zD_ok (g:=C.g) (B:=nx) hz
   have hone:oneAll (CX.rep m' ety.zero)=true:=by
    rw [oneAll_iff]
    exact rep_mem (hT.zone _ _ k2) m'
   have hlen:(CX.rep m' ety.zero).length=m' * ks.length:=by rw [rep_len,hT.zlen _ _ k2,k3]
   obtain ⟨tt,w1,w2⟩:=wrt_eq (CX.rep m' ety.zero) .e 0
   have erep:E.A.rep (E.A.toNat (Int.ofNat n')) z=List.replicate n' z:=by rw [hA];rfl
   have hbound:n'≤9223372036854775807:=by
    have h0:0 < ety.size:=by omega
    have:=Nat.le_mul_of_pos_right m' h0
    omega
   obtain ⟨a,b⟩:=new_arr hM (ks:=ks) (by omega) (rows:=E.A.rep (E.A.toNat (Int.ofNat n')) z) ⟨by rw [erep];intro row hr;rw [(List.mem_replicate.1 hr).2,z0],by rw [erep,List.length_replicate];exact hbound⟩ (t:=tt) (m:=m' * ks.length) (cap:=some m') (by rw [erep,List.length_replicate];exact Nat.mul_le_mul_right _ p2)
    (fun c hc=>by cases hc;exact ⟨by rw [erep,List.length_replicate];exact p2,Nat.le_refl _⟩) (fun i hi=>by
     rw [erep,List.length_replicate] at hi
     refine FzR.of _ _ _ _ fun j k hk=>?_
     obtain ⟨v,g1,g2⟩:=z2 j k hk
     have hj:j < ks.length:=(List.getElem?_eq_some_iff.1 hk).1
     refine ⟨v,?_,?_⟩
     ·have hle:(i+1) * ks.length≤m' * ks.length:=Nat.mul_le_mul_right _ (by omega)
      rw [Nat.add_mul] at hle
      rw [w2,if_pos ⟨by omega,by rw [hlen];omega⟩,Nat.sub_zero,Nat.zero_add,←z1,rep_get m' i j (by omega) (by omega)]
      exact g1
     ·rw [erep]
      simp only [gt,List.getD_eq_getElem?_getD,List.getElem?_replicate,hi,if_true,Option.getD_some,Nat.zero_add]
      simpa [List.getD_eq_getElem?_getD] using g2)
   refine ⟨.slc nx ety.size 0 n' (some m'),_,_,nx+1,a,b,?_,fun id _ hid=>?_,fun hv barv _ _=>⟨hv.up nx (some (.cells tt (m' * ks.length))),fun k=>?_,fun id=>?_⟩⟩
   ·simp only [RvS,Cx.put,if_true,isHdr,erep,List.length_replicate,k3]
    exact ⟨Nat.lt_succ_self _,trivial,.inr ⟨_,_,_,_,_,rfl⟩⟩
   ·show (if id=nx then _ else h id)=h id
    rw [if_neg (by omega)]
   ·have hz:Nat.beq ety.size 0=false:=by
     cases hb:Nat.beq ety.size 0 with
     |true=>have:=Nat.eq_of_beq_eq_true hb;omega
     |false=>rfl
    have c1:(Nat.ble n' m' && Nat.ble (Nat.mul m' ety.size) 4096 && Nat.ble (Nat.mul m' ety.bytes) 140737488355328)=true:=by
     rw [bleT p2,show Nat.ble (Nat.mul m' ety.size) 4096=true from bleT p3,show Nat.ble (Nat.mul m' ety.bytes) 140737488355328=true from bleT p4];rfl
    simp only [opM,k1,e1,e3,k2,c1,hz,fL_eq,CX.newRow,hone,w1,fN_eq,len_eq,hlen,CX.new,T.set_eq]
   ·exact upGet _ _ _ _ _
  ·cases hw
 ·cases hw
theorem store_run {nm:Nat} {so0 so:SO} (hl:look σ.objs nm=some so0) (ho:ownS C nm so0) (ho':ownS C nm so) {t:T V} {m:Nat} (hob0:h (C.ids nm)=some (.cells t m)) {off:Nat} {x:List V} (hx:oneAll x=true) (hle:off+x.length≤m)
  (hob:∀t':T V,(∀j,t'.get j=if off≤j∧j < off+x.length then x[j - off]? else t.get j)→ObS C σ.next (fun id=>if id=C.ids nm then some (.cells t' m) else h id) nx nm so)
  {run:Nat→T O→(V→T O→Nat→R)→R} (hrun:∀barv hv k,run barv hv k=CX.store barv hv (C.ids nm) off x fun h=>k (.tup []) h nx) :
  Writes C σ.objs σ.next bar h nx [C.ids nm] run (.tup []) ((nm,so) :: σ.objs) σ.next:=by
 obtain ⟨t',w1,w2⟩:=wrt_eq x t off
 obtain ⟨a,b⟩:=hM.upd hl ho ho' (o:=.cells t' m) (hob t' w2)
 refine ⟨.tup [],C,_,nx,a,b,by simp only [RvS];exact ⟨[],trivial,rfl⟩,fun id hid _=>?_,fun hv barv h1 h2=>⟨hv.up (C.ids nm) (some (.cells t' m)),fun k=>?_,fun id=>?_⟩⟩
 ·show (if id=C.ids nm then _ else h id)=h id
  rw [if_neg (by simpa using hid)]
 ·rw [hrun]
  have e1:hv.get (C.ids nm)=some (.cells t m):=by rw [h1 _ (by simp)];exact hob0
  have e2:geB barv (C.ids nm)=true:=bleT (h2 _ (by simp) (hM.own _ _ hl ho).1)
  have e3:Nat.ble (Nat.add off (CX.len x)) m=true:=bleT (by rw [len_eq];exact hle)
  simp only [CX.store,e1,e2,hx,e3,w1,T.set_eq]
 ·rw [T.get_up]
  by_cases e:id=C.ids nm
  ·subst e;rw [if_pos rfl,if_pos (.inl (by simp)),if_pos rfl]
  ·rw [if_neg e,if_neg]
   rintro (h |h)
   ·exact e (by simpa using h)
   ·omega
theorem store_ok {t:Nat} {x v:Operand} {ev:Operand→SV} {evc:Operand→Option V} (hev:EvOk C σ.next ev evc) {w:WR} (hw:xstore E σ t (ev x) (ev v)=some w) (hp:∀p∈w.pre,p) :
  ∃F,foot evc (.store t x v)=some F∧Writes C σ.objs σ.next bar h nx F (fun barv hv k=>opM E.E barv evc hv nx (.store t x v) k) w.sv w.objs w.next:=by
 unfold xstore at hw
 split at hw
 ·rename_i ty hty
  split at hw
  ·rename_i hb
   simp only [Bool.and_eq_true,beqN_iff] at hb
   obtain ⟨b1,b2⟩:=hb
   obtain ⟨u,e1,e2,e3,e4,e5⟩:=ev_flat hev b2
   have hul:(CX.flat u).length=(flat (ev v)).length:=e3.length
   have sz:Nat.beq (CX.len (CX.flat u)) ty.size=true:=by rw [e5,b1];exact Nat.beq_refl _
   split at hw
   ·rename_i nm off hx
    obtain ⟨vx,f1,f2⟩:=hev.get hx (by intro e;cases e)
    simp only [RvS] at f2
    obtain ⟨hnm,rfl⟩:=f2
    refine ⟨[C.ids nm],by simp only [foot,foot1_eq f1];rfl,?_⟩
    split at hw
    ·rename_i l hl
     split at hw
     ·rename_i hle
      simp only [bleN_iff] at hle
      simp only [Option.some.injEq] at hw
      subst hw
      have hob:=hM.ob _ _ hl
      simp only [ObS] at hob
      obtain ⟨t0,o1,o2⟩:=hob
      refine store_run hA hM (so:=.cells (over l off (flat (ev v)))) hl trivial trivial o1 e4 (by rw [hul];exact hle) (fun t' ht'=>?_) (fun barv hv k=>by simp only [opM,hty,f1,e1,sz])
      simp only [ObS,if_true]
      refine ⟨t',by rw [over_len'],fun i s hs=>?_⟩
      rw [over_get _ _ _ _ hle] at hs
      rw [ht',hul]
      split at hs
      ·rename_i c
       rw [if_pos c]
       obtain ⟨v',g1,g2⟩:=e3.get _ _ hs
       exact ⟨v',g1,RvSL.all_one e3 b2 _ _ g1,g2⟩
      ·rename_i c
       rw [if_neg c]
       exact o2 i s hs
     ·cases hw
    ·cases hw
   ·rename_i nm es i off hx
    obtain ⟨vx,f1,f2⟩:=hev.get hx (by intro e;cases e)
    simp only [RvS] at f2
    obtain ⟨hnm,rfl⟩:=f2
    refine ⟨[C.ids nm],by simp only [foot,foot1_eq f1];rfl,?_⟩
    split at hw
    ·rename_i og ks rows hl
     split at hw
     ·rename_i hb2
      simp only [Bool.and_eq_true,bleN_iff,beqN_iff] at hb2
      obtain ⟨rfl,c2⟩:=hb2
      split at hw
      ·rename_i ds hds
       obtain ⟨d1,d2,d3,d4⟩:=dList_ok hM hds e3
       have hob:=hM.ob _ _ hl
       simp only [ObS] at hob
       have key:∀rows':Rows,i < rows.length→rows'.length=rows.length→LenR ks rows'→(∀r,r≠i→gt rows' r=gt rows r)→(∀c,c < ks.length→gt rows' i c=if off≤c∧c < off+ds.length then ds.getD (c - off) .nil else gt rows i c)→
         Writes C σ.objs σ.next bar h nx [C.ids nm] (fun barv hv k=>opM E.E barv evc hv nx (.store t x v) k) (.tup []) ((nm,.arr og ks rows') :: σ.objs) σ.next:=by
        intro rows' hi hlen hlr hother hsame
        obtain ⟨⟨hks,_⟩,⟨hr,_⟩ |⟨t0,m,cap,hh0,o1,o2,o3,o4⟩⟩:=hob
        ·rw [hr] at hi;simp at hi
        ·have hown:∀r:Rows,ownS C nm (.arr og ks r):=fun r=>by simp only [ownS,hh0];intro e;cases e
         have hle1:(i+1) * ks.length≤rows.length * ks.length:=Nat.mul_le_mul_right _ hi
         rw [Nat.add_mul] at hle1
         have dsl:ds.length=ty.size:=by rw [d1,List.length_take,List.length_drop];omega
         refine store_run hA hM hl (hown _) (hown _) o1 (off:=i * ks.length+off) e4 (by rw [hul,b1];omega) (fun t' ht'=>?_) (fun barv hv k=>by simp only [opM,hty,f1,e1,sz])
         simp only [ObS,if_true]
         refine ⟨⟨hks,hlr⟩,.inr ⟨t',m,cap,by rw [hlen];exact hh0,rfl,by rw [hlen];exact o2,fun c hc=>by rw [hlen];exact o3 c hc,fun r hr=>?_⟩⟩
         rw [hlen] at hr
         refine FzR.of _ _ _ _ fun j k hk=>?_
         have hj:j < ks.length:=(List.getElem?_eq_some_iff.1 hk).1
         obtain ⟨v0,q1,q2⟩:=FzR.get _ _ _ _ (o4 r hr) j k hk
         rw [Nat.zero_add] at q1 q2 ⊢
         by_cases hri:r=i
         ·subst hri
          rw [hsame j hj]
          by_cases hc:off≤j∧j < off+ds.length
          ·rw [if_pos hc,ht',if_pos (by rw [hul,b1,←dsl];omega)]
           have hk':((ks.drop off).take ty.size)[j - off]?=some k:=by
            rw [List.getElem?_take,if_pos (by omega),List.getElem?_drop,show off+(j - off)=j by omega];exact hk
           obtain ⟨v',r1,r2⟩:=d4 (j - off) k hk'
           exact ⟨v',by rw [←r1];congr 1;omega,r2⟩
          ·rw [if_neg hc,ht',if_neg (by rw [hul,b1,←dsl];omega)]
           exact ⟨v0,q1,q2⟩
         ·rw [hother r hri,ht',if_neg]
          ·exact ⟨v0,q1,q2⟩
          ·rw [hul,b1]
           rcases Nat.lt_or_gt_of_ne hri with hlt |hgt
           ·have:(r+1) * ks.length≤i * ks.length:=Nat.mul_le_mul_right _ hlt
            rw [Nat.add_mul] at this
            omega
           ·have:(i+1) * ks.length≤r * ks.length:=Nat.mul_le_mul_right _ hgt
            rw [Nat.add_mul] at this
            omega
       split at hw
       ·rename_i hz
        simp only [Bool.and_eq_true,beqN_iff] at hz
        simp only [Option.some.injEq] at hw
        subst hw
        have p1:=hp _ (.head _)
        rw [hA] at p1
        have p1:((i:Nat):Int) < ((rows.length:Nat):Int):=p1
        have p1:i < rows.length:=by omega
        have dsl:ds.length=ty.size:=by rw [d1,List.length_take,List.length_drop];omega
        have eset:E.A.set rows i ds=rows.set i ds:=by rw [hA];rfl
        refine key _ p1 (by rw [eset,List.length_set]) (by
         rw [eset];refine ⟨fun row hr=>?_,by rw [List.length_set];exact hob.1.2.2⟩
         rcases List.mem_or_eq_of_mem_set hr with hr |rfl
         ·exact hob.1.2.1 row hr
         ·omega) (fun r hr=>?_) (fun c hc=>?_)
        ·funext c
         rw [eset]
         simp only [gt,List.getD_eq_getElem?_getD,List.getElem?_set,if_neg (Ne.symm hr)]
        ·rw [eset,if_pos (by omega),hz.1,Nat.sub_zero]
         simp only [gt,List.getD_eq_getElem?_getD,List.getElem?_set,if_true,p1,Option.getD_some]
       ·simp only [Option.some.injEq] at hw
        subst hw
        have p1:=hp _ (.head _)
        rw [hA] at p1
        have p1:((i:Nat):Int) < ((rows.length:Nat):Int):=p1
        have p1:i < rows.length:=by omega
        have eset:E.A.setP rows i ks.length off ds=rows.set i ((List.range ks.length).map fun c=>if off≤c∧c < off+ds.length then ds.getD (c - off) .nil else gt rows i c):=by rw [hA];rfl
        refine key _ p1 (by rw [eset,List.length_set]) (by
         rw [eset];refine ⟨fun row hr=>?_,by rw [List.length_set];exact hob.1.2.2⟩
         rcases List.mem_or_eq_of_mem_set hr with hr |rfl
         ·exact hob.1.2.1 row hr
         ·simp) (fun r hr=>?_) (fun c hc=>?_)
        ·funext c
         rw [eset]
         simp only [gt,List.getD_eq_getElem?_getD,List.getElem?_set,if_neg (Ne.symm hr)]
        ·rw [eset]
         simp only [gt,List.getD_eq_getElem?_getD,List.getElem?_set,if_true,p1,Option.getD_some,List.getElem?_map,List.getElem?_range hc,Option.map_some]
      ·cases hw
     ·cases hw
    ·cases hw
   ·cases hw
  ·cases hw
 ·cases hw
end
end HX

namespace HX
open Go CX
variable {ro:Addr→Option V}
section
variable {E:Env} (hA:E.A=Ar.std) (hT:TOk E.E) {C:Cx E.E.ro} {σ:St} {bar:Nat} {h:Nat→Option O} {nx:Nat} (hM:MSim C σ.objs σ.next bar h nx)
include hM
theorem row_bound {i n es:Nat} (hi:i < n) {m:Nat} (hm:n * es≤m) {j:Nat} (hj:j < es):i * es+j < m:=by
 have:(i+1) * es≤n * es:=Nat.mul_le_mul_right _ hi
 rw [Nat.add_mul] at this
 omega
theorem cells_list' {u:Nat→Option V} {off m:Nat} (hc:∀j,j < m→∃v,u (off+j)=some v):∃x:List V,x.length=m∧∀j,j < m→u (off+j)=x[j]?:=by
 induction m generalizing off with
 |zero=>exact ⟨[],rfl,fun j hj=>by omega⟩
 |succ m ih=>
  obtain ⟨v,hv⟩:=hc 0 (by omega)
  obtain ⟨x,h1,h2⟩:=ih (off:=off+1) (fun j hj=>by have:=hc (j+1) (by omega);rw [show off+1+j=off+(j+1) by omega];exact this)
  refine ⟨v :: x,by simp [h1],fun j hj=>?_⟩
  cases j with
  |zero=>simpa using hv
  |succ j=>rw [show off+(j+1)=off+1+j by omega,h2 j (by omega)];simp
theorem rows_cells {g:Nat→Option O} {B:Nat} {ks:List Kd} {rows:Rows} {u:Nat→Option V} {off:Nat} (hks:0 < ks.length) (hr:∀i,i < rows.length→FzR ro g B ks (gt rows i) (fun c=>u (off+i * ks.length+c)) 0) :
  ∃x:List V,x.length=rows.length * ks.length∧(∀j,j < rows.length * ks.length→u (off+j)=x[j]?)∧oneAll x=true∧∀i,i < rows.length→FzR ro g B ks (gt rows i) (fun c=>x[i * ks.length+c]?) 0:=by
 have cell:∀j,j < rows.length * ks.length→∃v,u (off+j)=some v∧one1 v=true:=by
  intro j hj
  have hi:j / ks.length < rows.length:=Nat.div_lt_of_lt_mul (by rw [Nat.mul_comm];exact hj)
  have hc:j % ks.length < ks.length:=Nat.mod_lt _ hks
  obtain ⟨v,h1,h2⟩:=FzR.get _ _ _ _ (hr _ hi) (j % ks.length) ks[j % ks.length] (List.getElem?_eq_getElem hc)
  refine ⟨v,?_,FzC.one h2⟩
  rw [←h1]
  congr 1
  have:=Nat.div_add_mod j ks.length
  rw [Nat.mul_comm] at this
  omega
 obtain ⟨x,h1,h2⟩:=cells_list' hM (u:=u) (off:=off) (m:=rows.length * ks.length) (fun j hj=>let ⟨v,a,_⟩:=cell j hj;⟨v,a⟩)
 refine ⟨x,h1,h2,?_,fun i hi=>?_⟩
 ·rw [oneAll_iff]
  intro v hv
  obtain ⟨j,hj⟩:=List.getElem?_of_mem hv
  have hlt:j < x.length:=(List.getElem?_eq_some_iff.1 hj).1
  obtain ⟨w,a,b⟩:=cell j (by omega)
  rw [h2 j (by omega),hj] at a
  cases a
  exact b
 ·refine FzR.cells _ _ _ _ 0 0 (fun j hj=>?_) _ (fun _=>rfl) (hr i hi)
  have:=row_bound hM hi (Nat.le_refl (rows.length * ks.length)) hj
  rw [Nat.zero_add,←h2 _ this]
  congr 1;omega
include hA
theorem src_okq {ks:List Kd} (hks:0 < ks.length) {y:SV} {p:List Prop} {rows:Rows} (hs:srcOf E σ ks y=some (p,rows)) (hp:∀q∈p,q) {vy:V} (hy:RvS C σ.next y vy) :
  LenR ks rows∧∃x,lenV vy=some rows.length∧x.length=rows.length * ks.length∧oneAll x=true∧(∀i,i < rows.length→FzR E.E.ro C.g nx ks (gt rows i) (fun c=>x[i * ks.length+c]?) 0)∧
   ∀hv:T O,(∀id∈footV vy,hv.get id=h id)→∀q,q≤rows.length→∀k,cellsOf E.E.ro hv ks.length q vy k=k (x.take (q * ks.length)):=by
 have hy':=norm_ok hM hy
 have nilC:∀{v:V} {rows:Rows},v=.nils→rows=[]→∃x:List V,lenV v=some rows.length∧x.length=rows.length * ks.length∧oneAll x=true∧(∀i,i < rows.length→FzR E.E.ro C.g nx ks (gt rows i) (fun c=>x[i * ks.length+c]?) 0)∧
   ∀hv:T O,(∀id∈footV v,hv.get id=h id)→∀q,q≤rows.length→∀k,cellsOf E.E.ro hv ks.length q v k=k (x.take (q * ks.length)):=by
  rintro v rows rfl rfl
  exact ⟨[],rfl,by simp,rfl,fun i hi=>by simp at hi,fun hv _ q hq k=>by obtain rfl:=Nat.le_zero.1 hq;simp [cellsOf]⟩
 have slcC:∀{rows:Rows} {id off:Nat} {cap:Option Nat} {t:T V} {m:Nat},(rows=[]∨h id=some (.cells t m)∧off+rows.length * ks.length≤m∧∀i,i < rows.length→FzR E.E.ro C.g nx ks (gt rows i) (fun c=>t.get (off+i * ks.length+c)) 0)→
   ∃x:List V,lenV (.slc id ks.length off rows.length cap)=some rows.length∧x.length=rows.length * ks.length∧oneAll x=true∧(∀i,i < rows.length→FzR E.E.ro C.g nx ks (gt rows i) (fun c=>x[i * ks.length+c]?) 0)∧
   ∀hv:T O,(∀i∈footV (.slc id ks.length off rows.length cap),hv.get i=h i)→∀q,q≤rows.length→∀k,cellsOf E.E.ro hv ks.length q (.slc id ks.length off rows.length cap) k=k (x.take (q * ks.length)):=by
  intro rows id off cap t m hc
  rcases hc with rfl |⟨h1,h2,h3⟩
  ·exact ⟨[],rfl,by simp,rfl,fun i hi=>by simp at hi,fun hv _ q hq k=>by obtain rfl:=Nat.le_zero.1 hq;simp [cellsOf]⟩
  ·obtain ⟨x,a1,a2,a3,a4⟩:=rows_cells hM (u:=t.get) hks h3
   refine ⟨x,rfl,a1,a3,a4,fun hv hag q hq k=>?_⟩
   have hg:hv.get id=some (.cells t m):=by rw [hag id (by simp [footV])];exact h1
   have hqn:q * ks.length≤rows.length * ks.length:=Nat.mul_le_mul_right _ hq
   cases q with
   |zero=>simp [cellsOf]
   |succ q=>
    have e1:Nat.ble (Nat.add off (Nat.mul (q+1) ks.length)) m=true:=bleT (by show off+(q+1) * ks.length≤m;omega)
    simp only [cellsOf,Nat.beq_refl,hg,e1]
    have tl:(x.take ((q+1) * ks.length)).length=(q+1) * ks.length:=by rw [List.length_take];omega
    have:=rd_eq (t:=t) (x.take ((q+1) * ks.length)) off k (fun j hj=>by rw [tl] at hj;rw [List.getElem?_take,if_pos hj];exact a2 j (by omega))
    rw [tl] at this
    exact this
 unfold srcOf at hs
 split at hs
 ·rename_i nm hn
  split at hs
  ·rename_i og ks' rows' hl
   split at hs
   ·rename_i hk
    have hk:=kds_eq hk
    subst hk
    simp only [Option.some.injEq,Prod.mk.injEq] at hs
    obtain ⟨rfl,rfl⟩:=hs
    rw [hn] at hy'
    simp only [RvS] at hy'
    obtain ⟨_,rfl,_⟩:=hy'
    have hob:=hM.ob _ _ hl
    simp only [ObS] at hob
    obtain ⟨⟨_,hlr⟩,⟨hr,hh⟩ |⟨t,m,cap,hh,o1,o2,o3,o4⟩⟩:=hob
    ·exact ⟨hlr,nilC hh hr⟩
    ·rw [hh]
     exact ⟨hlr,slcC (.inr ⟨o1,by simpa using o2,fun i hi=>FzR.cells _ _ _ _ 0 0 (fun j _=>by simp) _ (fun _=>rfl) (o4 i hi)⟩)⟩
   ·cases hs
  ·cases hs
 ·rename_i nm lo n hn
  split at hs
  ·rename_i og ks' rows' hl
   split at hs
   ·rename_i hk
    have hk:=kds_eq hk
    subst hk
    simp only [Option.some.injEq,Prod.mk.injEq] at hs
    obtain ⟨rfl,rfl⟩:=hs
    have p1:=hp _ (.head _)
    rw [hA] at p1
    have p1:lo+n≤rows'.length:=p1
    have esub:E.A.sub' rows' lo n=(rows'.drop lo).take n:=by rw [hA];rfl
    have elen:((rows'.drop lo).take n).length=n:=by rw [List.length_take,List.length_drop];omega
    rw [hn] at hy'
    simp only [RvS,VwR] at hy'
    have hob:=hM.ob _ _ hl
    simp only [ObS] at hob
    rw [esub]
    refine ⟨⟨fun row h=>hob.1.2.1 row (List.mem_of_mem_drop (List.mem_of_mem_take h)),by rw [elen];have:=hob.1.2.2;omega⟩,?_⟩
    obtain ⟨_,⟨_,hv0,hn0⟩ |⟨es,len,cap0,off,cap,hh0,rfl,hoff,hcap⟩⟩:=hy'
    ·exact nilC hv0 (by rw [hn0];simp)
    ·obtain ⟨_,⟨hr,hh⟩ |⟨t,m,cap1,hh,o1,o2,o3,o4⟩⟩:=hob
     ·rw [hh0] at hh;cases hh
     ·rw [hh0] at hh
      simp only [V.slc.injEq,true_and] at hh
      obtain ⟨rfl,rfl,rfl⟩:=hh
      have:=slcC (rows:=(rows'.drop lo).take n) (id:=C.ids nm) (off:=off) (cap:=cap) (t:=t) (m:=m) (by
       by_cases hn0:n=0
       ·exact .inl (by rw [hn0];simp)
       ·have hoff:off=lo * ks.length:=by rcases hoff with ⟨h,_⟩ |h;exact absurd h hn0;exact h
        refine .inr ⟨o1,?_,fun i hi=>?_⟩
        ·rw [elen,hoff,←Nat.add_mul]
         exact Nat.le_trans (Nat.mul_le_mul_right _ p1) o2
        ·rw [elen] at hi
         rw [gt_sub hA hi]
         refine FzR.cells _ _ _ _ 0 0 (fun j _=>?_) _ (fun _=>rfl) (o4 (lo+i) (by omega))
         rw [hoff,Nat.add_mul])
      rw [elen] at this ⊢
      exact this
   ·cases hs
  ·cases hs
 ·rename_i b ks' rows' hn
  split at hs
  ·rename_i hk
   have hk:=kds_eq hk
   subst hk
   simp only [Option.some.injEq,Prod.mk.injEq] at hs
   obtain ⟨rfl,rfl⟩:=hs
   rw [hn] at hy'
   simp only [RvS,FzC,D.rows] at hy'
   obtain ⟨hb,⟨_,hrows,hlr⟩,hy'⟩:=hy'
   simp only [D.l.injEq] at hrows
   subst hrows
   refine ⟨hlr,?_⟩
   obtain ⟨hr,hh⟩ |⟨id,off,cap,rfl,g2,g3,g4,t,m,g5,g6,g7⟩ |⟨a,cap,rfl,g2,g3,g7⟩:=hy'
   ·exact nilC hh hr
   rotate_left
   ·obtain ⟨x,a1,a2,a3,a4⟩:=rows_cells hM (u:=fun j=>E.E.ro (a.add j)) (off:=0) hks (fun i hi=>FzR.cells _ _ _ _ 0 0 (fun j _=>by simp) _ (fun _=>rfl) (g7 i hi))
    refine ⟨x,rfl,a1,a3,fun i hi=>FzR.mono (fun _ _ _ h=>h) (hM.bd _ hb) _ _ _ _ (a4 i hi),fun hv _ q hq k=>?_⟩
    have hqn:=Nat.mul_le_mul_right ks.length hq
    have tl:(x.take (q * ks.length)).length=q * ks.length:=by rw [List.length_take];omega
    simp only [cellsOf]
    have:=rdA_eq (ro:=E.E.ro) (a:=a) (x.take (q * ks.length)) 0 k (fun j hj=>by rw [tl] at hj;rw [List.getElem?_take,if_pos hj];exact a2 j (by omega))
    rw [tl] at this
    exact this
   ·skip
    ·exact slcC (.inr ⟨(hM.fz _ _ g5).2,g6,fun i hi=>FzR.mono (fun _ _ _ h=>h) (hM.bd _ hb) _ _ _ _ (g7 i hi)⟩)
  ·cases hs
 ·rename_i nm es off n hn
  split at hs
  ·rename_i l hl
   split at hs
   ·rename_i hb
    simp only [Bool.and_eq_true,beqN_iff,bleN_iff] at hb
    obtain ⟨⟨rfl,b2⟩,b3⟩:=hb
    split at hs
    ·rename_i ds hds
     simp only [Option.some.injEq,Prod.mk.injEq] at hs
     obtain ⟨rfl,rfl⟩:=hs
     rw [hn] at hy'
     simp only [RvS] at hy'
     obtain ⟨_,_,cap,rfl,_⟩:=hy'
     have hob:=hM.ob _ _ hl
     simp only [ObS] at hob
     obtain ⟨t,o1,o2⟩:=hob
     obtain ⟨x,x1,x2⟩:∃x,RvSL C σ.next (l.drop off) x∧∀j,j < (l.drop off).length→t.get (off+j)=x[j]?:=by
      have key:∀(l':List SV) (o:Nat),(∀i s,l'[i]?=some s→∃v,t.get (o+i)=some v∧one1 v=true∧RvS C σ.next s v)→∃x,RvSL C σ.next l' x∧∀j,j < l'.length→t.get (o+j)=x[j]?:=by
       intro l'
       induction l' with
       |nil=>intro o _;exact ⟨[],trivial,fun j hj=>by simp at hj⟩
       |cons s l' ih=>
        intro o ho
        obtain ⟨v,h1,_,h3⟩:=ho 0 s (by simp)
        obtain ⟨x,h4,h5⟩:=ih (o+1) (fun i s' hs'=>by
         have:=ho (i+1) s' (by simpa using hs')
         rw [show o+1+i=o+(i+1) by omega];exact this)
        refine ⟨v :: x,⟨h3,h4⟩,fun j hj=>?_⟩
        cases j with
        |zero=>simpa using h1
        |succ j=>rw [show o+(j+1)=o+1+j by omega,h5 j (by simpa using hj)];simp
      exact key _ _ fun i s hs=>o2 (off+i) s (by rw [List.getElem?_drop] at hs;exact hs)
     obtain ⟨⟨r1,r1'⟩,r2⟩:=chunks_ok hM n _ _ hds x1
     refine ⟨⟨r1',by rw [r1];omega⟩,?_⟩
     have:=slcC (rows:=ds) (id:=C.ids nm) (off:=off) (cap:=cap) (t:=t) (m:=l.length) (.inr ⟨o1,by rw [r1];exact b2,fun i hi=>by
      rw [r1] at hi
      refine FzR.cells _ _ _ _ 0 0 (fun j hj=>?_) _ (fun _=>rfl) (r2 i hi)
      have:=row_bound hM hi (Nat.le_refl (n * ks.length)) hj
      rw [Nat.zero_add,←x2 (i * ks.length+j) (by rw [List.length_drop];omega)]
      congr 1;omega⟩)
     rw [r1] at this ⊢
     exact this
    ·cases hs
   ·cases hs
  ·cases hs
 ·rename_i hn
  simp only [Option.some.injEq,Prod.mk.injEq] at hs
  obtain ⟨rfl,rfl⟩:=hs
  rw [hn] at hy'
  simp only [RvS] at hy'
  exact ⟨⟨fun _ h=>(by cases h),by simp⟩,nilC hy' rfl⟩
 ·cases hs
theorem src_ok {ks:List Kd} (hks:0 < ks.length) {y:SV} {p:List Prop} {rows:Rows} (hs:srcOf E σ ks y=some (p,rows)) (hp:∀q∈p,q) {vy:V} (hy:RvS C σ.next y vy) :
  LenR ks rows∧∃x,lenV vy=some rows.length∧x.length=rows.length * ks.length∧oneAll x=true∧(∀i,i < rows.length→FzR E.E.ro C.g nx ks (gt rows i) (fun c=>x[i * ks.length+c]?) 0)∧
   ∀hv:T O,(∀id∈footV vy,hv.get id=h id)→∀k,cellsOf E.E.ro hv ks.length rows.length vy k=k x:=by
 obtain ⟨h1,x,h2,h3,h4,h5,h6⟩:=src_okq hA hM hks hs hp hy
 exact ⟨h1,x,h2,h3,h4,h5,fun hv hag k=>by rw [h6 hv hag _ (Nat.le_refl _) k,←h3,List.take_length]⟩
theorem copy_ok {c:Call} {t:Nat} {ts:List Nat} {x y:Operand} (hc:c.callee=.builtin .copy) (ha:c.args.toList=[x,y]) (hat:c.argTypes.toList=t :: ts) {ev:Operand→SV} {evc:Operand→Option V} (hev:EvOk C σ.next ev evc) {w:WR} (hw:xcopy E σ t (ev x) (ev y)=some w) (hp:∀p∈w.pre,p) :
  ∃F,foot evc (.call c)=some F∧Writes C σ.objs σ.next bar h nx F (fun barv hv k=>opM E.E barv evc hv nx (.call c) k) w.sv w.objs w.next:=by
 unfold xcopy at hw
 split at hw
 ·rename_i ks ety hks
  obtain ⟨e,k1,k2,k3,k4,k5⟩:=eKs_ok hks
  have hksp:0 < ks.length:=by omega
  split at hw
  ·rename_i p rows2 hsrc
   have hyk:ev y≠.unk:=fun e=>by rw [e] at hsrc;simp [srcOf,norm] at hsrc
   obtain ⟨vy,y1,y2⟩:=hev.get rfl hyk
   have footE:∀{vx:V},evc x=some vx→foot evc (.call c)=some (footV vx++footV vy):=by
    intro vx ex
    simp only [foot,ha,foot1_eq ex,foot1_eq y1]
   have run0:∀{vx:V},evc x=some vx→∀barv (hv:T O) k,opM E.E barv evc hv nx (.call c) k=copyX E.E.ro barv hv nx ks.length vx vy k:=by
    intro vx ex barv hv k
    simp only [opM,hc,ha,hat,evL,ex,y1,biX,k5,k3]
   have elen:E.A.len rows2=rows2.length:=by rw [hA];rfl
   -- nothing is copied
   have none0:∀{vx:V} {objs':List (Nat×SO)} {z:Int},evc x=some vx→(∀t,look objs' t=look σ.objs t)→z=0→(∀barv (hv:T O) k,copyX E.E.ro barv hv nx ks.length vx vy k=k (.int .i64 (.ofNat 0)) hv nx)→
     Writes C σ.objs σ.next bar h nx (footV vx++footV vy) (fun barv hv k=>opM E.E barv evc hv nx (.call c) k) (.int .i64 z) objs' σ.next:=by
    intro vx objs' z ex hlo hz hrun
    subst hz
    refine ⟨.int .i64 (.ofNat 0),C,h,nx,hM.lk hlo,MExt.lk hlo,by simp [RvS],fun _ _ _=>rfl,fun hv barv h1 h2=>⟨hv,fun k=>?_,fun id=>?_⟩⟩
    ·simp only [run0 ex];exact hrun barv hv k
    ·split
     ·rename_i hid
      rcases hid with hid |hid
      ·exact h1 id hid
      ·omega
     ·rfl
   -- onto a part of an array
   have onArr:∀{nm og lo n:Nat} {rows:Rows} {vx:V} {es off:Nat} {cap:Option Nat},look σ.objs nm=some (.arr og ks rows)→evc x=some vx→vx=.slc (C.ids nm) es off n cap→C.hdr nm≠.nils→(n=0∨off=lo * ks.length)→lo+n≤rows.length→(∀q∈p,q)→
     Writes C σ.objs σ.next bar h nx (footV vx++footV vy) (fun barv hv k=>opM E.E barv evc hv nx (.call c) k) (.int .i64 (E.A.min (E.A.nat (E.A.len rows2)) (E.A.nat n))) ((nm,.arr og ks (cpyA E.A rows lo n rows2)) :: σ.objs) σ.next:=by
    intro nm og lo n rows vx es off cap hl ex hvx hnil hoff hln hpp
    obtain ⟨hlr2,x2,s1,s2,s3,s4,s5⟩:=src_okq hA hM hksp hsrc hpp y2
    have emin:E.A.min (E.A.nat (E.A.len rows2)) (E.A.nat n)=((Nat.min rows2.length n:Nat):Int):=by
     rw [hA]
     show (if (n:Int) < (rows2.length:Int) then (n:Int) else (rows2.length:Int))=_
     split
     ·rw [show Nat.min rows2.length n=n from Nat.min_eq_right (by omega)]
     ·rw [show Nat.min rows2.length n=rows2.length from Nat.min_eq_left (by omega)]
    have ecp:cpyA E.A rows lo n rows2=rows.take lo++(rows2.take (Nat.min rows2.length n)++(rows.drop (lo+Nat.min rows2.length n)).take (rows.length - (lo+Nat.min rows2.length n))):=by
     have e1:E.A.toNat (E.A.min (E.A.nat (E.A.len rows2)) (E.A.nat n))=Nat.min rows2.length n:=by rw [emin,hA];rfl
     simp only [cpyA,e1]
     rw [hA]
     rfl
    have hob:=hM.ob _ _ hl
    simp only [ObS] at hob
    obtain ⟨⟨_,hlr⟩,⟨_,hh0⟩ |⟨t0,m0,cap1,hh0,o1,o2,o3,o4⟩⟩:=hob
    ·exact absurd hh0 hnil
    have hown:∀r:Rows,ownS C nm (.arr og ks r):=fun r=>by simp only [ownS];exact hnil
    obtain ⟨q,hq⟩:∃q,q=Nat.min rows2.length n:=⟨_,rfl⟩
    have hq1:q≤rows2.length:=by rw [hq];exact Nat.min_le_left _ _
    have hq2:q≤n:=by rw [hq];exact Nat.min_le_right _ _
    rw [←hq] at ecp emin
    rw [emin]
    rw [List.take_of_length_le (l:=rows.drop (lo+q)) (by rw [List.length_drop];exact Nat.le_refl _)] at ecp
    have qq:Nat.min rows2.length n=q:=hq.symm
    by_cases hz:q=0
    ·have esame:cpyA E.A rows lo n rows2=rows:=by rw [ecp,hz];simp
     rw [esame]
     refine none0 ex (fun t=>?_) (by rw [hz];rfl) fun barv hv k=>?_
     ·rw [look_cons];split
      ·rename_i e;subst e;exact hl.symm
      ·rfl
     ·subst hvx
      simp only [copyX,s1,fN_eq,qq,hz]
    ·have hoff:off=lo * ks.length:=by rcases hoff with h |h;omega;exact h
     subst hoff
     have len':(cpyA E.A rows lo n rows2).length=rows.length:=by rw [ecp];simp only [List.length_append,List.length_take,List.length_drop];omega
     have hqn:q * ks.length≤rows2.length * ks.length:=Nat.mul_le_mul_right _ hq1
     have tl:(x2.take (q * ks.length)).length=q * ks.length:=by rw [List.length_take];omega
     have hone:oneAll (x2.take (q * ks.length))=true:=by
      rw [oneAll_iff] at s3 ⊢
      exact fun v hv=>s3 v (List.mem_of_mem_take hv)
     have hle:lo * ks.length+q * ks.length≤rows.length * ks.length:=by rw [←Nat.add_mul];exact Nat.mul_le_mul_right _ (by omega)
     obtain ⟨t',w1,w2⟩:=wrt_eq (x2.take (q * ks.length)) t0 (lo * ks.length)
     obtain ⟨a,b⟩:=hM.upd (so:=.arr og ks (cpyA E.A rows lo n rows2)) hl (hown _) (hown _) (o:=.cells t' m0) (by
      simp only [ObS,if_true]
      refine ⟨⟨hksp,fun row hr=>?_,by rw [len'];exact hlr.2⟩,.inr ⟨t',m0,cap1,by rw [len'];exact hh0,rfl,by rw [len'];exact o2,fun c hc=>by rw [len'];exact o3 c hc,fun i hi=>?_⟩⟩
      ·rw [ecp] at hr
       simp only [List.mem_append] at hr
       rcases hr with hr |hr |hr
       ·exact hlr.1 row (List.mem_of_mem_take hr)
       ·exact hlr2.1 row (List.mem_of_mem_take hr)
       ·exact hlr.1 row (List.mem_of_mem_drop hr)
      ·rw [len'] at hi
       have gE:gt (cpyA E.A rows lo n rows2) i=if lo≤i∧i < lo+q then gt rows2 (i - lo) else gt rows i:=by
        funext c
        rw [ecp]
        have e0:(rows.take lo).length=lo:=by rw [List.length_take];omega
        have e1:(rows2.take q).length=q:=by rw [List.length_take];omega
        by_cases h1:i < lo
        ·rw [if_neg (by omega)]
         simp only [gt,List.getD_eq_getElem?_getD]
         rw [List.getElem?_append_left (by omega),List.getElem?_take,if_pos h1]
        ·by_cases h2:i < lo+q
         ·rw [if_pos ⟨by omega,h2⟩]
          simp only [gt,List.getD_eq_getElem?_getD]
          rw [List.getElem?_append_right (by omega),e0,List.getElem?_append_left (by omega),List.getElem?_take,if_pos (by omega)]
         ·rw [if_neg (by omega)]
          simp only [gt,List.getD_eq_getElem?_getD]
          rw [List.getElem?_append_right (by omega),e0,List.getElem?_append_right (by omega),e1,List.getElem?_drop]
          rw [show lo+q+(i - lo - q)=i by omega]
       rw [gE]
       by_cases hc:lo≤i∧i < lo+q
       ·rw [if_pos hc]
        refine FzR.cells _ _ _ _ 0 0 (fun j hj=>?_) _ (fun _=>rfl) (s4 (i - lo) (by omega))
        have h1:(i - lo) * ks.length+j < q * ks.length:=row_bound hM (show i - lo < q by omega) (Nat.le_refl _) hj
        have h2:i * ks.length=lo * ks.length+(i - lo) * ks.length:=by rw [←Nat.add_mul];congr 1;omega
        rw [w2,if_pos ⟨by omega,by rw [tl];omega⟩,List.getElem?_take,if_pos (by omega),Nat.zero_add]
        congr 1;omega
       ·rw [if_neg hc]
        refine FzR.cells _ _ _ _ 0 0 (fun j hj=>?_) _ (fun _=>rfl) (o4 i hi)
        rw [w2,tl,if_neg,Nat.zero_add]
        rintro ⟨c1,c2⟩
        by_cases h1:i < lo
        ·have h3:(i+1) * ks.length≤lo * ks.length:=Nat.mul_le_mul_right _ h1
         rw [Nat.add_mul] at h3
         omega
        ·have h3:(lo+q) * ks.length≤i * ks.length:=Nat.mul_le_mul_right _ (by omega)
         rw [Nat.add_mul] at h3
         omega)
     have hidx:C.ids nm∈footV vx++footV vy:=by rw [hvx];simp [footV]
     refine ⟨.int .i64 (.ofNat q),C,_,nx,a,b,by simp [RvS],fun id hid _=>?_,fun hv barv h1 h2=>⟨hv.up (C.ids nm) (some (.cells t' m0)),fun k=>?_,fun id=>?_⟩⟩
     ·show (if id=C.ids nm then _ else h id)=h id
      rw [if_neg (fun e=>hid (by rw [e];exact hidx))]
     ·simp only [run0 ex]
      have e1:hv.get (C.ids nm)=some (.cells t0 m0):=by rw [h1 _ hidx];exact o1
      have e2:geB barv (C.ids nm)=true:=bleT (h2 _ hidx (hM.own _ _ hl (hown _)).1)
      have e3:Nat.ble (Nat.add (lo * ks.length) (CX.len (x2.take (q * ks.length)))) m0=true:=bleT (by rw [len_eq,tl];show lo * ks.length+q * ks.length≤m0;omega)
      obtain ⟨q',hq'⟩:∃q',q=q'+1:=⟨q - 1,by omega⟩
      have hs5:=s5 hv (fun id hid=>h1 id (List.mem_append_right _ hid)) q hq1
      rw [hvx]
      simp only [copyX,s1,fN_eq,qq]
      rw [hq'] at hs5 hone w1 e3 ⊢
      simp only [hs5,CX.store,e1,e2,hone,e3,w1,T.set_eq]
     ·rw [T.get_up]
      by_cases e:id=C.ids nm
      ·subst e;rw [if_pos rfl,if_pos (.inl hidx),if_pos rfl]
      ·rw [if_neg e]
       split
       ·rename_i hid
        rcases hid with hid |hid
        ·first |exact h1 id hid |(rw [if_neg e];exact h1 id hid)
        ·omega
       ·rfl
   split at hw
   ·rename_i hx
    simp only [Option.some.injEq] at hw
    subst hw
    obtain ⟨vx,x1,x2⟩:=hev.get hx (by intro e;cases e)
    simp only [RvS] at x2
    refine ⟨_,footE x1,none0 x1 (fun _=>rfl) rfl fun barv hv k=>?_⟩
    obtain ⟨_,_,s1,_⟩:=src_ok hA hM hksp hsrc hp y2
    subst x2
    simp only [copyX,s1]
   ·rename_i nm hx
    split at hw
    ·rename_i og ks' rows hl
     split at hw
     ·rename_i hb
      have hk:=kds_eq hb
      subst hk
      simp only [Option.some.injEq] at hw
      subst hw
      obtain ⟨vx,ex,x2⟩:=hev.get hx (by intro e;cases e)
      simp only [RvS] at x2
      obtain ⟨hnm,hvx,_⟩:=x2
      refine ⟨_,footE ex,?_⟩
      have erl:E.A.len rows=rows.length:=by rw [hA];rfl
      have hob:=hM.ob _ _ hl
      simp only [ObS] at hob
      obtain ⟨_,⟨hr0,hh0⟩ |⟨t0,m0,cap0,hh0,_⟩⟩:=hob
      ·refine none0 ex (fun t=>?_) ?_ fun barv hv k=>?_
       ·rw [look_cons];split
        ·rename_i e;subst e;rw [hl]
         have:cpyA E.A rows 0 (E.A.len rows) rows2=rows:=by
          rw [erl,hr0];simp only [cpyA];rw [hA]
          show List.take 0 (List.drop 0 ([]:Rows))++(List.take (Int.toNat (if ((0:Nat):Int) < (rows2.length:Int) then ((0:Nat):Int) else (rows2.length:Int))) (List.drop 0 rows2)++List.take _ (List.drop _ []))=[]
          by_cases h:((0:Nat):Int) < (rows2.length:Int)
          ·rw [if_pos h];simp
          ·have:rows2.length=0:=by omega
           rw [List.length_eq_zero_iff.1 this];simp
         rw [this]
        ·rfl
       ·rw [erl,hr0,hA]
        show (if ((0:Nat):Int) < (rows2.length:Int) then ((0:Nat):Int) else (rows2.length:Int))=0
        split
        ·rfl
        ·omega
       ·rw [hvx,hh0]
        obtain ⟨_,_,s1,_⟩:=src_ok hA hM hksp hsrc hp y2
        simp only [copyX,s1]
      ·rw [erl]
       exact onArr hl ex (by rw [hvx];exact hh0) (by rw [hh0];intro e;cases e) (.inr (by simp)) (by omega) hp
     ·cases hw
    ·cases hw
   ·rename_i nm lo n hx
    split at hw
    ·rename_i og ks' rows hl
     split at hw
     ·rename_i hb
      have hk:=kds_eq hb
      subst hk
      simp only [Option.some.injEq] at hw
      subst hw
      obtain ⟨vx,ex,x2⟩:=hev.get hx (by intro e;cases e)
      simp only [RvS,VwR] at x2
      have p1:=hp _ (.head _)
      rw [hA] at p1
      have p1:lo+n≤rows.length:=p1
      have hpp:∀q∈p,q:=fun q hq=>hp q (.tail _ hq)
      refine ⟨_,footE ex,?_⟩
      obtain ⟨hnm,⟨hh0,hv0,hn0⟩ |⟨es,len,cap0,off,cap,hh0,hvx,hoff,hcap,hln⟩⟩:=x2
      ·subst hn0
       obtain ⟨_,_,s1,_⟩:=src_ok hA hM hksp hsrc hpp y2
       have emin:E.A.min (E.A.nat (E.A.len rows2)) (E.A.nat 0)=0:=by
        rw [hA]
        show (if ((0:Nat):Int) < (rows2.length:Int) then ((0:Nat):Int) else (rows2.length:Int))=0
        split
        ·rfl
        ·omega
       refine none0 ex (fun t=>?_) emin fun barv hv k=>?_
       ·rw [look_cons];split
        ·rename_i e;subst e;rw [hl]
         have:cpyA E.A rows lo 0 rows2=rows:=by
          simp only [cpyA,emin];rw [hA]
          show List.take lo (List.drop 0 rows)++(List.take 0 (List.drop 0 rows2)++List.take (rows.length - (lo+0)) (List.drop (lo+0) rows))=rows
          rw [List.drop_zero,List.take_zero,List.nil_append,Nat.add_zero,List.take_of_length_le (l:=List.drop lo rows) (by rw [List.length_drop];exact Nat.le_refl _),List.take_append_drop]
         rw [this]
        ·rfl
       ·rw [hv0]
        simp only [copyX,s1]
      ·exact onArr hl ex hvx (by rw [hh0];intro e;cases e) (by rcases hoff with h |h;exact .inl h.1;exact .inr (by
        have hob:=hM.ob _ _ hl
        simp only [ObS] at hob
        obtain ⟨_,⟨_,hh1⟩ |⟨t0,m0,cap1,hh1,_⟩⟩:=hob
        ·rw [hh0] at hh1;cases hh1
        ·rw [hh0] at hh1
         simp only [V.slc.injEq,true_and] at hh1
         rw [h,hh1.1])) p1 hpp
     ·cases hw
    ·cases hw
   ·cases hw
  ·cases hw
 ·cases hw
end
end HX

namespace HX
open Go CX
variable {ro:Addr→Option V}
theorem gt_app {r r2:Rows} {i:Nat}:gt (r++r2) i=if i < r.length then gt r i else gt r2 (i - r.length):=by
 funext c
 split
 ·rename_i h;simp only [gt,List.getD_eq_getElem?_getD,List.getElem?_append_left h]
 ·rename_i h;simp only [gt,List.getD_eq_getElem?_getD,List.getElem?_append_right (Nat.le_of_not_lt h)]
section
variable {E:Env} (hA:E.A=Ar.std) {C:Cx E.E.ro} {σ:St} {bar:Nat} {h:Nat→Option O} {nx:Nat} (hM:MSim C σ.objs σ.next bar h nx)
include hM
theorem rows_app {g:Nat→Option O} {B:Nat} {ks:List Kd} {rows rows2:Rows} {u:Nat→Option V} {x2:List V}
  (h1:∀i,i < rows.length→FzR E.E.ro g B ks (gt rows i) (fun c=>u (i * ks.length+c)) 0) (h2:∀i,i < rows2.length→FzR E.E.ro g B ks (gt rows2 i) (fun c=>x2[i * ks.length+c]?) 0) (u':Nat→Option V)
  (hu1:∀j,j < rows.length * ks.length→u' j=u j) (hu2:∀j,j < rows2.length * ks.length→u' (rows.length * ks.length+j)=x2[j]?) :
  ∀i,i < (rows++rows2).length→FzR E.E.ro g B ks (gt (rows++rows2) i) (fun c=>u' (i * ks.length+c)) 0:=by
 intro i hi
 rw [List.length_append] at hi
 rw [gt_app]
 by_cases hlt:i < rows.length
 ·rw [if_pos hlt]
  refine FzR.cells _ _ _ _ 0 0 (fun j hj=>?_) _ (fun _=>rfl) (h1 i hlt)
  rw [Nat.zero_add,hu1 _ (row_bound hM hlt (Nat.le_refl _) hj)]
 ·rw [if_neg hlt]
  refine FzR.cells _ _ _ _ 0 0 (fun j hj=>?_) _ (fun _=>rfl) (h2 (i - rows.length) (by omega))
  rw [Nat.zero_add,←hu2 _ (row_bound hM (show i - rows.length < rows2.length by omega) (Nat.le_refl _) hj)]
  congr 1
  have:i * ks.length=rows.length * ks.length+(i - rows.length) * ks.length:=by rw [←Nat.add_mul];congr 1;omega
  omega
theorem put_arr {dead:Option Nat} {og:Nat} {ks:List Kd} (hks:0 < ks.length) {rows:Rows} (hlr:LenR ks rows) {j nx':Nat} {cap:Option Nat} {t:T V} {m:Nat} {h':Nat→Option O} (hdead:∀nm,dead=some nm→∃so0,look σ.objs nm=some so0)
  (hbar:bar≤j) (hj:j < nx') (hnx:nx≤nx') (hg:C.g j=none) (hjn:∀nm s,look (kill dead σ.objs) nm=some s→ownS C nm s→C.ids nm≠j)
  (hh:∀id,id≠j→(∀nm,dead=some nm→∀s,look σ.objs nm=some s→ownS C nm s→id≠C.ids nm)→h' id=h id) (hjo:OwnId C σ.objs j∨nx≤j)
  (hc:h' j=some (.cells t m)) (hm:rows.length * ks.length≤m) (hcap:∀c,cap=some c→rows.length≤c∧c * ks.length≤m) (hr:∀i,i < rows.length→FzR E.E.ro C.g nx ks (gt rows i) (fun c=>t.get (i * ks.length+c)) 0) :
  ∃C',MSim C' ((σ.next,.arr og ks rows) :: kill dead σ.objs) (σ.next+1) bar h' nx'∧MExt C σ.objs σ.next h nx C' ((σ.next,.arr og ks rows) :: kill dead σ.objs) (σ.next+1) h' nx'∧RvS C' (σ.next+1) (.slc σ.next) (.slc j ks.length 0 rows.length cap):=by
 obtain ⟨a,b⟩:=hM.put (so:=.arr og ks rows) (hd:=.slc j ks.length 0 rows.length cap) hdead hbar hj hnx hg hjn hh hjo (by
  simp only [ObS,Cx.put,if_true]
  exact ⟨⟨hks,hlr⟩,.inr ⟨t,m,cap,rfl,hc,hm,hcap,fun i hi=>FzR.mono (fun _ _ _ h=>h) hnx _ _ _ _ (hr i hi)⟩⟩)
 exact ⟨_,a,b,by simp only [RvS,Cx.put,if_true,isHdr];exact ⟨Nat.lt_succ_self _,trivial,.inr ⟨_,_,_,_,_,rfl⟩⟩⟩
include hA
theorem append_ok {c:Call} {t t':Nat} {x y:Operand} (hc:c.callee=.builtin .append) (ha:c.args.toList=[x,y]) (hat:c.argTypes.toList=[t,t']) (htt:t=t') {ev:Operand→SV} {evc:Operand→Option V} (hev:EvOk C σ.next ev evc) {w:WR} (hw:xappend E σ t (ev x) (ev y)=some w) (hp:∀p∈w.pre,p) :
  ∃F,foot evc (.call c)=some F∧Writes C σ.objs σ.next bar h nx F (fun barv hv k=>opM E.E barv evc hv nx (.call c) k) w.sv w.objs w.next:=by
 subst htt
 unfold xappend at hw
 split at hw
 ·rename_i ks ety hks
  obtain ⟨e,k1,k2,k3,k4,k5⟩:=eKs_ok hks
  have hksp:0 < ks.length:=by omega
  split at hw
  ·rename_i p rows2 hsrc
   have hyk:ev y≠.unk:=fun e=>by rw [e] at hsrc;simp [srcOf,norm] at hsrc
   obtain ⟨vy,y1,y2⟩:=hev.get rfl hyk
   -- how the call runs, once x's value is known
   have run0:∀{vx:V} {x2:List V},evc x=some vx→lenV vy=some rows2.length→(∀(hv:T O),(∀id∈footV vy,hv.get id=h id)→∀k,cellsOf E.E.ro hv ks.length rows2.length vy k=k x2)→
     ∀barv (hv:T O),(∀id∈footV vx++footV vy,hv.get id=h id)→∀k,opM E.E barv evc hv nx (.call c) k=appendX barv hv nx ks.length ety.bytes vx rows2.length x2 k:=by
    intro vx x2 ex hl hcells barv hv hag k
    simp only [opM,hc,ha,hat,evL,ex,y1,biX,k5,k1,k2,Nat.beq_refl,hl,fN_eq]
    rw [←k3,hcells hv (fun id hid=>hag id (List.mem_append_right _ hid))]
   have footE:∀{vx:V},evc x=some vx→foot evc (.call c)=some (footV vx++footV vy):=by
    intro vx ex
    simp only [foot,ha,foot1_eq ex,foot1_eq y1]
   have room:∀{a:Nat},(a * ety.bytes≤4294967296∧a≤4294967296)→roomOk ety.bytes a=true:=by
    intro a h
    simp only [roomOk,Bool.and_eq_true]
    exact ⟨bleT h.1,bleT h.2⟩
   have elen:E.A.len rows2=rows2.length:=by rw [hA];rfl
   -- onto nothing
   have onNil:∀{dead:Option Nat} {og:Nat} {vx:V},vx=.nils→evc x=some vx→(∀nm,dead=some nm→∃so0,look σ.objs nm=some so0∧¬ownS C nm so0)→(rows2.length * ety.bytes≤4294967296∧rows2.length≤4294967296)→(∀q∈p,q)→
     Writes C σ.objs σ.next bar h nx (footV vx++footV vy) (fun barv hv k=>opM E.E barv evc hv nx (.call c) k) (.slc σ.next) ((σ.next,.arr og ks rows2) :: kill dead σ.objs) (σ.next+1):=by
    intro dead og vx hvx ex hdead hroom hp
    subst hvx
    obtain ⟨hlr2,x2,s1,s2,s3,s4,s5⟩:=src_ok hA hM hksp hsrc hp y2
    have hdead':∀nm,dead=some nm→∃so0,look σ.objs nm=some so0:=fun nm e=>let ⟨a,b,_⟩:=hdead nm e;⟨a,b⟩
    by_cases hz:rows2.length=0
    ·have hz':rows2=[]:=List.length_eq_zero_iff.1 hz
     subst hz'
     obtain ⟨a,b⟩:=hM.put0 (dead:=dead) (og:=og) hksp hdead'
     refine ⟨.nils,_,h,nx,a,b,by simp only [RvS,Cx.put,if_true,isHdr];exact ⟨Nat.lt_succ_self _,trivial,.inl trivial⟩,fun _ _ _=>rfl,fun hv barv h1 h2=>⟨hv,fun k=>?_,fun id=>?_⟩⟩
     ·simp only [run0 ex s1 s5 barv hv h1];rfl
     ·split
      ·rename_i hid
       rcases hid with hid |hid
       ·exact h1 id hid
       ·omega
      ·rfl
    ·obtain ⟨tt,w1,w2⟩:=wrt_eq x2 .e 0
     obtain ⟨C',a,b,d⟩:=put_arr hM (dead:=dead) (og:=og) hksp (rows:=rows2) hlr2 (j:=nx) (nx':=nx+1) (cap:=none) (t:=tt) (m:=x2.length) (h':=fun id=>if id=nx then some (.cells tt x2.length) else h id) hdead' hM.barle (Nat.lt_succ_self _) (Nat.le_succ _)
      (by
       cases hg:C.g nx with
       |none=>rfl
       |some o=>have:=(hM.fz _ _ hg).1;omega)
      (fun nm s hl ho=>by
       rcases look_kill hl with ⟨rfl,_⟩ |⟨hl,_⟩
       ·exact ho.elim
       ·have:=(hM.own _ _ hl ho).2.1;omega)
      (fun id hid _=>if_neg hid) (.inr (Nat.le_refl _)) (if_pos rfl) (by rw [s2];exact Nat.le_refl _) (fun c hc=>by cases hc) (fun i hi=>by
       refine FzR.cells _ _ _ _ 0 0 (fun j hj=>?_) _ (fun _=>rfl) (s4 i hi)
       have:=row_bound hM hi (Nat.le_refl _) hj
       rw [w2,if_pos ⟨by omega,by omega⟩,Nat.sub_zero])
     refine ⟨_,C',_,nx+1,a,b,d,fun id _ hid=>if_neg (by omega),fun hv barv h1 h2=>⟨hv.up nx (some (.cells tt x2.length)),fun k=>?_,fun id=>?_⟩⟩
     ·simp only [run0 ex s1 s5 barv hv h1]
      obtain ⟨n,hn⟩:∃n,rows2.length=n+1:=⟨rows2.length - 1,by omega⟩
      have hr:=room hroom
      rw [hn] at hr
      simp only [hn,appendX,hr,grown,CX.newRow,s3,w1,fN_eq,len_eq,CX.new,T.set_eq]
     ·rw [T.get_up]
      by_cases e:id=nx
      ·subst e;rw [if_pos rfl,if_pos (.inr ⟨Nat.le_refl _,Nat.lt_succ_self _⟩),if_pos rfl]
      ·rw [if_neg e]
       split
       ·rename_i hid
        rcases hid with hid |hid
        ·first |exact h1 id hid |(rw [if_neg e];exact h1 id hid)
        ·omega
       ·rfl
   -- onto an array's first rows
   have onArr:∀{nm og:Nat} {rows0 rows:Rows} {vx:V} {t0:T V} {m0:Nat} {cap0:Option Nat},look σ.objs nm=some (.arr og ks rows0)→ownS C nm (.arr og ks rows0)→vx=.slc (C.ids nm) ks.length 0 rows.length cap0→evc x=some vx→LenR ks rows→h (C.ids nm)=some (.cells t0 m0)→rows.length * ks.length≤m0→
     (∀c,cap0=some c→rows.length≤c∧c * ks.length≤m0)→(∀i,i < rows.length→FzR E.E.ro C.g nx ks (gt rows i) (fun c=>t0.get (i * ks.length+c)) 0)→((rows.length+rows2.length) * ety.bytes≤4294967296∧rows.length+rows2.length≤4294967296)→(∀q∈p,q)→
     Writes C σ.objs σ.next bar h nx (footV vx++footV vy) (fun barv hv k=>opM E.E barv evc hv nx (.call c) k) (.slc σ.next) ((σ.next,.arr og ks (E.A.app rows rows2)) :: kill (some nm) σ.objs) (σ.next+1):=by
    intro nm og rows0 rows vx t0 m0 cap0 hl hown hh0 ex hlr o1 o2 o3 o4 p1 hpp
    have eapp:E.A.app rows rows2=rows++rows2:=by rw [hA];rfl
    obtain ⟨hlr2,x2,s1,s2,s3,s4,s5⟩:=src_ok hA hM hksp hsrc hpp y2
    obtain ⟨q1,q2,q3⟩:=hM.own _ _ hl hown
    have hdead:∀nm',(some nm:Option Nat)=some nm'→∃so0,look σ.objs nm'=some so0:=fun nm' e=>by cases e;exact ⟨_,hl⟩
    have hjn:∀nm' s,look (kill (some nm) σ.objs) nm'=some s→ownS C nm' s→C.ids nm'≠C.ids nm:=fun nm' s hl' ho'=>by
     rcases look_kill hl' with ⟨rfl,_⟩ |⟨hl',hne⟩
     ·exact ho'.elim
     ·exact hM.inj _ _ _ _ hl' hl ho' hown fun e=>hne (by rw [e])
    have hnew:C.g nx=none:=by
     cases hg:C.g nx with
     |none=>rfl
     |some o=>have:=(hM.fz _ _ hg).1;omega
    have hnewn:∀nm' s,look (kill (some nm) σ.objs) nm'=some s→ownS C nm' s→C.ids nm'≠nx:=fun nm' s hl' ho'=>by
     rcases look_kill hl' with ⟨rfl,_⟩ |⟨hl',_⟩
     ·exact ho'.elim
     ·have:=(hM.own _ _ hl' ho').2.1;omega
    have hlr12:LenR ks (rows++rows2):=⟨fun row h=>(List.mem_append.1 h).elim (hlr.1 row) (hlr2.1 row),by rw [List.length_append];have:=p1.2;omega⟩
    have alen:(rows++rows2).length=rows.length+rows2.length:=List.length_append
    have footx:footV (vx)=[C.ids nm]:=by rw [hh0];rfl
    show Writes _ _ _ _ _ _ _ _ _ ((σ.next,SO.arr og ks (E.A.app rows rows2)) :: kill (some nm) σ.objs) _
    rw [eapp]
    have run1:=@run0 _ x2 ex s1 s5
    -- what holds where the memory stays as it is but at the old place and the new one
    by_cases hz:rows2.length=0
    ·have hz':rows2=[]:=List.length_eq_zero_iff.1 hz
     subst hz'
     rw [List.append_nil]
     obtain ⟨C',a,b,d⟩:=put_arr hM (dead:=some nm) (og:=og) hksp (rows:=rows) hlr (j:=C.ids nm) (nx':=nx) (cap:=cap0) (t:=t0) (m:=m0) (h':=h) hdead q1 q2 (Nat.le_refl _) q3 hjn (fun _ _ _=>rfl) (.inl ⟨nm,_,hl,hown,rfl⟩) o1 o2 o3 o4
     refine ⟨_,C',h,nx,a,b,d,fun _ _ _=>rfl,fun hv barv h1 h2=>⟨hv,fun k=>?_,fun id=>?_⟩⟩
     ·simp only [run1 barv hv h1,hh0]
      simp [appendX]
     ·split
      ·rename_i hid
       rcases hid with hid |hid
       ·exact h1 id hid
       ·omega
      ·rfl
    ·obtain ⟨n2,hn2⟩:∃n,rows2.length=n+1:=⟨rows2.length - 1,by omega⟩
     have hr:=room p1
     -- in place
     have inPlace:∀(cap':Option Nat),(∀c,cap'=some c→rows.length+rows2.length≤c∧c * ks.length≤m0)→(rows.length+rows2.length) * ks.length≤m0→
       (∀barv (hv:T O),(∀id∈footV (vx)++footV vy,hv.get id=h id)→geB barv (C.ids nm)=true→∀k,appendX barv hv nx ks.length ety.bytes (vx) rows2.length x2 k=CX.store barv hv (C.ids nm) (rows.length * ks.length) x2 fun h=>k (.slc (C.ids nm) ks.length 0 (rows.length+rows2.length) cap') h nx)→
       Writes C σ.objs σ.next bar h nx (footV (vx)++footV vy) (fun barv hv k=>opM E.E barv evc hv nx (.call c) k) (.slc σ.next) ((σ.next,.arr og ks (rows++rows2)) :: kill (some nm) σ.objs) (σ.next+1):=by
      intro cap' hcap' hfit hrun
      obtain ⟨tt,w1,w2⟩:=wrt_eq x2 t0 (rows.length * ks.length)
      obtain ⟨C',a,b,d⟩:=put_arr hM (dead:=some nm) (og:=og) hksp (rows:=rows++rows2) hlr12 (j:=C.ids nm) (nx':=nx) (cap:=cap') (t:=tt) (m:=m0) (h':=fun id=>if id=C.ids nm then some (.cells tt m0) else h id) hdead q1 q2 (Nat.le_refl _) q3 hjn
       (fun id hid _=>if_neg hid) (.inl ⟨nm,_,hl,hown,rfl⟩) (if_pos rfl) (by rw [alen];exact hfit) (by rw [alen];exact hcap')
       (rows_app hM o4 s4 tt.get (fun j hj=>by rw [w2,if_neg (by omega)]) (fun j hj=>by rw [w2,if_pos (by omega)];congr 1;omega))
      rw [alen] at d
      refine ⟨_,C',_,nx,a,b,d,fun id hid _=>if_neg (fun e=>hid (by rw [footx,e];simp)),fun hv barv h1 h2=>⟨hv.up (C.ids nm) (some (.cells tt m0)),fun k=>?_,fun id=>?_⟩⟩
      ·have hge:geB barv (C.ids nm)=true:=bleT (h2 _ (by rw [footx];simp) q1)
       simp only [run1 barv hv h1]
       rw [hrun barv hv h1 hge]
       have e1:hv.get (C.ids nm)=some (.cells t0 m0):=by rw [h1 _ (by rw [footx];simp)];exact o1
       have e3:Nat.ble (Nat.add (rows.length * ks.length) (CX.len x2)) m0=true:=bleT (by rw [len_eq,s2];show rows.length * ks.length+rows2.length * ks.length≤m0;rw [←Nat.add_mul];exact hfit)
       simp only [CX.store,e1,hge,s3,e3,w1,T.set_eq]
      ·rw [T.get_up]
       by_cases e:id=C.ids nm
       ·subst e;rw [if_pos rfl,if_pos (.inl (by rw [footx];simp)),if_pos rfl]
       ·rw [if_neg e]
        split
        ·rename_i hid
         rcases hid with hid |hid
         ·first |exact h1 id hid |(rw [if_neg e];exact h1 id hid)
         ·omega
        ·rfl
     -- a copy: what is old, read
     obtain ⟨xo,a1,a2,a3,a4⟩:=rows_cells hM (u:=t0.get) (off:=0) hksp (fun i hi=>FzR.cells _ _ _ _ 0 0 (fun j _=>by simp) _ (fun _=>rfl) (o4 i hi))
     cases cap0 with
     |some c0=>
      have o3':=o3 c0 rfl
      by_cases hfit:rows.length+rows2.length≤c0
      ·refine inPlace (some c0) (fun c hc=>by cases hc;exact ⟨hfit,o3'.2⟩) (Nat.le_trans (Nat.mul_le_mul_right _ hfit) o3'.2) fun barv hv h1 hge k=>?_
       have hfit':Nat.ble (Nat.add rows.length (n2+1)) c0=true:=bleT (by rw [hn2] at hfit;exact hfit)
       rw [hn2] at hr
       have hr':roomOk ety.bytes (Nat.add rows.length (n2+1))=true:=hr
       simp only [hn2,hh0,appendX,Nat.beq_refl,hr',Bool.and_self,hfit',fN_eq]
       rw [show Nat.add 0 (Nat.mul rows.length ks.length)=rows.length * ks.length from Nat.zero_add _]
       rfl
      ·obtain ⟨tt,w1,w2⟩:=wrt_eq (xo++x2) .e 0
       have xl:(xo++x2).length=(rows.length+rows2.length) * ks.length:=by rw [List.length_append,a1,s2,←Nat.add_mul]
       obtain ⟨C',a,b,d⟩:=put_arr hM (dead:=some nm) (og:=og) hksp (rows:=rows++rows2) hlr12 (j:=nx) (nx':=nx+1) (cap:=none) (t:=tt) (m:=(xo++x2).length) (h':=fun id=>if id=nx then some (.cells tt (xo++x2).length) else h id) hdead hM.barle (Nat.lt_succ_self _) (Nat.le_succ _) hnew hnewn
        (fun id hid _=>if_neg hid) (.inr (Nat.le_refl _)) (if_pos rfl) (by rw [alen,xl];exact Nat.le_refl _) (fun c hc=>by cases hc)
        (rows_app hM (u:=fun j=>xo[j]?) a4 s4 tt.get (fun j hj=>by rw [w2,if_pos (by rw [xl,Nat.add_mul];omega),Nat.sub_zero,List.getElem?_append_left (by omega)])
         (fun j hj=>by rw [w2,if_pos (by rw [xl,Nat.add_mul];omega),Nat.sub_zero,List.getElem?_append_right (by omega)];congr 1;omega))
       rw [alen] at d
       refine ⟨_,C',_,nx+1,a,b,d,fun id _ hid=>if_neg (by omega),fun hv barv h1 h2=>⟨hv.up nx (some (.cells tt (xo++x2).length)),fun k=>?_,fun id=>?_⟩⟩
       ·simp only [run1 barv hv h1]
        have hfit':Nat.ble (Nat.add rows.length (n2+1)) c0=false:=by
         cases hb:Nat.ble (Nat.add rows.length (n2+1)) c0 with
         |false=>rfl
         |true=>have:=Nat.le_of_ble_eq_true hb;rw [hn2] at hfit;exact absurd this hfit
        rw [hn2] at hr
        have hr':roomOk ety.bytes (Nat.add rows.length (n2+1))=true:=hr
        have hcells:∀k,cellsOf (fun _=>none) hv ks.length rows.length (.slc (C.ids nm) ks.length 0 rows.length (some c0)) k=k xo:=by
         intro k
         have e1:hv.get (C.ids nm)=some (.cells t0 m0):=by rw [h1 _ (by rw [footx];simp)];exact o1
         cases hl0:rows.length with
         |zero=>
          have:xo=[]:=List.length_eq_zero_iff.1 (by rw [a1,hl0];simp)
          subst this
          simp [cellsOf]
         |succ n=>
          have e2:Nat.ble (Nat.add 0 (Nat.mul (n+1) ks.length)) m0=true:=bleT (by rw [hl0] at o2;show 0+(n+1) * ks.length≤m0;omega)
          simp only [cellsOf,Nat.beq_refl,e1,e2]
          have:=rd_eq (t:=t0) xo 0 k (fun j hj=>a2 j (by omega))
          rw [a1,hl0] at this
          exact this
        have hone:oneAll (xo++x2)=true:=by
         rw [oneAll_iff] at a3 s3 ⊢
         intro v hv
         rcases List.mem_append.1 hv with hv |hv
         ·exact a3 v hv
         ·exact s3 v hv
        simp only [hn2,hh0,appendX,Nat.beq_refl,hr',Bool.and_self,hfit',fN_eq,hcells,fL_eq,grown,CX.newRow,hone,w1,len_eq,CX.new,T.set_eq]
        rfl
       ·rw [T.get_up]
        by_cases e:id=nx
        ·subst e;rw [if_pos rfl,if_pos (.inr ⟨Nat.le_refl _,Nat.lt_succ_self _⟩),if_pos rfl]
        ·rw [if_neg e]
         split
         ·rename_i hid
          rcases hid with hid |hid
          ·first |exact h1 id hid |(rw [if_neg e];exact h1 id hid)
          ·omega
         ·rfl
     |none=>
      by_cases hfit:(rows.length+rows2.length) * ks.length≤m0
      ·refine inPlace none (fun c hc=>by cases hc) hfit fun barv hv h1 hge k=>?_
       have e1:hv.get (C.ids nm)=some (.cells t0 m0):=by rw [h1 _ (by rw [footx];simp)];exact o1
       have hfit':Nat.ble (Nat.add 0 (Nat.mul (Nat.add rows.length (n2+1)) ks.length)) m0=true:=bleT (by rw [hn2] at hfit;show 0+(rows.length+(n2+1)) * ks.length≤m0;omega)
       rw [hn2] at hr
       have hr':roomOk ety.bytes (Nat.add rows.length (n2+1))=true:=hr
       simp only [hn2,hh0,appendX,Nat.beq_refl,hr',Bool.and_self,e1,hge,s3,hfit',fN_eq]
       rw [show Nat.add 0 (Nat.mul rows.length ks.length)=rows.length * ks.length from Nat.zero_add _]
       rfl
      ·obtain ⟨tt,w1,w2⟩:=wrt_eq x2 t0 (rows.length * ks.length)
       obtain ⟨C',a,b,d⟩:=put_arr hM (dead:=some nm) (og:=og) hksp (rows:=rows++rows2) hlr12 (j:=nx) (nx':=nx+1) (cap:=none) (t:=tt) (m:=(rows.length+rows2.length) * ks.length)
        (h':=fun id=>if id=nx then some (.cells tt ((rows.length+rows2.length) * ks.length)) else if id=C.ids nm then none else h id) hdead hM.barle (Nat.lt_succ_self _) (Nat.le_succ _) hnew hnewn
        (fun id hid hd=>by
         show (if id=nx then _ else if id=C.ids nm then none else h id)=h id
         rw [if_neg hid,if_neg (hd nm rfl _ hl hown)]) (.inr (Nat.le_refl _)) (if_pos rfl) (by rw [alen];exact Nat.le_refl _) (fun c hc=>by cases hc)
        (rows_app hM o4 s4 tt.get (fun j hj=>by rw [w2,if_neg (by omega)]) (fun j hj=>by rw [w2,if_pos (by omega)];congr 1;omega))
       rw [alen] at d
       refine ⟨_,C',_,nx+1,a,b,d,fun id hid hn=>?_,fun hv barv h1 h2=>⟨(hv.up (C.ids nm) none).up nx (some (.cells tt ((rows.length+rows2.length) * ks.length))),fun k=>?_,fun id=>?_⟩⟩
       ·show (if id=nx then _ else if id=C.ids nm then none else h id)=h id
        rw [if_neg (by omega),if_neg (fun e=>hid (by rw [footx,e];simp))]
       ·simp only [run1 barv hv h1]
        have e1:hv.get (C.ids nm)=some (.cells t0 m0):=by rw [h1 _ (by rw [footx];simp)];exact o1
        have hge:geB barv (C.ids nm)=true:=bleT (h2 _ (by rw [footx];simp) q1)
        have hfit':Nat.ble (Nat.add 0 (Nat.mul (Nat.add rows.length (n2+1)) ks.length)) m0=false:=by
         cases hb:Nat.ble (Nat.add 0 (Nat.mul (Nat.add rows.length (n2+1)) ks.length)) m0 with
         |false=>rfl
         |true=>
          have h3:=Nat.le_of_ble_eq_true hb
          rw [hn2] at hfit
          have h3:0+(rows.length+(n2+1)) * ks.length≤m0:=h3
          exact absurd (by omega) hfit
        have hold:Nat.ble (Nat.add 0 (Nat.mul rows.length ks.length)) m0=true:=bleT (by show 0+rows.length * ks.length≤m0;omega)
        rw [hn2] at hr
        have hr':roomOk ety.bytes (Nat.add rows.length (n2+1))=true:=hr
        simp only [hn2,hh0,appendX,Nat.beq_refl,hr',Bool.and_self,e1,hge,s3,hfit',hold,fN_eq,T.set_eq]
        rw [show Nat.mul rows.length ks.length=rows.length * ks.length from rfl,w1]
        rfl
       ·rw [T.get_up,T.get_up]
        by_cases e:id=nx
        ·subst e;rw [if_pos rfl,if_pos (.inr ⟨Nat.le_refl _,Nat.lt_succ_self _⟩),if_pos rfl]
        ·rw [if_neg e]
         by_cases e2:id=C.ids nm
         ·rw [if_pos e2,if_pos (.inl (by rw [footx,e2];simp)),if_neg e,if_pos e2]
         ·rw [if_neg e2]
          split
          ·rename_i hid
           rcases hid with hid |hid
           ·first |exact h1 id hid |(rw [if_neg e2];exact h1 id hid) |(rw [if_neg e,if_neg e2];exact h1 id hid)
           ·omega
          ·rfl
   split at hw
   ·rename_i hx
    simp only [Option.some.injEq] at hw
    subst hw
    obtain ⟨vx,x1,x2⟩:=hev.get hx (by intro e;cases e)
    simp only [RvS] at x2
    have p1:=hp _ (.head _)
    rw [hA] at p1
    exact ⟨_,footE x1,onNil (dead:=none) x2 x1 (fun nm e=>by cases e) p1 (fun q hq=>hp q (.tail _ hq))⟩
   ·rename_i nm hx
    split at hw
    ·rename_i og ks' rows hl
     split at hw
     ·rename_i hb
      rw [Bool.and_eq_true] at hb
      have hk:=kds_eq hb.1
      subst hk
      simp only [Option.some.injEq] at hw
      subst hw
      obtain ⟨vx,ex,x2⟩:=hev.get hx (by intro e;cases e)
      simp only [RvS] at x2
      obtain ⟨hnm,rfl,_⟩:=x2
      refine ⟨_,footE ex,?_⟩
      have p1:=hp _ (.head _)
      rw [hA] at p1
      have p1:(rows.length+rows2.length) * ety.bytes≤4294967296∧rows.length+rows2.length≤4294967296:=p1
      have hpp:∀q∈p,q:=fun q hq=>hp q (.tail _ hq)
      have eapp:E.A.app rows rows2=rows++rows2:=by rw [hA];rfl
      have hob:=hM.ob _ _ hl
      simp only [ObS] at hob
      obtain ⟨⟨_,hlr⟩,⟨hr0,hh0⟩ |⟨t0,m0,cap0,hh0,o1,o2,o3,o4⟩⟩:=hob
      ·have:=onNil (dead:=some nm) (og:=og) hh0 ex (fun nm' e=>by cases e;exact ⟨_,hl,by simp only [ownS,hh0];simp⟩) (by subst hr0;simpa using p1) hpp
       show Writes _ _ _ _ _ _ _ _ _ ((σ.next,SO.arr og ks (E.A.app rows rows2)) :: (nm,SO.gone) :: σ.objs) _
       rw [eapp,hr0]
       exact this
      ·have hown:ownS C nm (.arr og ks rows):=by simp only [ownS,hh0];intro e;cases e
       exact onArr hl hown hh0 ex hlr o1 o2 o3 o4 p1 hpp
     ·cases hw
    ·cases hw
   ·rename_i nm n hx
    split at hw
    ·rename_i og ks' rows hl
     split at hw
     ·rename_i hb
      rw [Bool.and_eq_true] at hb
      have hk:=kds_eq hb.1
      subst hk
      simp only [Option.some.injEq] at hw
      subst hw
      obtain ⟨vx,ex,x2⟩:=hev.get hx (by intro e;cases e)
      simp only [RvS,VwR] at x2
      have p1:=hp _ (.head _)
      have p2:=hp _ (.tail _ (.head _))
      rw [hA] at p1 p2
      have p1:(n+rows2.length) * ety.bytes≤4294967296∧n+rows2.length≤4294967296:=p1
      have p2:n≤rows.length:=p2
      have hpp:∀q∈p,q:=fun q hq=>hp q (.tail _ (.tail _ hq))
      have esub:E.A.sub' rows 0 n=rows.take n:=by rw [hA];show (rows.drop 0).take n=_;rw [List.drop_zero]
      have tl:(rows.take n).length=n:=by rw [List.length_take];omega
      have hob:=hM.ob _ _ hl
      simp only [ObS] at hob
      refine ⟨_,footE ex,?_⟩
      obtain ⟨hnm,⟨hh0,hv0,hn0⟩ |⟨es,len,cap0,off,cap,hh0,rfl,hoff,hcap,hln⟩⟩:=x2
      ·have:=onNil (dead:=some nm) (og:=og) hv0 ex (fun nm' e=>by cases e;exact ⟨_,hl,by simp only [ownS,hh0];simp⟩) (by subst hn0;simpa using p1) hpp
       show Writes _ _ _ _ _ _ _ _ _ ((σ.next,SO.arr og ks (E.A.app (E.A.sub' rows 0 n) rows2)) :: (nm,SO.gone) :: σ.objs) _
       have e0:E.A.app (E.A.sub' rows 0 n) rows2=rows2:=by rw [esub,hA,hn0];rfl
       rw [e0]
       exact this
      ·obtain ⟨⟨_,hlr⟩,⟨_,hh1⟩ |⟨t0,m0,cap1,hh1,o1,o2,o3,o4⟩⟩:=hob
       ·rw [hh0] at hh1;cases hh1
       ·have hown:ownS C nm (.arr og ks rows):=by simp only [ownS,hh0];intro e;cases e
        rw [hh0] at hh1
        simp only [V.slc.injEq,true_and] at hh1
        obtain ⟨rfl,rfl,rfl⟩:=hh1
        have hoff:off=0:=by
         rcases hoff with ⟨_,h⟩ |h
         ·exact h
         ·rw [h];exact Nat.zero_mul _
        subst hoff
        show Writes _ _ _ _ _ _ _ _ _ ((σ.next,SO.arr og ks (E.A.app (E.A.sub' rows 0 n) rows2)) :: kill (some nm) σ.objs) _
        rw [esub]
        refine onArr (rows:=rows.take n) hl hown (by rw [tl]) ex ⟨fun row h=>hlr.1 row (List.mem_of_mem_take h),by rw [tl];have:=hlr.2;omega⟩ o1 (by rw [tl];exact Nat.le_trans (Nat.mul_le_mul_right _ p2) o2) (fun c hc=>?_) (fun i hi=>?_) (by rw [tl];exact p1) hpp
        ·obtain ⟨h1,c0,h2,h3⟩:=hcap c hc
         exact ⟨by rw [tl];exact h1,Nat.le_trans (Nat.mul_le_mul_right _ h3) (o3 c0 h2).2⟩
        ·rw [tl] at hi
         have e:∀c,gt (rows.take n) i c=gt rows i c:=fun c=>by simp only [gt,List.getD_eq_getElem?_getD,List.getElem?_take,if_pos hi]
         rw [show gt (rows.take n) i=gt rows i from funext e]
         exact o4 i (by omega)
     ·cases hw
    ·cases hw
   ·cases hw
  ·cases hw
 ·cases hw
theorem zeros_ok (hT:TOk E.E) {c:Call} {t t':Nat} {x y:Operand} (hc:c.callee=.builtin .append) (ha:c.args.toList=[x,y]) (hat:c.argTypes.toList=[t,t']) (htt:t≠t') {ev:Operand→SV} {evc:Operand→Option V} (hev:EvOk C σ.next ev evc) {w:WR} (hw:xzeros E σ t t' (ev x) (ev y)=some w) (hp:∀p∈w.pre,p) :
  ∃F,foot evc (.call c)=some F∧Writes C σ.objs σ.next bar h nx F (fun barv hv k=>opM E.E barv evc hv nx (.call c) k) w.sv w.objs w.next:=by
 unfold xzeros at hw
 split at hw
 ·rename_i ks ety kk n hks hk' hx hy
  split at hw
  ·rename_i z hz
   simp only [Option.some.injEq] at hw
   subst hw
   have p1:=hp _ (.head _)
   have p2:=hp _ (.tail _ (.head _))
   have p3:=hp _ (.tail _ (.tail _ (.head _)))
   rw [hA] at p1 p2 p3
   have p1:0≤n:=p1
   obtain ⟨n',rfl,hn'⟩:=toNat_of hA p1
   have p2:n' * ety.size≤4096:=by have h3:((n':Nat):Int) * (ety.size:Int)≤4096:=p2;rw [←Int.natCast_mul] at h3;omega
   have p3:n' * ety.bytes≤4294967296∧n'≤4294967296:=p3
   obtain ⟨e,k1,k2,k3,k4,k5⟩:=eKs_ok hks
   have hksp:0 < ks.length:=by omega
   obtain ⟨vx,e1,e2⟩:=hev.get hx (by intro e;cases e)
   obtain ⟨vy,e3,e4⟩:=hev.get hy (by intro e;cases e)
   simp only [RvS] at e2 e4
   subst e2 e4
   have hbt:Nat.beq t t'=false:=by
    cases hb:Nat.beq t t' with
    |true=>exact absurd (Nat.eq_of_beq_eq_true hb) htt
    |false=>rfl
   have erep:E.A.rep (E.A.toNat (Int.ofNat n')) z=List.replicate n' z:=by rw [hA];rfl
   refine ⟨[],by simp only [foot,ha,foot1_eq e1,foot1_eq e3];rfl,?_⟩
   cases n' with
   |zero=>
    obtain ⟨a,b⟩:=hM.put0 (dead:=none) (og:=σ.next) hksp (fun nm e=>by cases e)
    show Writes _ _ _ _ _ _ _ _ _ ((σ.next,SO.arr σ.next ks (E.A.rep (E.A.toNat (Int.ofNat 0)) z)) :: kill none σ.objs) _
    rw [erep]
    refine ⟨.nils,_,h,nx,a,b,?_,fun _ _ _=>rfl,fun hv barv h1 h2=>⟨hv,fun k=>?_,fun id=>?_⟩⟩
    ·simp only [RvS,Cx.put,if_true,isHdr]
     exact ⟨Nat.lt_succ_self _,trivial,.inl trivial⟩
    ·simp only [opM,hc,ha,hat,evL,e1,e3,biX,k5,k1,k2,hbt,hk']
    ·split
     ·rename_i hid
      rcases hid with hid |hid
      ·simp at hid
      ·omega
     ·rfl
   |succ n'=>
    obtain ⟨⟨z1,z0⟩,z2⟩:=zD_ok (g:=C.g) (B:=nx) hz
    have hone:oneAll (CX.rep (n'+1) ety.zero)=true:=by
     rw [oneAll_iff]
     exact rep_mem (hT.zone _ _ k2) (n'+1)
    have hlen:(CX.rep (n'+1) ety.zero).length=(n'+1) * ks.length:=by rw [rep_len,hT.zlen _ _ k2,k3]
    obtain ⟨tt,w1,w2⟩:=wrt_eq (CX.rep (n'+1) ety.zero) .e 0
    have hbound:n'+1≤9223372036854775807:=by omega
    obtain ⟨a,b⟩:=new_arr hM (ks:=ks) (by omega) (rows:=E.A.rep (E.A.toNat (Int.ofNat (n'+1))) z) ⟨by rw [erep];intro row hr;rw [(List.mem_replicate.1 hr).2,z0],by rw [erep,List.length_replicate];exact hbound⟩ (t:=tt) (m:=(n'+1) * ks.length) (cap:=none) (by rw [erep,List.length_replicate];exact Nat.le_refl _)
     (fun c hc=>by cases hc) (fun i hi=>by
      rw [erep,List.length_replicate] at hi
      refine FzR.of _ _ _ _ fun j k hk=>?_
      obtain ⟨v,g1,g2⟩:=z2 j k hk
      have hj:j < ks.length:=(List.getElem?_eq_some_iff.1 hk).1
      refine ⟨v,?_,?_⟩
      ·have hle:(i+1) * ks.length≤(n'+1) * ks.length:=Nat.mul_le_mul_right _ (by omega)
       rw [Nat.add_mul] at hle
       rw [w2,if_pos ⟨by omega,by rw [hlen];omega⟩,Nat.sub_zero,Nat.zero_add,←z1,rep_get (n'+1) i j (by omega) (by omega)]
       exact g1
      ·rw [erep]
       simp only [gt,List.getD_eq_getElem?_getD,List.getElem?_replicate,hi,if_true,Option.getD_some,Nat.zero_add]
       simpa [List.getD_eq_getElem?_getD] using g2)
    refine ⟨.slc nx ks.length 0 (n'+1) none,_,_,nx+1,a,b,?_,fun id _ hid=>?_,fun hv barv _ _=>⟨hv.up nx (some (.cells tt ((n'+1) * ks.length))),fun k=>?_,fun id=>?_⟩⟩
    ·simp only [RvS,Cx.put,if_true,isHdr,erep,List.length_replicate]
     exact ⟨Nat.lt_succ_self _,trivial,.inr ⟨_,_,_,_,_,rfl⟩⟩
    ·show (if id=nx then _ else h id)=h id
     rw [if_neg (by omega)]
    ·have c1:(Nat.ble (Nat.mul (n'+1) ety.size) 4096 && roomOk ety.bytes (n'+1))=true:=by
      rw [show Nat.ble (Nat.mul (n'+1) ety.size) 4096=true from bleT p2]
      simp only [roomOk,Bool.true_and,Bool.and_eq_true]
      exact ⟨bleT p3.1,bleT p3.2⟩
     simp only [opM,hc,ha,hat,evL,e1,e3,biX,k5,k1,k2,hbt,hk',Int.ofNat_eq_natCast]
     show (match Nat.ble (Nat.mul (n'+1) ety.size) 4096 && roomOk ety.bytes (n'+1) with
      |true=>fL (CX.rep (n'+1) ety.zero) fun new=>grown hv nx ety.size (n'+1) new k
      |false=>none)=_
     simp only [c1,fL_eq,grown,CX.newRow,hone,w1,fN_eq,len_eq,hlen,CX.new,T.set_eq,k3]
    ·exact upGet _ _ _ _ _
  ·cases hw
 ·cases hw
theorem xw_ok (hT:TOk E.E) {op:Op} {ev:Operand→SV} {evc:Operand→Option V} (hev:EvOk C σ.next ev evc) {w:WR} (hw:xw E σ ev op=some w) (hp:∀p∈w.pre,p) :
  ∃F,foot evc op=some F∧Writes C σ.objs σ.next bar h nx F (fun barv hv k=>opM E.E barv evc hv nx op k) w.sv w.objs w.next:=by
 unfold xw at hw
 split at hw
 ·rename_i t
  split at hw
  ·rename_i ty hty
   split at hw
   ·rename_i ho
    simp only [Option.some.injEq] at hw
    subst hw
    exact ⟨[],rfl,alloc_ok hT hM hty ho⟩
   ·cases hw
  ·cases hw
 ·rename_i t x
  split at hw
  ·rename_i ho
   simp only [Option.some.injEq] at hw
   subst hw
   exact ⟨[],rfl,box_ok hT hM hev ho⟩
  ·cases hw
 ·rename_i t n ps
  exact ⟨[],rfl,buildSlice_ok hT hM hev hw⟩
 ·rename_i t x v
  exact store_ok hA hM hev hw hp
 ·rename_i t l c
  exact ⟨[],rfl,makeSlice_ok hA hT hM hev hw hp⟩
 ·rename_i c
  split at hw
  ·rename_i hc
   split at hw
   ·rename_i x y t t' ha hat
    split at hw
    ·rename_i hb
     simp only [beqN_iff] at hb
     exact append_ok hA hM hc ha hat hb hev hw hp
    ·rename_i hb
     simp only [beqN_not] at hb
     exact zeros_ok hA hM hT hc ha hat hb hev hw hp
   ·cases hw
  ·rename_i hc
   split at hw
   ·rename_i x y t ts ha hat
    exact copy_ok hA hM hc ha hat hev hw hp
   ·cases hw
  ·cases hw
 ·cases hw
end
end HX

namespace HX
open Go CX
variable {ro:Addr→Option V}
structure Br (b:Bool) (t:b=true→Prop) (e:b=false→Prop):Prop where
 t:∀h,t h
 e:∀h,e h
structure StuckO (o:Op) (σ:St):Prop where
 out:False
structure StuckG (o:Oper) (σ:St):Prop where
 out:False
structure StuckF (f:Nat) (args:List SV) (σ:St):Prop where
 out:False
def preK:List Prop→Prop→Prop
 |[],K=>K
 |p :: r,K=>p∧preK r K
theorem preK_ok:∀{l:List Prop} {K:Prop},preK l K→(∀p∈l,p)∧K
 |[],_,h=>⟨fun _ hp=>(by cases hp),h⟩
 |p :: r,_,h=>by
  obtain ⟨h1,h2⟩:=preK_ok h.2
  exact ⟨fun q hq=>(List.mem_cons.1 hq).elim (fun e=>e ▸ h.1) (fun hq=>h1 q hq),h2⟩
def St.mem (σ:St) (objs:List (Nat×SO)) (next:Nat):St:=⟨σ.nt,σ.regs,objs,next,σ.df⟩
abbrev CI:=SV→List SV→St→(SV→St→Prop)→Prop
def one (l:List SV):SV:=
 match l with
 |[x]=>x
 |l=>.tup l
def dOfA0 (σ:St) (own:Bool) (k:Kd) (v:SV):Option D:=
 match k,v with
 |.sl ks,.slc nm=>match look σ.objs nm with
  |some (.arr _ ks' rows)=>match own && kdsEq ks ks' with
   |true=>some (.l rows)
   |false=>none
  |some (.frz ks' rows)=>match kdsEq ks ks' with
   |true=>some (.l rows)
   |false=>none
  |_=>none
 |k,v=>dOf σ k v
def dOfA (σ:St) (own:Bool) (k:Kd) (v:SV):Option D:=
 match k,v with
 |.pt k,.ptr nm off=>match own,look σ.objs nm with
  |true,some (.cells l)=>match l[off]? with
   |some s=>dOfA0 σ true k s
   |none=>none
  |_,_=>none
 |k,v=>dOfA0 σ own k v
def dListA (σ:St) (own:Bool):List Kd→List SV→Option (List D)
 |[],[]=>some []
 |k :: ks,v :: vs=>match dOfA σ own k v with
  |some d=>match dListA σ own ks vs with
   |some l=>some (d :: l)
   |none=>none
  |none=>none
 |_,_=>none
def isAgg:SV→Bool
 |.agg _=>true
 |_=>false
def argsD (σ:St) (own:Bool):List (Bool×List Kd)→List SV→Option (List (List D))
 |[],[]=>some []
 |(g,ks) :: r,v :: vs=>match g == isAgg v with
  |true=>match dListA σ own ks (flat v) with
   |some d=>match argsD σ own r vs with
    |some ds=>some (d :: ds)
    |none=>none
   |none=>none
  |false=>none
 |_,_=>none
def resSV (A:Ar) (b:Nat) (f:Nat→Nat→D):List (Bool×List Kd)→Nat→Option (List SV)
 |[],_=>some []
 |(g,ks) :: r,i=>match pack g (mkCells A b ks (f i) 0) with
  |some v=>match resSV A b f r (i+1) with
   |some vs=>some (v :: vs)
   |none=>none
  |none=>none
def scalarK:Kd→Bool
 |.sl _=>false
 |.pt _=>false
 |_=>true
def scalarR (sg:Sig):Bool:=sg.results.all fun r=>r.2.all scalarK
def callC1 (E:Env) (sg:Sig) (g:Nat) (args:List SV) (K:SV→St→Prop) (σ:St) (ds:List (List D)):Prop:=
 match resSV E.A (σ.next+1) (E.fn g ds) sg.results 0 with
 |some vs=>E.pre g ds∧K (one vs) (σ.mem σ.objs (σ.next+1))
 |none=>StuckF g args σ
def callC (E:Env) (sg:Sig) (g:Nat) (args:List SV) (K:SV→St→Prop) (σ:St):Prop:=
 match argsD σ (scalarR sg) sg.params args with
 |some ds=>callC1 E sg g args K σ ds
 |none=>StuckF g args σ
theorem callC_eq (E:Env) (sg:Sig) (g:Nat) (args:List SV) (K:SV→St→Prop) (σ:St):callC E sg g args K σ =
 match argsD σ (scalarR sg) sg.params args with
 |some ds=>match resSV E.A (σ.next+1) (E.fn g ds) sg.results 0 with
  |some vs=>E.pre g ds∧K (one vs) (σ.mem σ.objs (σ.next+1))
  |none=>StuckF g args σ
 |none=>StuckF g args σ:=rfl
def callS2 (E:Env) (g:Nat) (l:List SV) (σ:St) (K:SV→St→Prop) (sg:Sig):Prop:=
 match scalarR sg with
 |true=>callC E sg g l K σ
 |false=>callC E sg g l K (σ.mem (frzL σ.objs l) σ.next)
def callS1 (E:Env) (ci:CI) (f:SV) (g:Nat) (l:List SV) (args:List SV) (σ:St) (K:SV→St→Prop):Prop:=
 match E.sig g with
 |some sg=>callS2 E g l σ K sg
 |none=>ci f args σ K
def callS (E:Env) (ci:CI) (f:SV) (args:List SV) (σ:St) (K:SV→St→Prop):Prop:=
 match f with
 |.fn g a b=>callS1 E ci f g (a++args++b) args σ K
 |_=>ci f args σ K
theorem callS_eq (E:Env) (ci:CI) (f:SV) (args:List SV) (σ:St) (K:SV→St→Prop):callS E ci f args σ K =
 match f with
 |.fn g a b=>match E.sig g with
  |some sg=>match scalarR sg with
   |true=>callC E sg g (a++args++b) K σ
   |false=>callC E sg g (a++args++b) K (σ.mem (frzL σ.objs (a++args++b)) σ.next)
  |none=>ci f args σ K
 |_=>ci f args σ K:=by cases f<;>rfl
def execW (E:Env) (ev:Operand→SV) (op:Op) (K:SV→St→Prop) (σ:St):Prop:=
 match xw E σ ev op with
 |some w=>preK w.pre (K w.sv (σ.mem w.objs w.next))
 |none=>StuckO op σ
structure NilB (p:Prop) (t:p→Prop) (e:Prop):Prop where
 t:∀h,t h
 e:e
def nilQ (E:Env) (σ:St) (ev:Operand→SV) (op:Op):Option (Rows×Bool):=
 match op with
 |.binOp o t x y _=>match norm σ (ev x),ev y,isSl (kindOf E.E t) with
  |.fz _ _ rows,.nils,true=>match o with
   |.eql=>some (rows,true)
   |.neq=>some (rows,false)
   |_=>none
  |_,_,_=>none
 |_=>none
def execQ (E:Env) (σ:St) (ev:Operand→SV) (op:Op) (K:SV→Prop):Prop:=
 match xq0 E σ ev op with
 |some q=>preK q.pre (K q.sv)
 |none=>StuckO op σ
def exec0 (E:Env) (σ:St) (ev:Operand→SV) (op:Op) (K:SV→Prop):Prop:=
 match nilQ E σ ev op with
 |some (rows,s)=>NilB (E.A.pNle (E.A.len rows) 0) (fun _=>K (.bool s)) (K (.bool (!s)))
 |none=>execQ E σ ev op K
theorem exec0_eq (E:Env) (σ:St) (ev:Operand→SV) (op:Op) (K:SV→Prop):exec0 E σ ev op K =
 match nilQ E σ ev op with
 |some (rows,s)=>NilB (E.A.pNle (E.A.len rows) 0) (fun _=>K (.bool s)) (K (.bool (!s)))
 |none=>match xq0 E σ ev op with
  |some q=>preK q.pre (K q.sv)
  |none=>StuckO op σ:=rfl
def execS (E:Env) (ev:Operand→SV) (op:Op) (σ:St) (K:SV→St→Prop):Prop:=
 match xstr E σ ev op with
 |some q=>preK q.pre (K q.sv σ)
 |none=>StuckO op σ
def execL (E:Env) (ev:Operand→SV) (op:Op) (σ:St) (K:SV→St→Prop):Prop:=
 match xq1 E σ ev op with
 |some q=>preK q.pre (K q.sv σ)
 |none=>execS E ev op σ K
def execC2 (E:Env) (ci:CI) (ev:Operand→SV) (op:Op) (c:Call) (σ:St) (K:SV→St→Prop) (f:Operand):Prop:=
 match knownC (ev f) && (c.args.toList.map ev).all knownC with
 |true=>callS E ci (ev f) (c.args.toList.map ev) σ K
 |false=>StuckO op σ
def execC1 (E:Env) (ci:CI) (ev:Operand→SV) (op:Op) (c:Call) (σ:St) (K:SV→St→Prop):Prop:=
 match c.callee with
 |.value f=>execC2 E ci ev op c σ K f
 |_=>StuckO op σ
def execC (E:Env) (ci:CI) (ev:Operand→SV) (op:Op) (σ:St) (K:SV→St→Prop):Prop:=
 match op with
 |.call c=>execC1 E ci ev op c σ K
 |_=>StuckO op σ
def exec1 (E:Env) (ci:CI) (ev:Operand→SV) (op:Op) (σ:St) (K:SV→St→Prop):Prop:=
 match clsOf E.E op with
 |0=>exec0 E σ ev op fun v=>K v σ
 |1=>execL E ev op σ K
 |2=>execW E ev op K (σ.mem (frzL σ.objs (wants ev op)) σ.next)
 |3=>execC E ci ev op σ K
 |_=>StuckO op σ
theorem exec1_eq (E:Env) (ci:CI) (ev:Operand→SV) (op:Op) (σ:St) (K:SV→St→Prop):exec1 E ci ev op σ K =
 match clsOf E.E op with
 |0=>exec0 E σ ev op fun v=>K v σ
 |1=>match xq1 E σ ev op with
  |some q=>preK q.pre (K q.sv σ)
  |none=>match xstr E σ ev op with
   |some q=>preK q.pre (K q.sv σ)
   |none=>StuckO op σ
 |2=>execW E ev op K (σ.mem (frzL σ.objs (wants ev op)) σ.next)
 |3=>match op with
  |.call c=>match c.callee with
   |.value f=>match knownC (ev f) && (c.args.toList.map ev).all knownC with
    |true=>callS E ci (ev f) (c.args.toList.map ev) σ K
    |false=>StuckO op σ
   |_=>StuckO op σ
  |_=>StuckO op σ
 |_=>StuckO op σ:=by
 unfold exec1
 split<;>first |rfl |(cases op<;>rfl)
def putS (σ:St) (dst:Option Nat) (v:SV):Option St:=
 match dst with
 |none=>some σ
 |some d=>match bltN d σ.nt with
  |true=>some ⟨σ.nt,(d,v) :: σ.regs,σ.objs,σ.next,σ.df⟩
  |false=>none
def St.know (σ:St) (d:Nat) (b:Bool):St:=⟨σ.nt,(d,.bool b) :: σ.regs,σ.objs,σ.next,σ.df⟩
def sameB (a b:Bool):Bool:=
 match a,b with
 |true,true=>true
 |false,false=>true
 |_,_=>false
def wantS3 (σ:St) (o:Oper) (K:Bool→St→Prop) (want:Bool) (d:Nat):Prop:=
 match look σ.regs d with
 |some (.bool b)=>K (sameB b want) σ
 |some (.sym b)=>Br b (fun _=>K (sameB true want) (σ.know d true)) (fun _=>K (sameB false want) (σ.know d false))
 |some (.tup [])=>K false σ
 |_=>StuckG o σ
def wantS2 (σ:St) (o:Oper) (K:Bool→St→Prop) (want:Bool) (og:Oper):Prop:=
 match og.dst with
 |some d=>wantS3 σ o K want d
 |none=>StuckG o σ
def wantS1 (σ:St) (all:List Oper) (o:Oper) (K:Bool→St→Prop) (g:Nat) (want:Bool):Prop:=
 match all[g]? with
 |some og=>wantS2 σ o K want og
 |none=>StuckG o σ
def wantS (σ:St) (all:List Oper) (o:Oper) (K:Bool→St→Prop):Prop:=
 match o.guard with
 |none=>K true σ
 |some (g,want)=>wantS1 σ all o K g want
theorem wantS_eq (σ:St) (all:List Oper) (o:Oper) (K:Bool→St→Prop):wantS σ all o K =
 match o.guard with
 |none=>K true σ
 |some (g,want)=>match all[g]? with
  |some og=>match og.dst with
   |some d=>match look σ.regs d with
    |some (.bool b)=>K (sameB b want) σ
    |some (.sym b)=>Br b (fun _=>K (sameB true want) (σ.know d true)) (fun _=>K (sameB false want) (σ.know d false))
    |some (.tup [])=>K false σ
    |_=>StuckG o σ
   |none=>StuckG o σ
  |none=>StuckG o σ:=rfl
def seqP (o:Oper) (σ:St) (x:Option St) (k:St→Prop):Prop:=
 match x with
 |some σ'=>k σ'
 |none=>StuckG o σ
def seqB (E:Env) (ci:CI) (o:Oper) (next:St→Prop) (b:Bool) (σ:St):Prop:=
 match b with
 |true=>exec1 E ci (evR σ.regs) o.op σ fun v σ'=>seqP o σ' (putS σ' o.dst v) next
 |false=>seqP o σ (putS σ o.dst (.tup [])) next
def seqS (E:Env) (ci:CI) (all:List Oper):List Oper→St→(St→Prop)→Prop
 |[],σ,K=>K σ
 |o :: r,σ,K=>wantS σ all o (seqB E ci o fun σ'=>seqS E ci all r σ' K)
theorem seqS_cons (E:Env) (ci:CI) (all:List Oper) (o:Oper) (r:List Oper) (σ:St) (K:St→Prop):seqS E ci all (o :: r) σ K =
 wantS σ all o fun b σ=>match b with
  |true=>exec1 E ci (evR σ.regs) o.op σ fun v σ'=>match putS σ' o.dst v with
   |some σ'=>seqS E ci all r σ' K
   |none=>StuckG o σ'
  |false=>match putS σ o.dst (.tup []) with
   |some σ'=>seqS E ci all r σ' K
   |none=>StuckG o σ:=rfl
def Evt (p:Nat→Prop):Prop:=∃n0,∀n,n0≤n→p n
theorem Evt.of {p:Nat→Prop} (h:∀n,p n):Evt p:=⟨0,fun n _=>h n⟩
theorem Evt.and {p q:Nat→Prop} (h:Evt p) (k:Evt q):Evt fun n=>p n∧q n:=by
 obtain ⟨a,h⟩:=h
 obtain ⟨b,k⟩:=k
 exact ⟨max a b,fun n hn=>⟨h n (by omega),k n (by omega)⟩⟩
theorem Evt.mono {p q:Nat→Prop} (h:Evt p) (k:∀n,p n→q n):Evt q:=let ⟨a,h⟩:=h;⟨a,fun n hn=>k n (h n hn)⟩
theorem Evt.succ {p q:Nat→Prop} (h:Evt p) (k:∀n,p n→q (n+1)):Evt q:=by
 obtain ⟨a,h⟩:=h
 exact ⟨a+1,fun n hn=>by
  obtain ⟨m,rfl⟩:∃m,n=m+1:=⟨n - 1,by omega⟩
  exact k m (h m (by omega))⟩
structure Ext (lo:Nat) (C:Cx ro) (σ:St) (S:CX.St) (C':Cx ro) (σ':St) (S':CX.St):Prop where
 m:MExt C σ.objs lo S.h.get S.nx C' σ'.objs σ'.next S'.h.get S'.nx
 bar:S'.bar=S.bar
 df:∀i∈S'.df,i∈S.df∨S.nx≤i
theorem Ext.refl {lo:Nat} (C:Cx ro) (σ:St) (S:CX.St) (h:lo≤σ.next):Ext lo C σ S C σ S:=⟨(MExt.refl _ _ _ _ _).less h,rfl,fun _ h=>.inl h⟩
theorem Ext.trans {lo:Nat} {C C1 C2:Cx ro} {σ σ1 σ2:St} {S S1 S2:CX.St} (h:Ext lo C σ S C1 σ1 S1) (k:Ext lo C1 σ1 S1 C2 σ2 S2):Ext lo C σ S C2 σ2 S2:=
 ⟨⟨h.m.ag.trans (Nat.le_refl _) k.m.ag,k.m.le,Nat.le_trans h.m.nxle k.m.nxle,fun id hid ho=>by
  rw [k.m.keep id (Nat.lt_of_lt_of_le hid h.m.nxle) fun hh=>?_,h.m.keep id hid ho]
  rcases h.m.own id hh with h' |h'
  ·exact ho h'
  ·omega,fun id ho=>by
  rcases k.m.own id ho with h' |h'
  ·exact h.m.own id h'
  ·exact .inr (Nat.le_trans h.m.nxle h'),fun id o hg=>by
  rcases k.m.g id o hg with h' |h' |h'
  ·exact h.m.g id o h'
  ·exact .inr (h.m.own id h')
  ·exact .inr (.inr (Nat.le_trans h.m.nxle h'))⟩,k.bar.trans h.bar,fun i hi=>by
  rcases k.df i hi with h' |h'
  ·exact h.df i h'
  ·exact .inr (Nat.le_trans h.m.nxle h')⟩
def SWP (E:CX.Env) (rd:Option Nat) (lo:Nat) (c:Code) (Q:Ex→St→Prop) (σ:St):Prop:=
 ∀(C:Cx E.ro) S,Sim C σ S→lo≤σ.next→(∀l,rd=some l→l < lo)→∃e S' C' σ',Evt (fun n=>cx E n (rd.map C.ids) c S=some (e,S'))∧Sim C' σ' S'∧Ext lo C σ S C' σ' S'∧Q e σ'
def CallOk (E:CX.Env) (run:Nat→(V→T O→Nat→R)→R) (C:Cx E.ro) (σ:St) (bar:Nat) (h:Nat→Option O) (nx:Nat) (K:SV→St→Prop):Prop:=
 ∃(v:V) (C':Cx E.ro) (h':T O) (nx':Nat) (s:SV) (σ':St),Evt (fun n=>∀k,run n k=k v h' nx')∧MSim C' σ'.objs σ'.next bar h'.get nx'∧MExt C σ.objs σ.next h nx C' σ'.objs σ'.next h'.get nx'∧RvS C' σ'.next s v∧
  σ'.nt=σ.nt∧σ'.regs=σ.regs∧σ'.df=σ.df∧K s σ'
def CIOk (E:CX.Env) (ci:CI):Prop:=∀f args σ K,ci f args σ K→∀(C:Cx E.ro) bar (h:T O) nx,MSim C σ.objs σ.next bar h.get nx→∀vf va,RvS C σ.next f vf→RvSL C σ.next args va→
 CallOk E (fun n k=>callV E (cx E n) bar h nx vf va k) C σ bar h.get nx K
def FzA (ro:Addr→Option V) (g:Nat→Option O) (B:Nat) (agg:Bool) (ks:List Kd) (d:Nat→D) (v:V):Prop:=
 ∃x:List V,x.length=ks.length∧(∀j k,ks[j]?=some k→∃u,x[j]?=some u∧FzC ro g B k (d j) u)∧match agg with
  |true=>v=.agg x
  |false=>∃u,x=[u]∧v=u
def ArgsFz (ro:Addr→Option V) (g:Nat→Option O) (B:Nat):List (Bool×List Kd)→List (List D)→List V→Prop
 |[],[],[]=>True
 |(a,ks) :: ps,d :: ds,v :: vs=>d.length=ks.length∧FzA ro g B a ks (fun c=>d.getD c .nil) v∧ArgsFz ro g B ps ds vs
 |_,_,_=>False
def ResFz (ro:Addr→Option V) (g:Nat→Option O) (B:Nat) (f:Nat→Nat→D):List (Bool×List Kd)→Nat→List V→Prop
 |[],_,[]=>True
 |(a,ks) :: ps,i,v :: vs=>FzA ro g B a ks (f i) v∧ResFz ro g B f ps (i+1) vs
 |_,_,_=>False
def PureC (E:CX.Env) (f:Nat) (sg:Sig) (pre:List (List D)→Prop) (fn:List (List D)→Nat→Nat→D):Prop:=
 ∀ds,pre ds→∀(g:Nat→Option O) (bar nx:Nat) (h:T O) (args:List V),(∀id o,g id=some o→id < nx∧h.get id=some o)→bar≤nx→ArgsFz E.ro g nx sg.params ds args→
  ∃(vs:List V) (h':T O) (nx':Nat) (g':Nat→Option O),Evt (fun n=>∀k,callF E (cx E n) bar h nx f args k=k (CX.one vs) h' nx')∧nx≤nx'∧(∀id,id < nx→h'.get id=h.get id)∧(∀id o,g id=some o→g' id=some o)∧
   (∀id o,g' id=some o→(id < nx'∧h'.get id=some o)∧(g id=some o∨nx≤id))∧ResFz E.ro g' nx' (fn ds) sg.results 0 vs
structure EnvOk (E:Env):Prop where
 A:E.A=Ar.std
 T:TOk E.E
 ctr:∀f sg,E.sig f=some sg→PureC E.E f sg (E.pre f) (E.fn f)
end HX

namespace HX
open Go CX
variable {ro:Addr→Option V}
theorem dOfA0_ok {C:Cx ro} {σ:St} {bar:Nat} {h:Nat→Option O} {nx:Nat} (hM:MSim C σ.objs σ.next bar h nx) {g:Nat→Option O} (hg:∀id o,C.g id=some o→g id=some o) {own:Bool} (hgo:own=true→∀id,id < nx→g id=h id)
  {k:Kd} {s:SV} {d:D} (hd:dOfA0 σ own k s=some d) {v:V} (hs:RvS C σ.next s v):FzC ro g nx k d v:=by
 unfold dOfA0 at hd
 split at hd
 ·rename_i ks nm
  split at hd
  ·rename_i og ks' rows hl
   split at hd
   ·rename_i hk
    rw [Bool.and_eq_true] at hk
    obtain ⟨hown0,hk⟩:=hk
    have hk:=kds_eq hk
    subst hk
    simp only [Option.some.injEq] at hd
    subst hd
    simp only [RvS] at hs
    obtain ⟨_,rfl,_⟩:=hs
    have hob:=hM.ob _ _ hl
    simp only [ObS] at hob
    simp only [FzC,D.rows]
    obtain ⟨hpos,hob⟩:=hob
    refine ⟨⟨_,rfl,hpos.2⟩,?_⟩
    have hpos:=hpos.1
    obtain ⟨hr,hh⟩ |⟨t,m,cap,hh,o1,o2,o3,o4⟩:=hob
    ·exact .inl ⟨hr,hh⟩
    ·have hown:ownS C nm (.arr og ks rows):=by simp only [ownS,hh];intro e;cases e
     refine .inr (.inl ⟨C.ids nm,0,cap,hh,hpos,fun c hc=>(o3 c hc).1,(hM.own _ _ hl hown).2.1,t,m,?_,by omega,fun i hi=>?_⟩)
     ·rw [hgo hown0 _ (hM.own _ _ hl hown).2.1];exact o1
     ·refine FzR.mono (fun id o _ h'=>hg id o h') (Nat.le_refl _) _ _ _ _ ?_
      exact FzR.cells _ _ _ _ 0 0 (fun j _=>by simp) _ (fun _=>rfl) (o4 i hi)
   ·cases hd
  ·rename_i ks' rows hl
   split at hd
   ·rename_i hk
    have hk:=kds_eq hk
    subst hk
    simp only [Option.some.injEq] at hd
    subst hd
    simp only [RvS] at hs
    obtain ⟨_,rfl,_⟩:=hs
    exact FzC.mono (fun id o _ h'=>hg id o h') (Nat.le_refl _) _ _ _ (hM.ob _ _ hl).2.1
   ·cases hd
  ·cases hd
 ·exact FzC.mono (fun id o _ h'=>hg id o h') (Nat.le_refl _) _ _ _ (dOf_ok hM hd hs)
theorem dOfA_ok {C:Cx ro} {σ:St} {bar:Nat} {h:Nat→Option O} {nx:Nat} (hM:MSim C σ.objs σ.next bar h nx) {g:Nat→Option O} (hg:∀id o,C.g id=some o→g id=some o) {own:Bool} (hgo:own=true→∀id,id < nx→g id=h id)
  {k:Kd} {s:SV} {d:D} (hd:dOfA σ own k s=some d) {v:V} (hs:RvS C σ.next s v):FzC ro g nx k d v:=by
 unfold dOfA at hd
 split at hd
 ·rename_i k nm off
  cases ho:own with
  |false=>subst ho;simp at hd
  |true=>
   subst ho
   cases hl:look σ.objs nm with
   |none=>rw [hl] at hd;simp at hd
   |some so=>
    rw [hl] at hd
    cases so with
    |cells l=>
     simp only at hd
     split at hd
     ·rename_i s' hs'
      simp only [RvS] at hs
      obtain ⟨_,rfl⟩:=hs
      have hob:=hM.ob _ _ hl
      simp only [ObS] at hob
      obtain ⟨t,o1,o2⟩:=hob
      obtain ⟨u,u1,_,u3⟩:=o2 off s' hs'
      have hlt:=(hM.own _ _ hl trivial).2.1
      simp only [FzC]
      exact ⟨C.ids nm,off,t,l.length,u,rfl,hlt,by rw [hgo rfl _ hlt];exact o1,(List.getElem?_eq_some_iff.1 hs').1,u1,dOfA0_ok hM hg hgo hd u3⟩
     ·cases hd
    |_=>simp at hd
 ·exact dOfA0_ok hM hg hgo hd hs
theorem dListA_ok {C:Cx ro} {σ:St} {bar:Nat} {h:Nat→Option O} {nx:Nat} (hM:MSim C σ.objs σ.next bar h nx) {g:Nat→Option O} (hg:∀id o,C.g id=some o→g id=some o) {own:Bool} (hgo:own=true→∀id,id < nx→g id=h id) :
  ∀{ks:List Kd} {l:List SV} {ds:List D},dListA σ own ks l=some ds→∀{x:List V},RvSL C σ.next l x→(x.length=ks.length∧ds.length=ks.length)∧∀j k,ks[j]?=some k→∃v,x[j]?=some v∧FzC ro g nx k (ds.getD j .nil) v
 |[],[],ds,hd,x,hx=>by
  simp only [dListA,Option.some.injEq] at hd
  subst hd
  cases x with
  |nil=>exact ⟨⟨rfl,rfl⟩,fun j k hk=>by simp at hk⟩
  |cons _ _=>simp [RvSL] at hx
 |k :: ks,s :: l,ds,hd,x,hx=>by
  simp only [dListA] at hd
  split at hd
  ·rename_i d hd1
   split at hd
   ·rename_i ds' hd2
    simp only [Option.some.injEq] at hd
    subst hd
    cases x with
    |nil=>simp [RvSL] at hx
    |cons v x=>
     simp only [RvSL] at hx
     obtain ⟨h1,h2⟩:=dListA_ok hM hg hgo hd2 hx.2
     refine ⟨⟨by simp [h1.1],by simp [h1.2]⟩,fun j k' hk=>?_⟩
     cases j with
     |zero=>
      simp only [List.getElem?_cons_zero,Option.some.injEq] at hk
      subst hk
      exact ⟨v,by simp,by simpa using dOfA_ok hM hg hgo hd1 hx.1⟩
     |succ j=>
      obtain ⟨v',a,b⟩:=h2 j k' (by simpa using hk)
      exact ⟨v',by simpa using a,by simpa using b⟩
   ·cases hd
  ·cases hd
 |[],_ :: _,ds,hd,_,_=>by simp [dListA] at hd
 |_ :: _,[],ds,hd,_,_=>by simp [dListA] at hd
theorem argsD_ok {C:Cx ro} {σ:St} {bar:Nat} {h:Nat→Option O} {nx:Nat} (hM:MSim C σ.objs σ.next bar h nx) {g:Nat→Option O} (hg:∀id o,C.g id=some o→g id=some o) {own:Bool} (hgo:own=true→∀id,id < nx→g id=h id) :
  ∀{ps:List (Bool×List Kd)} {l:List SV} {ds:List (List D)},argsD σ own ps l=some ds→∀{x:List V},RvSL C σ.next l x→ArgsFz ro g nx ps ds x
 |[],[],ds,hd,x,hx=>by
  simp only [argsD,Option.some.injEq] at hd
  subst hd
  cases x with
  |nil=>trivial
  |cons _ _=>simp [RvSL] at hx
 |(a,ks) :: ps,s :: l,ds,hd,x,hx=>by
  simp only [argsD] at hd
  split at hd
  ·rename_i ha
   split at hd
   ·rename_i d hd1
    split at hd
    ·rename_i ds' hd2
     simp only [Option.some.injEq] at hd
     subst hd
     cases x with
     |nil=>simp [RvSL] at hx
     |cons v x=>
      simp only [RvSL] at hx
      simp only [ArgsFz]
      obtain ⟨⟨h1,h0⟩,h2⟩:=dListA_ok hM hg hgo hd1 hx.1.flat
      refine ⟨h0,?_,argsD_ok hM hg hgo hd2 hx.2⟩
      have ha:=eq_of_beq ha
      refine ⟨CX.flat v,h1,h2,?_⟩
      cases s with
      |agg l=>
       have hv:=hx.1
       simp only [RvS] at hv
       obtain ⟨y,hy,rfl⟩:=hv
       have:a=true:=ha
       subst this;rfl
      |_=>
       all_goals
        have:a=false:=ha
        subst this
        have hlen:=hx.1.flat.length
        simp only [flat,List.length_cons,List.length_nil] at hlen
        have hv:=hx.1
        refine ⟨v,?_,rfl⟩
        cases v<;>first |rfl |skip
        all_goals (exfalso;simp [RvS,VwR,FelR,FzC,isHdr] at hv)
    ·cases hd
   ·cases hd
  ·cases hd
 |[],_ :: _,ds,hd,_,_=>by simp [argsD] at hd
 |_ :: _,[],ds,hd,_,_=>by simp [argsD] at hd
theorem resSV_ok {E:Env} (hA:E.A=Ar.std) {C:Cx ro} {n b:Nat} (hb:b≤n) {f:Nat→Nat→D}:∀(ps:List (Bool×List Kd)) (i:Nat) {l:List SV},resSV E.A b f ps i=some l→∀{x:List V},ResFz ro C.g (C.bd b) f ps i x→RvSL C n l x
 |[],i,l,h,x,hx=>by
  simp only [resSV,Option.some.injEq] at h
  subst h
  cases x with
  |nil=>trivial
  |cons _ _=>simp [ResFz] at hx
 |(g,ks) :: ps,i,l,h,x,hx=>by
  simp only [resSV] at h
  split at h
  ·rename_i s hs
   split at h
   ·rename_i ss hss
    simp only [Option.some.injEq] at h
    subst h
    cases x with
    |nil=>simp [ResFz] at hx
    |cons v x=>
     simp only [ResFz] at hx
     simp only [RvSL]
     refine ⟨?_,resSV_ok hA hb ps (i+1) hss hx.2⟩
     obtain ⟨⟨y,y1,y2,y3⟩,_⟩:=hx
     have hcells:RvSL C n (mkCells E.A b ks (f i) 0) y:=by
      obtain ⟨z,z1,z2,z3⟩:=mkCells_ok hA hb ks (f i) (fun j=>y[j]?) 0 (FzR.of _ _ _ _ fun j k hk=>by
       obtain ⟨u,a,b⟩:=y2 j k hk
       exact ⟨u,by simpa using a,by simpa using b⟩)
      have:z=y:=by
       refine List.ext_getElem? fun j=>?_
       by_cases hj:j < ks.length
       ·rw [←z3 j hj];simp
       ·rw [List.getElem?_eq_none (by omega),List.getElem?_eq_none (by omega)]
      rw [←this];exact z1
     cases g with
     |true=>
      simp only [pack,Option.some.injEq] at hs
      subst hs
      simp only at y3
      simp only [RvS]
      exact ⟨y,hcells,y3⟩
     |false=>
      simp only at y3
      obtain ⟨u,rfl,rfl⟩:=y3
      unfold pack at hs
      simp only at hs
      split at hs
      ·rename_i w hw
       simp only [Option.some.injEq] at hs
       subst hs
       rw [hw] at hcells
       simp only [RvSL] at hcells
       exact hcells.1
      ·cases hs
   ·cases h
  ·cases h
theorem RvSL_one {C:Cx ro} {n:Nat} {l:List SV} {x:List V} (h:RvSL C n l x):RvS C n (one l) (CX.one x):=by
 match l,x,h with
 |[],[],_=>simp only [one,CX.one,RvS];exact ⟨[],trivial,rfl⟩
 |[s],[v],h=>simp only [RvSL] at h;exact h.1
 |a :: b :: l,c :: d :: x,h=>simp only [one,CX.one,RvS];exact ⟨_,h,rfl⟩
 |[],_ :: _,h=>simp [RvSL] at h
 |_ :: _,[],h=>simp [RvSL] at h
 |[_],_ :: _ :: _,h=>simp [RvSL] at h
 |_ :: _ :: _,[_],h=>simp [RvSL] at h
theorem FzC_scalar {g g':Nat→Option O} {B B':Nat} {k:Kd} (hk:scalarK k=true) {d:D} {v:V} (h:FzC ro g B k d v):FzC ro g' B' k d v:=by
 cases k<;>simp only [scalarK] at hk<;>first |(simp only [FzC] at h ⊢;exact h) |cases hk
theorem ResFz_scalar {g g':Nat→Option O} {B B':Nat} {f:Nat→Nat→D}:∀{ps:List (Bool×List Kd)} {i:Nat} {x:List V},(ps.all fun r=>r.2.all scalarK)=true→ResFz ro g B f ps i x→ResFz ro g' B' f ps i x
 |[],_,[],_,_=>trivial
 |(a,ks) :: ps,i,v :: x,hs,h=>by
  simp only [List.all_cons,Bool.and_eq_true] at hs
  simp only [ResFz] at h ⊢
  refine ⟨?_,ResFz_scalar hs.2 h.2⟩
  obtain ⟨y,y1,y2,y3⟩:=h.1
  refine ⟨y,y1,fun j k hk=>?_,y3⟩
  obtain ⟨u,a1,a2⟩:=y2 j k hk
  exact ⟨u,a1,FzC_scalar (List.all_eq_true.1 hs.1 k (List.mem_of_getElem? hk)) a2⟩
 |[],_,_ :: _,_,h=>by simp [ResFz] at h
 |_ :: _,_,[],_,h=>by simp [ResFz] at h
theorem MSim.bump {C:Cx ro} {objs:List (Nat×SO)} {n bar:Nat} {h h':Nat→Option O} {nx nx':Nat} (hM:MSim C objs n bar h nx) (hnx:nx≤nx') (hh:∀id,id < nx→h' id=h id) {g':Nat→Option O} (hg:∀id o,C.g id=some o→g' id=some o)
  (hg':∀id o,g' id=some o→(id < nx'∧h' id=some o)∧(C.g id=some o∨nx≤id)) :
  MSim (ro:=ro) ⟨C.ids,C.hdr,g',fun b=>if b=n+1 then nx' else C.bd b⟩ objs (n+1) bar h' nx'∧MExt C objs n h nx ⟨C.ids,C.hdr,g',fun b=>if b=n+1 then nx' else C.bd b⟩ objs (n+1) h' nx':=by
 have ha:Ag n C ⟨C.ids,C.hdr,g',fun b=>if b=n+1 then nx' else C.bd b⟩:=⟨fun _ _=>rfl,fun _ _=>rfl,fun b hb=>if_neg (by omega),hg⟩
 have ho:∀{nm so},look objs nm=some so→ownS ⟨C.ids,C.hdr,g',fun b=>if b=n+1 then nx' else C.bd b⟩ nm so→ownS C nm so:=fun hl h=>(ownS_ag ha (hM.lt _ _ hl)).1 h
 refine ⟨⟨fun nm so hl=>Nat.lt_succ_of_lt (hM.lt _ _ hl),fun nm so hl=>?_,fun nm so hl hw=>?_,fun a b s s' hla hlb hoa hob hne=>hM.inj _ _ _ _ hla hlb (ho hla hoa) (ho hlb hob) hne,fun id o hgo=>(hg' id o hgo).1,fun b hb=>?_,if_pos rfl,Nat.le_trans hM.barle hnx,(ha.bd 0 (Nat.zero_le _)).trans hM.z⟩,ha,Nat.le_succ _,hnx,fun id hid _=>hh id hid,fun id hid=>?_,fun id o hgo=>?_⟩
 ·exact ObS.mono ha (Nat.le_succ _) hnx (hM.lt _ _ hl) (fun hw=>hh _ (hM.own _ _ hl hw).2.1) (hM.ob _ _ hl)
 ·obtain ⟨a,b,c⟩:=hM.own _ _ hl (ho hl hw)
  refine ⟨a,Nat.lt_of_lt_of_le b hnx,?_⟩
  cases e:g' (C.ids nm) with
  |none=>exact e
  |some o=>
   rcases (hg' _ _ e).2 with h |h
   ·rw [c] at h;cases h
   ·omega
 ·show (if b=n+1 then nx' else C.bd b)≤nx'
  split
  ·exact Nat.le_refl _
  ·have:=hM.bd b (by omega);omega
 ·obtain ⟨nm,so,hl,hw,e⟩:=hid
  exact .inl ⟨nm,so,hl,ho hl hw,e⟩
 ·rcases (hg' id o hgo).2 with h |h
  ·exact .inl h
  ·exact .inr (.inr h)
section
variable {E:Env} (hE:EnvOk E)
include hE
def CallQ (E:CX.Env) (run:Nat→(V→T O→Nat→R)→R) (C:Cx E.ro) (σ:St) (bar:Nat) (h:Nat→Option O) (nx:Nat) (K:SV→St→Prop):Prop:=
 ∃(v:V) (C':Cx E.ro) (h':T O) (nx':Nat) (s:SV) (σ':St),Evt (fun n=>∀k,run n k=k v h' nx')∧MSim C' σ'.objs σ'.next bar h'.get nx'∧MExt C σ.objs σ.next h nx C' σ'.objs σ'.next h'.get nx'∧RvS C' σ'.next s v∧
  σ'.nt=σ.nt∧σ'.regs=σ.regs∧σ'.df=σ.df∧K s σ'∧∀id,id < nx→h'.get id=h id
omit hE in
theorem CallQ.ok {E:CX.Env} {run:Nat→(V→T O→Nat→R)→R} {C:Cx E.ro} {σ:St} {bar:Nat} {h:Nat→Option O} {nx:Nat} {K:SV→St→Prop} (hq:CallQ E run C σ bar h nx K):CallOk E run C σ bar h nx K:=
 let ⟨a,b,c,d,e,f,h1,h2,h3,h4,h5,h6,h7,h8,_⟩:=hq
 ⟨a,b,c,d,e,f,h1,h2,h3,h4,h5,h6,h7,h8⟩
theorem ctr_ok {f:Nat} {sg:Sig} (hs:E.sig f=some sg) {σ:St} {args:List SV} {ds:List (List D)} (hd:argsD σ (scalarR sg) sg.params args=some ds) {vs:List SV} (hr:resSV E.A (σ.next+1) (E.fn f ds) sg.results 0=some vs) (hp:E.pre f ds)
  {C:Cx E.E.ro} {bar barv:Nat} {h:T O} {nx:Nat} (hM:MSim C σ.objs σ.next bar h.get nx) (hbv:barv≤nx) {va:List V} (ha:RvSL C σ.next args va) {K:SV→St→Prop} (hK:K (one vs) (σ.mem σ.objs (σ.next+1))) :
  CallQ E.E (fun n k=>callF E.E (cx E.E n) barv h nx f va k) C σ bar h.get nx K:=by
 have hC:=hE.ctr f sg hs ds hp
 cases hsc:scalarR sg with
 |true=>
  rw [hsc] at hd
  obtain ⟨xs,h',nx',g',c1,c2,c3,c4,c5,c6⟩:=hC (fun id=>if id < nx then h.get id else none) barv nx h va (fun id o hg=>by
   split at hg
   ·rename_i hlt;exact ⟨hlt,hg⟩
   ·cases hg) hbv (argsD_ok hM (fun id o hg=>by
    obtain ⟨a,b⟩:=hM.fz _ _ hg
    rw [if_pos a];exact b) (fun _ id hlt=>if_pos hlt) hd ha)
  obtain ⟨a,b⟩:=hM.bump c2 c3 (g':=C.g) (fun _ _ h=>h) (fun id o hg=>by
   obtain ⟨p,q⟩:=hM.fz _ _ hg
   exact ⟨⟨by omega,by rw [c3 _ p];exact q⟩,.inl hg⟩)
  refine ⟨_,_,h',nx',one vs,σ.mem σ.objs (σ.next+1),c1,a,b,?_,rfl,rfl,rfl,hK,c3⟩
  exact RvSL_one (resSV_ok hE.A (Nat.le_refl _) _ _ hr (ResFz_scalar hsc c6))
 |false=>
  rw [hsc] at hd
  obtain ⟨xs,h',nx',g',c1,c2,c3,c4,c5,c6⟩:=hC C.g barv nx h va (fun id o hg=>hM.fz _ _ hg) hbv (argsD_ok hM (fun _ _ h=>h) (fun e=>by cases e) hd ha)
  obtain ⟨a,b⟩:=hM.bump c2 c3 c4 c5
  refine ⟨_,_,h',nx',one vs,σ.mem σ.objs (σ.next+1),c1,a,b,?_,rfl,rfl,rfl,hK,c3⟩
  refine RvSL_one (resSV_ok hE.A (Nat.le_refl _) _ _ hr ?_)
  show ResFz E.E.ro g' (if σ.next+1=σ.next+1 then nx' else C.bd (σ.next+1)) _ _ _ _
  rw [if_pos rfl];exact c6
theorem callC_ok {sg:Sig} {g:Nat} (hs:E.sig g=some sg) {args:List SV} {σ:St} {K:SV→St→Prop} (h:callC E sg g args K σ) {C:Cx E.E.ro} {bar barv:Nat} {hp:T O} {nx:Nat} (hM:MSim C σ.objs σ.next bar hp.get nx) (hbv:barv≤nx) {va:List V} (ha:RvSL C σ.next args va) :
  CallQ E.E (fun n k=>callF E.E (cx E.E n) barv hp nx g va k) C σ bar hp.get nx K:=by
 rw [callC_eq] at h
 split at h
 ·rename_i ds hd
  split at h
  ·rename_i vs hv
   exact ctr_ok hE hs hd hv h.1 hM hbv ha h.2
  ·exact h.out.elim
 ·exact h.out.elim
theorem callS_ok {ci:CI} (hci:CIOk E.E ci) {f:SV} {args:List SV} {σ:St} {K:SV→St→Prop} (h:callS E ci f args σ K) {C:Cx E.E.ro} {bar:Nat} {hp:T O} {nx:Nat} (hM:MSim C σ.objs σ.next bar hp.get nx) {vf:V} {va:List V} (hf:RvS C σ.next f vf) (ha:RvSL C σ.next args va) :
  CallOk E.E (fun n k=>callV E.E (cx E.E n) bar hp nx vf va k) C σ bar hp.get nx K:=by
 rw [callS_eq] at h
 split at h
 ·rename_i g a b
  split at h
  ·rename_i sg hs
   simp only [RvS] at hf
   obtain ⟨x,y,f1,f2,rfl⟩:=hf
   have hargs:RvSL C σ.next (a++args++b) (x++va++y):=RvSL.append (RvSL.append f1 ha) f2
   split at h
   ·exact (callC_ok hE hs h hM hM.barle hargs).ok
   ·obtain ⟨C1,h1,e1⟩:=hM.frzL (a++args++b)
    obtain ⟨v,C',h',nx',s,σ',k1,k2,k3,k4,k5,k6,k7,k8,_⟩:=callC_ok hE hs h h1 h1.barle (RvSL.ag e1.ag (Nat.le_refl _) _ _ hargs)
    exact ⟨v,C',h',nx',s,σ',k1,k2,e1.trans k3,k4,k5,k6,k7,k8⟩
  ·exact hci _ _ _ _ h C bar hp nx hM vf va hf ha
 ·exact hci _ _ _ _ h C bar hp nx hM vf va hf ha
theorem execW_ok {ev:Operand→SV} {op:Op} {σ:St} {K:SV→St→Prop} (h:execW E ev op K σ) {C:Cx E.E.ro} {bar:Nat} {hp:T O} {nx:Nat} (hM:MSim C σ.objs σ.next bar hp.get nx) {evc:Operand→Option V} (hev:EvOk C σ.next ev evc) (hc:clsOf E.E op=2) :
  CallOk E.E (fun n k=>opA E.E (cx E.E n) bar evc hp nx op k) C σ bar hp.get nx K:=by
 unfold execW at h
 split at h
 ·rename_i w hw
  obtain ⟨h1,h2⟩:=preK_ok h
  obtain ⟨F,_,v,C',h',nx',w1,w2,w3,w4,w5⟩:=xw_ok hE.A hM hE.T hev hw h1
  obtain ⟨hv',r1,r2⟩:=w5 hp bar (fun _ _=>rfl) (fun _ _ h=>h)
  have hget:hv'.get=h':=by
   funext id
   rw [r2]
   split
   ·rfl
   ·rename_i hn
    exact (w4 id (fun h=>hn (.inl h)) (fun h=>hn (.inr h))).symm
  rw [←hget] at w1 w2
  exact ⟨v,C',hv',nx',w.sv,σ.mem w.objs w.next,Evt.of fun n k=>by simp only [opA,hc];exact r1 _,w1,w2,w3,rfl,rfl,rfl,h2⟩
 ·exact h.out.elim
theorem EvOk.ag {C C':Cx E.E.ro} {n m:Nat} (ha:Ag n C C') (hn:n≤m) {ev:Operand→SV} {evc:Operand→Option V} (hev:EvOk C n ev evc):EvOk C' m ev evc:=fun x=>by
 rcases hev x with h |⟨v,a,b⟩
 ·exact .inl h
 ·exact .inr ⟨v,a,RvS.ag ha hn _ _ b⟩
theorem exec0_ok {ev:Operand→SV} {op:Op} {σ:St} {K:SV→Prop} (h:exec0 E σ ev op K) {C:Cx E.E.ro} {bar:Nat} {hp:Nat→Option O} {nx:Nat} (hM:MSim C σ.objs σ.next bar hp nx) {evc:Operand→Option V} (hev:EvOk C σ.next ev evc) :
  ∃s v,RvS C σ.next s v∧(∀k,opP E.E evc op k=k v)∧K s:=by
 rw [exec0_eq] at h
 split at h
 ·rename_i rows sg hn
  unfold nilQ at hn
  split at hn
  ·rename_i o t x y ty
   split at hn
   ·rename_i b ks rows' hx hy hs
    obtain ⟨e,hk⟩:=isSl_ok hE.A hs
    obtain ⟨vx,e1,e2⟩:=hev.get (x:=x) rfl (norm_unk (σ:=σ) (by rw [hx];intro e;cases e))
    obtain ⟨vy,e3,e4⟩:=hev.get hy (by intro e;cases e)
    have e2:=norm_ok hM e2
    rw [hx] at e2
    simp only [RvS,FzC,D.rows] at e2 e4
    subst e4
    obtain ⟨_,_,hv⟩:=e2
    have key:∀q:Bool,vEq E.E t vx .nils=some q→(q=true→rows'.length≤0)→∃s v,RvS C σ.next s v∧(∀k,opP E.E evc (.binOp o t x y ty) k=k v)∧K s:=by
     intro q hq hlen
     split at hn
     ·simp only [Option.some.injEq,Prod.mk.injEq] at hn
      obtain ⟨rfl,rfl⟩:=hn
      refine ⟨.bool q,.bool q,by simp only [RvS],fun k=>by simp only [opP,e1,e3,bin,hq,fB_eq],?_⟩
      cases q with
      |true=>exact h.t (by rw [hE.A];exact hlen rfl)
      |false=>exact h.e
     ·simp only [Option.some.injEq,Prod.mk.injEq] at hn
      obtain ⟨rfl,rfl⟩:=hn
      refine ⟨.bool (!q),.bool (!q),by simp only [RvS],fun k=>by simp only [opP,e1,e3,bin,hq,fB_eq];cases q<;>rfl,?_⟩
      cases q with
      |true=>exact h.t (by rw [hE.A];exact hlen rfl)
      |false=>exact h.e
     ·cases hn
    rcases hv with ⟨hr,rfl⟩ |⟨id,off,cap,rfl,_⟩ |⟨a,cap,rfl,_⟩
    ·exact key true (by simp [vEq,hk]) (fun _=>by rw [hr];exact Nat.le_refl _)
    ·exact key false (by simp [vEq,hk]) (fun e=>by cases e)
    ·exact key false (by simp [vEq,hk]) (fun e=>by cases e)
   ·cases hn
  ·cases hn
 ·split at h
  ·rename_i q hq
   obtain ⟨h1,h2⟩:=preK_ok h
   obtain ⟨v,v1,v2⟩:=xq0_ok hE.A hM hev hq h1
   exact ⟨q.sv,v,v1,v2,h2⟩
  ·exact h.out.elim
omit hE in
theorem strCells_ok:∀(x:List V) (rows:Rows) (k:List Nat→R),x.length=rows.length→(∀i,i < rows.length→x[i]?=some (.int .u8 (gt rows i 0).int)∧0≤(gt rows i 0).int∧(gt rows i 0).int≤255)→
  strCells x k=k (rows.map fun r=>(r.getD 0 .nil).int.toNat)
 |[],[],k,_,_=>by simp [strCells]
 |[],_ :: _,_,hl,_=>by simp at hl
 |_ :: _,[],_,hl,_=>by simp at hl
 |v :: x,r :: rows,k,hl,h=>by
  have h0:=h 0 (by simp)
  have e0:gt (r :: rows) 0 0=r.getD 0 .nil:=rfl
  rw [e0] at h0
  simp only [List.getElem?_cons_zero,Option.some.injEq] at h0
  obtain ⟨rfl,a,b⟩:=h0
  have ih:=strCells_ok x rows (fun s=>k ((r.getD 0 .nil).int.toNat :: s)) (by simpa using hl) fun i hi=>by
   have:=h (i+1) (by simpa using hi)
   rw [List.getElem?_cons_succ] at this
   exact this
  rw [List.map_cons]
  generalize (r.getD 0 .nil).int=n at a b ih ⊢
  obtain ⟨m,rfl⟩:=Int.eq_ofNat_of_zero_le a
  have hm:Nat.blt m 256=true:=bltT (by omega)
  simp only [strCells]
  show (match Nat.blt m 256 with |true=>strCells x fun s=>k (m :: s) |false=>none)=_
  rw [hm]
  exact ih
omit hE in
theorem xstr_ok {E:Env} (hA:E.A=Ar.std) {ev:Operand→SV} {op:Op} {σ:St} {C:Cx E.E.ro} {bar:Nat} {hp:T O} {nx:Nat} (hM:MSim C σ.objs σ.next bar hp.get nx) {evc:Operand→Option V} (hev:EvOk C σ.next ev evc) {q:QR} (hq:xstr E σ ev op=some q) (h1:∀p∈q.pre,p) :
  ∃v,RvS C σ.next q.sv v∧∀k,opL E.E hp evc op k=k v:=by
 unfold xstr at hq
 split at hq
 ·rename_i s t x
  split at hq
  ·rename_i e he hk
   split at hq
   ·rename_i hke
    split at hq
    ·rename_i p rows hs
     simp only [Option.some.injEq] at hq
     subst hq
     have hx:ev x≠.unk:=fun e=>by rw [e] at hs;simp [srcOf,norm] at hs
     obtain ⟨vx,e1,e2⟩:=hev.get rfl hx
     obtain ⟨_,y,l1,l2,_,l4,l5⟩:=src_ok hA hM (ks:=[.int .u8]) (by simp) hs (fun q hq=>h1 q (List.mem_append_left _ hq)) e2
     have pu:=h1 (E.A.pU8 rows) (List.mem_append_right _ (.head _))
     rw [hA] at pu
     have pu:∀i,i < rows.length→0≤(gt rows i 0).int∧(gt rows i 0).int≤255:=pu
     have sc:∀k:List Nat→R,strCells y k=k (rows.map fun r=>(r.getD 0 .nil).int.toNat):=fun k=>strCells_ok y rows k (by simpa using l2) fun i hi=>by
      have h4:=l4 i hi
      simp only [FzR,FzC] at h4
      obtain ⟨⟨v,v1,_,v2⟩,_⟩:=h4
      refine ⟨?_,pu i hi⟩
      rw [←v2]
      simpa using v1
     refine ⟨.str (E.A.strD rows),by simp only [RvS],fun k=>?_⟩
     have fin:k (.str (rows.map fun r=>(r.getD 0 .nil).int.toNat))=k (.str (E.A.strD rows)):=by rw [hA];rfl
     rw [←fin]
     have l5':=fun k=>l5 hp (fun _ _=>rfl) k
     cases vx with
     |nils=>
      simp only [lenV,Option.some.injEq] at l1
      have:rows=[]:=List.length_eq_zero_iff.1 l1.symm
      subst this
      simp only [opL,he,hk,hke,e1]
      rfl
     |slc id es off l cap=>
      simp only [lenV,Option.some.injEq] at l1
      subst l1
      simp only [opL,he,hk,hke,e1]
      have:=l5' fun l=>strCells l fun s=>k (.str s)
      simp only [List.length_cons,List.length_nil,Nat.zero_add] at this
      rw [this]
      exact sc _
     |rslc a l cap=>
      simp only [lenV,Option.some.injEq] at l1
      subst l1
      simp only [opL,he,hk,hke,e1]
      have:=l5' fun l=>strCells l fun s=>k (.str s)
      simp only [List.length_cons,List.length_nil,Nat.zero_add] at this
      rw [this]
      exact sc _
     |_=>simp [lenV] at l1
    ·cases hq
   ·cases hq
  ·cases hq
 ·cases hq
theorem exec1_ok {ci:CI} (hci:CIOk E.E ci) {ev:Operand→SV} {op:Op} {σ:St} {K:SV→St→Prop} (h:exec1 E ci ev op σ K) {C:Cx E.E.ro} {bar:Nat} {hp:T O} {nx:Nat} (hM:MSim C σ.objs σ.next bar hp.get nx) {evc:Operand→Option V} (hev:EvOk C σ.next ev evc) :
  CallOk E.E (fun n k=>opA E.E (cx E.E n) bar evc hp nx op k) C σ bar hp.get nx K:=by
 rw [exec1_eq] at h
 split at h
 ·rename_i hc
  obtain ⟨sv,v,v1,v2,h2⟩:=exec0_ok hE h hM hev
  exact ⟨v,C,hp,nx,sv,σ,Evt.of fun n k=>by simp only [opA,hc,far_none v2];exact v2 _,hM,MExt.refl _ _ _ _ _,v1,rfl,rfl,rfl,h2⟩
 ·rename_i hc
  split at h
  ·rename_i q hq
   obtain ⟨h1,h2⟩:=preK_ok h
   unfold xq1 at hq
   split at hq
   ·rename_i t x
    have hx:ev x≠.unk:=fun e=>by rw [e] at hq;unfold xload at hq;split at hq<;>simp at hq
    obtain ⟨vx,e1,e2⟩:=hev.get rfl hx
    obtain ⟨v,v1,v2⟩:=load_ok hE.A hE.T hM e2 hq h1 e1
    have v2:∀k,opL E.E hp evc (.load t x) k=k v:=by
     rcases v2 with ⟨id,off,rfl,v2⟩ |⟨a,rfl,v2⟩
     ·exact v2 hp rfl
     ·exact v2 hp
    exact ⟨v,C,hp,nx,q.sv,σ,Evt.of fun n k=>by simp only [opA,hc];exact v2 _,hM,MExt.refl _ _ _ _ _,v1,rfl,rfl,rfl,h2⟩
   ·cases hq
  ·split at h
   ·rename_i q hq
    obtain ⟨h1,h2⟩:=preK_ok h
    obtain ⟨v,v1,v2⟩:=xstr_ok hE.A hM hev hq h1
    exact ⟨v,C,hp,nx,q.sv,σ,Evt.of fun n k=>by simp only [opA,hc];exact v2 _,hM,MExt.refl _ _ _ _ _,v1,rfl,rfl,rfl,h2⟩
   ·exact h.out.elim
 ·rename_i hc
  obtain ⟨C1,m1,e1⟩:=hM.frzL (wants ev op)
  obtain ⟨v,C',h',nx',s,σ',k1,k2,k3,k4⟩:=execW_ok hE h (C:=C1) (bar:=bar) (hp:=hp) (nx:=nx) m1 (hev.ag hE e1.ag (Nat.le_refl _)) hc
  exact ⟨v,C',h',nx',s,σ',k1,k2,e1.trans k3,k4⟩
 ·rename_i hc
  split at h
  ·rename_i c
   split at h
   ·rename_i f hf
    split at h
    ·rename_i hk
     rw [Bool.and_eq_true] at hk
     obtain ⟨va,a1,a2⟩:=evL_list hev c.args.toList hk.2
     obtain ⟨vf,f1,f2⟩:=hev.get (x:=f) rfl (fun e=>by rw [e] at hk;simp [knownC] at hk)
     obtain ⟨v,C',h',nx',s,σ',k1,k2⟩:=callS_ok hE hci h hM f2 a1
     exact ⟨v,C',h',nx',s,σ',k1.mono fun n hn k=>by simp only [opA,hc,hf,f1,a2];exact hn k,k2⟩
    ·exact h.out.elim
   ·exact h.out.elim
  ·exact h.out.elim
 ·exact h.out.elim
theorem putS_ok {σ σ':St} {dst:Option Nat} {s:SV} (h:putS σ dst s=some σ') {C:Cx E.E.ro} {S:CX.St} (hnt:S.nt=σ.nt) (hR:RegsS C σ.next σ.regs S.regs) {v:V} (hv:RvS C σ.next s v) (hp:T O) (nx:Nat) :
  ∃regs,(∀k,putD S dst v hp nx k=k ⟨S.nt,S.bar,regs,hp,nx,S.df⟩)∧RegsS C σ.next σ'.regs regs∧σ'.nt=σ.nt∧σ'.objs=σ.objs∧σ'.next=σ.next∧σ'.df=σ.df:=by
 unfold putS at h
 split at h
 ·simp only [Option.some.injEq] at h
  subst h
  exact ⟨S.regs,fun k=>rfl,hR,rfl,rfl,rfl,rfl⟩
 ·rename_i d
  split at h
  ·rename_i hd
   simp only [Option.some.injEq] at h
   subst h
   simp only [bltN_iff] at hd
   have hd':Nat.blt d S.nt=true:=bltT (by rw [hnt];exact hd)
   refine ⟨S.regs.up d (some v),fun k=>by simp only [putD,hd',T.set_eq],fun t s' hl=>?_,rfl,rfl,rfl,rfl⟩
   rw [look_cons] at hl
   split at hl
   ·rename_i e
    simp only [Option.some.injEq] at hl
    subst e hl
    exact .inr ⟨v,by rw [T.get_up,if_pos rfl],hv⟩
   ·rename_i e
    rcases hR t s' hl with h |⟨u,a,b⟩
    ·exact .inl h
    ·exact .inr ⟨u,by rw [T.get_up,if_neg (Ne.symm e)];exact a,b⟩
  ·cases h
omit hE in
theorem know_ok {C:Cx E.E.ro} {n:Nat} {l:List (Nat×SV)} {regs:T V} (hR:RegsS C n l regs) {d:Nat} {b:Bool} (h:regs.get d=some (.bool b)):RegsS C n ((d,.bool b) :: l) regs:=fun t s hl=>by
 rw [look_cons] at hl
 split at hl
 ·rename_i e
  simp only [Option.some.injEq] at hl
  subst e hl
  exact .inr ⟨_,h,by simp only [RvS]⟩
 ·exact hR t s hl
theorem wantS_ok {σ:St} {all:List Oper} {o:Oper} {K:Bool→St→Prop} (h:wantS σ all o K) {C:Cx E.E.ro} {S:CX.St} (hR:RegsS C σ.next σ.regs S.regs) :
  ∃b σ',K b σ'∧RegsS C σ.next σ'.regs S.regs∧(σ'.nt=σ.nt∧σ'.objs=σ.objs∧σ'.next=σ.next∧σ'.df=σ.df)∧∀k,wantX S.regs all o k=k b:=by
 rw [wantS_eq] at h
 split at h
 ·rename_i hg
  exact ⟨true,σ,h,hR,⟨rfl,rfl,rfl,rfl⟩,fun k=>by simp only [wantX,hg]⟩
 ·rename_i g want hg
  split at h
  ·rename_i og hog
   split at h
   ·rename_i d hd
    split at h
    ·rename_i b hl
     rcases hR _ _ hl with h0 |⟨v,v1,v2⟩
     ·cases h0
     ·simp only [RvS] at v2
      subst v2
      refine ⟨_,σ,h,hR,⟨rfl,rfl,rfl,rfl⟩,fun k=>?_⟩
      simp only [wantX,hg,nth_eq,hog,hd,v1]
      cases b<;>cases want<;>rfl
    ·rename_i b hl
     rcases hR _ _ hl with h0 |⟨v,v1,v2⟩
     ·cases h0
     ·simp only [RvS] at v2
      subst v2
      cases hb:b with
      |true=>
       refine ⟨_,_,h.t hb,know_ok hR (by rw [v1,hb]),⟨rfl,rfl,rfl,rfl⟩,fun k=>?_⟩
       simp only [wantX,hg,nth_eq,hog,hd,v1,hb]
       cases want<;>rfl
      |false=>
       refine ⟨_,_,h.e hb,know_ok hR (by rw [v1,hb]),⟨rfl,rfl,rfl,rfl⟩,fun k=>?_⟩
       simp only [wantX,hg,nth_eq,hog,hd,v1,hb]
       cases want<;>rfl
    ·rename_i hl
     rcases hR _ _ hl with h0 |⟨v,v1,v2⟩
     ·cases h0
     ·simp only [RvS] at v2
      obtain ⟨x,hx,rfl⟩:=v2
      cases x with
      |nil=>exact ⟨_,σ,h,hR,⟨rfl,rfl,rfl,rfl⟩,fun k=>by simp only [wantX,hg,nth_eq,hog,hd,v1]⟩
      |cons _ _=>simp [RvSL] at hx
    ·exact h.out.elim
   ·exact h.out.elim
  ·exact h.out.elim
theorem seqS_ok {ci:CI} (hci:CIOk E.E ci) {all:List Oper} {lo:Nat}:∀(r:List Oper) (σ:St) (K:St→Prop),seqS E ci all r σ K→∀(C:Cx E.E.ro) S,Sim C σ S→lo≤σ.next→∃S' C' σ',Evt (fun n=>∀k,CX.seqOps E.E (cx E.E n) all r S k=k S')∧Sim C' σ' S'∧Ext lo C σ S C' σ' S'∧K σ'
 |[],σ,K,h,C,S,hS,hlo=>⟨S,C,σ,Evt.of fun _ _=>rfl,hS,Ext.refl _ _ _ hlo,h⟩
 |o :: r,σ,K,h,C,S,hS,hlo=>by
  rw [seqS_cons] at h
  obtain ⟨b,σa,hb,hRa,⟨q1,q2,q3,q4⟩,hw⟩:=wantS_ok hE h hS.regs
  have hSa:Sim C σa S:=⟨by rw [q1];exact hS.nt,by rw [q3];exact hRa,by rw [q2,q3];exact hS.m,by rw [q2,q4];exact hS.df,by rw [q4,q3];exact hS.dflt⟩
  have hloa:lo≤σa.next:=by rw [q3];exact hlo
  have eq0:Ext lo C σ S C σa S:=⟨by rw [q2,q3];exact (MExt.refl _ _ _ _ _).less hlo,rfl,fun _ h=>.inl h⟩
  have hS:=hSa
  have hlo:=hloa
  cases b with
  |true=>
   simp only at hb
   obtain ⟨v,C1,h1,nx1,s,σ1,k1,k2,k3,k4,k5,k6,k7,k8⟩:=exec1_ok hE hci hb hS.m (evR_ok hS.regs)
   split at k8
   ·rename_i σ2 hput
    have hR1:RegsS C1 σ1.next σ1.regs S.regs:=by rw [k6];exact RegsS.ag k3.ag k3.le hS.regs
    obtain ⟨regs,p1,p2,p3,p4,p5,p6⟩:=putS_ok hE hput (S:=S) (by rw [k5];exact hS.nt) hR1 k4 h1 nx1
    have hS2:Sim C1 σ2 ⟨S.nt,S.bar,regs,h1,nx1,S.df⟩:=by
     refine ⟨by rw [p3,k5];exact hS.nt,by rw [p5];exact p2,by rw [p4,p5];exact k2,?_,?_⟩
     ·rw [p4,p6,k7]
      exact hS.df.ext k3 hS.dflt
     ·rw [p6,k7,p5];exact fun d hd=>Nat.lt_of_lt_of_le (hS.dflt d hd) k3.le
    have hE2:Ext lo C σa S C1 σ2 ⟨S.nt,S.bar,regs,h1,nx1,S.df⟩:=⟨by rw [p4,p5];exact k3.less hlo,rfl,fun _ h=>.inl h⟩
    obtain ⟨S',C',σ',e1,e2,e3,e4⟩:=seqS_ok hci r σ2 K k8 C1 _ hS2 hE2.m.le
    refine ⟨S',C',σ',(k1.and e1).mono fun n hn k=>?_,e2,eq0.trans (hE2.trans e3),e4⟩
    simp only [CX.seqOps,hw]
    refine (hn.1 _).trans ?_
    rw [p1]
    exact hn.2 k
   ·exact k8.out.elim
  |false=>
   simp only at hb
   split at hb
   ·rename_i σ2 hput
    obtain ⟨regs,p1,p2,p3,p4,p5,p6⟩:=putS_ok hE hput (S:=S) hS.nt hS.regs (v:=.tup []) (by simp only [RvS];exact ⟨[],trivial,rfl⟩) S.h S.nx
    have hS2:Sim C σ2 ⟨S.nt,S.bar,regs,S.h,S.nx,S.df⟩:=by
     refine ⟨by rw [p3];exact hS.nt,by rw [p5];exact p2,by rw [p4,p5];exact hS.m,by rw [p4,p6];exact hS.df,by rw [p6,p5];exact hS.dflt⟩
    have hE2:Ext lo C σa S C σ2 ⟨S.nt,S.bar,regs,S.h,S.nx,S.df⟩:=⟨by rw [p4,p5];exact (MExt.refl _ _ _ _ _).less hlo,rfl,fun _ h=>.inl h⟩
    obtain ⟨S',C',σ',e1,e2,e3,e4⟩:=seqS_ok hci r σ2 K hb C _ hS2 hE2.m.le
    refine ⟨S',C',σ',e1.mono fun n hn k=>?_,e2,eq0.trans (hE2.trans e3),e4⟩
    simp only [CX.seqOps,hw,p1]
    exact hn k
   ·exact hb.out.elim
end
end HX

namespace HX
open Go CX
structure StuckD (ops:List Oper) (σ:St):Prop where
 out:False
def maskS (ml:List (Nat×Nat)):List Edge→Nat→Option Nat
 |[],acc=>some acc
 |e :: r,acc=>match bindsA e with
  |false=>maskS ml r acc
  |true=>match look ml e.on with
   |some m=>maskS ml r (Nat.lor acc (Nat.lor m (Nat.shiftLeft 1 e.on)))
   |none=>none
def prepS:List Oper→Nat→List (Nat×Nat)→List (Nat×Nat)→Option (List (Nat×Nat)×List (Nat×Nat))
 |[],_,ml,dl=>some (ml,dl)
 |o :: r,i,ml,dl=>match maskS ml o.after.toList 0 with
  |some m=>match o.dst with
   |none=>prepS r (i+1) ((i,m) :: ml) dl
   |some d=>match look dl d with
    |none=>prepS r (i+1) ((i,m) :: ml) ((d,i) :: dl)
    |some _=>none
  |none=>none
def visS (ml dl:List (Nat×Nat)) (i cl t:Nat):Bool:=
 match look dl t with
 |none=>true
 |some j=>match CX.bit cl j with
  |true=>true
  |false=>match look ml j with
   |some m=>CX.bit m i
   |none=>false
def evDS (ml dl:List (Nat×Nat)) (i cl:Nat) (regs:List (Nat×SV)) (x:Operand):SV:=
 match x with
 |.tmp t=>match visS ml dl i cl t with
  |true=>evR regs (.tmp t)
  |false=>.unk
 |x=>evR regs x
def gvisS (ml dl:List (Nat×Nat)) (i cl:Nat) (all:List Oper) (o:Oper):Bool:=
 match o.guard with
 |none=>true
 |some (g,_)=>match all[g]? with
  |some og=>match og.dst with
   |some d=>visS ml dl i cl d
   |none=>true
  |none=>true
def laterOkS (E:CX.Env) (ml:List (Nat×Nat)) (i:Nat):List Oper→Nat→Bool
 |[],_=>true
 |o :: r,j=>match Nat.beq (clsOf E o.op) 0 with
  |true=>laterOkS E ml i r (j+1)
  |false=>match look ml j with
   |some m=>match CX.bit m i with
    |true=>laterOkS E ml i r (j+1)
    |false=>false
   |none=>false
inductive At where
 |cl (nm:Nat)
 |ar (nm:Nat)
 |fz (b:Nat)
inductive FpS where
 |all
 |q
 |ls (A:List At) (wr:Bool)
structure RcS where
 i:Nat
 fp:FpS
 al:Bool
def isCl:Option SO→Bool
 |some (.cells _)=>true
 |_=>false
def isAr:Option SO→Bool
 |some (.arr ..)=>true
 |_=>false
def atomsOf (E:Env) (σ:St) (x:SV):Option (List Prop×List At):=
 match x with
 |.ptr nm _=>match isCl (look σ.objs nm) with
  |true=>some ([],[.cl nm])
  |false=>none
 |.el nm _ i _=>match look σ.objs nm with
  |some (.arr _ _ rows)=>some ([E.A.pLt (E.A.nat i) (E.A.nat (E.A.len rows))],[.ar nm])
  |_=>none
 |.fel b _ _ _ _=>some ([],[.fz b])
 |.slc nm=>match isAr (look σ.objs nm) with
  |true=>some ([],[.ar nm])
  |false=>none
 |.vw nm _ _=>match isAr (look σ.objs nm) with
  |true=>some ([],[.ar nm])
  |false=>none
 |.sc nm _ _ _=>match isCl (look σ.objs nm) with
  |true=>some ([],[.cl nm])
  |false=>none
 |.fz b _ _=>some ([],[.fz b])
 |.nils=>some ([],[])
 |_=>none
def footS (E:Env) (σ:St) (ev:Operand→SV) (op:Op):Option (List Prop×List At):=
 match op with
 |.load _ x=>atomsOf E σ (ev x)
 |.store _ x _=>atomsOf E σ (ev x)
 |.call c=>match c.args.toList with
  |[x,y]=>match atomsOf E σ (ev x),atomsOf E σ (ev y) with
   |some (p,a),some (q,b)=>some (p++q,a++b)
   |_,_=>none
  |_=>none
 |.alloc _ |.box .. |.buildSlice .. |.makeSlice ..=>some ([],[])
 |_=>none
def oldA (σ0:List (Nat×SO)) (n0:Nat):At→Bool
 |.cl nm=>isCl (look σ0 nm)
 |.ar nm=>isAr (look σ0 nm)
 |.fz b=>bleN b n0
def disA (objs:List (Nat×SO)):At→At→Bool
 |.fz b,.fz b'=>beqN b 0 || beqN b' 0
 |.fz b,.cl y=>beqN b 0 || isCl (look objs y)
 |.fz b,.ar y=>beqN b 0 || isAr (look objs y)
 |.cl x,.fz b=>beqN b 0 || isCl (look objs x)
 |.ar x,.fz b=>beqN b 0 || isAr (look objs x)
 |.cl x,.cl y=>!(beqN x y) && (isCl (look objs x) && isCl (look objs y))
 |.cl x,.ar y=>!(beqN x y) && (isCl (look objs x) && isAr (look objs y))
 |.ar x,.cl y=>!(beqN x y) && (isAr (look objs x) && isCl (look objs y))
 |.ar x,.ar y=>!(beqN x y) && (isAr (look objs x) && isAr (look objs y))
def disL (objs:List (Nat×SO)) (A B:List At):Bool:=A.all fun a=>B.all fun b=>disA objs a b
def noA:List At→Bool
 |[]=>true
 |_=>false
def pairS (σ0:List (Nat×SO)) (n0:Nat) (objs:List (Nat×SO)) (A:List At) (wr:Bool) (r:RcS):Bool:=
 match r.fp with
 |.all=>false
 |.q=>match wr with
  |true=>noA A
  |false=>!r.al || A.all (oldA σ0 n0)
 |.ls B wr'=>(!r.al || A.all (oldA σ0 n0)) && match wr || wr' with
  |false=>true
  |true=>disL objs A B
def pairQ (r:RcS):Bool:=
 !r.al && match r.fp with
 |.all=>false
 |.q=>true
 |.ls B wr=>match wr with
  |true=>noA B
  |false=>true
def fitsL (p:RcS→Bool) (cl:Nat):List RcS→Bool
 |[]=>true
 |r :: rs=>match CX.bit cl r.i with
  |true=>fitsL p cl rs
  |false=>match p r with
   |true=>fitsL p cl rs
   |false=>false
def memW (E:Env) (σ0:List (Nat×SO)) (n0 cl i:Nat) (recs:List RcS) (ev:Operand→SV) (op:Op) (K:SV→List RcS→St→Prop) (σ:St):Prop:=
 match xw E σ ev op with
 |some w=>match footS E σ ev op with
  |some (p,A)=>match fitsL (pairS σ0 n0 σ.objs A true) cl recs with
   |true=>preK p (preK w.pre (K w.sv (⟨i,.ls A true,!(beqN w.next σ.next)⟩ :: recs) (σ.mem w.objs w.next)))
   |false=>StuckO op σ
  |none=>StuckO op σ
 |none=>StuckO op σ
def isCtr (E:Env) (f:SV):Bool:=
 match f with
 |.fn g _ _=>match E.sig g with
  |some _=>true
  |none=>false
 |_=>false
def memC (E:Env) (ci:CI) (cl i:Nat) (recs:List RcS) (ev:Operand→SV) (op:Op) (K:SV→List RcS→St→Prop) (σ:St):Prop:=
 match op with
 |.call c=>match c.callee with
  |.value f=>match fitsL pairQ cl recs && isCtr E (ev f) with
   |true=>match knownC (ev f) && (c.args.toList.map ev).all knownC with
    |true=>callS E ci (ev f) (c.args.toList.map ev) σ fun v σ'=>K v (⟨i,.q,true⟩ :: recs) σ'
    |false=>StuckO op σ
   |false=>StuckO op σ
  |_=>StuckO op σ
 |_=>StuckO op σ
def stepL3 (E:Env) (σ0:List (Nat×SO)) (n0:Nat) (i cl:Nat) (recs:List RcS) (op:Op) (σ:St) (K:SV→List RcS→St→Prop) (q:QR) (p:List Prop) (A:List At):Prop:=
 match fitsL (pairS σ0 n0 σ.objs A false) cl recs with
 |true=>preK p (preK q.pre (K q.sv (⟨i,.ls A false,false⟩ :: recs) σ))
 |false=>StuckO op σ
def stepL2 (E:Env) (σ0:List (Nat×SO)) (n0:Nat) (i cl:Nat) (recs:List RcS) (ev:Operand→SV) (op:Op) (σ:St) (K:SV→List RcS→St→Prop) (q:QR):Prop:=
 match footS E σ ev op with
 |some (p,A)=>stepL3 E σ0 n0 i cl recs op σ K q p A
 |none=>StuckO op σ
def stepL1 (E:Env) (σ0:List (Nat×SO)) (n0:Nat) (i cl:Nat) (recs:List RcS) (ev:Operand→SV) (op:Op) (σ:St) (K:SV→List RcS→St→Prop):Prop:=
 match xq1 E σ ev op with
 |some q=>stepL2 E σ0 n0 i cl recs ev op σ K q
 |none=>StuckO op σ
def stepL (E:Env) (σ0:List (Nat×SO)) (n0:Nat) (ml:List (Nat×Nat)) (r:List Oper) (i cl:Nat) (recs:List RcS) (ev:Operand→SV) (op:Op) (σ:St) (K:SV→List RcS→St→Prop):Prop:=
 match fitsL (fun _=>false) cl recs && laterOkS E.E ml i r (i+1) with
 |true=>execL E ev op σ fun v σ'=>K v (⟨i,.all,true⟩ :: recs) σ'
 |false=>stepL1 E σ0 n0 i cl recs ev op σ K
def stepW (E:Env) (σ0:List (Nat×SO)) (n0:Nat) (ml:List (Nat×Nat)) (r:List Oper) (i cl:Nat) (recs:List RcS) (ev:Operand→SV) (op:Op) (σ:St) (K:SV→List RcS→St→Prop):Prop:=
 match fitsL (fun _=>false) cl recs && laterOkS E.E ml i r (i+1) with
 |true=>execW E ev op (fun v σ'=>K v (⟨i,.all,true⟩ :: recs) σ') (σ.mem (frzL σ.objs (wants ev op)) σ.next)
 |false=>memW E σ0 n0 cl i recs ev op K (σ.mem (frzL σ.objs (wants ev op)) σ.next)
def stepC (E:Env) (ci:CI) (ml:List (Nat×Nat)) (r:List Oper) (i cl:Nat) (recs:List RcS) (ev:Operand→SV) (op:Op) (σ:St) (K:SV→List RcS→St→Prop):Prop:=
 match fitsL (fun _=>false) cl recs && laterOkS E.E ml i r (i+1) with
 |true=>execC E ci ev op σ fun v σ'=>K v (⟨i,.all,true⟩ :: recs) σ'
 |false=>memC E ci cl i recs ev op K σ
def stepS (E:Env) (ci:CI) (σ0:List (Nat×SO)) (n0:Nat) (ml:List (Nat×Nat)) (r:List Oper) (i cl:Nat) (recs:List RcS) (ev:Operand→SV) (op:Op) (σ:St) (K:SV→List RcS→St→Prop):Prop:=
 match clsOf E.E op with
 |0=>exec0 E σ ev op fun v=>K v recs σ
 |1=>stepL E σ0 n0 ml r i cl recs ev op σ K
 |2=>stepW E σ0 n0 ml r i cl recs ev op σ K
 |3=>stepC E ci ml r i cl recs ev op σ K
 |_=>StuckO op σ
theorem stepS_imp (E:Env) (ci:CI) (σ0:List (Nat×SO)) (n0:Nat) (ml:List (Nat×Nat)) (r:List Oper) (i cl:Nat) (recs:List RcS) (ev:Operand→SV) (op:Op) (σ:St) (K:SV→List RcS→St→Prop) (h:stepS E ci σ0 n0 ml r i cl recs ev op σ K) :
 match clsOf E.E op with
 |0=>exec0 E σ ev op fun v=>K v recs σ
 |c=>match fitsL (fun _=>false) cl recs && laterOkS E.E ml i r (i+1) with
  |true=>exec1 E ci ev op σ fun v σ'=>K v (⟨i,.all,true⟩ :: recs) σ'
  |false=>match c with
   |1=>match xq1 E σ ev op with
    |some q=>match footS E σ ev op with
     |some (p,A)=>match fitsL (pairS σ0 n0 σ.objs A false) cl recs with
      |true=>preK p (preK q.pre (K q.sv (⟨i,.ls A false,false⟩ :: recs) σ))
      |false=>StuckO op σ
     |none=>StuckO op σ
    |none=>StuckO op σ
   |2=>memW E σ0 n0 cl i recs ev op K (σ.mem (frzL σ.objs (wants ev op)) σ.next)
   |3=>memC E ci cl i recs ev op K σ
   |_=>StuckO op σ:=by
 unfold stepS at h
 split at h
 ·rename_i hc;rw [hc];exact h
 ·rename_i hc
  rw [hc]
  unfold stepL at h
  show (match fitsL (fun _=>false) cl recs && laterOkS E.E ml i r (i+1) with
   |true=>exec1 E ci ev op σ fun v σ'=>K v (⟨i,.all,true⟩ :: recs) σ'
   |false=>stepL1 E σ0 n0 i cl recs ev op σ K)
  split at h
  ·unfold exec1;rw [hc];exact h
  ·exact h
 ·rename_i hc
  rw [hc]
  unfold stepW at h
  show (match fitsL (fun _=>false) cl recs && laterOkS E.E ml i r (i+1) with
   |true=>exec1 E ci ev op σ fun v σ'=>K v (⟨i,.all,true⟩ :: recs) σ'
   |false=>memW E σ0 n0 cl i recs ev op K (σ.mem (frzL σ.objs (wants ev op)) σ.next))
  split at h
  ·unfold exec1;rw [hc];exact h
  ·exact h
 ·rename_i hc
  rw [hc]
  unfold stepC at h
  show (match fitsL (fun _=>false) cl recs && laterOkS E.E ml i r (i+1) with
   |true=>exec1 E ci ev op σ fun v σ'=>K v (⟨i,.all,true⟩ :: recs) σ'
   |false=>memC E ci cl i recs ev op K σ)
  split at h
  ·unfold exec1;rw [hc];exact h
  ·exact h
 ·exact h.out.elim
def drawP (o:Oper) (σ:St) (x:Option St) (k:St→Prop):Prop:=
 match x with
 |some σ'=>k σ'
 |none=>StuckG o σ
def drawB (E:Env) (ci:CI) (σ0:List (Nat×SO)) (n0:Nat) (ml dl:List (Nat×Nat)) (o:Oper) (r:List Oper) (i:Nat) (recs:List RcS) (cl:Nat) (next:List RcS→St→Prop) (b:Bool) (σ:St):Prop:=
 match b with
 |false=>drawP o σ (putS σ o.dst (.tup [])) (next recs)
 |true=>stepS E ci σ0 n0 ml r i cl recs (evDS ml dl i cl σ.regs) o.op σ fun v recs σ'=>drawP o σ' (putS σ' o.dst v) (next recs)
def drawG (E:Env) (ci:CI) (σ0:List (Nat×SO)) (n0:Nat) (all:List Oper) (ml dl:List (Nat×Nat)) (o:Oper) (r:List Oper) (i:Nat) (recs:List RcS) (σ:St) (cl:Nat) (next:List RcS→St→Prop):Prop:=
 match gvisS ml dl i cl all o with
 |false=>StuckG o σ
 |true=>wantS σ all o (drawB E ci σ0 n0 ml dl o r i recs cl next)
def drawS (E:Env) (ci:CI) (σ0:List (Nat×SO)) (n0:Nat) (all:List Oper) (ml dl:List (Nat×Nat)):List Oper→Nat→List RcS→St→(St→Prop)→Prop
 |[],_,_,σ,K=>K σ
 |o :: r,i,recs,σ,K=>match look ml i with
  |none=>StuckG o σ
  |some cl=>drawG E ci σ0 n0 all ml dl o r i recs σ cl fun recs σ'=>drawS E ci σ0 n0 all ml dl r (i+1) recs σ' K
theorem drawS_cons (E:Env) (ci:CI) (σ0:List (Nat×SO)) (n0:Nat) (all:List Oper) (ml dl:List (Nat×Nat)) (o:Oper) (r:List Oper) (i:Nat) (recs:List RcS) (σ:St) (K:St→Prop):drawS E ci σ0 n0 all ml dl (o :: r) i recs σ K =
 match look ml i with
 |none=>StuckG o σ
 |some cl=>match gvisS ml dl i cl all o with
  |false=>StuckG o σ
  |true=>wantS σ all o fun b σ=>match b with
   |false=>match putS σ o.dst (.tup []) with
    |some σ'=>drawS E ci σ0 n0 all ml dl r (i+1) recs σ' K
    |none=>StuckG o σ
   |true=>stepS E ci σ0 n0 ml r i cl recs (evDS ml dl i cl σ.regs) o.op σ fun v recs σ'=>match putS σ' o.dst v with
    |some σ'=>drawS E ci σ0 n0 all ml dl r (i+1) recs σ' K
    |none=>StuckG o σ':=rfl
def regionS (E:Env) (ci:CI) (ops:List Oper) (σ:St) (K:St→Prop):Prop:=
 match prepS ops 0 [] [] with
 |some (ml,dl)=>drawS E ci σ.objs σ.next ops ml dl ops 0 [] σ K
 |none=>StuckD ops σ
end HX

namespace HX
open Go CX
structure StuckC (c:Code) (σ:St):Prop where
 out:False
structure StuckR (fn:String) (σ:St):Prop where
 out:False
structure Leaf (E:CX.Env) (rd:Option Nat) (lo:Nat) (c:Code) (Q:Ex→St→Prop) (σ:St):Prop where
 out:SWP E rd lo c Q σ
def thenQ (k:St→Prop) (Q:Ex→St→Prop):Ex→St→Prop
 |.normal,σ=>k σ
 |e,σ=>Q e σ
def inBlockQ (id:Nat) (Q:Ex→St→Prop):Ex→St→Prop
 |.exit id',σ=>match beqN id' id with
  |true=>Q .normal σ
  |false=>Q (.exit id') σ
 |e,σ=>Q e σ
def resOne (E:Env) (σ:St):ResultVar→Option SV
 |.tmp t=>match look σ.regs t with
  |some .unk=>none
  |x=>x
 |.cell a t=>match E.E.T t,look σ.regs a with
  |some ty,some (.ptr nm off)=>match look σ.objs nm with
   |some (.cells l)=>match bleN (off+ty.size) l.length with
    |true=>pack ty.agg ((l.drop off).take ty.size)
    |false=>none
   |_=>none
  |_,_=>none
def resAll (E:Env) (σ:St):List ResultVar→Option (List SV)
 |[]=>some []
 |x :: r=>match resOne E σ x with
  |some v=>match resAll E σ r with
   |some vs=>some (v :: vs)
   |none=>none
  |none=>none
def takeS:List Nat→List (Nat×SO)→Option (List (Nat×SO))
 |[],l=>some l
 |d :: r,l=>match look l d with
  |some (.dfr true)=>takeS r ((d,.dfr false) :: l)
  |_=>none
def retP (E:Env) (fn:Func) (σ0:St) (K:SV→St→Prop) (σ:St):Prop:=
 match takeS σ.df σ.objs with
 |some objs=>match resAll E (σ.mem objs σ.next) fn.results.toList with
  |some vs=>K (one vs) (σ0.mem objs σ.next)
  |none=>StuckR fn.name σ
 |none=>StuckR fn.name σ
def retK (E:Env) (fn:Func) (σ0:St) (K:SV→St→Prop):Ex→St→Prop
 |.ret,σ=>retP E fn σ0 K σ
 |.normal,σ=>retP E fn σ0 K σ
 |_,σ=>StuckR fn.name σ
def enterS:Nat→List SV→List (Nat×SV)
 |_,[]=>[]
 |t,v :: vs=>(t,v) :: enterS (t+1) vs
def bindS (nt:Nat):List Nat→List SV→List (Nat×SV)→Option (List (Nat×SV))
 |[],[],r=>some r
 |p :: ps,v :: vs,r=>match bltN p nt with
  |true=>bindS nt ps vs ((p,v) :: r)
  |false=>none
 |_,_,_=>none
def exitS:Option Code→(Ex→St→Prop)→St→Prop
 |none,Q,σ=>Q .normal σ
 |some .ret,Q,σ=>Q .ret σ
 |some (.exit id),Q,σ=>Q (.exit id) σ
 |_,_,σ=>StuckC .skip σ
def shutM:Option Nat→List (Nat×SO)→Option (List (Nat×SO))
 |none,l=>some l
 |some d,l=>match look l d with
  |some (.dfr true)=>some ((d,.gone) :: l)
  |_=>none
def rangeK1 (Q:Ex→St→Prop) (σ:St) (j:Option Code) (next:Nat):Option (List (Nat×SO))→Prop
 |some objs=>exitS j Q ⟨σ.nt,σ.regs,objs,next,σ.df⟩
 |none=>StuckC .skip σ
def rangeK (nm:Nat) (mk:Option Nat) (Q:Ex→St→Prop) (σ:St):SV→St→Prop:=fun _ σ2=>
 match look σ2.objs nm with
 |some (.loop st j nt regs ps a b d)=>match st with
  |.busy=>StuckC .skip σ
  |_=>rangeK1 Q σ j σ2.next (shutM mk ((nm,.loop .exhausted j nt regs ps a b d) :: σ2.objs))
 |_=>StuckC .skip σ
def rangeS (rd:Option Nat) (ci:CI) (g:SV) (ps:List Nat) (asg body:Code) (Q:Ex→St→Prop) (σ:St):Prop:=
 match g with
 |.fn f ga gb=>match rd with
  |none=>ci (.fn f ga gb) [.yield (σ.next+1)] (σ.mem ((σ.next+1,.loop .ready none σ.nt σ.regs ps asg body σ.next) :: (σ.next,.dfr true) :: σ.objs) (σ.next+2)) (rangeK (σ.next+1) (some σ.next) Q σ)
  |some l=>match look σ.objs l with
   |some (.loop _ _ _ _ _ _ _ d)=>ci (.fn f ga gb) [.yield σ.next] (σ.mem ((σ.next,.loop .ready none σ.nt σ.regs ps asg body d) :: σ.objs) (σ.next+1)) (rangeK σ.next none Q σ)
   |_=>StuckC .skip σ
 |_=>StuckC .skip σ
def knowO (σ:St) (c:Operand) (b:Bool):St:=
 match c with
 |.tmp t=>σ.know t b
 |_=>σ
def vc (E:Env) (rd:Option Nat) (lo:Nat) (ci:CI):Code→(Ex→St→Prop)→St→Prop
 |.skip,Q,σ=>Q .normal σ
 |.label _,Q,σ=>Q .normal σ
 |.seq a b,Q,σ=>vc E rd lo ci a (thenQ (fun σ'=>vc E rd lo ci b Q σ') Q) σ
 |.ret,Q,σ=>Q .ret σ
 |.exit id,Q,σ=>Q (.exit id) σ
 |.block id b,Q,σ=>vc E rd lo ci b (inBlockQ id Q) σ
 |.cond c a b,Q,σ=>match evR σ.regs c with
  |.bool true=>vc E rd lo ci a Q σ
  |.bool false=>vc E rd lo ci b Q σ
  |.sym p=>Br p (fun _=>vc E rd lo ci a Q (knowO σ c true)) (fun _=>vc E rd lo ci b Q (knowO σ c false))
  |_=>StuckC (.cond c .skip .skip) σ
 |.region _ ops draw,Q,σ=>match draw with
  |false=>seqS E ci ops.toList ops.toList σ (fun σ'=>Q .normal σ')
  |true=>regionS E ci ops.toList σ (fun σ'=>Q .normal σ')
 |.rangeFunc g ps asg body,Q,σ=>rangeS rd ci (evR σ.regs g) ps.toList asg body Q σ
 |c,Q,σ=>Leaf E.E rd lo c Q σ
def yieldK2 (nm:Nat) (σ0:St) (K:SV→St→Prop):Ex→St→Prop:=fun e σ=>
 match look σ.objs nm with
 |some (.loop _ _ nt regs ps a b d)=>match e with
  |.normal=>K (.bool true) (σ0.mem ((nm,.loop .ready none nt regs ps a b d) :: σ.objs) σ.next)
  |.ret=>K (.bool false) (σ0.mem ((nm,.loop .done (some .ret) nt regs ps a b d) :: σ.objs) σ.next)
  |.exit id=>K (.bool false) (σ0.mem ((nm,.loop .done (some (.exit id)) nt regs ps a b d) :: σ.objs) σ.next)
 |_=>StuckC .skip σ
def yieldK1 (E:Env) (ci:CI) (nm nt:Nat) (body:Code) (σ0:St) (K:SV→St→Prop):Ex→St→Prop
 |.normal,σ=>match look σ.objs nm with
  |some (.loop .ready j nt' regs' ps' a' b' d)=>vc E (some nm) σ0.next ci body (yieldK2 nm σ0 K) ⟨nt,σ.regs,(nm,.loop .busy j nt' regs' ps' a' b' d) :: σ.objs,σ.next,σ.df⟩
  |_=>StuckC .skip σ
 |_,σ=>StuckC .skip σ
def ciN (E:Env) (inl:Nat→Option Func):Nat→CI
 |0,_,_,_,_=>False
 |n+1,f,args,σ,K=>match f with
  |.fn g a b=>match inl g with
   |some fn=>match fn.body with
    |some c=>match bleN (a++args++b).length fn.ntmps with
     |true=>vc E none σ.next (ciN E inl n) c (retK E fn σ K) ⟨fn.ntmps,enterS 0 (a++args++b),σ.objs,σ.next,[]⟩
     |false=>StuckF g args σ
    |none=>StuckF g args σ
   |none=>StuckF g args σ
  |.yield nm=>match look σ.objs nm with
   |some (.loop .ready _ nt regs ps asg body _)=>match bindS nt ps args regs with
    |some regs'=>vc E (some nm) σ.next (ciN E inl n) asg (yieldK1 E (ciN E inl n) nm nt body σ K) ⟨nt,regs',σ.objs,σ.next,[]⟩
    |none=>StuckF nm args σ
   |_=>StuckF nm args σ
  |_=>StuckF 0 args σ
end HX

namespace HX
open Go CX
variable {ro:Addr→Option V}
theorem maskS_ok {β:Type} {ml:List (Nat×Nat)} {ms:T Nat} (hm:∀j,ms.get j=look ml j):∀(es:List Edge) (acc m:Nat),maskS ml es acc=some m→∀k:Nat→Option β,maskOf ms es acc k=k m
 |[],acc,m,h,k=>by simp only [maskS,Option.some.injEq] at h;subst h;rfl
 |e :: r,acc,m,h,k=>by
  simp only [maskS] at h
  simp only [maskOf]
  split at h
  ·rename_i hb;simp only [hb];exact maskS_ok hm r acc m h k
  ·rename_i hb
   split at h
   ·rename_i x hx
    rw [←hm] at hx
    simp only [hb,hx,fN_eq]
    exact maskS_ok hm r _ m h k
   ·cases h
theorem prepS_ok {β:Type}:∀(r:List Oper) (i:Nat) (ml dl ml' dl':List (Nat×Nat)),prepS r i ml dl=some (ml',dl')→∀ms dm:T Nat,(∀j,ms.get j=look ml j)→(∀t,dm.get t=look dl t)→
  ∃ms' dm':T Nat,(∀j,ms'.get j=look ml' j)∧(∀t,dm'.get t=look dl' t)∧∀k:T Nat→T Nat→Option β,prep r i ms dm k=k ms' dm'
 |[],i,ml,dl,ml',dl',h,ms,dm,hm,hd=>by
  simp only [prepS,Option.some.injEq,Prod.mk.injEq] at h
  obtain ⟨rfl,rfl⟩:=h
  exact ⟨ms,dm,hm,hd,fun k=>rfl⟩
 |o :: r,i,ml,dl,ml',dl',h,ms,dm,hm,hd=>by
  simp only [prepS] at h
  split at h
  ·rename_i m hmask
   have hm':∀j,(ms.up i (some m)).get j=look ((i,m) :: ml) j:=fun j=>by
    rw [T.get_up,look_cons]
    split
    ·rename_i e;rw [if_pos e.symm]
    ·rename_i e;rw [if_neg (Ne.symm e)];exact hm j
   split at h
   ·rename_i ho
    obtain ⟨ms',dm',a,b,c⟩:=prepS_ok (β:=β) r (i+1) _ _ _ _ h _ dm hm' hd
    refine ⟨ms',dm',a,b,fun k=>?_⟩
    simp only [prep,maskS_ok hm _ _ _ hmask,T.set_eq,ho]
    exact c k
   ·rename_i d ho
    split at h
    ·rename_i hl
     have hd':∀t,(dm.up d (some i)).get t=look ((d,i) :: dl) t:=fun t=>by
      rw [T.get_up,look_cons]
      split
      ·rename_i e;rw [if_pos e.symm]
      ·rename_i e;rw [if_neg (Ne.symm e)];exact hd t
     obtain ⟨ms',dm',a,b,c⟩:=prepS_ok (β:=β) r (i+1) _ _ _ _ h _ _ hm' hd'
     refine ⟨ms',dm',a,b,fun k=>?_⟩
     rw [←hd] at hl
     simp only [prep,maskS_ok hm _ _ _ hmask,T.set_eq,ho,hl]
     exact c k
    ·cases h
  ·cases h
section
variable {ml dl:List (Nat×Nat)} {ms dm:T Nat} (hm:∀j,ms.get j=look ml j) (hd:∀t,dm.get t=look dl t)
include hm hd
theorem visS_ok {regs:T V} {i cl t:Nat} (h:visS ml dl i cl t=true):CX.getD regs ms dm i cl t=regs.get t:=by
 unfold visS at h
 unfold CX.getD
 rw [hd]
 split at h
 ·rename_i hl;rw [hl]
 ·rename_i j hl
  rw [hl]
  simp only
  split at h
  ·rename_i hb;rw [hb]
  ·rename_i hb
   rw [hb]
   simp only
   rw [hm]
   split at h
   ·rename_i m hl2;rw [hl2];simp only;rw [h]
   ·cases h
theorem evDS_ok {C:Cx ro} {n:Nat} {l:List (Nat×SV)} {regs:T V} (hR:RegsS C n l regs) {i cl:Nat}:EvOk C n (evDS ml dl i cl l) (evD regs ms dm i cl):=fun x=>by
 cases x with
 |tmp t=>
  simp only [evDS,evD]
  split
  ·rename_i hv
   rw [visS_ok hm hd hv]
   exact evR_ok hR (.tmp t)
  ·exact .inl rfl
 |const v=>exact evR_ok hR (.const v)
 |func f=>exact evR_ok hR (.func f)
 |global g=>exact .inl rfl
theorem wantB_of {regs:T V} {all:List Oper} {o:Oper} {b:Bool} (h:∀k:Bool→R,wantX regs all o k=k b) {i cl:Nat} (hv:gvisS ml dl i cl all o=true):wantB regs ms dm i cl all o=some b:=by
 have inj:∀{x:Bool},(some (Ex.normal,(⟨cond x 1 0,0,.e,.e,0,[]⟩:CX.St)):R)=some (.normal,⟨cond b 1 0,0,.e,.e,0,[]⟩)→x=b:=by
  intro x hx
  cases x<;>cases b<;>first |rfl |(simp at hx)
 have h:=h fun x=>some (.normal,⟨cond x 1 0,0,.e,.e,0,[]⟩)
 unfold wantX at h
 unfold wantB
 unfold gvisS at hv
 cases hg:o.guard with
 |none=>rw [hg] at h;simp only at h;rw [inj h]
 |some p=>
  obtain ⟨g,want⟩:=p
  rw [hg] at h hv
  simp only [nth_eq] at h hv ⊢
  cases ho:all[g]? with
  |none=>rw [ho] at h;cases h
  |some og=>
   rw [ho] at h hv
   simp only at h hv ⊢
   cases hdst:og.dst with
   |none=>rw [hdst] at h;cases h
   |some d=>
    rw [hdst] at h hv
    simp only at h hv ⊢
    rw [visS_ok hm hd hv]
    cases hr:regs.get d with
    |none=>rw [hr] at h;cases h
    |some u=>
     rw [hr] at h
     cases u with
     |bool x=>cases x<;>cases want<;>exact congrArg some (inj h)
     |tup l=>cases l with
      |nil=>exact congrArg some (inj h)
      |cons _ _=>cases h
     |_=>cases h
end
theorem laterOk_ok {E:CX.Env} {ml:List (Nat×Nat)} {ms:T Nat} (hm:∀j,ms.get j=look ml j) {i:Nat}:∀(r:List Oper) (j:Nat),laterOk E ms i r j=laterOkS E ml i r j
 |[],_=>rfl
 |o :: r,j=>by
  simp only [laterOk,laterOkS,hm,laterOk_ok hm r]
  rfl
theorem disj_of:∀(a b:List Nat),(∀x∈a,x∉b)→disj a b=true
 |[],_,_=>rfl
 |x :: r,b,h=>by
  have h1:CX.memN x b=false:=by
   cases hb:CX.memN x b with
   |false=>rfl
   |true=>exact absurd ((CX.memN_iff b).1 hb) (h x (.head _))
  simp only [disj,h1]
  exact disj_of r b fun y hy=>h y (.tail _ hy)
theorem outs_of {lo hi:Nat}:∀(l:List Nat),(∀x∈l,¬(lo≤x∧x < hi))→outs lo hi l=true
 |[],_=>rfl
 |x :: r,h=>by
  have h1:(Nat.ble lo x && Nat.blt x hi)=false:=by
   cases hb:(Nat.ble lo x && Nat.blt x hi) with
   |false=>rfl
   |true=>
    rw [Bool.and_eq_true,Nat.ble_eq,Nat.blt_eq] at hb
    exact absurd hb (h x (.head _))
  simp only [outs,h1]
  exact outs_of r fun y hy=>h y (.tail _ hy)
theorem below_of {nx:Nat}:∀(l:List Nat),(∀x∈l,x < nx)→below nx l=true
 |[],_=>rfl
 |x :: r,h=>by
  simp only [below,bltT (h x (.head _))]
  exact below_of r fun y hy=>h y (.tail _ hy)
theorem fits_of {cl:Nat} {fp:Fp}:∀(rs:List Rc),(∀r∈rs,CX.bit cl r.i=true∨pairOk fp r=true)→fits cl fp rs=true
 |[],_=>rfl
 |r :: rs,h=>by
  simp only [fits]
  rcases h r (.head _) with h1 |h1
  ·rw [h1];exact fits_of rs fun y hy=>h y (.tail _ hy)
  ·cases hb:CX.bit cl r.i with
   |true=>exact fits_of rs fun y hy=>h y (.tail _ hy)
   |false=>simp only [h1];exact fits_of rs fun y hy=>h y (.tail _ hy)
theorem fitsL_ok {p:RcS→Bool} {cl:Nat}:∀(rs:List RcS),fitsL p cl rs=true→∀r∈rs,CX.bit cl r.i=true∨p r=true
 |[],_,_,hr=>by cases hr
 |r' :: rs,h,r,hr=>by
  simp only [fitsL] at h
  have next:fitsL p cl rs=true:=by
   split at h
   ·exact h
   ·split at h
    ·exact h
    ·cases h
  rcases List.mem_cons.1 hr with rfl |hr
  ·split at h
   ·exact .inl ‹_›
   ·split at h
    ·exact .inr ‹_›
    ·cases h
  ·exact fitsL_ok rs next r hr
theorem without_same {cl:Nat}:∀(rs:List Rc) (h:T O),(∀r∈rs,CX.bit cl r.i=true∨r.hi≤r.lo)→withoutS cl rs h=h
 |[],_,_=>rfl
 |r :: rs,h,hr=>by
  simp only [withoutS]
  cases hb:CX.bit cl r.i with
  |true=>exact without_same rs h fun y hy=>hr y (.tail _ hy)
  |false=>
   simp only
   rcases hr r (.head _) with h1 |h1
   ·rw [h1] at hb;cases hb
   ·rw [show Nat.sub r.hi r.lo=0 from Nat.sub_eq_zero_of_le h1]
    exact without_same rs _ fun y hy=>hr y (.tail _ hy)
def AtR (C:Cx ro) (n:Nat):At→Nat→Prop
 |.cl nm,id=>nm < n∧id=C.ids nm
 |.ar nm,id=>nm < n∧id=C.ids nm∧C.hdr nm≠.nils
 |.fz b,id=>b≤n∧id < C.bd b∧∃o,C.g id=some o
theorem AtR.ag {C C':Cx ro} {n m:Nat} (ha:Ag n C C') (hn:n≤m) {a:At} {id:Nat} (h:AtR C n a id):AtR C' m a id:=by
 cases a with
 |cl nm=>exact ⟨by have:=h.1;omega,by rw [ha.ids _ h.1];exact h.2⟩
 |ar nm=>exact ⟨by have:=h.1;omega,by rw [ha.ids _ h.1];exact h.2.1,by rw [ha.hdr _ h.1];exact h.2.2⟩
 |fz b=>
  obtain ⟨h1,h2,o,h3⟩:=h
  exact ⟨by omega,by rw [ha.bd _ h1];exact h2,o,ha.g _ _ h3⟩
def FtR (C:Cx ro) (n:Nat) (A:List At) (F:List Nat):Prop:=∀id∈F,∃a∈A,AtR C n a id
def FpR (C:Cx ro) (n:Nat):FpS→Fp→Prop
 |.all,.all=>True
 |.q,.q=>True
 |.ls A wr,.ls F wr'=>wr=wr'∧FtR C n A F
 |_,_=>False
structure RcR (C:Cx ro) (n nx0:Nat) (r:RcS) (x:Rc):Prop where
 i:x.i=r.i
 fp:FpR C n r.fp x.fp
 lo:nx0≤x.lo
 al:r.al=false→x.hi≤x.lo
theorem RcR.ag {C C':Cx ro} {n m nx0:Nat} (ha:Ag n C C') (hn:n≤m) {r:RcS} {x:Rc} (h:RcR C n nx0 r x):RcR C' m nx0 r x:=by
 refine ⟨h.i,?_,h.lo,h.al⟩
 have:=h.fp
 revert this
 cases r.fp<;>cases x.fp<;>simp only [FpR]<;>intro hh<;>first |trivial |exact hh |skip
 exact ⟨hh.1,fun id hid=>let ⟨a,h1,h2⟩:=hh.2 id hid;⟨a,h1,h2.ag ha hn⟩⟩
def RcsR (C:Cx ro) (n nx0:Nat):List RcS→List Rc→Prop
 |[],[]=>True
 |r :: rs,x :: xs=>RcR C n nx0 r x∧RcsR C n nx0 rs xs
 |_,_=>False
theorem RcsR.ag {C C':Cx ro} {n m nx0:Nat} (ha:Ag n C C') (hn:n≤m):∀{rs:List RcS} {xs:List Rc},RcsR C n nx0 rs xs→RcsR C' m nx0 rs xs
 |[],[],_=>trivial
 |_ :: _,_ :: _,h=>⟨h.1.ag ha hn,RcsR.ag ha hn h.2⟩
 |[],_ :: _,h=>h.elim
 |_ :: _,[],h=>h.elim
theorem RcsR.mem {C:Cx ro} {n nx0:Nat}:∀{rs:List RcS} {xs:List Rc},RcsR C n nx0 rs xs→∀x∈xs,∃r∈rs,RcR C n nx0 r x
 |[],[],_,_,hx=>by cases hx
 |r :: rs,x' :: xs,h,x,hx=>by
  rcases List.mem_cons.1 hx with rfl |hx
  ·exact ⟨r,.head _,h.1⟩
  ·obtain ⟨r',a,b⟩:=RcsR.mem h.2 x hx
   exact ⟨r',.tail _ a,b⟩
 |[],_ :: _,h,_,_=>h.elim
 |_ :: _,[],h,_,_=>h.elim
theorem isCl_ok {s:Option SO} (h:isCl s=true):∃l,s=some (.cells l):=by
 unfold isCl at h
 split at h
 ·exact ⟨_,rfl⟩
 ·cases h
theorem isAr_ok {s:Option SO} (h:isAr s=true):∃og ks rows,s=some (.arr og ks rows):=by
 unfold isAr at h
 split at h
 ·exact ⟨_,_,_,rfl⟩
 ·cases h
section
variable {C:Cx ro} {objs:List (Nat×SO)} {n bar:Nat} {h:Nat→Option O} {nx:Nat} (hM:MSim C objs n bar h nx)
include hM
theorem dis_ok {a b:At} (hd:disA objs a b=true) {x y:Nat} (hx:AtR C n a x) (hy:AtR C n b y):x≠y:=by
 have fzc:∀{bb nm:Nat} {x y:Nat} {so:SO},AtR C n (.fz bb) x→look objs nm=some so→ownS C nm so→y=C.ids nm→x≠y:=by
  intro bb nm x y so hx hl ho hy e
  obtain ⟨_,_,o,hg⟩:=hx
  have:=(hM.own _ _ hl ho).2.2
  rw [e,hy,this] at hg
  cases hg
 have fz0:∀{bb x:Nat},beqN bb 0=true→¬AtR C n (.fz bb) x:=fun {bb x} hb h=>by
  rw [beqN_iff] at hb
  subst hb
  have:=h.2.1
  rw [hM.z] at this
  omega
 cases a<;>cases b<;>simp only [disA,Bool.and_eq_true,Bool.or_eq_true,Bool.not_eq_true'] at hd
 case cl.cl=>
  obtain ⟨h1,h2,h3⟩:=hd
  obtain ⟨l,hl⟩:=isCl_ok h2
  obtain ⟨l',hl'⟩:=isCl_ok h3
  rw [hx.2,hy.2]
  exact hM.inj _ _ _ _ hl hl' trivial trivial (fun e=>by rw [←beqN_iff,h1] at e;cases e)
 case cl.ar=>
  obtain ⟨h1,h2,h3⟩:=hd
  obtain ⟨l,hl⟩:=isCl_ok h2
  obtain ⟨og,ks,rows,hl'⟩:=isAr_ok h3
  rw [hx.2,hy.2.1]
  exact hM.inj _ _ _ _ hl hl' trivial hy.2.2 (fun e=>by rw [←beqN_iff,h1] at e;cases e)
 case ar.cl=>
  obtain ⟨h1,h2,h3⟩:=hd
  obtain ⟨l,hl⟩:=isCl_ok h3
  obtain ⟨og,ks,rows,hl'⟩:=isAr_ok h2
  rw [hx.2.1,hy.2]
  exact hM.inj _ _ _ _ hl' hl hx.2.2 trivial (fun e=>by rw [←beqN_iff,h1] at e;cases e)
 case ar.ar=>
  obtain ⟨h1,h2,h3⟩:=hd
  obtain ⟨og,ks,rows,hl⟩:=isAr_ok h2
  obtain ⟨og',ks',rows',hl'⟩:=isAr_ok h3
  rw [hx.2.1,hy.2.1]
  exact hM.inj _ _ _ _ hl hl' hx.2.2 hy.2.2 (fun e=>by rw [←beqN_iff,h1] at e;cases e)
 case fz.cl=>
  rcases hd with hd |hd
  ·exact absurd hx (fz0 hd)
  obtain ⟨l,hl⟩:=isCl_ok hd
  exact fzc hx hl trivial hy.2
 case fz.ar=>
  rcases hd with hd |hd
  ·exact absurd hx (fz0 hd)
  obtain ⟨og,ks,rows,hl⟩:=isAr_ok hd
  exact fzc hx hl hy.2.2 hy.2.1
 case cl.fz=>
  rcases hd with hd |hd
  ·exact absurd hy (fz0 hd)
  obtain ⟨l,hl⟩:=isCl_ok hd
  exact (fzc hy hl trivial hx.2).symm
 case ar.fz=>
  rcases hd with hd |hd
  ·exact absurd hy (fz0 hd)
  obtain ⟨og,ks,rows,hl⟩:=isAr_ok hd
  exact (fzc hy hl hx.2.2 hx.2.1).symm
 case fz.fz=>
  rcases hd with hd |hd
  ·exact absurd hx (fz0 hd)
  ·exact absurd hy (fz0 hd)
theorem old_ok {C':Cx ro} {n':Nat} (ha:Ag n C C') {a:At} (ho:oldA objs n a=true) {x:Nat} (hx:AtR C' n' a x):x < nx:=by
 cases a with
 |cl nm=>
  obtain ⟨l,hl⟩:=isCl_ok ho
  rw [hx.2,ha.ids _ (hM.lt _ _ hl)]
  exact (hM.own _ _ hl trivial).2.1
 |ar nm=>
  obtain ⟨og,ks,rows,hl⟩:=isAr_ok ho
  have hlt:=hM.lt _ _ hl
  rw [hx.2.1,ha.ids _ hlt]
  exact (hM.own _ _ hl (by have:=hx.2.2;rw [ha.hdr _ hlt] at this;exact this)).2.1
 |fz b=>
  simp only [oldA,bleN_iff] at ho
  have:=hx.2.1
  rw [ha.bd _ ho] at this
  exact Nat.lt_of_lt_of_le this (hM.bd _ ho)
end
theorem pairS_ok {C0:Cx ro} {σ0:List (Nat×SO)} {n0 bar0:Nat} {h0:Nat→Option O} {nx0:Nat} (hM0:MSim C0 σ0 n0 bar0 h0 nx0) {C:Cx ro} (ha:Ag n0 C0 C) {objs:List (Nat×SO)} {n bar:Nat} {h:Nat→Option O} {nx:Nat} (hM:MSim C objs n bar h nx)
  {A:List At} {F:List Nat} (hF:FtR C n A F) {wr:Bool} {r:RcS} {x:Rc} (hx:RcR C n nx0 r x) (hp:pairS σ0 n0 objs A wr r=true):pairOk (.ls F wr) x=true:=by
 have hout:(!r.al || A.all (oldA σ0 n0))=true→outs x.lo x.hi F=true:=by
  intro ho
  refine outs_of F fun id hid hh=>?_
  rw [Bool.or_eq_true,Bool.not_eq_true'] at ho
  rcases ho with ho |ho
  ·have:=hx.al ho;omega
  ·obtain ⟨a,h1,h2⟩:=hF id hid
   have:=old_ok hM0 ha (List.all_eq_true.1 ho a h1) h2
   have:=hx.lo
   omega
 have hfp:=hx.fp
 unfold pairS at hp
 cases hr:r.fp with
 |all=>rw [hr] at hp;cases hp
 |q=>
  rw [hr] at hp hfp
  cases hxf:x.fp<;>rw [hxf] at hfp<;>simp only [FpR] at hfp
  simp only [pairOk,hxf]
  cases wr with
  |true=>
   simp only [noA] at hp ⊢
   cases F with
   |nil=>rfl
   |cons id F=>
    obtain ⟨a,h1,_⟩:=hF id (.head _)
    split at hp
    ·cases h1
    ·cases hp
  |false=>exact hout hp
 |ls B wr'=>
  rw [hr] at hp hfp
  cases hxf:x.fp<;>rw [hxf] at hfp<;>simp only [FpR] at hfp
  rename_i F' wr2
  obtain ⟨rfl,hB⟩:=hfp
  simp only [Bool.and_eq_true] at hp
  obtain ⟨hp1,hp2⟩:=hp
  simp only [pairOk,hxf,hout hp1]
  have hdis:disL objs A B=true→disj F F'=true:=by
   intro hd
   refine disj_of F F' fun id hid hid'=>?_
   obtain ⟨a,a1,a2⟩:=hF id hid
   obtain ⟨b,b1,b2⟩:=hB id hid'
   exact dis_ok hM (List.all_eq_true.1 (List.all_eq_true.1 hd a a1) b b1) a2 b2 rfl
  cases wr<;>cases wr'<;>simp only [Bool.or_false,Bool.or_true,Bool.true_or] at hp2 ⊢<;>exact hdis hp2
theorem fitsA_ok {C:Cx ro} {n nx0:Nat} {p:RcS→Bool} {cl:Nat} {rs:List RcS} {xs:List Rc} (hR:RcsR C n nx0 rs xs) (h:fitsL p cl rs=true) {fp:Fp} (hp:∀r x,RcR C n nx0 r x→p r=true→pairOk fp x=true):fits cl fp xs=true:=by
 refine fits_of xs fun x hx=>?_
 obtain ⟨r,h1,h2⟩:=hR.mem x hx
 rcases fitsL_ok rs h r h1 with hb |hb
 ·exact .inl (by rw [h2.i];exact hb)
 ·exact .inr (hp r x h2 hb)
theorem atomsOf_ok {E:Env} (hA:E.A=Ar.std) {C:Cx ro} {σ:St} {bar:Nat} {h:Nat→Option O} {nx:Nat} (hM:MSim C σ.objs σ.next bar h nx) {x:SV} {v:V} (hx:RvS C σ.next x v) {p:List Prop} {A:List At} (ha:atomsOf E σ x=some (p,A)) (hp:∀q∈p,q):∀id∈footV v,id < nx∧∃a∈A,AtR C σ.next a id:=by
 have slcv:∀{nm:Nat},nm < σ.next→isHdr (C.hdr nm)→isAr (look σ.objs nm)=true→∀id∈footV (C.hdr nm),id < nx∧∃a∈[At.ar nm],AtR C σ.next a id:=by
  intro nm hnm hh hl id hid
  obtain ⟨og,ks,rows,hl⟩:=isAr_ok hl
  have ho:=hM.ob _ _ hl
  simp only [ObS] at ho
  obtain ⟨_,⟨_,e⟩ |⟨t,m,cap,e,_⟩⟩:=ho
  ·rw [e] at hid;simp [footV] at hid
  ·rw [e] at hid
   simp only [footV,List.mem_singleton] at hid
   have hne:C.hdr nm≠.nils:=by rw [e];intro e;cases e
   exact ⟨by rw [hid];exact (hM.own _ _ hl hne).2.1,.ar nm,by simp,hnm,hid,hne⟩
 unfold atomsOf at ha
 split at ha
 ·split at ha
  ·rename_i hl
   obtain ⟨l,hl⟩:=isCl_ok hl
   simp only [Option.some.injEq,Prod.mk.injEq] at ha
   obtain ⟨rfl,rfl⟩:=ha
   simp only [RvS] at hx
   obtain ⟨h1,rfl⟩:=hx
   intro id hid
   simp only [footV,List.mem_singleton] at hid
   exact ⟨by rw [hid];exact (hM.own _ _ hl trivial).2.1,_,.head _,h1,hid⟩
  ·cases ha
 ·rename_i nm es i off
  split at ha
  ·rename_i og ks rows hl
   simp only [Option.some.injEq,Prod.mk.injEq] at ha
   obtain ⟨rfl,rfl⟩:=ha
   simp only [RvS] at hx
   obtain ⟨h1,rfl⟩:=hx
   intro id hid
   simp only [footV,List.mem_singleton] at hid
   have hne:C.hdr nm≠.nils:=by
    have p1:=hp _ (.head _)
    rw [hA] at p1
    have ho:=hM.ob _ _ hl
    simp only [ObS] at ho
    obtain ⟨_,⟨hr,_⟩ |⟨t,m,cap,e,_⟩⟩:=ho
    ·rw [hr] at p1
     simp [Ar.std] at p1
     omega
    ·rw [e];intro e;cases e
   exact ⟨by rw [hid];exact (hM.own _ _ hl hne).2.1,_,.head _,h1,hid,hne⟩
  ·cases ha
 ·rename_i b ks rows i off
  simp only [Option.some.injEq,Prod.mk.injEq] at ha
  obtain ⟨rfl,rfl⟩:=ha
  simp only [RvS,FelR] at hx
  obtain ⟨h0,⟨id',base,t,m,rfl,h2,h3,_⟩ |⟨a,rfl,_⟩⟩:=hx
  ·intro id hid
   simp only [footV,List.mem_singleton] at hid
   subst hid
   exact ⟨(hM.fz _ _ h3).1,_,.head _,h0,h2,_,h3⟩
  ·intro id hid;simp [footV] at hid
 ·split at ha
  ·rename_i hl
   simp only [Option.some.injEq,Prod.mk.injEq] at ha
   obtain ⟨rfl,rfl⟩:=ha
   simp only [RvS] at hx
   obtain ⟨h1,rfl,h2⟩:=hx
   exact slcv h1 h2 hl
  ·cases ha
 ·rename_i nm lo m
  split at ha
  ·rename_i hl
   obtain ⟨og,ks,rows,hl⟩:=isAr_ok hl
   simp only [Option.some.injEq,Prod.mk.injEq] at ha
   obtain ⟨rfl,rfl⟩:=ha
   simp only [RvS,VwR] at hx
   obtain ⟨h1,⟨_,rfl,_⟩ |⟨es,len,cap0,off,cap,e,rfl,_⟩⟩:=hx
   ·intro id hid;simp [footV] at hid
   ·intro id hid
    simp only [footV,List.mem_singleton] at hid
    have hne:C.hdr nm≠.nils:=by rw [e];intro e;cases e
    exact ⟨by rw [hid];exact (hM.own _ _ hl hne).2.1,_,.head _,h1,hid,hne⟩
  ·cases ha
 ·split at ha
  ·rename_i hl
   obtain ⟨l,hl⟩:=isCl_ok hl
   simp only [Option.some.injEq,Prod.mk.injEq] at ha
   obtain ⟨rfl,rfl⟩:=ha
   simp only [RvS] at hx
   obtain ⟨h1,_,cap,rfl,_⟩:=hx
   intro id hid
   simp only [footV,List.mem_singleton] at hid
   exact ⟨by rw [hid];exact (hM.own _ _ hl trivial).2.1,_,.head _,h1,hid⟩
  ·cases ha
 ·simp only [Option.some.injEq,Prod.mk.injEq] at ha
  obtain ⟨rfl,rfl⟩:=ha
  simp only [RvS,FzC,D.rows] at hx
  obtain ⟨h0,_,⟨_,rfl⟩ |⟨id',off,cap,rfl,_,_,h2,t,m,h3,_⟩ |⟨a,cap,rfl,_⟩⟩:=hx
  ·intro id hid;simp [footV] at hid
  ·intro id hid
   simp only [footV,List.mem_singleton] at hid
   subst hid
   exact ⟨(hM.fz _ _ h3).1,_,.head _,h0,h2,_,h3⟩
  ·intro id hid;simp [footV] at hid
 ·simp only [Option.some.injEq,Prod.mk.injEq] at ha
  obtain ⟨rfl,rfl⟩:=ha
  simp only [RvS] at hx
  subst hx
  intro id hid;simp [footV] at hid
 ·cases ha
theorem footS_ok {E:Env} (hA:E.A=Ar.std) {C:Cx ro} {σ:St} {bar:Nat} {h:Nat→Option O} {nx:Nat} (hM:MSim C σ.objs σ.next bar h nx) {ev:Operand→SV} {evc:Operand→Option V} (hev:EvOk C σ.next ev evc) {op:Op} {p:List Prop} {A:List At} (ha:footS E σ ev op=some (p,A)) (hp:∀q∈p,q)
  {F:List Nat} (hF:foot evc op=some F):∀id∈F,id < nx∧∃a∈A,AtR C σ.next a id:=by
 have ne:∀{y:Operand} {r:List Prop×List At},atomsOf E σ (ev y)=some r→ev y≠.unk:=fun h e=>by rw [e] at h;simp [atomsOf] at h
 have one:∀{y:Operand} {p:List Prop} {A:List At} {F:List Nat},atomsOf E σ (ev y)=some (p,A)→(∀q∈p,q)→foot1 evc y=some F→∀id∈F,id < nx∧∃a∈A,AtR C σ.next a id:=by
  intro y p A F h hp hF
  obtain ⟨v,e1,e2⟩:=hev.get rfl (ne h)
  rw [foot1_eq e1] at hF
  simp only [Option.some.injEq] at hF
  subst hF
  exact atomsOf_ok hA hM e2 h hp
 unfold footS at ha
 split at ha
 ·exact one ha hp hF
 ·exact one ha hp hF
 ·rename_i c
  split at ha
  ·rename_i x y hargs
   split at ha
   ·rename_i p1 a1 p2 a2 hx hy
    simp only [Option.some.injEq,Prod.mk.injEq] at ha
    obtain ⟨rfl,rfl⟩:=ha
    simp only [foot,hargs] at hF
    split at hF
    ·rename_i f1 f2 h1 h2
     simp only [Option.some.injEq] at hF
     subst hF
     intro id hid
     rcases List.mem_append.1 hid with hid |hid
     ·obtain ⟨d,a,b,c⟩:=one hx (fun q hq=>hp q (List.mem_append_left _ hq)) h1 id hid
      exact ⟨d,a,List.mem_append_left _ b,c⟩
     ·obtain ⟨d,a,b,c⟩:=one hy (fun q hq=>hp q (List.mem_append_right _ hq)) h2 id hid
      exact ⟨d,a,List.mem_append_right _ b,c⟩
    ·cases hF
   ·cases ha
  ·cases ha
 all_goals first
  |(simp only [foot,Option.some.injEq] at hF;subst hF;intro id hid;cases hid)
  |cases ha
end HX
