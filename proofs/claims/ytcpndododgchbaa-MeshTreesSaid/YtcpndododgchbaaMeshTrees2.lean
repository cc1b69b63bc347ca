/-
  Texts of the executors: CxM, CxM2, CxM3, CxEq, CxCall, CxOp.
-/
import Derived.Test.YtcpndododgchbaaMeshTrees1
import Derived.Laws.Append
import Derived.Laws.CopyRow
import Derived.Laws.Tables
import Derived.Lib.AppendZeros
import Derived.MapKept
import Derived.Laws.BytesString
import Derived.RangeFuncRecord
import Derived.RangeFuncCalls
set_option linter.all false
noncomputable section
namespace CX
open Go
theorem HSat.sub {Z:Nm} {g g':Nat->Option O} {n:Nat} {w:World} (h:HSat Z g n w) (hg:∀id o,g' id=some o->g id=some o):HSat Z g' n w:=
 ⟨fun id o ho=>h.objs id o (hg id o ho),fun id o id' o' h1 h2=>h.sep id o id' o' (hg _ _ h1) (hg _ _ h2),h.dom,h.blk⟩
theorem HSat.world {Z:Nm} {g:Nat->Option O} {n:Nat} {w w':World} (h:HSat Z g n w) (e:w'.heap=w.heap):HSat Z g n w':=
 ⟨fun id o ho=>⟨(h.objs id o ho).1,ObjOk.ext (h.objs id o ho).1 (zB _) (fun _ _ _ h=>h) (fun _ _=>by rw [e]) o (h.objs id o ho).2⟩,h.sep,h.dom,fun id L hl=>by rw [e];exact h.blk id L hl⟩
theorem HSat.upd {Z Z':Nm} {g g':Nat->Option O} {n n':Nat} {w w':World} (hS:HSat Z g n w) {id0:Nat} {o0:O} {L0:Loc} (hn:n<=n') (ha:agree n Z Z') (hid0:id0 < n')
  (hL0:Z' id0=some L0) (ho:ObjOk Z' n' w' id0 o0) (hg0:∀o,g' id0=some o->o=o0) (hg:∀id o,g' id=some o->id≠id0->g id=some o/\∀L,Z id=some L->L.b≠L0.b)
  (hkeep:∀b,b < w.heap.size->b≠L0.b->w'.heap[b]?=w.heap[b]?) (hdom:∀id,n'<=id->Z' id=none) (hblk:∀id L,Z' id=some L->L.b < w'.heap.size):HSat Z' g' n' w':=by
 have keep:∀id o,g' id=some o->id≠id0->id < n/\ObjOk Z' n' w' id o:=by
  intro id o h hne
  obtain ⟨h1,h2⟩:=hg id o h hne
  obtain ⟨h3,h4⟩:=hS.objs id o h1
  exact ⟨h3,ObjOk.ext h3 hn (fun i L hi hl=>by rw [ha i hi];exact hl) (fun L hL=>hkeep L.b (hS.blk id L hL) (h2 L hL)) o h4⟩
 refine ⟨fun id o h=>?_,fun id o id' o' h h' hne L L' hL hL'=>?_,hdom,hblk⟩
 ·by_cases hid:id=id0
  ·subst hid
   rw [hg0 o h]
   exact ⟨hid0,ho⟩
  obtain ⟨h1,h2⟩:=keep id o h hid
  exact ⟨by omega,h2⟩
 by_cases h1:id=id0
 ·subst h1
  have h2:id'≠id:=Ne.symm hne
  obtain ⟨h3,h4⟩:=hg id' o' h' h2
  obtain ⟨h5,_⟩:=keep id' o' h' h2
  rw [hL0] at hL
  cases hL
  rw [ha id' h5] at hL'
  exact Ne.symm (h4 L' hL')
 obtain ⟨h3,h4⟩:=hg id o h h1
 obtain ⟨h5,_⟩:=keep id o h h1
 rw [ha id h5] at hL
 by_cases h2:id'=id0
 ·subst h2
  rw [hL0] at hL'
  cases hL'
  exact h4 L hL
 obtain ⟨h6,h7⟩:=hg id' o' h' h2
 obtain ⟨h8,_⟩:=keep id' o' h' h2
 rw [ha id' h8] at hL'
 exact hS.sep id o id' o' h3 h6 hne L L' hL hL'
theorem Fr.upd {Z Z':Nm} {g g':Nat->Option O} {n bar:Nat} {w w':World} {B:Nat} {id0:Nat} (hS:HSat Z g n w) (ha:agree n Z Z') (hio:w'.os=w.os/\w'.tape=w.tape/\Io w w')
  (hsz:w.heap.size<=w'.heap.size) (hkeep:∀b,b < w.heap.size->b≠B->w'.heap[b]?=w.heap[b]?) (hB:Own Z g bar B\/w.heap.size<=B)
  (hL0:∀L,Z' id0=some L->L.b=B) (hg:∀id o,g' id=some o->id≠id0->g id=some o):Fr (Own Z g bar) w (Own Z' g' bar) w':=by
 refine ⟨hio.1,hio.2.1,hio.2.2,hsz,fun b hb hno=>hkeep b hb fun e=>?_,?_⟩
 ·subst e
  rcases hB with h |h
  ·exact hno h
  omega
 rintro b ⟨id,o,L,hbar,ho,hL,rfl⟩
 by_cases hid:id=id0
 ·subst hid
  rw [hL0 L hL]
  exact hB
 have h1:=hg id o ho hid
 have h2:=(hS.objs id o h1).1
 rw [ha id h2] at hL
 exact .inl ⟨id,o,L,hbar,h1,hL,rfl⟩
def MOk (Z:Nm) (g:Nat->Option O) (n:Nat) (w:World) (bar:Nat) (res:Result Next) (v:V) (g':Nat->Option O) (n':Nat):Prop:=
 ∃nxt u Z' w',res=.ok nxt w'/\(nxt=.value u\/(nxt=.skip/\u=undef))/\Rv Z' n' v u/\HSat Z' g' n' w'/\agree n Z Z'/\n<=n'/\Fr (Own Z g bar) w (Own Z' g' bar) w'
def Nm.put (Z:Nm) (id:Nat) (L:Loc):Nm:=fun i=>if i=id then some L else Z i
theorem put_same (Z:Nm) (id:Nat) (L:Loc):Z.put id L id=some L:=by simp [Nm.put]
theorem agree_put (Z:Nm) (n:Nat) (L:Loc):agree n Z (Z.put n L):=fun i hi=>by simp [Nm.put,Nat.ne_of_lt hi]
theorem dom_put {Z:Nm} {n:Nat} (h:∀id,n<=id->Z id=none) (L:Loc):∀id,n+1<=id->(Z.put n L) id=none:=fun id hid=>by
 rw [Nm.put,if_neg (by omega)];exact h id (by omega)
theorem HSat.new {Z:Nm} {g g':Nat->Option O} {n bar:Nat} {w w':World} (hS:HSat Z g n w) {ob:Obj} {o:O} {bs:Nat} (hw:w'.heap=w.heap.push ob) (hio:w'.os=w.os/\w'.tape=w.tape/\Io w w')
  (ho:ObjOk (Z.put n ⟨w.heap.size,0,bs⟩) (n+1) w' n o) (hg:∀id,g' id=if id=n then some o else g id) :
  HSat (Z.put n ⟨w.heap.size,0,bs⟩) g' (n+1) w'/\Fr (Own Z g bar) w (Own (Z.put n ⟨w.heap.size,0,bs⟩) g' bar) w':=by
 have hkeep:∀b,b < w.heap.size->b≠w.heap.size->w'.heap[b]?=w.heap[b]?:=fun b hb _=>by rw [hw,Array.getElem?_push,if_neg (by omega)]
 have hsz:w'.heap.size=w.heap.size+1:=by rw [hw];simp
 refine ⟨hS.upd (id0:=n) (o0:=o) (zQ _) (agree_put _ _ _) (zM _) (put_same _ _ _) ho (fun o' h=>by rw [hg,if_pos rfl] at h;simpa using h.symm) (fun id o' h hne=>?_) hkeep (dom_put hS.dom _) (fun id L h=>?_),
  Fr.upd (id0:=n) hS (agree_put _ _ _) hio (by omega) hkeep (.inr (zB _)) (fun L h=>by rw [put_same] at h;cases h;rfl) (fun id o' h hne=>by rw [hg,if_neg hne] at h;exact h)⟩
 ·rw [hg,if_neg hne] at h
  exact ⟨h,fun L hL=>by have:=hS.blk id L hL;show L.b≠w.heap.size;omega⟩
 simp only [Nm.put] at h
 split at h
 ·cases h;show w.heap.size < _;omega
 have:=hS.blk id L h;omega
theorem run_getMap {P:Program} {w:World} {r:Nat} {es:Array MapEntry} {c:Nat} (h:w.heap[r]?=some (.map es c)):(getObj r).run P w=.ok (.map es c) w:=by
 simp [getObj,Sem.run,h]
theorem wrt_ok:∀(l:List V) (t:T V) (i:Nat) {k:T V->R} {r:Ex×St},wrt t i l k=some r->∃t',k t'=some r/\∀j,t'.get j=if i<=j/\j < i+l.length then l[j - i]? else t.get j
 |[],t,i,k,r,h=>⟨t,h,fun j=>by rw [if_neg (by simp)]⟩
 |v :: l,t,i,k,r,h=>by
  simp only [wrt] at h
  rw [T.set_eq] at h
  obtain ⟨t',h1,h2⟩:=wrt_ok l _ (Nat.succ i) h
  refine ⟨t',h1,fun j=>?_⟩
  rw [h2,T.get_up]
  by_cases hj:j=i
  ·subst hj
   rw [if_neg (by omega),if_pos rfl,if_pos (by simp)]
   simp
  by_cases hj2:Nat.succ i<=j/\j < Nat.succ i+l.length
  ·rw [if_pos hj2,if_pos (by simp;omega),show j - i=(j - Nat.succ i)+1 by omega]
   simp
  rw [if_neg hj2,if_neg hj,if_neg (by simp;omega)]
theorem cell_at {w:World} {b:Nat} {cur:Array Value} {ty:TypeId} (h:w.heap[b]?=some (.cells cur ty (0,0))) (i:Nat):w.cell? ⟨b,i,none⟩=cur[i]?:=by
 simp [World.cell?,h]
theorem one1_cell {Z:Nm} {n:Nat} {v:V} {u:Value} (h:Rv Z n v u) (h1:one1 v=true):u.oneCell'=true:=by
  cases v with
  |agg l=>simp [one1] at h1
  |tup l=>simp [one1] at h1
  | slc id es off ln c => cases c <;> simp only [Rv] at h
                          · obtain ⟨_,_,L,c,o,_,rfl,_⟩:=h;rfl
                          · obtain ⟨_,_,_,L,_,rfl⟩:=h;rfl
  | fn f a b => cases f <;> simp only [Rv] at h
                · obtain ⟨x,y,_,_,rfl⟩:=h;rfl
                · obtain ⟨_,L,x,y,_,_,_,rfl⟩:=h;rfl
  |int k x=>simp only [Rv] at h;subst h;rfl
  |bool b=>simp only [Rv] at h;subst h;rfl
  |str s=>simp only [Rv] at h;obtain ⟨_,rfl⟩:=h;rfl
  |ptr id off=>simp only [Rv] at h;obtain ⟨_,L,_,rfl⟩:=h;rfl
  |nilp=>simp only [Rv] at h;subst h;rfl
  |nils=>simp only [Rv] at h;subst h;rfl
  |map id=>simp only [Rv] at h;obtain ⟨_,L,_,rfl⟩:=h;rfl
  |nilm=>simp only [Rv] at h;subst h;rfl
  |nilf=>simp only [Rv] at h;subst h;rfl
  |iface t v=>simp only [Rv] at h;obtain ⟨x,_,rfl⟩:=h;rfl
  |nili=>simp only [Rv] at h;subst h;rfl
  |rptr a=>simp only [Rv] at h;subst h;rfl
  |rslc a ln c=>simp only [Rv] at h;obtain ⟨_,rfl⟩:=h;rfl
  |raw x=>simp only [Rv] at h;obtain ⟨rfl,h⟩:=h;exact h
theorem cells_list {Z:Nm} {g:Nat->Option O} {n:Nat} {w:World} (hS:HSat Z g n w) {id m:Nat} {t:T V} (hg:g id=some (.cells t m)) {i c:Nat} (hle:i+c<=m) :
  ∃l x L cur ty,l.length=c/\RvL Z n l x/\(∀v∈l,one1 v=true)/\Z id=some L/\w.heap[L.b]?=some (.cells cur ty (0,0))/\cur.size=L.bs/\L.base+m<=L.bs/\
   (∀j,j < c->t.get (i+j)=l[j]?)/\(∀j u,x[j]?=some u->cur[L.base+i+j]?=some u)/\(∀j u,x[j]?=some u->w.cell? ((⟨L.b,L.base+i,none⟩:Addr).add j)=some u):=by
 obtain ⟨_,ho⟩:=hS.objs id _ hg
 simp only [ObjOk] at ho
 obtain ⟨L,cur,ty,hL,hh,hsz,hbs,hcell⟩:=ho
 have key:∀(c i:Nat),i+c<=m->∃l x,l.length=c/\RvL Z n l x/\(∀v∈l,one1 v=true)/\(∀j,j < c->t.get (i+j)=l[j]?)/\∀j u,x[j]?=some u->cur[L.base+i+j]?=some u:=by
  intro c
  induction c with
  |zero=>exact fun i _=>⟨[],[],rfl,by simp [RvL],by simp,fun j h=>by omega,fun j u h=>by simp at h⟩
  |succ c ih=>
   intro i hle
   obtain ⟨l,x,hl,hx1,hx2,hx4,hx3⟩:=ih (i+1) (by omega)
   obtain ⟨v,u,g1,g2,g3,g4⟩:=hcell i (by omega)
   refine ⟨v :: l,u :: x,by simp [hl],by simp only [RvL];exact ⟨g4,hx1⟩,fun y hy=>?_,fun j hj=>?_,fun j u' hj=>?_⟩
   ·rcases zL.1 hy with rfl |hy
    ·exact g2
    exact hx2 y hy
   ·cases j with
    |zero=>exact g1
    |succ j=>rw [show i+(j+1)=i+1+j by omega,hx4 j (by omega)];rfl
   cases j with
   |zero=>simp only [zK,zA] at hj;subst hj;exact g3
   |succ j=>have:=hx3 j u' (by simpa using hj);rw [show L.base+i+(j+1)=L.base+(i+1)+j by omega];exact this
 obtain ⟨l,x,hl,hx1,hx2,hx4,hx3⟩:=key c i hle
 exact ⟨l,x,L,cur,ty,hl,hx1,hx2,hL,hh,hsz,hbs,hx4,hx3,fun j u hj=>by rw [add_at,cell_at hh];exact hx3 j u hj⟩
theorem rd_eq {t:T V}:∀(l:List V) (i:Nat) (k:List V->R),(∀j,j < l.length->t.get (i+j)=l[j]?)->rd t i l.length k=k l
 |[],i,k,_=>rfl
 |v :: l,i,k,h=>by
  have h0:=h 0 (by simp)
  simp only [kF,zK] at h0
  simp only [zY,rd,h0]
  rw [rd_eq l (Nat.succ i) _ (fun j hj=>by rw [show Nat.succ i+j=i+(j+1) by omega,h (j+1) (by simpa using hj)];rfl)]
theorem cells_read {Z:Nm} {g:Nat->Option O} {n:Nat} {w:World} (hS:HSat Z g n w) {id m:Nat} {t:T V} (hg:g id=some (.cells t m)) {i c:Nat} (hle:i+c<=m) {k:List V->R} {r:Ex×St} (h:rd t i c k=some r) :
  ∃l x L cur ty,k l=some r/\l.length=c/\RvL Z n l x/\(∀v∈l,one1 v=true)/\Z id=some L/\w.heap[L.b]?=some (.cells cur ty (0,0))/\cur.size=L.bs/\L.base+m<=L.bs/\
   (∀j u,x[j]?=some u->cur[L.base+i+j]?=some u)/\(∀j u,x[j]?=some u->w.cell? ((⟨L.b,L.base+i,none⟩:Addr).add j)=some u):=by
 obtain ⟨l,x,L,cur,ty,h1,h2,h3,h4,h5,h6,h7,h8,h9,h10⟩:=cells_list hS hg hle
 subst h1
 rw [rd_eq l i k h8] at h
 exact ⟨l,x,L,cur,ty,h,rfl,h2,h3,h4,h5,h6,h7,h9,h10⟩
section
variable {P:Program} {E:Env} (hE:EnvOk E P) {Z:Nm} {n:Nat}
include hE
theorem run_loadVar {t:Nat} {ty:Ty} (hty:E.T t=some ty) (w:World) (a:Addr) {l:List V} {x:List Value} (hl:RvL Z n l x) (hlen:l.length=ty.size) (hc:∀j u,x[j]?=some u->w.cell? (a.add j)=some u)
  {k:V->R} {r:Ex×St} (h:packR ty.agg l k=some r):∃v u,k v=some r/\Rv Z n v u/\(loadVar t a).run P w=.ok u w:=by
 obtain ⟨i,z,hi,hs,_⟩:=(hE.T _ _ hty).info
 obtain ⟨d,hd,hag,_⟩:=(hE.T _ _ hty).und
 have hxl:=hl.length
 obtain ⟨v,u,h1,h2,h3,h4⟩:=packR_ok hl h
 refine ⟨v,u,h1,h2,?_⟩
 cases ha:ty.agg with
 |true=>
  rw [h3 ha]
  simp only [loadVar,zN,run_isAgg' hd,zG,hag,ha,if_true,run_sizeOf' hi,hs,<-hlen,<-hxl,run_loadCells_list w a x hc,xD]
 |false=>
  obtain ⟨h5,_⟩:=h4 ha
  have h0:=hc 0 u (by rw [h5];rfl)
  have:a.add 0=a:=by simp [Addr.add]
  rw [this] at h0
  simp only [loadVar,zN,run_isAgg' hd,zG,hag,ha,kN,if_false,run_load]
  simp [h0]
omit hE in
theorem rdA_ok {ro:Addr->Option V} {w:World} (hR:RoAt ro w) {a:Addr}:∀(m i:Nat) {k:List V->R} {r:Ex×St},rdA ro a i m k=some r->
  ∃l x,k l=some r/\l.length=m/\RvL Z n l x/\(∀v∈l,one1 v=true)/\∀j u,x[j]?=some u->w.cell? (a.add (i+j))=some u
 |0,i,k,r,h=>⟨[],[],h,rfl,trivial,fun _ hv=>(by cases hv),fun j u hu=>by simp at hu⟩
 |m+1,i,k,r,h=>by
  simp only [rdA] at h
  split at h
  next v hv=>
   obtain ⟨h1,u,h2,h3⟩:=hR _ _ hv
   obtain ⟨l,x,e1,e2,e3,e4,e5⟩:=rdA_ok hR m (i+1) h
   refine ⟨v :: l,u :: x,e1,by simp [e2],by simp only [RvL];exact ⟨h3 _ _,e3⟩,fun y hy=>by rcases zL.1 hy with rfl |hy;exact h1;exact e4 y hy,fun j u' hu=>?_⟩
   cases j with
   |zero=>
    simp only [zK,zA] at hu
    subst hu;exact h2
   |succ j=>
    rw [show i+(j+1)=i+1+j by omega]
    exact e5 j u' (by simpa using hu)
  cases h
omit hE in
theorem cellsOf_ok {ro:Addr->Option V} {g:T O} {w:World} (hR:RoAt ro w) (hS:HSat Z g.get n w) {es m:Nat} {y:V} {u:Value} (hy:Rv Z n y u) {k:List V->R} {r:Ex×St} (h:cellsOf ro g es m y k=some r) :
  ∃l x,k l=some r/\RvL Z n l x/\(∀v∈l,one1 v=true)/\l.length=m * es/\
   ((m=0/\l=[])\/(∃a ln c,y=.rslc a ln c/\u=.slice (some a) ln c/\∀j u,x[j]?=some u->w.cell? (a.add j)=some u)\/∃id off ln cap L off' c,y=.slc id es off ln cap/\Z id=some L/\u=.slice (some ⟨L.b,off',none⟩) ln c/\(ln≠0->off'=L.base+off)/\(∀j u,x[j]?=some u->w.cell? ((⟨L.b,L.base+off,none⟩:Addr).add j)=some u)):=by
 unfold cellsOf at h
 split at h
 ·split at h
  ·exact ⟨[],[],h,by simp [RvL],by simp,by simp,.inl ⟨rfl,rfl⟩⟩
  cases h
 next id es' off ln cap=>
  split at h
  rotate_left
  ·cases h
  rename_i hes
  have hes:=zF hes
  subst hes
  split at h
  ·exact ⟨[],[],h,by simp [RvL],by simp,by simp,.inl ⟨rfl,rfl⟩⟩
  split at h
  rotate_left
  ·cases h
  rename_i c cells hg
  split at h
  next hle=>
   have hle:off+m * es<=cells:=by simpa using hle
   obtain ⟨l,x,L,cur,ty,h1,h2,h3,h4,h5,h6,h7,h8,h9,h10⟩:=cells_read hS hg hle h
   refine ⟨l,x,h1,h3,h4,h2,.inr (.inr ?_)⟩
   cases cap with
   |none=>
    simp only [Rv] at hy
    obtain ⟨_,_,L',c',o',hL',hu,hln,_,ho⟩:=hy
    rw [h5] at hL';cases hL'
    exact ⟨id,off,ln,none,L,o',c',rfl,h5,hu,fun h0=>by rcases ho with ho |ho;exact ho;omega,h10⟩
   |some cc=>
    simp only [Rv] at hy
    obtain ⟨_,_,_,L',hL',hu⟩:=hy
    rw [h5] at hL';cases hL'
    exact ⟨id,off,ln,some cc,L,_,cc,rfl,h5,hu,fun _=>rfl,h10⟩
  cases h
 next a ln c=>
  obtain ⟨l,x,e1,e2,e3,e4,e5⟩:=rdA_ok hR _ _ h
  simp only [Rv] at hy
  exact ⟨l,x,e1,e3,e4,e2,.inr (.inl ⟨a,ln,c,rfl,hy.2,fun j u hu=>by simpa using e5 j u hu⟩)⟩
 cases h
omit hE in
theorem strCells_ok:∀(l:List V) (x:List Value) {k:List Nat->R} {r:Ex×St},RvL Z n l x->strCells l k=some r->(∃s,k s=some r/\(∀b∈s,b < 256)/\x=s.map (fun (b:Nat)=>Value.int .u8 (b:Int)))
 |[],[],k,r,_,h=>⟨[],h,by simp,rfl⟩
 |v :: l,u :: x,k,r,hr,h=>by
  simp only [RvL] at hr
  unfold strCells at h
  split at h
  next heq=>cases heq
  next b l' heq=>
   simp only [xL] at heq
   obtain ⟨rfl,rfl⟩:=heq
   split at h
   next hb=>
    rw [kB] at hb
    obtain ⟨s,h1,h3,h2⟩:=strCells_ok l x hr.2 h
    have:=hr.1
    simp only [Rv] at this
    exact ⟨b :: s,h1,fun y hy=>by rcases zL.1 hy with rfl |hy;exact hb;exact h3 y hy,by rw [this,h2];rfl⟩
   cases h
  cases h
 |[],_ :: _,_,_,h,_=>by simp [RvL] at h
 |_ :: _,[],_,_,h,_=>by simp [RvL] at h
omit hE in
theorem same_now {kt:Nat} {kind:TypeDesc} (hkd:KdOk P (kindOf E kt) kind) {key:V} {ku:Value} (hkv:keyV E kt key=true) (hna:∀l,key≠.agg l) (hkey:Rv Z n key ku) {k:V} {eu:Value} (hk:Rv Z n k eu) {c:Bool} (hc:eqKey E kt key k=some c) :
  Instr.sameNow kind ku eu=some c:=by
 replace hc:eq1 k key=some c:=by
  unfold eqKey at hc
  split at hc
  ·exact absurd rfl (hna _)
  exact hc
 unfold keyV at hkv
 split at hkv
 next ik k2 a2 hkk=>
  rw [hkk] at hkd
  simp only [KdOk] at hkd
  subst hkd
  cases k<;>simp only [eq1] at hc<;>try cases hc
  rename_i k1 a
  simp only [Rv] at hk hkey
  split at hc
  next hkk=>
   have:=kindEq_ok hkk
   subst this
   simp only [zA,ieq_eq] at hc
   rw [hk,hkey,<-hc]
   simp only [Instr.sameNow,if_true,zA]
   rw [kM,qE,qE]
   exact eq_comm
  cases hc
 next a2 hkk=>
  rw [hkk] at hkd
  simp only [KdOk] at hkd
  subst hkd
  cases k<;>simp only [eq1] at hc<;>try cases hc
  rename_i a
  simp only [Rv] at hk hkey
  obtain ⟨h1,rfl⟩:=hk
  obtain ⟨h2,rfl⟩:=hkey
  simp only [Instr.sameNow,zA]
  have:((bytesOf a2) == (bytesOf a))=lEq a2 a:=by rw [beq_toListBytes];exact beq_bytes h2 h1
  rw [this,kM,lEq_iff,lEq_iff]
  exact eq_comm
 next a2 hkk=>
  rw [hkk] at hkd
  simp only [KdOk] at hkd
  subst hkd
  cases k<;>simp only [eq1] at hc<;>try cases hc
  rename_i a
  simp only [Rv] at hk hkey
  subst hk hkey
  cases a<;>cases a2<;>simp_all [Instr.sameNow]
 ·exact absurd rfl (hna _)
 cases hkv
theorem same_agg {kt:Nat} {kind:TypeDesc} (hkd:KdOk P (kindOf E kt) kind) {l:List V} {ku:Value} (hkv:keyV E kt (.agg l)=true) (hkey:Rv Z n (.agg l) ku) {k:V} {eu:Value} (hk:Rv Z n k eu) {c:Bool} (hc:eqKey E kt (.agg l) k=some c) :
  Instr.sameNow kind ku eu=none/\∀w,(Op.equal kt ku eu).run P w=.ok c w:=by
 simp only [eqKey] at hc
 split at hc
 rotate_left
 ·cases hc
 rename_i l'
 split at hc
 rotate_left
 ·cases hc
 rename_i ty hty
 simp only [Rv] at hkey hk
 obtain ⟨xs,hxs,rfl⟩:=hkey
 obtain ⟨ys,hys,rfl⟩:=hk
 have heq:ty.eqp=true:=by
  unfold keyV at hkv
  split at hkv
  next h=>cases h
  next h=>cases h
  next h=>cases h
  next hl=>
   cases hl
   rw [hty] at hkv
   simp only [zC] at hkv
   exact hkv.1.1
  cases hkv
 obtain ⟨_,h2⟩:=(hE.T kt ty hty).eqp heq
 exact ⟨by cases kind<;>rfl,fun w=>h2 Z n l l' xs ys c w hxs hys hc⟩
theorem findM_ok {kt:Nat} {kind:TypeDesc} (hu:P.underlying kt=some kind) (hkd:KdOk P (kindOf E kt) kind) {key:V} {ku:Value} (hkv:keyV E kt key=true) (hkey:Rv Z n key ku) {l:List (V×V×Nat)} {es:List MapEntry} (hr:RvM Z n l es)
  {j:Option Nat} (hf:∀i k v b,l[i]?=some (k,v,b)->(j=some i->eqKey E kt key k=some true)/\((∀q,j=some q->i < q)->eqKey E kt key k=some false)) (hj:∀q,j=some q->q < l.length) (w:World) :
  (Instr.findKey kt ku es).run P w=.ok (j.bind fun q=>es[q]?.map fun e=>(q,e.val)) w:=by
 by_cases hna:∀l,key≠.agg l
 ·have key' : ∀ (l : List (V × V × Nat)) (es : List MapEntry) (i0 : Nat) (j : Option Nat), RvM Z n l es -> (∀ i k v b, l[i]? = some (k, v, b) -> (j = some i -> eqKey E kt key k = some true) /\ ((∀ q, j = some q -> i < q) -> eqKey E kt key k = some false)) -> (∀ q, j = some q -> q < l.length) ->
    Instr.findNow kind ku es i0=some (j.bind fun q=>es[q]?.map fun e=>(i0+q,e.val)):=by
   intro l
   induction l with
   |nil=>
    intro es i0 j hr hf hj
    cases es with
    |nil=>cases j with
     |none=>rfl
     |some q=>have:=hj q rfl;simp at this
    |cons _ _=>simp [RvM] at hr
   |cons x l ih=>
    intro es i0 j hr hf hj
    obtain ⟨k,v,b⟩:=x
    cases es with
    |nil=>simp [RvM] at hr
    |cons e es=>
     simp only [RvM] at hr
     obtain ⟨f1,f2⟩:=hf 0 k v b (by simp)
     by_cases h0:j=some 0
     ·subst h0
      simp only [Instr.findNow,same_now hkd hkv hna hkey hr.1 (f1 rfl)]
      simp
     have hc:=f2 (fun q hq=>by cases q with
      |zero=>exact absurd hq h0
      |succ q=>omega)
     simp only [Instr.findNow,same_now hkd hkv hna hkey hr.1 hc]
     have:=ih es (i0+1) (j.map (· - 1)) hr.2.2.2 (fun i k v b hi=>by
      obtain ⟨g1,g2⟩:=hf (i+1) k v b (by simpa using hi)
      refine ⟨fun hj'=>g1 ?_,fun hq=>g2 fun q hq'=>?_⟩
      ·cases j with
       |none=>simp at hj'
       |some q=>
        simp only [zX,zA] at hj'
        cases q with
        |zero=>exact absurd rfl h0
        |succ q=>simp at hj';rw [hj']
      ·have:=hq (q - 1) (by rw [hq'];rfl)
       cases q with
       |zero=>exact absurd hq' h0
       |succ q=>omega) (fun q hq=>by
      cases j with
      |none=>simp at hq
      |some q'=>
       simp only [zX,zA] at hq
       have:=hj q' rfl
       simp at this
       cases q' with
       |zero=>exact absurd rfl h0
       |succ q'=>simp at hq;omega)
     rw [this]
     congr 1
     cases j with
     |none=>rfl
     |some q=>
      cases q with
      |zero=>exact absurd rfl h0
      |succ q=>simp [xP,Nat.add_comm 1 q]
  have:=key' l es 0 j hr hf hj
  simp only [zO] at this
  simp [Instr.findKey,zE hu,this]
 obtain ⟨lk,rfl⟩:∃lk,key=.agg lk:=by
  cases key with
  |agg lk=>exact ⟨lk,rfl⟩
  |_=>exact absurd (fun l h=>by cases h) hna
 have ask:∀(l:List (V×V×Nat)) (es:List MapEntry) (i0:Nat) (j:Option Nat),RvM Z n l es->(∀i k v b,l[i]?=some (k,v,b)->(j=some i->eqKey E kt (.agg lk) k=some true)/\((∀q,j=some q->i < q)->eqKey E kt (.agg lk) k=some false))->(∀q,j=some q->q < l.length)->
   (Instr.findAsking kt ku es i0).run P w=.ok (j.bind fun q=>es[q]?.map fun e=>(i0+q,e.val)) w:=by
  intro l
  induction l with
  |nil=>
   intro es i0 j hr hf hj
   cases es with
   |nil=>cases j with
    |none=>simp [Instr.findAsking]
    |some q=>have:=hj q rfl;simp at this
   |cons _ _=>simp [RvM] at hr
  |cons x l ih=>
   intro es i0 j hr hf hj
   obtain ⟨k,v,b⟩:=x
   cases es with
   |nil=>simp [RvM] at hr
   |cons e es=>
    simp only [RvM] at hr
    obtain ⟨f1,f2⟩:=hf 0 k v b (by simp)
    by_cases h0:j=some 0
    ·subst h0
     obtain ⟨_,h2⟩:=same_agg hE hkd hkv hkey hr.1 (f1 rfl)
     simp [Instr.findAsking,h2 w]
    have hc:=f2 (fun q hq=>by cases q with
     |zero=>exact absurd hq h0
     |succ q=>omega)
    obtain ⟨_,h2⟩:=same_agg hE hkd hkv hkey hr.1 hc
    have:=ih es (i0+1) (j.map (· - 1)) hr.2.2.2 (fun i k v b hi=>by
     obtain ⟨g1,g2⟩:=hf (i+1) k v b (by simpa using hi)
     refine ⟨fun hj'=>g1 ?_,fun hq=>g2 fun q hq'=>?_⟩
     ·cases j with
      |none=>simp at hj'
      |some q=>
       simp only [zX,zA] at hj'
       cases q with
       |zero=>exact absurd rfl h0
       |succ q=>simp at hj';rw [hj']
     ·have:=hq (q - 1) (by rw [hq'];rfl)
      cases q with
      |zero=>exact absurd hq' h0
      |succ q=>omega) (fun q hq=>by
     cases j with
     |none=>simp at hq
     |some q'=>
      simp only [zX,zA] at hq
      have:=hj q' rfl
      simp at this
      cases q' with
      |zero=>exact absurd rfl h0
      |succ q'=>simp at hq;omega)
    simp only [Instr.findAsking,zN,h2 w,zG,kN,if_false]
    rw [this]
    congr 1
    cases j with
    |none=>rfl
    |some q=>
     cases q with
     |zero=>exact absurd rfl h0
     |succ q=>simp [xP,Nat.add_comm 1 q]
 have hask:=ask l es 0 j hr hf hj
 simp only [zO] at hask
 cases es with
 |nil=>
  cases j with
  |none=>simp [Instr.findKey,zE hu,Instr.findNow]
  |some q=>
   cases l with
   |nil=>have:=hj q rfl;simp at this
   |cons _ _=>simp [RvM] at hr
 |cons e es=>
  have hn:Instr.findNow kind ku (e :: es) 0=none:=by
   cases l with
   |nil=>simp [RvM] at hr
   |cons x l=>
    obtain ⟨k,v,b⟩:=x
    simp only [RvM] at hr
    obtain ⟨f1,f2⟩:=hf 0 k v b (by simp)
    have hc:∃c,eqKey E kt (.agg lk) k=some c:=by
     by_cases h0:j=some 0
     ·exact ⟨_,f1 h0⟩
     exact ⟨_,f2 (fun q hq=>by cases q with
      |zero=>exact absurd hq h0
      |succ q=>omega)⟩
    obtain ⟨c,hc⟩:=hc
    simp only [Instr.findNow,(same_agg hE hkd hkv hkey hr.1 hc).1]
  simp [Instr.findKey,zE hu,hn,hask]
omit hE in
theorem findK_at {f:V->Option Bool}:∀(l:List (V×V×Nat)) (q:Option V),findK f l=some q->
  ∃j:Option Nat,(∀i k v b,l[i]?=some (k,v,b)->(j=some i->f k=some true)/\((∀q,j=some q->i < q)->f k=some false))/\(∀q,j=some q->q < l.length)/\(q=none↔j=none)/\∀i,j=some i->∃k v b,l[i]?=some (k,v,b)/\q=some v
 |[],q,h=>by
  simp only [findK,zA] at h
  subst h
  exact ⟨none,fun i k v b h=>(by simp at h),fun q h=>(by cases h),by simp,fun i h=>(by cases h)⟩
 |(k,v,b) :: l,q,h=>by
  simp only [findK] at h
  split at h
  next hc=>
   simp only [zA] at h
   subst h
   refine ⟨some 0,fun i k' v' b' hi=>⟨fun e=>?_,fun e=>?_⟩,fun q e=>?_,by simp,fun i e=>?_⟩
   ·simp only [zA] at e;subst e
    simp at hi;rw [<-hi.1];exact hc
   ·have:=e 0 rfl;omega
   ·simp only [zA] at e;subst e;simp
   simp only [zA] at e;subst e;exact ⟨k,v,b,by simp,rfl⟩
  rotate_left
  ·cases h
  rename_i hc
  obtain ⟨j,h1,h2,h3,h4⟩:=findK_at l q h
  refine ⟨j.map (·+1),fun i k' v' b' hi=>?_,fun q e=>?_,by simp [h3],fun i e=>?_⟩
  ·cases i with
   |zero=>
    simp at hi
    refine ⟨fun e=>?_,fun _=>by rw [<-hi.1];exact hc⟩
    cases j<;>simp at e
   |succ i=>
    obtain ⟨g1,g2⟩:=h1 i k' v' b' (by simpa using hi)
    refine ⟨fun e=>g1 ?_,fun e=>g2 fun q hq=>?_⟩
    ·cases j<;>simp at e;rw [e]
    have:=e (q+1) (by rw [hq];rfl);omega
  ·cases j with
   |none=>simp at e
   |some j=>simp only [zX,zA] at e;have:=h2 j rfl;simp;omega
  cases j with
  |none=>simp at e
  |some j=>
   simp only [zX,zA] at e
   obtain ⟨k',v',b',g1,g2⟩:=h4 j rfl
   exact ⟨k',v',b',by rw [<-e];simpa using g1,g2⟩
omit hE in
theorem RvM.at {l:List (V×V×Nat)} {es:List MapEntry}:RvM Z n l es->∀(i:Nat) (k v:V) (b:Nat),l[i]?=some (k,v,b)->∃e:MapEntry,es[i]?=some e/\Rv Z n k e.key/\Rv Z n v e.val/\e.born=b:=by
 induction l generalizing es with
 |nil=>intro _ i k v b h;simp at h
 |cons x l ih=>
  intro hr i k v b h
  obtain ⟨k0,v0,b0⟩:=x
  cases es with
  |nil=>simp [RvM] at hr
  |cons e es=>
   simp only [RvM] at hr
   cases i with
   |zero=>
    simp only [zK,zA,zI] at h
    obtain ⟨rfl,rfl,rfl⟩:=h
    exact ⟨e,by simp,hr.1,hr.2.1,hr.2.2.1⟩
   |succ i=>simpa using ih hr.2.2.2 i k v b (by simpa using h)
theorem findK_ok {kt:Nat} {kind:TypeDesc} (hu:P.underlying kt=some kind) (hkd:KdOk P (kindOf E kt) kind) {key:V} {ku:Value} (hkv:keyV E kt key=true) (hkey:Rv Z n key ku) (l:List (V×V×Nat)) (es:List MapEntry) (q:Option V) (hr:RvM Z n l es) (h:findK (eqKey E kt key) l=some q) (w:World) :
  (q=none/\(Instr.findKey kt ku es).run P w=.ok none w)\/∃v j u,q=some v/\Rv Z n v u/\(Instr.findKey kt ku es).run P w=.ok (some (j,u)) w:=by
 obtain ⟨j,h1,h2,h3,h4⟩:=findK_at l q h
 have:=findM_ok hE hu hkd hkv hkey hr h1 h2 w
 cases j with
 |none=>exact .inl ⟨h3.2 rfl,this⟩
 |some i=>
  obtain ⟨k,v,b,g1,g2⟩:=h4 i rfl
  obtain ⟨e,e1,_,e3,_⟩:=RvM.at hr i k v b g1
  refine .inr ⟨v,i,e.val,g2,e3,?_⟩
  rw [this]
  simp [e1]
theorem simpF_ok {n:Nat}:∀{fs:List (Nat×Nat)},simpF E n fs=true->∀o t,(o,t)∈fs->o < n/\∃d,P.underlying t=some d/\isAggD d=false/\((∃k,d=.int k)\/d=.string\/d=.bool)
 |[],_,o,t,h=>by cases h
 |(o',t') :: fs,h,o,t,hm=>by
  simp only [simpF] at h
  split at h
  rotate_left
  ·cases h
  rename_i hb
  have step:(∃k,kindOf E t'=.int k)\/kindOf E t'=.str\/kindOf E t'=.bool:=by
   split at h<;>first |(rename_i hk;first |exact .inl ⟨_,hk⟩ |exact .inr (.inl hk) |exact .inr (.inr hk)) |cases h
  have rest:simpF E n fs=true:=by
   split at h<;>first |exact h |cases h
  rcases zL.1 hm with e |hm
  ·simp only [zI] at e
   obtain ⟨rfl,rfl⟩:=e
   refine ⟨by simpa [Nat.blt,Nat.succ_le_iff] using hb,?_⟩
   obtain ⟨d,d1,d3⟩:=und_of hE (t:=t) rfl (by rcases step with ⟨k,hk⟩ |hk |hk<;>rw [hk]<;>simp)
   have hd:(∃k,d=.int k)\/d=.string\/d=.bool:=by
    rcases step with ⟨k,hk⟩ |hk |hk
    ·rw [hk] at d3;exact .inl ⟨k,d3⟩
    ·rw [hk] at d3;exact .inr (.inl d3)
    rw [hk] at d3;exact .inr (.inr d3)
   refine ⟨d,d1,?_,hd⟩
   rcases hd with ⟨k,rfl⟩ |rfl |rfl<;>rfl
  exact simpF_ok rest o t hm
theorem checkFlat {kt:Nat} {fields:Array Field} {fs:List (Nat×Nat)} (hu:P.underlying kt=some (.struct fields)) (hfs:fields.toList.map (fun f=>(f.offset,f.type))=fs) {xs:Array Value} (hsf:simpF E xs.size fs=true) (emp:Bool) (m:Nat) (w:World) :
  (Instr.checkKey emp (m+2) kt (.agg xs)).run P w=.ok () w:=by
 rw [Instr.checkKey]
 simp only [zN,zE hu,zG]
 rw [<-Array.forIn_toList]
 have deep:∀f∈fields.toList,∃u,(Go.part f.type xs f.offset).run P w=.ok u w/\(Instr.checkKey emp (m+1) f.type u).run P w=.ok () w:=fun f hf=>by
  have hm:(f.offset,f.type)∈fs:=by rw [<-hfs];exact qB.2 ⟨f,hf,rfl⟩
  obtain ⟨f1,d,f4,f3,f5⟩:=simpF_ok hE hsf _ _ hm
  refine ⟨xs[f.offset],?_,?_⟩
  ·simp [Go.part,run_isAgg' f4,f3,Array.getElem?_eq_getElem f1]
  rcases f5 with ⟨k,rfl⟩ |rfl |rfl<;>simp [Instr.checkKey,zE f4]
 generalize fields.toList=L at deep
 clear hfs
 induction L with
 |nil=>simp
 |cons f L ih=>
  obtain ⟨u,p1,p2⟩:=deep f (by simp)
  by_cases hn:f.name = "_"
  ·simp only [List.forIn_cons,zN,hn,ne_eq,not_true_eq_false,if_false,zG,xD]
   exact ih (fun y hy=>deep y (by simp [hy]))
  simp only [List.forIn_cons,zN,hn,ne_eq,not_false_eq_true,if_true,zG,p1,p2,xD]
  exact ih (fun y hy=>deep y (by simp [hy]))
omit hE in
theorem simpF1_ok {n:Nat}:∀{fs:List (Nat×Nat)},simpF1 E n fs=true->∀o t,(o,t)∈fs->simpF E n [(o,t)]=true\/∃fs' ty,kindOf E t=.struct fs'/\E.T t=some ty/\o+ty.size<=n/\simpF E ty.size fs'=true
 |[],_,o,t,h=>by cases h
 |(o',t') :: fs,h,o,t,hm=>by
  simp only [simpF1] at h
  split at h
  rotate_left
  ·cases h
  rename_i hb
  rcases zL.1 hm with e |hm
  ·simp only [zI] at e
   obtain ⟨rfl,rfl⟩:=e
   split at h
   next hk=>exact .inl (by simp only [simpF,hb,hk])
   next hk=>exact .inl (by simp only [simpF,hb,hk])
   next hk=>exact .inl (by simp only [simpF,hb,hk])
   next fs' hk=>
    split at h
    next ty hty=>
     simp only [zC] at h
     exact .inr ⟨fs',ty,hk,hty,by simpa using h.1.1,h.1.2⟩
    cases h
   cases h
  split at h
  ·exact simpF1_ok h o t hm
  ·exact simpF1_ok h o t hm
  ·exact simpF1_ok h o t hm
  ·split at h
   ·simp only [zC] at h
    exact simpF1_ok h.2 o t hm
   cases h
  cases h
theorem run_checkKey {kt:Nat} {kind:TypeDesc} (hu:P.underlying kt=some kind) (hkd:KdOk P (kindOf E kt) kind) {key:V} {ku:Value} (hkv:keyV E kt key=true) (hkey:Rv Z n key ku) (emp:Bool) (m:Nat) (w:World) :
  (Instr.checkKey emp (m+3) kt ku).run P w=.ok () w:=by
 unfold keyV at hkv
 split at hkv
 next h=>rw [h] at hkd;simp only [KdOk] at hkd;subst hkd;simp [Instr.checkKey,zE hu]
 next h=>rw [h] at hkd;simp only [KdOk] at hkd;subst hkd;simp [Instr.checkKey,zE hu]
 next h=>rw [h] at hkd;simp only [KdOk] at hkd;subst hkd;simp [Instr.checkKey,zE hu]
 rotate_left
 ·cases hkv
 rename_i fs l h
 rw [h] at hkd
 simp only [KdOk] at hkd
 obtain ⟨fields,rfl,hfs,_⟩:=hkd
 split at hkv
 rotate_left
 ·cases hkv
 rename_i ty hty
 simp only [zC] at hkv
 obtain ⟨⟨_,hlen⟩,hsf⟩:=hkv
 simp only [Rv] at hkey
 obtain ⟨xs,hxs,rfl⟩:=hkey
 rw [len_eq,<-hxs.length] at hsf
 rw [Instr.checkKey]
 simp only [zN,zE hu,zG]
 rw [<-Array.forIn_toList]
 have deep:∀f∈fields.toList,∃u,(Go.part f.type xs.toArray f.offset).run P w=.ok u w/\(Instr.checkKey emp (m+2) f.type u).run P w=.ok () w:=fun f hf=>by
  have hm:(f.offset,f.type)∈fs:=by rw [<-hfs];exact qB.2 ⟨f,hf,rfl⟩
  rcases simpF1_ok hsf _ _ hm with hs1 |⟨fs',ty',hk',hty',hsz',hsf'⟩
  ·obtain ⟨f1,d,f4,f3,f5⟩:=simpF_ok hE hs1 _ _ (.head _)
   refine ⟨xs[f.offset],?_,?_⟩
   ·simp [Go.part,run_isAgg' f4,f3,zJ f1]
   rcases f5 with ⟨k,rfl⟩ |rfl |rfl<;>simp [Instr.checkKey,zE f4]
  obtain ⟨d,hd,hkd'⟩:=und_of hE hk' (by simp)
  simp only [KdOk] at hkd'
  obtain ⟨fields',rfl,hfs',_⟩:=hkd'
  obtain ⟨inf,_,hinf,his,_⟩:=(hE.T _ _ hty').info
  refine ⟨.agg (xs.toArray.extract f.offset (f.offset+inf.size)),?_,?_⟩
  ·simp only [Go.part,zN,run_isAgg' hd,zG]
   simp [isAggD,run_sizeOf' hinf]
  refine checkFlat hE hd hfs' ?_ emp m w
  rw [his]
  have:(xs.toArray.extract f.offset (f.offset+ty'.size)).size=ty'.size:=by simp;omega
  rw [this]
  exact hsf'
 generalize fields.toList=L at deep
 clear hfs
 induction L with
 |nil=>simp
 |cons f L ih=>
  obtain ⟨u,p1,p2⟩:=deep f (by simp)
  by_cases hn:f.name = "_"
  ·simp only [List.forIn_cons,zN,hn,ne_eq,not_true_eq_false,if_false,zG,xD]
   exact ih (fun y hy=>deep y (by simp [hy]))
  simp only [List.forIn_cons,zN,hn,ne_eq,not_false_eq_true,if_true,zG,p1,p2,xD]
  exact ih (fun y hy=>deep y (by simp [hy]))
theorem opL_ok {g:T O} {w:World} (hR:RoAt E.ro w) (hS:HSat Z g.get n w) {o:Oper} {ev:Operand->Option V} {Ze:Operand->Value} (hev:∀x∈o.op.operands,∀v,ev x=some v->Rv Z n v (Ze x)) (hcls:clsOf E o.op=1)
  {k:V->R} {r:Ex×St} (h:opL E g ev o.op k=some r):∃v u,k v=some r/\Rv Z n v u/\(execOp Ze o).run P w=.ok (.value u) w:=by
 cases ho:o.op with
 |load t x=>
  rw [ho] at h hev
  simp only [opL] at h
  split at h
  next ty id off hty hx=>
   have hr:=hev x (by simp [Op.operands]) _ hx
   simp only [Rv] at hr
   obtain ⟨hid,L,hL,hu⟩:=hr
   split at h
   next c m hg=>
    split at h
    next hle=>
     have hle:off+ty.size<=m:=by simpa using hle
     obtain ⟨l,xs,L',cur,tt,h1,h2,h3,h4,h5,h6,h7,h8,h9,h10⟩:=cells_read hS hg hle h
     rw [hL] at h5;cases h5
     obtain ⟨v,u,g1,g2,g3⟩:=run_loadVar hE hty w ⟨L.b,L.base+off,none⟩ h3 h2 h10 h1
     exact ⟨v,u,g1,g2,by simp [execOp,ho,hu,Instr.loadAt,Instr.sureAddr,g3]⟩
    cases h
   cases h
  next ty a hty hx=>
   have hr:=hev x (by simp [Op.operands]) _ hx
   simp only [Rv] at hr
   obtain ⟨l,xs,e1,e2,e3,e4,e5⟩:=rdA_ok (Z:=Z) (n:=n) hR _ _ h
   obtain ⟨v,u,g1,g2,g3⟩:=run_loadVar hE hty w a e3 e2 (fun j u hu=>by simpa using e5 j u hu) e1
   exact ⟨v,u,g1,g2,by simp [execOp,ho,hr,Instr.loadAt,Instr.sureAddr,g3]⟩
  cases h
 |lookup t x i ok=>
  rw [ho] at h hev
  simp only [opL] at h
  split at h
  rotate_left
  ·cases h
  rename_i kt e mv key hk hx hi
  obtain ⟨d,hd,hkd⟩:=und_of hE hk (by simp)
  simp only [KdOk] at hkd
  subst hkd
  have hrx:=hev x (by simp [Op.operands]) _ hx
  have hri:=hev i (by simp [Op.operands]) _ hi
  split at h
  rotate_left
  ·cases h
  rename_i ety hety hkv
  obtain ⟨j,z,hj,hjs,_,hz,hzr,hza,hzb⟩:=(hE.T _ _ hety).info
  obtain ⟨kind,hkind,hkdk⟩:∃kind,P.underlying kt=some kind/\KdOk P (kindOf E kt) kind:=by
   refine und_of hE rfl fun h0=>?_
   unfold keyV at hkv
   rw [h0] at hkv
   simp at hkv
  obtain ⟨zv,zu,h1,h2,h3,h4⟩:=packR_ok (hzr Z n) h
  obtain ⟨dz,hdz,hagz,_⟩:=(hE.T _ _ hety).und
  have hzv:z=zu:=by
   cases ha:ety.agg with
   |true=>rw [h3 ha,hza ha];simp [Value.cells]
   |false=>
    have:=(h4 ha).1
    rw [hzb ha] at this
    simpa using this
  have hzz:(zeroValue e).run P w=.ok zu w:=by rw [<-hzv];exact run_zeroValue' hj hz w
  have hck:∀emp,(Instr.checkKey emp 10000 kt (Ze i)).run P w=.ok () w:=fun emp=>run_checkKey hE hkind hkdk hkv hri emp 9997 w
  split at h1
  ·simp only [Rv] at hrx
   have hrun:(execOp Ze o).run P w=.ok (.value (if ok then .tuple #[zu,.bool false] else zu)) w:=by
    simp [execOp,ho,hrx,Instr.lookup,zE hd,hck,Instr.findKey,zE hkind,Instr.findNow,hzz]
   cases ok
   ·exact ⟨_,zu,h1,h2,by simpa using hrun⟩
   exact ⟨_,.tuple #[zu,.bool false],h1,by simp only [Rv];exact ⟨[zu,.bool false],by simp only [RvL,Rv];exact ⟨h2,trivial,trivial⟩,rfl⟩,by simpa using hrun⟩
  rotate_left
  ·cases h1
  rename_i id
  simp only [Rv] at hrx
  obtain ⟨hid,L,hL,hu⟩:=hrx
  split at h1
  rotate_left
  ·cases h1
  rename_i l c hg
  obtain ⟨_,hobj⟩:=hS.objs id _ hg
  simp only [ObjOk] at hobj
  obtain ⟨L',es,hL',hh,hm⟩:=hobj
  rw [hL] at hL';cases hL'
  have hget:=run_getMap (P:=P) hh
  split at h1
  next v hf=>
   rcases findK_ok hE hkind hkdk hkv hri l es.toList _ hm hf w with ⟨h0,_⟩ |⟨v',jj,u,hv',hru,hfn⟩
   ·cases h0
   cases hv'
   have hrun:(execOp Ze o).run P w=.ok (.value (if ok then .tuple #[u,.bool true] else u)) w:=by
    simp [execOp,ho,hu,Instr.lookup,zE hd,hget,hck,hfn]
   cases ok
   ·exact ⟨_,u,h1,hru,by simpa using hrun⟩
   exact ⟨_,.tuple #[u,.bool true],h1,by simp only [Rv];exact ⟨[u,.bool true],by simp only [RvL,Rv];exact ⟨hru,trivial,trivial⟩,rfl⟩,by simpa using hrun⟩
  next hf=>
   rcases findK_ok hE hkind hkdk hkv hri l es.toList _ hm hf w with ⟨_,hfn⟩ |⟨v',jj,u,hv',_⟩
   ·have hrun:(execOp Ze o).run P w=.ok (.value (if ok then .tuple #[zu,.bool false] else zu)) w:=by
     simp [execOp,ho,hu,Instr.lookup,zE hd,hget,hck,hfn,hzz]
    cases ok
    ·exact ⟨_,zu,h1,h2,by simpa using hrun⟩
    exact ⟨_,.tuple #[zu,.bool false],h1,by simp only [Rv];exact ⟨[zu,.bool false],by simp only [RvL,Rv];exact ⟨h2,trivial,trivial⟩,rfl⟩,by simpa using hrun⟩
   cases hv'
  cases h1
 |convert s t x=>
  rw [ho] at h hev hcls
  have hkt:kindOf E t=.str:=by
   simp only [clsOf] at hcls
   split at hcls
   next hk _=>exact hk
   cases hcls
  obtain ⟨dt,hdt,hkdt⟩:=und_of hE hkt (by simp)
  simp only [KdOk] at hkdt
  subst hkdt
  simp only [opL] at h
  split at h
  rotate_left
  ·cases h
  rename_i e hes hks
  obtain ⟨d,hd,hkd⟩:=und_of hE hks (by simp)
  simp only [KdOk] at hkd
  subst hkd
  split at h
  rotate_left
  ·cases h
  rename_i hke
  obtain ⟨de,hde,hkde⟩:=und_of hE hke (by simp)
  simp only [KdOk] at hkde
  subst hkde
  split at h
  next hx=>
   have hr:=hev x (by simp [Op.operands]) _ hx
   simp only [Rv] at hr
   refine ⟨_,.string .empty,h,by simp only [Rv];exact ⟨by simp,rfl⟩,?_⟩
   simp [execOp,ho,hr,convert,zE hd,zE hdt,zE hde,Conv.bytesToString]
  next id es off ln cap hx=>
   have hr:=hev x (by simp [Op.operands]) _ hx
   obtain ⟨l,xs,h1,h2,h3,h4,h5⟩:=cellsOf_ok hR hS hr h
   obtain ⟨s',g1,g3,g2⟩:=strCells_ok l xs h2 h1
   have hxl:=h2.length
   refine ⟨_,.string (bytesOf s'),g1,by simp only [Rv];exact ⟨g3,trivial⟩,?_⟩
   have hfold:∀(s:List Nat) (a:ByteArray),(s.map fun (b:Nat)=>(b:Int)).foldl (fun r n=>r.push (UInt8.ofNat n.toNat)) a=⟨(a.data.toList++s.map UInt8.ofNat).toArray⟩:=by
    intro s
    induction s with
    |nil=>intro a;simp
    |cons b s ih=>intro a;rw [kD,List.foldl_cons,ih];simp [ByteArray.push]
   have hsl:∃a c,Ze x=.slice (some a) ln c/\(loadCells a ln).run P w=.ok ((s'.map fun (b:Nat)=>(b:Int)).map (Value.int .u8)).toArray w:=by
    have hmap:(s'.map fun (b:Nat)=>(b:Int)).map (Value.int .u8)=xs:=by rw [g2,List.map_map];rfl
    rw [hmap]
    rcases h5 with ⟨h0,hnil⟩ |⟨_,_,_,heq,_⟩ |⟨id',off',ln',cap',L,o',c,heq,hL,hu,ho',hcell⟩
    rotate_left
    ·cases heq
    rotate_left
    ·subst h0
     have hx0:xs=[]:=by rw [hnil] at hxl;exact zS.1 hxl
     have:∃a c,Ze x=.slice (some a) 0 c:=by
      cases cap with
      |none=>simp only [Rv] at hr;obtain ⟨_,_,L,c,o,_,hu,_⟩:=hr;exact ⟨_,_,hu⟩
      |some c=>simp only [Rv] at hr;obtain ⟨_,_,_,L,_,hu⟩:=hr;exact ⟨_,_,hu⟩
     obtain ⟨a,c,hu⟩:=this
     exact ⟨a,c,hu,by rw [hx0];simp [loadCells,loadCellsFrom]⟩
    cases heq
    have hlen:ln=xs.length:=by rw [hxl,h4,Nat.mul_one]
    by_cases h0:ln=0
    ·have hx0:xs=[]:=zS.1 (by omega)
     exact ⟨_,c,hu,by rw [hx0,h0];simp [loadCells,loadCellsFrom]⟩
    refine ⟨_,c,hu,?_⟩
    rw [hlen,ho' h0]
    exact run_loadCells_list w _ xs hcell
   obtain ⟨a,c,hu,hload⟩:=hsl
   have:=run_bytesToString (P:=P) w a ln c _ hload
   rw [hfold] at this
   have hb:(⟨(ByteArray.empty.data.toList++s'.map UInt8.ofNat).toArray⟩:ByteArray)=bytesOf s':=rfl
   rw [hb] at this
   simp [execOp,ho,hu,convert,zE hd,zE hdt,zE hde,this]
  next a ln cap hx=>
   have hr:=hev x (by simp [Op.operands]) _ hx
   obtain ⟨l,xs,h1,h2,h3,h4,h5⟩:=cellsOf_ok hR hS hr h
   obtain ⟨s',g1,g3,g2⟩:=strCells_ok l xs h2 h1
   have hxl:=h2.length
   refine ⟨_,.string (bytesOf s'),g1,by simp only [Rv];exact ⟨g3,trivial⟩,?_⟩
   have hfold:∀(s:List Nat) (a:ByteArray),(s.map fun (b:Nat)=>(b:Int)).foldl (fun r n=>r.push (UInt8.ofNat n.toNat)) a=⟨(a.data.toList++s.map UInt8.ofNat).toArray⟩:=by
    intro s
    induction s with
    |nil=>intro a;simp
    |cons b s ih=>intro a;rw [kD,List.foldl_cons,ih];simp [ByteArray.push]
   simp only [Rv] at hr
   obtain ⟨_,hu⟩:=hr
   have hload:(loadCells a ln).run P w=.ok ((s'.map fun (b:Nat)=>(b:Int)).map (Value.int .u8)).toArray w:=by
    have hmap:(s'.map fun (b:Nat)=>(b:Int)).map (Value.int .u8)=xs:=by rw [g2,List.map_map];rfl
    rw [hmap]
    have hlen:ln=xs.length:=by rw [hxl,h4,Nat.mul_one]
    rcases h5 with ⟨h0,hnil⟩ |⟨_,_,_,heq,_,hcell⟩ |⟨_,_,_,_,_,_,_,heq,_⟩
    ·subst h0
     have hx0:xs=[]:=zS.1 (by omega)
     rw [hx0];simp [loadCells,loadCellsFrom]
    ·cases heq
     rw [hlen]
     exact run_loadCells_list w _ xs hcell
    cases heq
   have:=run_bytesToString (P:=P) w a ln cap _ hload
   rw [hfold] at this
   have hb:(⟨(ByteArray.empty.data.toList++s'.map UInt8.ofNat).toArray⟩:ByteArray)=bytesOf s':=rfl
   rw [hb] at this
   simp [execOp,ho,hu,convert,zE hd,zE hdt,zE hde,this]
  cases h
 |call c=>
  rw [ho] at h hev hcls
  simp only [opL] at h
  simp only [clsOf] at hcls
  split at hcls
  ·cases hcls
  rotate_left
  ·cases hcls
  rename_i b hc
  split at hcls<;>try cases hcls
  split at hcls
  rotate_left
  ·cases hcls
  rename_i t hts
  split at hcls
  rotate_left
  ·cases hcls
  rename_i kt e hk
  obtain ⟨d,hd,hkd⟩:=und_of hE hk (by simp)
  simp only [KdOk] at hkd
  subst hkd
  have hat:c.argTypes=#[t]:=by apply kJ;simpa using hts
  obtain ⟨cs,hrun⟩:=run_builtin (P:=P) ho hc Ze
  obtain ⟨vs,h1,h2⟩:=evL_ok (Z:=Z) (n:=n) (Ze:=Ze) c.args.toList (fun x hx=>hev x (by simp only [Op.operands,Call.operands,hc,Array.mem_append];exact .inr (by simpa using hx))) h
  have hargs:c.args.map Ze=(c.args.toList.map Ze).toArray:=by apply kJ;simp
  generalize c.args.toList.map Ze=us at h2 hargs
  rw [hargs] at hrun
  split at h1
  ·match us,h2 with
   |[u],h2=>
    simp only [RvL,Rv] at h2
    obtain ⟨rfl,_⟩:=h2
    exact ⟨_,.int .i64 0,h1,by simp only [Rv],by rw [hrun w];simp [Go.builtin,Builtin.len_,hat,zE hd,goInt]⟩
   |[],h2=>simp [RvL] at h2
   |_ :: _ :: _,h2=>simp [RvL] at h2
  rotate_left
  ·cases h1
  rename_i id
  match us,h2 with
  |[u],h2=>
   simp only [RvL,Rv] at h2
   obtain ⟨⟨hid,L,hL,rfl⟩,_⟩:=h2
   split at h1
   rotate_left
   ·cases h1
   rename_i l cl hg
   obtain ⟨_,hobj⟩:=hS.objs id _ hg
   simp only [ObjOk] at hobj
   obtain ⟨L',es,hL',hh,hm⟩:=hobj
   rw [hL] at hL';cases hL'
   rw [fN_eq] at h1
   have hlen:∀(l:List (V×V×Nat)) (es:List MapEntry),RvM Z n l es->mlen l=es.length:=by
    intro l
    induction l with
    |nil=>intro es h;cases es with
     |nil=>rfl
     |cons _ _=>simp [RvM] at h
    |cons x l ih=>intro es h;cases es with
     |nil=>simp [RvM] at h
     |cons e es=>simp only [RvM] at h;simp [mlen,ih es h.2.2.2]
   have hl:=hlen l es.toList hm
   refine ⟨_,.int .i64 (Int.ofNat (mlen l)),h1,by simp only [Rv],?_⟩
   rw [hrun w]
   simp [Go.builtin,Builtin.len_,hat,zE hd,run_getMap hh,goInt,hl]
  |[],h2=>simp [RvL] at h2
  |_ :: _ :: _,h2=>simp [RvL] at h2
 |_=>rw [ho] at h;simp [opL] at h
end
end CX

namespace CX
open Go
section
variable {P:Program} {E:Env} {Z:Nm} {n bar:Nat}
theorem newRow_ok {g:T O} {w:World} (hS:HSat Z g.get n w) {l:List V} {x:List Value} (hl:RvL Z n l x) {k:T O->Nat->R} {r:Ex×St} (h:newRow g n l k=some r) {w':World} {ty:TypeId} {slack:List Value}
  (hw:w'.heap=w.heap.push (.cells (x++slack).toArray ty)) (hio:w'.os=w.os/\w'.tape=w.tape/\Io w w') :
  ∃g',k g' (n+1)=some r/\HSat (Z.put n ⟨w.heap.size,0,(x++slack).length⟩) g'.get (n+1) w'/\Fr (Own Z g.get bar) w (Own (Z.put n ⟨w.heap.size,0,(x++slack).length⟩) g'.get bar) w':=by
 unfold newRow at h
 split at h
 next hone=>
  have hone:=(oneAll_iff _).1 hone
  obtain ⟨t,h1,ht⟩:=wrt_ok l .e 0 h
  rw [fN_eq,new,T.set_eq] at h1
  refine ⟨_,h1,HSat.new (o:=.cells t (len l)) hS hw hio ?_ (fun id=>T.get_up _ _ _ _)⟩
  simp only [ObjOk]
  have hxl:=hl.length
  refine ⟨_,(x++slack).toArray,ty,put_same _ _ _,by rw [hw];simp,by simp,by simp [len_eq,hxl],fun i hi=>?_⟩
  rw [len_eq] at hi
  obtain ⟨u,hu,hr⟩:=hl.get i l[i] (zJ hi)
  refine ⟨l[i],u,?_,hone _ (kH hi),?_,hr.ag (zQ _) (agree_put _ _ _)⟩
  ·rw [ht,if_pos (by omega),kO];exact zJ hi
  rw [zO,List.getElem?_toArray,zW (by omega)];exact hu
 cases h
theorem store_ok {g:T O} {w:World} (hS:HSat Z g.get n w) {id off:Nat} {l:List V} {x:List Value} (hl:RvL Z n l x) {L:Loc} (hL:Z id=some L) {k:T O->R} {r:Ex×St} (h:store bar g id off l k=some r) :
  ∃g' w',k g'=some r/\HSat Z g'.get n w'/\Fr (Own Z g.get bar) w (Own Z g'.get bar) w'/\(storeCells ⟨L.b,L.base+off,none⟩ x).run P w=.ok () w'/\(∀i o,g'.get i=some o->∃o',g.get i=some o')/\
   ∃t m cur ty,g.get id=some (.cells t m)/\off+l.length<=m/\L.base+m<=L.bs/\w.heap[L.b]?=some (.cells cur ty (0,0))/\cur.size=L.bs/\(∀v∈x,v.oneCell'=true)/\w'=w.setRow L.b (cur.toList.take (L.base+off)++x++cur.toList.drop (L.base+off+x.length)).toArray:=by
 unfold store at h
 split at h
 rotate_left
 ·cases h
 rename_i t m hg hbar hone
 have hone:=(oneAll_iff _).1 hone
 have hbar:bar<=id:=by simpa [geB] using hbar
 split at h
 rotate_left
 ·cases h
 rename_i hle
 rw [len_eq] at hle
 have hle:off+l.length<=m:=by simpa using hle
 obtain ⟨t',h1,ht⟩:=wrt_ok l t off h
 rw [T.set_eq] at h1
 obtain ⟨hid,ho⟩:=hS.objs id _ hg
 simp only [ObjOk] at ho
 obtain ⟨L',cur,ty,hL',hh,hsz,hbs,hcell⟩:=ho
 rw [hL] at hL';cases hL'
 have hxl:=hl.length
 have hx1:∀v∈x,v.oneCell'=true:=by
  intro v hv
  obtain ⟨i,hi,rfl⟩:=List.getElem_of_mem hv
  have hi':i < l.length:=by omega
  obtain ⟨u,hu,hr⟩:=hl.get i l[i] (zJ hi')
  rw [zJ hi] at hu
  cases hu
  exact one1_cell hr (hone _ (kH hi'))
 have hrun:=run_storeCells_at P L.b (L.base+off) ty x 0 cur w hh (by omega) hx1
 simp only [kF] at hrun
 generalize hnew:(cur.toList.take (L.base+off)++x++cur.toList.drop (L.base+off+x.length)).toArray=new at hrun
 have hnsz:new.size=cur.size:=by rw [<-hnew];simp;omega
 have hget:∀i,new[L.base+i]?=if off<=i/\i < off+x.length then x[i - off]? else cur[L.base+i]?:=by
  intro i
  rw [<-hnew,List.getElem?_toArray,qM,kP,kP]
  simp only [zZ,kI]
  rw [Nat.min_eq_left (by omega)]
  by_cases c1:i < off
  ·rw [if_pos (by omega),if_neg (by omega),xJ,if_pos (by omega)];simp
  rw [if_neg (by omega)]
  by_cases c2:i < off+x.length
  ·rw [if_pos (by omega),if_pos (by omega),show L.base+i - (L.base+off)=i - off by omega]
  rw [if_neg (by omega),if_neg (by omega),xR]
  simp only [xE]
  congr 1;omega
 have hkeep:∀b,b < w.heap.size->b≠L.b->(w.setRow L.b new).heap[b]?=w.heap[b]?:=fun b _ hb=>setRow_other w L.b b new hb
 refine ⟨_,_,h1,?_,?_,hrun,?_,t,m,cur,ty,hg,hle,hbs,hh,hsz,hx1,by rw [hnew]⟩
 ·refine hS.upd (id0:=id) (o0:=.cells t' m) (zB _) (agree.refl _ _) hid hL ?_ (fun o h=>?_) (fun i o h hne=>?_) hkeep hS.dom (fun i L h=>by rw [setRow_size];exact hS.blk i L h)
  ·simp only [ObjOk]
   refine ⟨L,new,ty,hL,setRow_heap w L.b cur new ty (0,0) hh,by rw [hnsz,hsz],hbs,fun i hi=>?_⟩
   rw [ht,hget]
   by_cases hc:off<=i/\i < off+l.length
   ·rw [if_pos hc,if_pos (by omega)]
    obtain ⟨u,hu,hr⟩:=hl.get (i - off) l[i - off] (zJ (by omega))
    exact ⟨_,u,zJ (by omega),hone _ (kH (by omega)),hu,hr⟩
   rw [if_neg hc,if_neg (by omega)]
   exact hcell i hi
  ·rw [T.get_up,if_pos rfl] at h
   simpa using h.symm
  rw [T.get_up,if_neg hne] at h
  exact ⟨h,fun L' hL'=>hS.sep i o id _ h hg hne L' L hL' hL⟩
 ·exact Fr.upd (id0:=id) (B:=L.b) hS (agree.refl _ _) ⟨rfl,rfl,rfl,zB _⟩ (by simp) hkeep (.inl ⟨id,_,L,hbar,hg,hL,rfl⟩) (fun L' h=>by rw [hL] at h;cases h;rfl)
   (fun i o h hne=>by rw [T.get_up,if_neg hne] at h;exact h)
 intro i o h
 rw [T.get_up] at h
 split at h
 next he=>exact ⟨_,by rw [he];exact hg⟩
 exact ⟨o,h⟩
theorem rep_len (l:List V):∀m,(rep m l).length=m * l.length
 |0=>by simp [rep]
 |m+1=>by simp [rep,rep_len l m,zR,Nat.add_comm]
theorem rep_mem {l:List V} {p:V->Prop} (h:∀x∈l,p x):∀m,∀x∈rep m l,p x
 |0,x,hx=>by simp [rep] at hx
 |m+1,x,hx=>by
  simp only [rep,xU] at hx
  rcases hx with hx |hx
  ·exact h x hx
  exact rep_mem h m x hx
def repV:Nat->List Value->List Value
 |0,_=>[]
 |n+1,l=>l++repV n l
theorem rep_rel {l:List V} {x:List Value} (h:RvL Z n l x):∀m,RvL Z n (rep m l) (repV m x)
 |0=>by simp [rep,repV,RvL]
 |m+1=>by simp only [rep,repV];exact h.append (rep_rel h m)
theorem repV_get (l:List Value) (hl:0 < l.length):∀(m i:Nat),i < m * l.length->(repV m l)[i]?=l[i % l.length]?
 |0,i,h=>by omega
 |m+1,i,h=>by
  simp only [repV]
  rw [kP]
  split
  next hi=>rw [Nat.mod_eq_of_lt hi]
  rename_i hi
  rw [repV_get l hl m (i - l.length) (by rw [zR] at h;omega)]
  congr 1
  have h2:i=(i - l.length)+l.length:=by omega
  rw [h2,Nat.add_mod_right]
  congr 1;omega
theorem repV_len (l:List Value):∀m,(repV m l).length=m * l.length
 |0=>by simp [repV]
 |m+1=>by simp [repV,repV_len l m,zR,Nat.add_comm]
theorem zeroCells_eq (z:Array Value) (hz:0 < z.size) (m:Nat):(Builtin.zeroCells z m).toList=repV m z.toList:=by
 apply qC
 intro i
 by_cases hi:i < m * z.size
 ·rw [repV_get _ (by simpa using hz) _ _ (by simpa using hi)]
  simp [Builtin.zeroCells,hi]
  rw [getElem!_pos z _ (Nat.mod_lt _ hz),Array.getElem?_eq_getElem (Nat.mod_lt _ hz)]
 rw [kU (by simp [Builtin.zeroCells];omega),kU (by rw [repV_len];simpa using hi)]
theorem over_get (cur:Array Value) (p:Nat) (x:List Value) (h:p+x.length<=cur.size) (i:Nat) :
  (cur.toList.take p++x++cur.toList.drop (p+x.length)).toArray[i]?=if p<=i/\i < p+x.length then x[i - p]? else cur[i]?:=by
 rw [List.getElem?_toArray,qM,kP,kP]
 simp only [zZ,kI]
 rw [Nat.min_eq_left (by omega)]
 by_cases c1:i < p
 ·rw [if_pos (by omega),if_neg (by omega),xJ,if_pos (by omega)];simp
 rw [if_neg (by omega)]
 by_cases c2:i < p+x.length
 ·rw [if_pos (by omega),if_pos (by omega)]
 rw [if_neg (by omega),if_neg (by omega),xR]
 simp only [xE]
 congr 1;omega
theorem moved_ok {g:T O} {w:World} (hS:HSat Z g.get n w) {id off ln lny es m0:Nat} {t0:T V} {cur:Array Value} {tty:TypeId} {L:Loc} (hg:g.get id=some (.cells t0 m0)) (hbar:bar<=id) (hL:Z id=some L)
  (hh:w.heap[L.b]?=some (.cells cur tty (0,0))) (hcs:cur.size=L.bs) {olds new:List V} {oldv news:List Value} (hol:RvL Z n olds oldv) (hnew:RvL Z n new news) (ho1:∀v∈olds,one1 v=true) (hn1:∀v∈new,one1 v=true)
  (hqo:olds.length=ln * es) (hqn:new.length=lny * es) (hold:∀j u,oldv[j]?=some u->cur[L.base+off+j]?=some u) {t':T V} (ht':∀j,j < (ln+lny) * es->t'.get j=(olds++new)[j]?)
  {gg:T O} (hgg:∀i,gg.get i=if i=n then some (.cells t' ((ln+lny) * es)) else if i=id then none else g.get i) :
  (∀w',w'=w.setRow L.b (cur.toList.take (L.base+off+ln * es)++news++cur.toList.drop (L.base+off+ln * es+news.length)).toArray->L.base+off+(ln+lny) * es<=L.bs->
   HSat (Z.put n ⟨L.b,L.base+off,L.bs⟩) gg.get (n+1) w'/\Fr (Own Z g.get bar) w (Own (Z.put n ⟨L.b,L.base+off,L.bs⟩) gg.get bar) w')/\
  (∀w' ty slack,w'.heap=w.heap.push (.cells ((oldv++news)++slack).toArray ty)->w'.os=w.os/\w'.tape=w.tape/\Io w w'->
   HSat (Z.put n ⟨w.heap.size,0,((oldv++news)++slack).length⟩) gg.get (n+1) w'/\Fr (Own Z g.get bar) w (Own (Z.put n ⟨w.heap.size,0,((oldv++news)++slack).length⟩) gg.get bar) w'):=by
 have hoL:=hol.length
 have hnL:=hnew.length
 have hid:=(hS.objs id _ hg).1
 have hmul:(ln+lny) * es=ln * es+lny * es:=zR _ _ _
 have hgn:∀i o,gg.get i=some o->i≠n->g.get i=some o/\i≠id:=by
  intro i o h hne
  rw [hgg,if_neg hne] at h
  split at h
  ·cases h
  rename_i hi;exact ⟨h,hi⟩
 have hboth:=hol.append hnew
 constructor
 ·intro w' hw' hroom
  subst hw'
  have hkeep:∀b,b < w.heap.size->b≠L.b->(w.setRow L.b (cur.toList.take (L.base+off+ln * es)++news++cur.toList.drop (L.base+off+ln * es+news.length)).toArray).heap[b]?=w.heap[b]?:=fun b _ hb=>setRow_other w L.b b _ hb
  have hget:=over_get cur (L.base+off+ln * es) news (by omega)
  refine ⟨hS.upd (id0:=n) (o0:=.cells t' ((ln+lny) * es)) (zQ _) (agree_put _ _ _) (zM _) (put_same _ _ _) ?_ (fun o h=>by rw [hgg,if_pos rfl] at h;simpa using h.symm) (fun i o h hne=>?_) hkeep (dom_put hS.dom _) (fun i L' h=>?_),
   Fr.upd (id0:=n) (B:=L.b) hS (agree_put _ _ _) ⟨rfl,rfl,rfl,zB _⟩ (by simp) hkeep (.inl ⟨id,_,L,hbar,hg,hL,rfl⟩) (fun L' h=>by rw [put_same] at h;cases h;rfl) (fun i o h hne=>(hgn i o h hne).1)⟩
  ·simp only [ObjOk]
   refine ⟨_,_,tty,put_same _ _ _,setRow_heap w L.b cur _ tty (0,0) hh,by simp;omega,hroom,fun i hi=>?_⟩
   have hi2:i < (olds++new).length:=by simp;omega
   obtain ⟨u,hu,hr⟩:=hboth.get i (olds++new)[i] (zJ hi2)
   refine ⟨_,u,by rw [ht' i hi];exact zJ (by simp;omega),?_,?_,hr.ag (zQ _) (agree_put _ _ _)⟩
   ·rcases xU.1 (kH (l:=olds++new) (n:=i) (by simp;omega)) with h |h
    ·exact ho1 _ h
    exact hn1 _ h
   show _[L.base+off+i]?=_
   rw [hget]
   rw [kP] at hu
   split at hu
   ·rw [if_neg (by omega)]
    exact hold i u hu
   rw [if_pos (by omega),show L.base+off+i - (L.base+off+ln * es)=i - oldv.length by omega]
   exact hu
  ·obtain ⟨h1,h2⟩:=hgn i o h hne
   exact ⟨h1,fun L' hL'=>hS.sep i o id _ h1 hg h2 L' L hL' hL⟩
  rw [setRow_size]
  simp only [Nm.put] at h
  split at h
  ·cases h;exact hS.blk id L hL
  exact hS.blk i L' h
 intro w' ty slack hw hio
 have hkeep:∀b,b < w.heap.size->b≠w.heap.size->w'.heap[b]?=w.heap[b]?:=fun b hb _=>by rw [hw,Array.getElem?_push,if_neg (by omega)]
 have hsz:w'.heap.size=w.heap.size+1:=by rw [hw];simp
 refine ⟨hS.upd (id0:=n) (o0:=.cells t' ((ln+lny) * es)) (zQ _) (agree_put _ _ _) (zM _) (put_same _ _ _) ?_ (fun o h=>by rw [hgg,if_pos rfl] at h;simpa using h.symm) (fun i o h hne=>?_) hkeep (dom_put hS.dom _) (fun i L' h=>?_),
  Fr.upd (id0:=n) (B:=w.heap.size) hS (agree_put _ _ _) hio (by omega) hkeep (.inr (zB _)) (fun L' h=>by rw [put_same] at h;cases h;rfl) (fun i o h hne=>(hgn i o h hne).1)⟩
 ·simp only [ObjOk]
  refine ⟨_,((oldv++news)++slack).toArray,ty,put_same _ _ _,by rw [hw];simp,by simp,by simp;omega,fun i hi=>?_⟩
  have hi2:i < (olds++new).length:=by simp;omega
  obtain ⟨u,hu,hr⟩:=hboth.get i (olds++new)[i] (zJ hi2)
  refine ⟨_,u,by rw [ht' i hi];exact zJ (by simp;omega),?_,?_,hr.ag (zQ _) (agree_put _ _ _)⟩
  ·rcases xU.1 (kH (l:=olds++new) (n:=i) (by simp;omega)) with h |h
   ·exact ho1 _ h
   exact hn1 _ h
  rw [zO,List.getElem?_toArray,zW (by simp;omega)];exact hu
 ·obtain ⟨h1,h2⟩:=hgn i o h hne
  exact ⟨h1,fun L' hL'=>by have:=hS.blk i L' hL';show L'.b≠w.heap.size;omega⟩
 simp only [Nm.put] at h
 split at h
 ·cases h;show w.heap.size < _;omega
 have:=hS.blk i L' h;omega
theorem run_append_room_at (w:World) (t ty e:TypeId) (i:TypeInfo) (ht:P.underlying t=some (.slice e)) (hi:P.info? e=some i) (g o sLen sCap:Nat) {y:Value} {m:Nat} {news:List Value} {w':World}
  (hlen:(Builtin.lenOf y).run P w=.ok m w) (hf:(Builtin.firstCells i.size m y).run P w=.ok news.toArray w) (hroom:sLen+m<=sCap)
  (hst:(storeCells ⟨g,o+sLen * i.size,none⟩ news).run P w=.ok () w') :
  (Builtin.append_ #[t,t] ty #[.slice (some ⟨g,o,none⟩) sLen sCap,y]).run P w=.ok (.slice (some ⟨g,o,none⟩) (sLen+m) sCap) w':=by
 simp [Builtin.append_,zE ht,Go.sizeOf,typeInfo,hi,hlen,hroom,hf,add_at,hst]
section
variable (hE:EnvOk E P)
include hE
theorem appendX_ok {t es:Nat} (hes:elemSize E t=some es) {e:Nat} (hk:kindOf E t=.slice e) {ety:Ty} (hety:E.T e=some ety) (ty:TypeId) {g:T O} {w:World} (hS:HSat Z g.get n w) {x y:V} {ux uy:Value}
  (hx:Rv Z n x ux) (hy:Rv Z n y uy) {m:Nat} (hm:lenV y=some m) {new:List V} {news:List Value} (hnew:RvL Z n new news) (hnlen:new.length=m * es) (_hn1:∀v∈new,one1 v=true)
  (hsrc:(m=0/\new=[])\/(∃a ln c,y=.rslc a ln c/\uy=.slice (some a) ln c/\∀j u,news[j]?=some u->w.cell? (a.add j)=some u)\/∃id off ln cap L off' c,y=.slc id es off ln cap/\Z id=some L/\uy=.slice (some ⟨L.b,off',none⟩) ln c/\(ln≠0->off'=L.base+off)/\(∀j u,news[j]?=some u->w.cell? ((⟨L.b,L.base+off,none⟩:Addr).add j)=some u))
  {k:V->T O->Nat->R} {r:Ex×St} (h:appendX bar g n es ety.bytes x m new k=some r) :
  ∃v g' n',k v g' n'=some r/\∃u Z' w',(Builtin.append_ #[t,t] ty #[ux,uy]).run P w=.ok u w'/\Rv Z' n' v u/\HSat Z' g'.get n' w'/\agree n Z Z'/\n<=n'/\Fr (Own Z g.get bar) w (Own Z' g'.get bar) w':=by
 obtain ⟨e',ety',i,z,hu,hety',hk',hsz,hpos,hi,his,hib,hz,hzr⟩:=elem_ok hE hes
 rw [hk] at hk';cases hk'
 rw [hety] at hety';cases hety'
 have hlenof:(Builtin.lenOf uy).run P w=.ok m w:=by
  match y,hm,hy with
  |.slc id es' off ln none,hm,hy=>
   simp only [lenV,zA] at hm
   simp only [Rv] at hy;obtain ⟨_,_,L,c,o,_,rfl,_⟩:=hy;simp [Builtin.lenOf,hm]
  |.slc id es' off ln (some c),hm,hy=>
   simp only [lenV,zA] at hm
   simp only [Rv] at hy;obtain ⟨_,_,_,L,_,rfl⟩:=hy;simp [Builtin.lenOf,hm]
  |.rslc a ln c,hm,hy=>
   simp only [lenV,zA] at hm
   simp only [Rv] at hy;obtain ⟨_,rfl⟩:=hy;simp [Builtin.lenOf,hm]
  |.nils,hm,hy=>
   simp only [lenV,zA] at hm
   simp only [Rv] at hy;subst hy;simp [Builtin.lenOf,hm]
 have hnl:=hnew.length
 have hfirst:∀w2:World,w2.heap=w.heap->(Builtin.firstCells i.size m uy).run P w2=.ok news.toArray w2:=by
  intro w2 hw2
  have hcell:∀a,w2.cell? a=w.cell? a:=fun a=>by simp [World.cell?,hw2]
  rcases hsrc with ⟨h0,hnil⟩ |⟨a,ln,c,rfl,rfl,hc⟩ |⟨id,off,ln,cap,L,off',c,rfl,hL,rfl,hoff,hc⟩
  ·have:news=[]:=by rw [hnil] at hnl;exact zS.1 hnl
   subst this
   subst h0
   match y,hm,hy with
   |.slc id es' off ln none,hm,hy=>
    simp only [Rv] at hy;obtain ⟨_,_,L,c,o,_,rfl,_⟩:=hy;simp [Builtin.firstCells,loadCells,loadCellsFrom]
   |.slc id es' off ln (some c),hm,hy=>
    simp only [Rv] at hy;obtain ⟨_,_,_,L,_,rfl⟩:=hy;simp [Builtin.firstCells,loadCells,loadCellsFrom]
   |.rslc a ln c,hm,hy=>
    simp only [Rv] at hy;obtain ⟨_,rfl⟩:=hy;simp [Builtin.firstCells,loadCells,loadCellsFrom]
   |.nils,hm,hy=>
    simp only [Rv] at hy;subst hy;simp [Builtin.firstCells]
  ·simp only [lenV,zA] at hm
   subst hm
   exact run_firstCells_some (P:=P) w2 i.size ln _ ln c news (by rw [hnl,hnlen,his]) (fun j v hj=>by rw [hcell];exact hc j v hj)
  simp only [lenV,zA] at hm
  subst hm
  by_cases h0:ln=0
  ·have:news=[]:=by apply zS.1;rw [hnl,hnlen,h0,Nat.zero_mul]
   rw [this,h0]
   simp [Builtin.firstCells,loadCells,loadCellsFrom]
  rw [hoff h0]
  exact run_firstCells_some (P:=P) w2 i.size ln _ ln c news (by rw [hnl,hnlen,his]) (fun j v hj=>by rw [hcell];exact hc j v hj)
 have fresh:∀(olds:List V) (oldv:List Value) (q:Nat) (need old:Nat) {kk:T O->Nat->R},RvL Z n olds oldv->(∀v∈olds,one1 v=true)->olds.length=q * es->need=q+m->0 < need->old < need->newRow g n (olds++new) kk=some r->
   ∀u,u=Value.slice (some ⟨w.heap.size,0,none⟩) need (grownCap w need old e)->
   ∃g' Z' w',kk g' (n+1)=some r/\w'=w.drew.alloc (.cells (oldv.toArray++news.toArray++Builtin.zeroCells z.cells (grownCap w need old e - need)) e)/\
    Rv Z' (n+1) (.slc n es 0 need none) u/\HSat Z' g'.get (n+1) w'/\agree n Z Z'/\Fr (Own Z g.get bar) w (Own Z' g'.get bar) w':=by
  intro olds oldv q need old kk hol h1 hql hneed hpos' hold hrow u hu
  have hge:need<=grownCap w need old e:=grownCap_ge w need old e
  have hzs:z.cells.size=es:=by have:=(hzr Z n).length;rw [<-kI,this,(hE.T _ _ hety).zlen,hsz]
  have hoL:=hol.length
  obtain ⟨g',h2,h3,h4⟩:=newRow_ok (bar:=bar) (ty:=e) (slack:=(Builtin.zeroCells z.cells (grownCap w need old e - need)).toList) hS (hol.append hnew) hrow
   (w':=w.drew.alloc (.cells (oldv.toArray++news.toArray++Builtin.zeroCells z.cells (grownCap w need old e - need)) e)) (by
    show w.heap.push _=_
    congr 2
    apply kJ;simp) ⟨rfl,rfl,rfl,zQ _⟩
  refine ⟨g',_,_,h2,rfl,?_,h3,agree_put _ _ _,h4⟩
  subst hu
  simp only [Rv]
  refine ⟨zM _,hpos,_,_,0,put_same _ _ _,rfl,hge,?_,.inl rfl⟩
  have hzc:(Builtin.zeroCells z.cells (grownCap w need old e - need)).toList.length=(grownCap w need old e - need) * es:=by simp [Builtin.zeroCells,hzs]
  simp only [xK,hoL,hql,hnl,hnlen,hzc,zO,<-zR]
  congr 1;omega
 unfold appendX at h
 split at h
 ·-- nothing
  have hnil:news=[]:=by apply zS.1;rw [hnl,hnlen,Nat.zero_mul]
  have hsame:∀a ln c,ux=.slice a ln c->ln<=c->(Builtin.append_ #[t,t] ty #[ux,uy]).run P w=.ok ux w:=by
   intro a ln c hux hle
   have hf:=hfirst w rfl
   rw [hnil] at hf
   subst hux
   cases a<;>simp [Builtin.append_,zE hu,run_sizeOf' hi,hlenof,hle,hf,storeCells]
  split at h
  ·simp only [Rv] at hx
   exact ⟨_,_,_,h,ux,Z,w,hsame none 0 0 hx (zB _),by simp only [Rv];exact hx,hS,agree.refl _ _,zB _,Fr.refl _ _⟩
  next id es' off ln cap=>
   split at h
   ·have hx0:=hx
    refine ⟨_,_,_,h,ux,Z,w,?_,hx0,hS,agree.refl _ _,zB _,Fr.refl _ _⟩
    cases cap with
    |none=>simp only [Rv] at hx;obtain ⟨_,_,L,c,o,_,hux,hle,_⟩:=hx;exact hsame _ _ _ hux hle
    |some c=>simp only [Rv] at hx;obtain ⟨_,_,hle,L,_,hux⟩:=hx;exact hsame _ _ _ hux hle
   cases h
  cases h
 rename_i hm0
 have hm0:m≠0:=fun e=>hm0 e
 obtain ⟨ay,cy,huy,hcy⟩:∃a c,uy=.slice (some a) m c/\∀j u,news[j]?=some u->w.cell? (a.add j)=some u:=by
  rcases hsrc with h0 |⟨a,ln,c,rfl,rfl,hc⟩ |⟨id,off,ln,cap,L,off',c,rfl,hL,rfl,hoff,hc⟩
  ·exact absurd h0.1 hm0
  ·simp only [lenV,zA] at hm
   subst hm
   exact ⟨a,c,rfl,hc⟩
  simp only [lenV,zA] at hm
  subst hm
  have hoff:=hoff hm0
  subst hoff
  exact ⟨_,c,rfl,hc⟩
 split at h
 ·-- onto nil
  simp only [Rv] at hx
  subst hx
  split at h
  next hb=>
   simp only [roomOk,zC,xV] at hb
   have hb1:m * ety.bytes<=4294967296:=hb.1
   have hpos':0 < m:=Nat.pos_of_ne_zero hm0
   unfold grown at h
   obtain ⟨g',Z',w',h1,h2,h3,h4,h5,h6⟩:=fresh [] [] 0 m 0 (by simp [RvL]) (by simp) (by simp) (zO _).symm hpos' hpos' (by simpa using h) _ rfl
   refine ⟨_,g',n+1,h1,_,Z',w',?_,h3,h4,h5,zQ _,h6⟩
   have hln63:(m:Int)<=9223372036854775807:=by have:=hb.2;omega
   have h48:m * i.bytes<=281474976710656:=by rw [hib];omega
   have:=run_append_nil (P:=P) w t ty e i z hu hi hz _ m cy news (by rw [hnl,hnlen,his]) hcy hpos' hln63 h48
   rw [h2,huy]
   simpa using this
  cases h
 rotate_left
 ·cases h
 rename_i id es' off ln cap
 split at h
 ·cases h
 rename_i hc
 simp only [zC,kG,roomOk,xV] at hc
 obtain ⟨hee,hb,hb2⟩:=hc
 have hee:es=es':=hee
 subst hee
 have hb:(ln+m) * ety.bytes<=4294967296:=hb
 have hb2:ln+m<=4294967296:=hb2
 have h63:((ln+m:Nat):Int)<=9223372036854775807:=by omega
 have hpos':0 < ln+m:=xH (Nat.pos_of_ne_zero hm0) (Nat.le_add_left _ _)
 have hlt':ln < ln+m:=Nat.lt_add_of_pos_right (Nat.pos_of_ne_zero hm0)
 have hfit:∀c,c < ln+m->Builtin.nextslicecap (ln+m) c * i.bytes<=281474976710656:=fun c hc=>growslice_fits hc (by rw [hib];omega)
 have grows:∀{L:Loc} {a:Addr} {c:Nat} {olds:List V} {oldv:List Value} {kk:T O->Nat->R},ux=.slice (some a) ln c->c < ln+m->RvL Z n olds oldv->(∀v∈olds,one1 v=true)->olds.length=ln * es->
   (∀j v,oldv[j]?=some v->w.cell? (a.add j)=some v)->newRow g n (olds++new) kk=some r->
   ∃g' Z' w' u,kk g' (n+1)=some r/\(Builtin.append_ #[t,t] ty #[ux,uy]).run P w=.ok u w'/\Rv Z' (n+1) (.slc n es 0 (ln+m) none) u/\HSat Z' g'.get (n+1) w'/\agree n Z Z'/\Fr (Own Z g.get bar) w (Own Z' g'.get bar) w':=by
  intro L a c olds oldv kk hux hc hol h1 hql holc hrow
  obtain ⟨g',Z',w',g1,g2,g3,g4,g5,g6⟩:=fresh olds oldv ln (ln+m) c hol h1 hql rfl hpos' hc hrow _ rfl
  have hoL:=hol.length
  have:=run_append_grow (P:=P) w t ty e i z hu hi hz a ln c oldv (by rw [hoL,hql,his]) holc _ m cy news (by rw [hnl,hnlen,his]) hcy hc h63 (hfit c hc)
  exact ⟨g',Z',w',_,g1,by rw [hux,huy,g2];exact this,g3,g4,g5,g6⟩
 have fits:∀{L:Loc} {c:Nat} {kk:T O->R},Z id=some L->ux=.slice (some ⟨L.b,L.base+off,none⟩) ln c->ln+m<=c->store bar g id (off+ln * es) new kk=some r->
   ∃g' w',kk g'=some r/\(Builtin.append_ #[t,t] ty #[ux,uy]).run P w=.ok (.slice (some ⟨L.b,L.base+off,none⟩) (ln+m) c) w'/\HSat Z g'.get n w'/\Fr (Own Z g.get bar) w (Own Z g'.get bar) w':=by
  intro L c kk hL hux hroom hst
  obtain ⟨g',w',g1,g2,g3,g4,_⟩:=store_ok hS hnew hL hst
  refine ⟨g',w',g1,?_,g2,g3⟩
  rw [hux]
  exact run_append_room_at w t ty e i hu hi L.b (L.base+off) ln c hlenof (hfirst w rfl) hroom (by rw [his,xP];exact g4)
 cases cap with
 |some c=>
  simp only [Rv] at hx
  obtain ⟨hid,_,hlnc,L,hL,hux⟩:=hx
  simp only at h
  split at h
  next hroom=>
   have hroom:ln+m<=c:=by simpa using hroom
   obtain ⟨g',w',g1,g2,g3,g4⟩:=fits hL hux hroom h
   rw [fN_eq] at g1
   refine ⟨_,g',n,g1,_,Z,w',g2,?_,g3,agree.refl _ _,zB _,g4⟩
   simp only [Rv]
   exact ⟨hid,hpos,hroom,L,hL,rfl⟩
  rename_i hroom
  have hroom:c < ln+m:=by
   have:¬ln+m<=c:=fun hh=>by rw [<-xV] at hh;exact absurd (hh.symm.trans hroom) (by simp)
   omega
  obtain ⟨olds,oldv,q1,q2,q3,q4,q5⟩:=cellsOf_ok (ro:=fun _=>none) (fun _ _ h=>by cases h) hS (y:=.slc id es off ln (some c)) (u:=ux) (by simp only [Rv];exact ⟨hid,hpos,hlnc,L,hL,hux⟩) h
  rw [fL_eq,fN_eq] at q1
  unfold grown at q1
  have holc:∀j v,oldv[j]?=some v->w.cell? ((⟨L.b,L.base+off,none⟩:Addr).add j)=some v:=by
   rcases q5 with ⟨h0,hnil⟩ |⟨_,_,_,heq,_⟩ |⟨id',off',ln',cap',L',o',c',heq,hL',hu',ho',hcell⟩
   rotate_left
   ·cases heq
   rotate_left
   ·have:=q2.length;rw [hnil] at this;have:=zS.1 this;subst this
    intro j v hj;simp at hj
   cases heq
   rw [hL] at hL';cases hL'
   exact hcell
  obtain ⟨g',Z',w',u,g1,g2,g3,g4,g5,g6⟩:=grows (L:=L) hux hroom q2 q3 q4 holc q1
  exact ⟨_,g',n+1,g1,u,Z',w',g2,g3,g4,g5,zQ _,g6⟩
 |none=>
  have hx0:=hx
  simp only [Rv] at hx
  obtain ⟨hid,_,L,c,off',hL,hux,hlnc,hbs,hoff⟩:=hx
  simp only at h
  split at h
  rotate_left
  ·cases h
  rename_i tt mm hg hbar hone
  obtain ⟨_,hob⟩:=hS.objs id _ hg
  simp only [ObjOk] at hob
  obtain ⟨L',cur,tty,hL',hh,hcs,hmm,hcell⟩:=hob
  rw [hL] at hL';cases hL'
  split at h
  next hfit'=>
   have hfit':off+(ln+m) * es<=mm:=by simpa using hfit'
   have hroom:ln+m<=c:=by
    have h1:(ln+m) * es<=c * es:=by omega
    exact Nat.le_of_mul_le_mul_right h1 hpos
   have hoff':off'=L.base+off:=by
    rcases hoff with h |h
    ·exact h
    omega
   subst hoff'
   obtain ⟨g',w',g1,g2,g3,g4⟩:=fits hL hux hroom h
   rw [fN_eq] at g1
   refine ⟨_,g',n,g1,_,Z,w',g2,?_,g3,agree.refl _ _,zB _,g4⟩
   simp only [Rv]
   exact ⟨hid,hpos,L,c,_,hL,rfl,hroom,hbs,.inl rfl⟩
  split at h
  ·cases h
  rename_i hle
  have hle:off+ln * es<=mm:=by simpa using hle
  have hbar':bar<=id:=by simpa [geB] using hbar
  have hn1':=(oneAll_iff _).1 hone
  have old:∃olds oldv,RvL Z n olds oldv/\(∀v∈olds,one1 v=true)/\olds.length=ln * es/\(∀j u,oldv[j]?=some u->cur[L.base+off+j]?=some u)/\
    (∀j u,oldv[j]?=some u->w.cell? ((⟨L.b,L.base+off,none⟩:Addr).add j)=some u)/\
    ∃t' gg,(∀j,j < (ln+m) * es->t'.get j=(olds++new)[j]?)/\(∀i,gg.get i=if i=n then some (.cells t' ((ln+m) * es)) else if i=id then none else g.get i)/\
     k (.slc n es 0 (ln+m) none) gg (n+1)=some r:=by
   obtain ⟨olds,oldv,L2,cur2,ty2,p2,p3,p4,p5,p6,_,_,p8,p9,p10⟩:=cells_list hS hg hle
   rw [hL] at p5;cases p5
   rw [hh] at p6;cases p6
   have hmul:(ln+m) * es=ln * es+m * es:=zR _ _ _
   refine ⟨olds,oldv,p3,p4,p2,p9,p10,?_⟩
   split at h
   ·-- from the head on
    obtain ⟨t',q1,q2⟩:=wrt_ok _ _ _ h
    rw [fN_eq,fN_eq,T.set_eq,T.set_eq] at q1
    have hm1:Nat.mul ln es=ln * es:=rfl
    refine ⟨t',_,fun j hj=>?_,fun i=>?_,q1⟩
    ·rw [q2,kP,p2,hm1]
     by_cases hj2:j < ln * es
     ·rw [if_neg (by omega),if_pos hj2]
      have:=p8 j hj2
      rwa [zO] at this
     rw [if_neg hj2,if_pos (by omega)]
    rw [T.get_up,T.get_up];rfl
   rw [show Nat.mul ln es=olds.length from p2.symm,rd_eq olds off _ (fun j hj=>p8 j (by omega)),fL_eq,fN_eq,T.set_eq] at h
   unfold newRow at h
   split at h
   ·obtain ⟨t',q1,q2⟩:=wrt_ok _ _ _ h
    rw [fN_eq,CX.new,T.set_eq,len_eq] at q1
    refine ⟨t',_,fun j hj=>?_,fun i=>?_,q1⟩
    ·rw [q2,if_pos (by simp;omega),kO]
    rw [T.get_up,T.get_up]
    have:(olds++new).length=(ln+m) * es:=by simp;omega
    rw [this]
   cases h
  obtain ⟨olds,oldv,o1,o2,o3,o4,o5,t',gg,o6,o7,o8⟩:=old
  have hoL:=o1.length
  obtain ⟨m1,m2⟩:=moved_ok (bar:=bar) hS hg hbar' hL hh hcs o1 hnew o2 hn1' o3 hnlen o4 o6 o7
  by_cases hroom:ln+m<=c
  ·have hoff':off'=L.base+off:=by
    rcases hoff with h |h
    ·exact h
    omega
   subst hoff'
   have hfitc:L.base+off+(ln+m) * es<=L.bs:=by
    have:(ln+m) * es<=c * es:=zP _ hroom
    omega
   obtain ⟨m3,m4⟩:=m1 _ rfl hfitc
   have hx1:∀v∈news,v.oneCell'=true:=by
    intro v hv
    obtain ⟨i,hi,rfl⟩:=List.getElem_of_mem hv
    have hi':i < new.length:=by omega
    obtain ⟨u,hu,hr⟩:=hnew.get i new[i] (zJ hi')
    rw [zJ hi] at hu
    cases hu
    exact one1_cell hr (hn1' _ (kH hi'))
   have hst:=run_storeCells_at P L.b (L.base+off+ln * es) tty news 0 cur w hh (by rw [zR] at hfitc;omega) hx1
   simp only [kF] at hst
   refine ⟨_,gg,n+1,o8,.slice (some ⟨L.b,L.base+off,none⟩) (ln+m) c,_,_,?_,?_,m3,agree_put _ _ _,zQ _,m4⟩
   ·rw [hux]
    exact run_append_room_at w t ty e i hu hi L.b (L.base+off) ln c hlenof (hfirst w rfl) hroom (by rw [his];exact hst)
   simp only [Rv]
   exact ⟨zM _,hpos,_,c,_,put_same _ _ _,rfl,hroom,by show L.base+off+0+c * es=L.bs;omega,.inl rfl⟩
  have hc:c < ln+m:=Nat.lt_of_not_le hroom
  have hge:ln+m<=grownCap w (ln+m) c e:=grownCap_ge w (ln+m) c e
  have hzs:z.cells.size=es:=by have:=(hzr Z n).length;rw [<-kI,this,(hE.T _ _ hety).zlen,hsz]
  have hzc:(Builtin.zeroCells z.cells (grownCap w (ln+m) c e - (ln+m))).toList.length=(grownCap w (ln+m) c e - (ln+m)) * es:=by simp [Builtin.zeroCells,hzs]
  obtain ⟨m3,m4⟩:=m2 (w.drew.alloc (.cells (oldv.toArray++news.toArray++Builtin.zeroCells z.cells (grownCap w (ln+m) c e - (ln+m))) e)) e (Builtin.zeroCells z.cells (grownCap w (ln+m) c e - (ln+m))).toList (by
   show w.heap.push _=_
   congr 2
   apply kJ;simp) ⟨rfl,rfl,rfl,zQ _⟩
  have holc:∀j v,oldv[j]?=some v->w.cell? ((⟨L.b,off',none⟩:Addr).add j)=some v:=by
   rcases hoff with h |h
   ·rw [h];exact o5
   have:oldv=[]:=zS.1 (by rw [hoL,o3,show ln=0 by omega,Nat.zero_mul])
   subst this
   intro j v hj;simp at hj
  have hrun:=run_append_grow (P:=P) w t ty e i z hu hi hz ⟨L.b,off',none⟩ ln c oldv (by rw [hoL,o3,his]) holc _ m cy news (by rw [hnl,hnlen,his]) hcy hc h63 (hfit c hc)
  refine ⟨_,gg,n+1,o8,_,_,_,by rw [hux,huy];exact hrun,?_,m3,agree_put _ _ _,zQ _,m4⟩
  simp only [Rv]
  refine ⟨zM _,hpos,_,_,0,put_same _ _ _,rfl,hge,?_,.inl rfl⟩
  simp only [xK,hoL,o3,hnl,hnlen,hzc,zO,<-zR]
  congr 1;omega
end
end
end CX

namespace CX
open Go
section
variable {P:Program} {E:Env} {Z:Nm} {n bar:Nat}
def AtK (f:V->Option Bool) (l:List (V×V×Nat)) (j:Option Nat):Prop:=
 (∀(i:Nat) (k v:V) (b:Nat),l[i]?=some (k,v,b)->(j=some i->f k=some true)/\((∀q,j=some q->i < q)->f k=some false))/\∀q,j=some q->q < l.length
theorem AtK.nil {f:V->Option Bool}:AtK f [] none:=⟨fun i k v b h=>(by simp at h),fun q h=>(by cases h)⟩
theorem AtK.here {f:V->Option Bool} {k v:V} {b:Nat} {l:List (V×V×Nat)} (h:f k=some true):AtK f ((k,v,b) :: l) (some 0):=by
 refine ⟨fun i k' v' b' hi=>⟨fun e=>?_,fun e=>?_⟩,fun q e=>?_⟩
 ·simp only [zA] at e;subst e
  simp at hi;rw [<-hi.1];exact h
 ·have:=e 0 rfl;omega
 simp only [zA] at e;subst e;simp
theorem AtK.there {f:V->Option Bool} {k v:V} {b:Nat} {l:List (V×V×Nat)} {j:Option Nat} (h:f k=some false) (hj:AtK f l j):AtK f ((k,v,b) :: l) (j.map (·+1)):=by
 refine ⟨fun i k' v' b' hi=>?_,fun q e=>?_⟩
 ·cases i with
  |zero=>
   simp at hi
   refine ⟨fun e=>?_,fun _=>by rw [<-hi.1];exact h⟩
   cases j<;>simp at e
  |succ i=>
   obtain ⟨g1,g2⟩:=hj.1 i k' v' b' (by simpa using hi)
   refine ⟨fun e=>g1 ?_,fun e=>g2 fun q hq=>?_⟩
   ·cases j<;>simp at e;rw [e]
   have:=e (q+1) (by rw [hq];rfl);omega
 cases j with
 |none=>simp at e
 |some j=>simp only [zX,zA] at e;have:=hj.2 j rfl;simp;omega
theorem setK_at {f:V->Option Bool} {key val:V} (c:Nat):∀(l:List (V×V×Nat)) {k:List (V×V×Nat)->Bool->R} {r:Ex×St},setK f key val l c k=some r->
  ∃j l' fl,k l' fl=some r/\AtK f l j/\(j=none->fl=true/\l'=l++[(key,val,c)])/\∀i,j=some i->fl=false/\∃q v b,l[i]?=some (q,v,b)/\f q=some true/\l'=l.set i (key,val,b)
 |[],k,r,h=>⟨none,_,_,h,.nil,fun _=>⟨rfl,rfl⟩,fun i e=>(by cases e)⟩
 |(q,v,b) :: l,k,r,h=>by
  simp only [setK] at h
  split at h
  next hc=>
   exact ⟨some 0,_,_,h,.here hc,fun e=>(by cases e),fun i e=>by simp only [zA] at e;subst e;exact ⟨rfl,q,v,b,rfl,hc,rfl⟩⟩
  next hc=>
   obtain ⟨j,l',fl,h1,h2,h3,h4⟩:=setK_at c l h
   refine ⟨j.map (·+1),_,fl,h1,h2.there hc,fun e=>?_,fun i e=>?_⟩
   ·cases j with
    |none=>obtain ⟨g1,g2⟩:=h3 rfl;exact ⟨g1,by rw [g2];rfl⟩
    |some j=>simp at e
   cases j with
   |none=>simp at e
   |some j=>
    simp only [zX,zA] at e
    subst e
    obtain ⟨g1,q',v',b',g2,g3,g4⟩:=h4 j rfl
    exact ⟨g1,q',v',b',by simpa using g2,g3,by rw [g4];rfl⟩
  cases h
theorem entK_at {f:V->Option Bool} {key zero:V} (c:Nat):∀(l:List (V×V×Nat)) {k:List (V×V×Nat)->V->Nat->Bool->R} {r:Ex×St},entK f key zero l c k=some r->
  ∃j l' v0 b0 fl,k l' v0 b0 fl=some r/\AtK f l j/\(j=none->fl=true/\v0=zero/\b0=c/\l'=l++[(key,zero,c)])/\∀i,j=some i->fl=false/\∃q,l[i]?=some (q,v0,b0)/\f q=some true/\l'=l.set i (key,v0,b0)
 |[],k,r,h=>⟨none,_,_,_,_,h,.nil,fun _=>⟨rfl,rfl,rfl,rfl⟩,fun i e=>(by cases e)⟩
 |(q,v,b) :: l,k,r,h=>by
  simp only [entK] at h
  split at h
  next hc=>
   exact ⟨some 0,_,_,_,_,h,.here hc,fun e=>(by cases e),fun i e=>by simp only [zA] at e;subst e;exact ⟨rfl,q,rfl,hc,rfl⟩⟩
  next hc=>
   obtain ⟨j,l',v0,b0,fl,h1,h2,h3,h4⟩:=entK_at c l h
   refine ⟨j.map (·+1),_,v0,b0,fl,h1,h2.there hc,fun e=>?_,fun i e=>?_⟩
   ·cases j with
    |none=>obtain ⟨g1,g2,g3,g4⟩:=h3 rfl;exact ⟨g1,g2,g3,by rw [g4];rfl⟩
    |some j=>simp at e
   cases j with
   |none=>simp at e
   |some j=>
    simp only [zX,zA] at e
    subst e
    obtain ⟨g1,q',g2,g3,g4⟩:=h4 j rfl
    exact ⟨g1,q',by simpa using g2,g3,by rw [g4];rfl⟩
  cases h
theorem stoK_at {n:Nat} {val:V}:∀(l:List (V×V×Nat)) {k:List (V×V×Nat)->R} {r:Ex×St},stoK n val l k=some r->
  ∃j q v,k (l.set j (q,val,n))=some r/\l[j]?=some (q,v,n)/\∀i q' v' b',i < j->l[i]?=some (q',v',b')->b'≠n
 |[],k,r,h=>by simp only [stoK] at h;cases h
 |(q,v,b) :: l,k,r,h=>by
  simp only [stoK] at h
  split at h
  next hb=>
   have:=zF hb
   subst this
   exact ⟨0,q,v,h,rfl,fun i _ _ _ hi=>by omega⟩
  rename_i hb
  obtain ⟨j,q1,v1,h1,h2,h3⟩:=stoK_at l h
  refine ⟨j+1,q1,v1,h1,by simpa using h2,fun i q' v' b' hi hl=>?_⟩
  cases i with
  |zero=>
   simp at hl
   rw [<-hl.2.2]
   intro e
   subst e
   rw [xA] at hb
   cases hb
  |succ i=>exact h3 i q' v' b' (by omega) (by simpa using hl)
theorem delK_at {f:V->Option Bool}:∀(l:List (V×V×Nat)) {k:List (V×V×Nat)->R} {r:Ex×St},delK f l k=some r->
  ∃j l',k l'=some r/\AtK f l j/\(j=none->l'=l)/\∀i,j=some i->l'=l.eraseIdx i
 |[],k,r,h=>⟨none,_,h,.nil,fun _=>rfl,fun i e=>(by cases e)⟩
 |(q,v,b) :: l,k,r,h=>by
  simp only [delK] at h
  split at h
  next hc=>
   exact ⟨some 0,_,h,.here hc,fun e=>(by cases e),fun i e=>by simp only [zA] at e;subst e;rfl⟩
  next hc=>
   obtain ⟨j,l',h1,h2,h3,h4⟩:=delK_at l h
   refine ⟨j.map (·+1),_,h1,h2.there hc,fun e=>?_,fun i e=>?_⟩
   ·cases j with
    |none=>rw [h3 rfl]
    |some j=>simp at e
   cases j with
   |none=>simp at e
   |some j=>
    simp only [zX,zA] at e
    subst e
    rw [h4 j rfl];rfl
  cases h
theorem RvM.length:∀{l:List (V×V×Nat)} {es:List MapEntry},RvM Z n l es->l.length=es.length
 |[],[],_=>rfl
 |(_,_,_) :: l,_ :: es,h=>by simp only [RvM] at h;simp [RvM.length h.2.2.2]
 |[],_ :: _,h=>by simp [RvM] at h
 |_ :: _,[],h=>by simp [RvM] at h
theorem RvM.append {k v:V} {b:Nat} {e:MapEntry} (hk:Rv Z n k e.key) (hv:Rv Z n v e.val) (hb:e.born=b):∀{l:List (V×V×Nat)} {es:List MapEntry},RvM Z n l es->RvM Z n (l++[(k,v,b)]) (es++[e])
 |[],[],_=>by simp only [qI,RvM];exact ⟨hk,hv,hb,trivial⟩
 |x :: l,y :: es,h=>by
  obtain ⟨k0,v0,b0⟩:=x
  simp only [RvM,List.cons_append] at h ⊢
  exact ⟨h.1,h.2.1,h.2.2.1,RvM.append hk hv hb h.2.2.2⟩
 |[],_ :: _,h=>by simp [RvM] at h
 |_ :: _,[],h=>by simp [RvM] at h
theorem RvM.set {k v:V} {b:Nat} {e:MapEntry} (hk:Rv Z n k e.key) (hv:Rv Z n v e.val) (hb:e.born=b):∀{l:List (V×V×Nat)} {es:List MapEntry} (i:Nat),RvM Z n l es->RvM Z n (l.set i (k,v,b)) (es.set i e)
 |[],[],i,h=>h
 |x :: l,y :: es,i,h=>by
  obtain ⟨k0,v0,b0⟩:=x
  simp only [RvM] at h
  cases i with
  |zero=>simp only [List.set_cons_zero,RvM];exact ⟨hk,hv,hb,h.2.2.2⟩
  |succ i=>simp only [List.set_cons_succ,RvM];exact ⟨h.1,h.2.1,h.2.2.1,RvM.set hk hv hb i h.2.2.2⟩
 |[],_ :: _,_,h=>by simp [RvM] at h
 |_ :: _,[],_,h=>by simp [RvM] at h
theorem RvM.erase:∀{l:List (V×V×Nat)} {es:List MapEntry} (i:Nat),RvM Z n l es->RvM Z n (l.eraseIdx i) (es.eraseIdx i)
 |[],[],i,h=>h
 |x :: l,y :: es,i,h=>by
  obtain ⟨k0,v0,b0⟩:=x
  simp only [RvM] at h
  cases i with
  |zero=>exact h.2.2.2
  |succ i=>simp only [List.eraseIdx_cons_succ,RvM];exact ⟨h.1,h.2.1,h.2.2.1,RvM.erase i h.2.2.2⟩
 |[],_ :: _,_,h=>by simp [RvM] at h
 |_ :: _,[],_,h=>by simp [RvM] at h
theorem eq1_bits {a b:V} (h:eq1 a b=some true) {u v:Value} (hu:Rv Z n a u) (hv:Rv Z n b v) (m:Nat):Instr.sameBits m u v=true/\Instr.sameBits m v u=true:=by
 cases a<;>cases b<;>simp only [eq1] at h<;>try cases h
 ·split at h
  next hk=>
   have:=kindEq_ok hk
   subst this
   simp only [zA,ieq_eq,qE] at h
   subst h
   simp only [Rv] at hu hv
   subst hu hv
   simp [Instr.sameBits]
  cases h
 next a b=>
  simp only [Rv] at hu hv
  subst hu hv
  cases a<;>cases b<;>simp_all [Instr.sameBits]
 simp only [zA,lEq_iff] at h
 subst h
 simp only [Rv] at hu hv
 rw [hu.2,hv.2]
 simp only [Instr.sameBits,and_self]
 rw [beq_toListBytes,qE]
theorem eqK_eq1 {z a b:V} (hc:eqK z a b=some true):eq1 a b=some true:=by
 unfold eqK at hc
 split at hc<;>(try split at hc)<;>first |exact hc |cases hc
theorem eqZ_bits:∀(z a b:List V) {x y:List Value},eqZ z a b=some true->RvL Z n a x->RvL Z n b y->∀m,y.length=x.length/\((y.zip x).all fun p=>Instr.sameBits m p.1 p.2)=true
 |[],a,b,x,y,h,hx,hy,m=>by
  cases a<;>cases b<;>simp only [eqZ] at h<;>try cases h
  cases x<;>cases y<;>simp_all [RvL]
 |z :: zs,a,b,x,y,h,hx,hy,m=>by
  cases a<;>cases b<;>simp only [eqZ] at h<;>try cases h
  split at h
  next hc=>
   cases x<;>cases y<;>simp only [RvL] at hx hy
   obtain ⟨h1,h2⟩:=eqZ_bits zs _ _ h hx.2 hy.2 m
   have:=(eq1_bits (eqK_eq1 hc) hx.1 hy.1 m).2
   refine ⟨by simp [h1],?_⟩
   simp only [List.zip_cons_cons,kA,this,Bool.true_and]
   exact h2
  ·cases h
  cases h
theorem key_bits {kt:Nat} {key k:V} (h:eqKey E kt key k=some true) {ku eu:Value} (hku:Rv Z n key ku) (heu:Rv Z n k eu):Instr.sameBits 10000 eu ku=true:=by
 unfold eqKey at h
 split at h
 ·split at h
  ·split at h
   ·simp only [Rv] at hku heu
    obtain ⟨xs,hx,rfl⟩:=hku
    obtain ⟨ys,hy,rfl⟩:=heu
    obtain ⟨g1,g2⟩:=eqZ_bits _ _ _ h hx hy 9999
    simp only [Instr.sameBits,List.size_toArray,g1,BEq.rfl,Bool.true_and]
    exact g2
   cases h
  cases h
 exact (eq1_bits h heu hku _).1
theorem alloc_get (w:World) (ob:Obj):(w.alloc ob).heap[w.heap.size]?=some ob:=by
 show (w.heap.push ob)[w.heap.size]?=_
 simp
theorem run_setMap {w:World} {r:Nat} {es:Array MapEntry} {c:Nat} (h:w.heap[r]?=some (.map es c)) (o:Obj):(setObj r o).run P w=.ok () { w with heap:=w.heap.setIfInBounds r o }:=by
 simp [setObj,Sem.run,h]
theorem setObj_ok {g:T O} {w:World} (hS:HSat Z g.get n w) {id:Nat} {o o':O} {L:Loc} (hL:Z id=some L) (hg:g.get id=some o) (hbar:bar<=id) {ob:Obj} {w':World} (hw:w'.heap=w.heap.setIfInBounds L.b ob)
  (hio:w'.os=w.os/\w'.tape=w.tape/\Io w w') (ho:ObjOk Z n w' id o'):HSat Z (g.up id (some o')).get n w'/\Fr (Own Z g.get bar) w (Own Z (g.up id (some o')).get bar) w':=by
 have hid:=(hS.objs id o hg).1
 have hkeep:∀b,b < w.heap.size->b≠L.b->w'.heap[b]?=w.heap[b]?:=fun b _ hb=>by rw [hw,kV (Ne.symm hb)]
 have hsz:w'.heap.size=w.heap.size:=by rw [hw];simp
 refine ⟨hS.upd (id0:=id) (o0:=o') (zB _) (agree.refl _ _) hid hL ho (fun q h=>by rw [T.get_up,if_pos rfl] at h;simpa using h.symm) (fun i q h hne=>?_) hkeep hS.dom (fun i L' h=>by rw [hsz];exact hS.blk i L' h),
  Fr.upd (id0:=id) (B:=L.b) hS (agree.refl _ _) hio (by omega) hkeep (.inl ⟨id,_,L,hbar,hg,hL,rfl⟩) (fun L' h=>by rw [hL] at h;cases h;rfl) (fun i q h hne=>by rw [T.get_up,if_neg hne] at h;exact h)⟩
 rw [T.get_up,if_neg hne] at h
 exact ⟨h,fun L' hL'=>hS.sep i q id _ h hg hne L' L hL' hL⟩
theorem set_get {w:World} {b:Nat} {o0:Obj} (h:w.heap[b]?=some o0) (ob:Obj):(w.heap.setIfInBounds b ob)[b]?=some ob:=by
 have:=(xW.1 h).1
 simp [this]
theorem evL_ok' {ev:Operand->Option V} {Ze:Operand->Value}:∀(l:List Operand) {k:List V->R} {r:Ex×St},(∀x∈l,∀v,ev x=some v->Rv Z n v (Ze x))->evL ev l k=some r->
  ∃vs,k vs=some r/\RvL Z n vs (l.map Ze):=fun l=>evL_ok l
section
variable (hE:EnvOk E P)
include hE
theorem copyX_ok {ro:Addr->Option V} {t es:Nat} (hes:elemSize E t=some es) {at_:Array TypeId} (hat:at_[0]?=some t) (ty:TypeId) {g:T O} {w:World} (hR:RoAt ro w) (hS:HSat Z g.get n w) {x y:V} {ux uy:Value} (hx:Rv Z n x ux) (hy:Rv Z n y uy)
  {k:V->T O->Nat->R} {r:Ex×St} (h:copyX ro bar g n es x y k=some r) :
  ∃v g' w' u,k v g' n=some r/\(Builtin.copy_ at_ ty #[ux,uy]).run P w=.ok u w'/\Rv Z n v u/\HSat Z g'.get n w'/\Fr (Own Z g.get bar) w (Own Z g'.get bar) w':=by
 obtain ⟨e,ety,i,z,hu,hety,hk,hsz,hpos,hi,his,hib,hz,hzr⟩:=elem_ok hE hes
 unfold copyX at h
 split at h
 ·cases h
 rename_i m hm
 have hlenof:(Builtin.lenOf uy).run P w=.ok m w:=by
  match y,hm,hy with
  |.slc id es' off ln none,hm,hy=>
   simp only [lenV,zA] at hm
   simp only [Rv] at hy;obtain ⟨_,_,L,c,o,_,rfl,_⟩:=hy;simp [Builtin.lenOf,hm]
  |.slc id es' off ln (some c),hm,hy=>
   simp only [lenV,zA] at hm
   simp only [Rv] at hy;obtain ⟨_,_,_,L,_,rfl⟩:=hy;simp [Builtin.lenOf,hm]
  |.rslc a ln c,hm,hy=>
   simp only [lenV,zA] at hm
   simp only [Rv] at hy;obtain ⟨_,rfl⟩:=hy;simp [Builtin.lenOf,hm]
  |.nils,hm,hy=>
   simp only [lenV,zA] at hm
   simp only [Rv] at hy;subst hy;simp [Builtin.lenOf,hm]
 have hfirst0:(Builtin.firstCells i.size 0 uy).run P w=.ok #[] w:=by
  match y,hm,hy with
  |.slc id es' off ln none,hm,hy=>
   simp only [Rv] at hy;obtain ⟨_,_,L,c,o,_,rfl,_⟩:=hy;simp [Builtin.firstCells,loadCells,loadCellsFrom]
  |.slc id es' off ln (some c),hm,hy=>
   simp only [Rv] at hy;obtain ⟨_,_,_,L,_,rfl⟩:=hy;simp [Builtin.firstCells,loadCells,loadCellsFrom]
  |.rslc a ln c,hm,hy=>
   simp only [Rv] at hy;obtain ⟨_,rfl⟩:=hy;simp [Builtin.firstCells,loadCells,loadCellsFrom]
  |.nils,hm,hy=>
   simp only [Rv] at hy;subst hy;simp [Builtin.firstCells]
 have run0:∀base dl dc,ux=.slice base dl dc->Nat.min m dl=0->(Builtin.copy_ at_ ty #[ux,uy]).run P w=.ok (.int .i64 0) w:=by
  intro base dl dc hux hmin
  subst hux
  cases base with
  |none=>simp [Builtin.copy_,hat,zE hu,hlenof,hmin,run_sizeOf' hi,hfirst0,goInt]
  |some a=>simp [Builtin.copy_,hat,zE hu,hlenof,hmin,run_sizeOf' hi,hfirst0,goInt,storeCells]
 split at h
 ·simp only [Rv] at hx
  exact ⟨_,g,w,_,h,run0 none 0 0 hx (by simp),by simp [Rv],hS,Fr.refl _ _⟩
 rotate_left
 ·cases h
 rename_i id es' off ln cap
 rw [fN_eq] at h
 have hxs:∃L off' c,Z id=some L/\ux=.slice (some ⟨L.b,off',none⟩) ln c/\(ln≠0->off'=L.base+off):=by
  cases cap with
  |none=>
   simp only [Rv] at hx
   obtain ⟨_,_,L,c,o',hL,hu,hle,_,ho'⟩:=hx
   exact ⟨L,o',c,hL,hu,fun h0=>by rcases ho' with h |h;exact h;omega⟩
  |some c=>simp only [Rv] at hx;obtain ⟨_,_,_,L,hL,hu⟩:=hx;exact ⟨L,_,c,hL,hu,fun _=>rfl⟩
 obtain ⟨L,off',c,hL,hux,hoff⟩:=hxs
 split at h
 next hq=>
  exact ⟨_,g,w,_,h,run0 _ _ _ hux hq,by simp [Rv],hS,Fr.refl _ _⟩
 rename_i hq
 have hq:Nat.min m ln≠0:=fun e=>hq e
 have hln:ln≠0:=fun e=>hq (by rw [e];exact Nat.min_zero _)
 obtain ⟨l,xs,g1,g2,g3,g4,g5⟩:=cellsOf_ok hR hS hy h
 have hxl:=g2.length
 obtain ⟨g',w',p1,p2,p3,p4,_⟩:=store_ok (P:=P) hS g2 hL g1
 refine ⟨_,g',w',.int .i64 (.ofNat (Nat.min m ln)),p1,?_,by simp [Rv],p2,p3⟩
 have hfirst:(Builtin.firstCells i.size (Nat.min m ln) uy).run P w=.ok xs.toArray w:=by
  rcases g5 with ⟨h0,_⟩ |⟨a2,ln2,c2,rfl,rfl,hc2⟩ |⟨id2,off2,ln2,cap2,L2,off2',c2,rfl,hL2,rfl,hoff2,hc2⟩
  ·exact absurd h0 hq
  ·simp only [lenV,zA] at hm
   subst hm
   exact run_firstCells_some (P:=P) w i.size (Nat.min ln2 ln) _ ln2 c2 xs (by rw [hxl,g4,his]) hc2
  simp only [lenV,zA] at hm
  subst hm
  have h20:ln2≠0:=fun e=>hq (by rw [e];exact Nat.zero_min _)
  rw [hoff2 h20]
  exact run_firstCells_some (P:=P) w i.size (Nat.min ln2 ln) _ ln2 c2 xs (by rw [hxl,g4,his]) hc2
 rw [hux,hoff hln]
 simp [Builtin.copy_,hat,zE hu,hlenof,run_sizeOf' hi,hfirst,goInt,p4]
theorem opM_ok {g:T O} {w:World} (hR:RoAt E.ro w) (hS:HSat Z g.get n w) {o:Oper} {ev:Operand->Option V} {Ze:Operand->Value} (hev:∀x∈o.op.operands,∀v,ev x=some v->Rv Z n v (Ze x))
  {k:V->T O->Nat->R} {r:Ex×St} (h:opM E bar ev g n o.op k=some r):∃v g' n',k v g' n'=some r/\MOk Z g.get n w bar ((execOp Ze o).run P w) v g'.get n':=by
 have val:∀{v:V} {g':T O} {n':Nat} {u:Value} {Z':Nm} {w':World},(execOp Ze o).run P w=.ok (.value u) w'->Rv Z' n' v u->HSat Z' g'.get n' w'->agree n Z Z'->n<=n'->Fr (Own Z g.get bar) w (Own Z' g'.get bar) w'->
   MOk Z g.get n w bar ((execOp Ze o).run P w) v g'.get n':=fun h1 h2 h3 h4 h5 h6=>⟨_,_,_,_,h1,.inl rfl,h2,h3,h4,h5,h6⟩
 cases ho:o.op with
 |alloc t=>
  rw [ho] at h
  simp only [opM] at h
  split at h
  next ty hty=>
   have hok:=hE.T _ _ hty
   obtain ⟨i,z,hi,his,_,hz,hzr,_⟩:=hok.info
   rw [CX.new,T.set_eq] at h
   have hzl:=(hzr Z n).length
   have hzc:z.cells.toList.length=ty.size:=by rw [hzl,hok.zlen]
   obtain ⟨h3,h4⟩:=HSat.new (g':=(g.up n (some (.cells ty.zt ty.size))).get) (bar:=bar) (bs:=ty.size) (w':=w.alloc (.cells z.cells t)) (o:=.cells ty.zt ty.size) hS rfl ⟨rfl,rfl,rfl,zB _⟩ (by
    simp only [ObjOk]
    refine ⟨_,z.cells,t,put_same _ _ _,alloc_get w _,by simpa using hzc,by simp,fun j hj=>?_⟩
    have hj':j < ty.zero.length:=by rw [hok.zlen];exact hj
    obtain ⟨u,hu,hr⟩:=(hzr Z n).get j ty.zero[j] (zJ hj')
    exact ⟨ty.zero[j],u,by rw [hok.zt j hj];exact zJ hj',hok.zone _ (kH hj'),by rw [zO,<-xE];exact hu,hr.ag (zQ _) (agree_put _ _ _)⟩) (fun id=>T.get_up _ _ _ _)
   refine ⟨_,_,_,h,val (u:=.pointer (some ⟨w.heap.size,0,none⟩)) ?_ ?_ h3 (agree_put _ _ _) (zQ _) h4⟩
   ·simp [execOp,ho,Instr.alloc,zeroValue,typeInfo,hi,hz,newVar,Go.newRow]
   simp only [Rv];exact ⟨zM _,_,put_same _ _ _,rfl⟩
  cases h
 |box t x=>
  rw [ho] at h hev
  simp only [opM] at h
  split at h
  next v hv=>
   have hr:=hev x (by simp [Op.operands]) _ hv
   have hone:∀x∈flat v,one1 x=true:=by
    unfold CX.newRow at h
    split at h
    next ho=>exact (oneAll_iff _).1 ho
    cases h
   have hfl:=flat_cells hr hone
   obtain ⟨g',h1,h2,h3⟩:=newRow_ok (bar:=bar) (ty:=t) (slack:=[]) hS hfl h (w':=w.alloc (.cells (Ze x).cells t)) (by show w.heap.push _=_;simp) ⟨rfl,rfl,rfl,zB _⟩
   refine ⟨_,_,_,h1,val (u:=.pointer (some ⟨w.heap.size,0,none⟩)) ?_ ?_ h2 (agree_put _ _ _) (zQ _) h3⟩
   ·simp [execOp,ho,Instr.box,newVar,Go.newRow]
   simp only [Rv];exact ⟨zM _,_,put_same _ _ _,rfl⟩
  cases h
 |buildSlice t m ps=>
  rw [ho] at h hev
  simp only [opM] at h
  split at h
  rotate_left
  ·cases h
  rename_i e hk
  obtain ⟨d,hd,hkd⟩:=und_of hE hk (by simp)
  simp only [KdOk] at hkd
  subst hkd
  split at h
  rotate_left
  ·cases h
  rename_i ety hety
  have hok:=hE.T _ _ hety
  obtain ⟨i,z,hi,his,_,hz,hzr,_⟩:=hok.info
  split at h
  rotate_left
  ·cases h
  rename_i hle h0
  have hle:m * ety.size<=4096:=by simpa using hle
  have hpos:0 < ety.size:=by
   rcases Nat.eq_zero_or_pos ety.size with h1 |h1
   ·rw [h1] at h0;simp at h0
   exact h1
  obtain ⟨l',x',g1,g2,g3,g4,g5⟩:=fillA_ok (Z:=Z) (n:=n) (Ze:=Ze) ps.toList (rep m ety.zero) (repV m z.cells.toList) (fun p hp v hv=>hev p.2 (by simp only [Op.operands,List.mem_toArray,qB];exact ⟨p,hp,rfl⟩) v hv) (rep_rel (hzr Z n) m) (rep_mem hok.zone m) h
  have hzl:=(hzr Z n).length
  have hzs:z.cells.size=ety.size:=by rw [<-kI,hzl,hok.zlen]
  obtain ⟨g',h1,h2,h3⟩:=newRow_ok (bar:=bar) (ty:=e) (slack:=[]) hS g2 g1 (w':=w.alloc (.cells x'.toArray e)) (by show w.heap.push _=_;simp) ⟨rfl,rfl,rfl,zB _⟩
  refine ⟨_,_,_,h1,val (u:=.slice (some ⟨w.heap.size,0,none⟩) m m) ?_ ?_ h2 (agree_put _ _ _) (zQ _) h3⟩
  ·have hzero:((Array.range (m * ety.size)).map (z.cells[· % z.cells.size]!))=(repV m z.cells.toList).toArray:=by
    apply kJ
    have:=zeroCells_eq z.cells (by omega) m
    simpa [Builtin.zeroCells,hzs] using this
   have n1:¬(16777216 < m * ety.size):=by omega
   have hfill:Instr.fill (fun i=>some (i * ety.size,ety.size)) ((Array.range (m * ety.size)).map (z.cells[· % z.cells.size]!)) (ps.toList.map fun p=>(p.1,Ze p.2))=some x'.toArray:=by
    rw [hzero];exact g5
   by_cases h0':m * ety.size=0
   ·have hm0:m=0:=by
     rcases Nat.mul_eq_zero.1 h0' with h |h
     ·exact h
     omega
    subst hm0
    simp only [Nat.zero_mul,Array.range_zero',Array.map_empty] at hfill
    simp [execOp,ho,Instr.buildSlice,zE hd,run_sizeOf' hi,his,Go.newRow,hfill,Array.range_zero']
   simp [execOp,ho,Instr.buildSlice,zE hd,run_sizeOf' hi,his,n1,h0',run_zeroValue' hi hz,Go.newRow,hfill]
  simp only [Rv];exact ⟨zM _,hpos,zB _,_,put_same _ _ _,rfl⟩
 |makeMap t re=>
  rw [ho] at h hev
  simp only [opM] at h
  have fin:∀{r'},CX.new g n (.map [] 0) (fun h nx'=>k (.map n) h nx')=some r'->(execOp Ze o).run P w=.ok (.value (.map (some w.heap.size))) (w.alloc (.map #[] 0))->∃v g' n',k v g' n'=some r'/\MOk Z g.get n w bar ((execOp Ze o).run P w) v g'.get n':=by
   intro r' h hrun
   rw [CX.new,T.set_eq] at h
   obtain ⟨h3,h4⟩:=HSat.new (g':=(g.up n (some (.map [] 0))).get) (bar:=bar) (bs:=0) (w':=w.alloc (.map #[] 0)) (o:=.map [] 0) hS rfl ⟨rfl,rfl,rfl,zB _⟩ (by
    simp only [ObjOk]
    exact ⟨_,#[],put_same _ _ _,alloc_get w _,by simp [RvM]⟩) (fun id=>T.get_up _ _ _ _)
   exact ⟨_,_,_,h,val hrun (by simp only [Rv];exact ⟨zM _,_,put_same _ _ _,rfl⟩) h3 (agree_put _ _ _) (zQ _) h4⟩
  split at h
  ·exact fin h (by simp [execOp,ho,Instr.makeMap])
  next kt et x hk=>
   obtain ⟨d,hd,hkd⟩:=und_of hE hk (by simp)
   simp only [KdOk] at hkd
   subst hkd
   split at h
   next kd m hx=>
    have hr:=hev x (by simp [Op.operands]) _ hx
    simp only [Rv] at hr
    exact fin h (by simp [execOp,ho,hr,Instr.makeMap,zE hd,asInt,asIntOf])
   cases h
  cases h
 |makeSlice t l c=>
  rw [ho] at h hev
  simp only [opM] at h
  split at h
  rotate_left
  ·cases h
  rename_i e a b hk ha hb
  obtain ⟨d,hd,hkd⟩:=und_of hE hk (by simp)
  simp only [KdOk] at hkd
  subst hkd
  have hra:=hev l (by simp [Op.operands]) _ ha
  have hrb:=hev c (by simp [Op.operands]) _ hb
  simp only [Rv] at hra hrb
  split at h
  rotate_left
  ·cases h
  rename_i ety hety
  have hok:=hE.T _ _ hety
  obtain ⟨i,z,hi,his,hib,hz,hzr,_⟩:=hok.info
  split at h
  rotate_left
  ·cases h
  rename_i hc h0
  simp only [zC,xV] at hc
  obtain ⟨⟨hab,hc1⟩,hc2⟩:=hc
  have hc1:b * ety.size<=4096:=hc1
  have hc2:b * ety.bytes<=140737488355328:=hc2
  have hpos:0 < ety.size:=by
   rcases Nat.eq_zero_or_pos ety.size with h1 |h1
   ·rw [h1] at h0;simp at h0
   exact h1
  have hb4:b<=4096:=zT (Nat.le_mul_of_pos_right b hpos) hc1
  rw [fL_eq] at h
  have hzl:=(hzr Z n).length
  have hzs:z.cells.size=ety.size:=by rw [<-kI,hzl,hok.zlen]
  obtain ⟨g',h1,h2,h3⟩:=newRow_ok (bar:=bar) (ty:=e) (slack:=[]) hS (rep_rel (hzr Z n) b) h (w':=w.alloc (.cells (repV b z.cells.toList).toArray e)) (by show w.heap.push _=_;simp) ⟨rfl,rfl,rfl,zB _⟩
  refine ⟨_,_,_,h1,val (u:=.slice (some ⟨w.heap.size,0,none⟩) a b) ?_ ?_ h2 (agree_put _ _ _) (zQ _) h3⟩
  ·have hrun:=run_make (P:=P) w t e i z hd hi hz .i64 .i64 (a:Int) (b:Int) (by omega) (by omega) (by rw [hib,<-Int.natCast_mul,Nat.mul_comm];omega) (by omega)
   have hzero:madeCells z.cells (b * ety.size)=(repV b z.cells.toList).toArray:=by
    apply kJ
    have:=zeroCells_eq z.cells (by omega) b
    simpa [Builtin.zeroCells,madeCells,hzs] using this
   rw [his] at hrun
   simp only [kY,hzero] at hrun
   simp only [execOp,ho,hra,hrb,Int.ofNat_eq_natCast,zN,hrun,zG,xD]
  simp only [Rv];exact ⟨zM _,hpos,hab,_,put_same _ _ _,rfl⟩
 |store t x y=>
  rw [ho] at h hev
  simp only [opM] at h
  split at h
  rotate_left
  ·cases h
  rename_i ty id off v hty hx hy
  obtain ⟨i,z,hi,his,_⟩:=(hE.T _ _ hty).info
  have hrx:=hev x (by simp [Op.operands]) _ hx
  have hry:=hev y (by simp [Op.operands]) _ hy
  simp only [Rv] at hrx
  obtain ⟨hid,L,hL,hu⟩:=hrx
  split at h
  next hlen=>
   rw [kG,len_eq] at hlen
   have hone:∀x∈flat v,one1 x=true:=by
    unfold CX.store at h
    split at h
    next ho=>exact (oneAll_iff _).1 ho
    cases h
   have hfl:=flat_cells hry hone
   obtain ⟨g',w',h1,h2,h3,h4,_⟩:=store_ok (P:=P) hS hfl hL h
   have hsz:=len_of_flat hfl
   refine ⟨_,_,_,h1,.skip,undef,Z,w',?_,.inr ⟨rfl,rfl⟩,by simp only [Rv];exact ⟨[],by simp [RvL],rfl⟩,h2,agree.refl _ _,zB _,h3⟩
   simp [execOp,ho,hu,Instr.storeAt,Instr.sureAddr,storeVar,run_sizeOf' hi,his,hsz,hlen,h4]
  cases h
 |mapUpdate t m key v=>
  rw [ho] at h hev
  simp only [opM] at h
  split at h
  rotate_left
  ·cases h
  rename_i kt et id kv vv hk hm hkey hv
  obtain ⟨d,hd,hkd⟩:=und_of hE hk (by simp)
  simp only [KdOk] at hkd
  subst hkd
  have hrm:=hev m (by simp [Op.operands]) _ hm
  have hrk:=hev key (by simp [Op.operands]) _ hkey
  have hrv:=hev v (by simp [Op.operands]) _ hv
  simp only [Rv] at hrm
  obtain ⟨hid,L,hL,hu⟩:=hrm
  split at h
  rotate_left
  ·cases h
  rename_i l c hg hb
  simp only [zC] at hb
  obtain ⟨hbar,hkv⟩:=hb
  have hbar:bar<=id:=by simpa [geB] using hbar
  obtain ⟨kind,hkind,hkdk⟩:∃kind,P.underlying kt=some kind/\KdOk P (kindOf E kt) kind:=by
   refine und_of hE rfl fun h0=>?_
   unfold keyV at hkv
   rw [h0] at hkv
   simp at hkv
  obtain ⟨_,hobj⟩:=hS.objs id _ hg
  simp only [ObjOk] at hobj
  obtain ⟨L',es,hL',hh,hmm⟩:=hobj
  rw [hL] at hL';cases hL'
  have hck:∀emp,(Instr.checkKey emp 10000 kt (Ze key)).run P w=.ok () w:=fun emp=>run_checkKey hE hkind hkdk hkv hrk emp 9997 w
  obtain ⟨j,l',f,h1,h2,h3,h4⟩:=setK_at c l h
  have hfind:=findM_ok hE hkind hkdk hkv hrk hmm h2.1 h2.2 w
  cases j with
  |none=>
   obtain ⟨rfl,rfl⟩:=h3 rfl
   have hf:(Instr.findKey kt (Ze key) es.toList).run P w=.ok none w:=hfind
   have hr':RvM Z n (l++[(kv,vv,c)]) (es.toList++[{ key:=Ze key,val:=Ze v,born:=c }]):=RvM.append (e:={ key:=Ze key,val:=Ze v,born:=c }) hrk hrv rfl hmm
   simp only at h1
   rw [T.set_eq] at h1
   obtain ⟨ob,hob⟩:∃ob:Obj,ob=.map (es.push { key:=Ze key,val:=Ze v,born:=c }) (c+1):=⟨_,rfl⟩
   have hset:=run_setMap (P:=P) hh ob
   obtain ⟨q1,q2⟩:=setObj_ok (bar:=bar) (o':=.map (l++[(kv,vv,c)]) (Nat.succ c)) hS hL hg hbar (ob:=ob) (w':={ w with heap:=w.heap.setIfInBounds L.b ob }) rfl ⟨rfl,rfl,rfl,zB _⟩ (by
    simp only [ObjOk]
    exact ⟨L,es.push { key:=Ze key,val:=Ze v,born:=c },hL,by rw [hob];exact set_get hh _,by simpa using hr'⟩)
   refine ⟨_,_,_,h1,.skip,undef,Z,_,?_,.inr ⟨rfl,rfl⟩,by simp only [Rv];exact ⟨[],by simp [RvL],rfl⟩,q1,agree.refl _ _,zB _,q2⟩
   simp [execOp,ho,hu,Instr.mapUpdate,zE hd,run_getMap hh,hck,hf,<-hob,hset]
  |some j=>
   obtain ⟨rfl,q0,v0,b0,g1,g2,rfl⟩:=h4 j rfl
   obtain ⟨e,he,he1,_,he3⟩:=RvM.at hmm j q0 v0 b0 g1
   have he':es[j]?=some e:=by simpa using he
   have hf:(Instr.findKey kt (Ze key) es.toList).run P w=.ok (some (j,e.val)) w:=by rw [hfind];simp [he']
   have hr':RvM Z n (l.set j (kv,vv,b0)) (es.toList.set j { e with key:=Ze key,val:=Ze v }):=RvM.set (e:={ e with key:=Ze key,val:=Ze v }) hrk hrv he3 j hmm
   simp only at h1
   rw [T.set_eq] at h1
   have hjlt:j < es.size:=(xW.1 he').1
   obtain ⟨ob,hob⟩:∃ob:Obj,ob=.map (es.modify j fun e=>{ e with key:=Ze key,val:=Ze v }) c:=⟨_,rfl⟩
   have hset:=run_setMap (P:=P) hh ob
   have hes:(es.modify j fun e=>{ e with key:=Ze key,val:=Ze v }).toList=es.toList.set j { e with key:=Ze key,val:=Ze v }:=by
    apply qC
    intro q
    rw [xE,Array.getElem?_modify,xY]
    by_cases hq:j=q
    ·subst hq
     rw [if_pos rfl,if_pos rfl,if_pos (by simpa using hjlt),he']
     rfl
    rw [if_neg hq,if_neg hq,xE]
   obtain ⟨q1,q2⟩:=setObj_ok (bar:=bar) (o':=.map (l.set j (kv,vv,b0)) c) hS hL hg hbar (ob:=ob) (w':={ w with heap:=w.heap.setIfInBounds L.b ob }) rfl ⟨rfl,rfl,rfl,zB _⟩ (by
    simp only [ObjOk]
    exact ⟨L,es.modify j fun e=>{ e with key:=Ze key,val:=Ze v },hL,by rw [hob];exact set_get hh _,by rw [hes];exact hr'⟩)
   have hbits:Instr.sameBits 10000 e.key (Ze key)=true:=key_bits g2 hrk he1
   refine ⟨_,_,_,h1,.skip,undef,Z,_,?_,.inr ⟨rfl,rfl⟩,by simp only [Rv];exact ⟨[],by simp [RvL],rfl⟩,q1,agree.refl _ _,zB _,q2⟩
   simp [execOp,ho,hu,Instr.mapUpdate,zE hd,run_getMap hh,hck,hf,he',Instr.keyThatStays,hbits,<-hob,hset]
 |mapEntry t m key=>
  rw [ho] at h hev
  simp only [opM] at h
  split at h
  rotate_left
  ·cases h
  rename_i kt et id kv hk hm hkey
  obtain ⟨d,hd,hkd⟩:=und_of hE hk (by simp)
  simp only [KdOk] at hkd
  subst hkd
  have hrm:=hev m (by simp [Op.operands]) _ hm
  have hrk:=hev key (by simp [Op.operands]) _ hkey
  simp only [Rv] at hrm
  obtain ⟨hid,L,hL,hu⟩:=hrm
  split at h
  rotate_left
  ·cases h
  rename_i l c ety hg hb hety
  simp only [zC] at hb
  obtain ⟨hbar,hkv⟩:=hb
  have hbar:bar<=id:=by simpa [geB] using hbar
  obtain ⟨kind,hkind,hkdk⟩:∃kind,P.underlying kt=some kind/\KdOk P (kindOf E kt) kind:=by
   refine und_of hE rfl fun h0=>?_
   unfold keyV at hkv
   rw [h0] at hkv
   simp at hkv
  obtain ⟨ji,z,hj,hjs,_,hz,hzr,hza,hzb⟩:=(hE.T _ _ hety).info
  obtain ⟨zv,zu,hp1,hp2,hp3,hp4⟩:=packR_ok (hzr Z n) h
  have hzv:z=zu:=by
   cases ha:ety.agg with
   |true=>rw [hp3 ha,hza ha];simp [Value.cells]
   |false=>
    have:=(hp4 ha).1
    rw [hzb ha] at this
    simpa using this
  have hzz:(zeroValue et).run P w=.ok zu w:=by rw [<-hzv];exact run_zeroValue' hj hz w
  obtain ⟨_,hobj⟩:=hS.objs id _ hg
  simp only [ObjOk] at hobj
  obtain ⟨L',es,hL',hh,hmm⟩:=hobj
  rw [hL] at hL';cases hL'
  have hck:∀emp,(Instr.checkKey emp 10000 kt (Ze key)).run P w=.ok () w:=fun emp=>run_checkKey hE hkind hkdk hkv hrk emp 9997 w
  obtain ⟨j,l',v0,b0,f,h1,h2,h3,h4⟩:=entK_at c l hp1
  have hfind:=findM_ok hE hkind hkdk hkv hrk hmm h2.1 h2.2 w
  cases j with
  |none=>
   obtain ⟨rfl,rfl,rfl,rfl⟩:=h3 rfl
   have hf:(Instr.findKey kt (Ze key) es.toList).run P w=.ok none w:=hfind
   have hr':RvM Z n (l++[(kv,v0,b0)]) (es.toList++[{ key:=Ze key,val:=zu,born:=b0 }]):=RvM.append (e:={ key:=Ze key,val:=zu,born:=b0 }) hrk hp2 rfl hmm
   simp only at h1
   rw [T.set_eq] at h1
   obtain ⟨ob,hob⟩:∃ob:Obj,ob=.map (es.push { key:=Ze key,val:=zu,born:=b0 }) (b0+1):=⟨_,rfl⟩
   have hset:=run_setMap (P:=P) hh ob
   obtain ⟨q1,q2⟩:=setObj_ok (bar:=bar) (o':=.map (l++[(kv,v0,b0)]) (Nat.succ b0)) hS hL hg hbar (ob:=ob) (w':={ w with heap:=w.heap.setIfInBounds L.b ob }) rfl ⟨rfl,rfl,rfl,zB _⟩ (by
    simp only [ObjOk]
    exact ⟨L,es.push { key:=Ze key,val:=zu,born:=b0 },hL,by rw [hob];exact set_get hh _,by simpa using hr'⟩)
   refine ⟨_,_,_,h1,val (u:=.tuple #[zu,goInt (Int.ofNat b0)]) ?_ (by simp only [Rv];exact ⟨[zu,goInt (Int.ofNat b0)],by simp only [RvL,Rv];exact ⟨hp2,rfl,trivial⟩,rfl⟩) q1 (agree.refl _ _) (zB _) q2⟩
   simp [execOp,ho,hu,Instr.mapEntry,zE hd,run_getMap hh,hck,hf,hzz,<-hob,hset]
  |some j=>
   obtain ⟨rfl,q0,g1,g2,rfl⟩:=h4 j rfl
   obtain ⟨e,he,he1,he2,he3⟩:=RvM.at hmm j q0 v0 b0 g1
   have he':es[j]?=some e:=by simpa using he
   have hf:(Instr.findKey kt (Ze key) es.toList).run P w=.ok (some (j,e.val)) w:=by rw [hfind];simp [he']
   have hr':RvM Z n (l.set j (kv,v0,b0)) (es.toList.set j { e with key:=Ze key }):=RvM.set (e:={ e with key:=Ze key }) hrk he2 he3 j hmm
   simp only at h1
   rw [T.set_eq] at h1
   have hjlt:j < es.size:=(xW.1 he').1
   obtain ⟨ob,hob⟩:∃ob:Obj,ob=.map (es.modify j fun e=>{ e with key:=Ze key }) c:=⟨_,rfl⟩
   have hset:=run_setMap (P:=P) hh ob
   have hes:(es.modify j fun e=>{ e with key:=Ze key }).toList=es.toList.set j { e with key:=Ze key }:=by
    apply qC
    intro q
    rw [xE,Array.getElem?_modify,xY]
    by_cases hq:j=q
    ·subst hq
     rw [if_pos rfl,if_pos rfl,if_pos (by simpa using hjlt),he']
     rfl
    rw [if_neg hq,if_neg hq,xE]
   obtain ⟨q1,q2⟩:=setObj_ok (bar:=bar) (o':=.map (l.set j (kv,v0,b0)) c) hS hL hg hbar (ob:=ob) (w':={ w with heap:=w.heap.setIfInBounds L.b ob }) rfl ⟨rfl,rfl,rfl,zB _⟩ (by
    simp only [ObjOk]
    exact ⟨L,es.modify j fun e=>{ e with key:=Ze key },hL,by rw [hob];exact set_get hh _,by rw [hes];exact hr'⟩)
   have hbits:Instr.sameBits 10000 e.key (Ze key)=true:=key_bits g2 hrk he1
   refine ⟨_,_,_,h1,val (u:=.tuple #[e.val,goInt (Int.ofNat b0)]) ?_ (by simp only [Rv];exact ⟨[e.val,goInt (Int.ofNat b0)],by simp only [RvL,Rv];exact ⟨he2,rfl,trivial⟩,rfl⟩) q1 (agree.refl _ _) (zB _) q2⟩
   simp [execOp,ho,hu,Instr.mapEntry,zE hd,run_getMap hh,hck,hf,he',he3,Instr.keyThatStays,hbits,<-hob,hset]
 |entryStore t m stamp x=>
  rw [ho] at h hev
  simp only [opM] at h
  split at h
  rotate_left
  ·cases h
  rename_i id nn vv hm hst hx
  have hrm:=hev m (by simp [Op.operands]) _ hm
  have hrs:=hev stamp (by simp [Op.operands]) _ hst
  have hrx:=hev x (by simp [Op.operands]) _ hx
  simp only [Rv] at hrm hrs
  obtain ⟨hid,L,hL,hu⟩:=hrm
  split at h
  rotate_left
  ·cases h
  rename_i l c hg hbar
  have hbar:bar<=id:=by simpa [geB] using hbar
  obtain ⟨_,hobj⟩:=hS.objs id _ hg
  simp only [ObjOk] at hobj
  obtain ⟨L',es,hL',hh,hmm⟩:=hobj
  rw [hL] at hL';cases hL'
  obtain ⟨j,q0,v0,h1,g1,g2⟩:=stoK_at l h
  obtain ⟨e,he,he1,he2,he3⟩:=RvM.at hmm j q0 v0 nn g1
  have he':es[j]?=some e:=by simpa using he
  have hjlt:j < es.size:=(xW.1 he').1
  have hfi:es.findIdx? (fun e=>(e.born:Int) == (nn:Int))=some j:=by
   rw [Array.findIdx?_eq_some_iff_getElem]
   have hge:es[j]=e:=(xW.1 he').2
   refine ⟨hjlt,by rw [hge,he3];simp,fun i hi=>?_⟩
   have hil:i < l.length:=by have:=RvM.length hmm;simp at this;omega
   obtain ⟨⟨q',v',b'⟩,hq⟩:∃y,l[i]?=some y:=⟨_,zJ hil⟩
   obtain ⟨e',hx1,_,_,hx3⟩:=RvM.at hmm i q' v' b' hq
   have hx1':es[i]?=some e':=by simpa using hx1
   have hge':es[i]=e':=(xW.1 hx1').2
   rw [hge',hx3]
   have:=g2 i q' v' b' hi hq
   simp only [Bool.not_eq_true,beq_eq_false_iff_ne]
   omega
  have hr':RvM Z n (l.set j (q0,vv,nn)) (es.toList.set j { e with val:=Ze x }):=RvM.set (e:={ e with val:=Ze x }) he1 hrx he3 j hmm
  rw [T.set_eq] at h1
  obtain ⟨ob,hob⟩:∃ob:Obj,ob=.map (es.modify j fun e=>{ e with val:=Ze x }) c:=⟨_,rfl⟩
  have hset:=run_setMap (P:=P) hh ob
  have hes:(es.modify j fun e=>{ e with val:=Ze x }).toList=es.toList.set j { e with val:=Ze x }:=by
   apply qC
   intro q
   rw [xE,Array.getElem?_modify,xY]
   by_cases hq:j=q
   ·subst hq
    rw [if_pos rfl,if_pos rfl,if_pos (by simpa using hjlt),he']
    rfl
   rw [if_neg hq,if_neg hq,xE]
  obtain ⟨q1,q2⟩:=setObj_ok (bar:=bar) (o':=.map (l.set j (q0,vv,nn)) c) hS hL hg hbar (ob:=ob) (w':={ w with heap:=w.heap.setIfInBounds L.b ob }) rfl ⟨rfl,rfl,rfl,zB _⟩ (by
   simp only [ObjOk]
   exact ⟨L,es.modify j fun e=>{ e with val:=Ze x },hL,by rw [hob];exact set_get hh _,by rw [hes];exact hr'⟩)
  refine ⟨_,_,_,h1,.skip,undef,Z,_,?_,.inr ⟨rfl,rfl⟩,by simp only [Rv];exact ⟨[],by simp [RvL],rfl⟩,q1,agree.refl _ _,zB _,q2⟩
  have has:(asInt (Ze stamp)).run P w=.ok (nn:Int) w:=by rw [hrs];simp [asInt,asIntOf]
  simp only [Int.ofNat_eq_natCast] at hrs
  simp [execOp,ho,hu,Instr.entryStore,run_getMap hh,has,hfi,<-hob,hset]
 |call c=>
  rw [ho] at h hev
  simp only [opM] at h
  split at h
  rotate_left
  ·cases h
  rename_i b hc
  obtain ⟨cs,hrun⟩:=run_builtin (P:=P) ho hc Ze
  obtain ⟨vs,h1,h2⟩:=evL_ok' (Z:=Z) (n:=n) (Ze:=Ze) c.args.toList (fun x hx=>hev x (by simp only [Op.operands,Call.operands,hc,Array.mem_append];exact .inr (by simpa using hx))) h
  have hargs:c.args.map Ze=(c.args.toList.map Ze).toArray:=by apply kJ;simp
  generalize c.args.toList.map Ze=us at h2 hargs
  rw [hargs] at hrun
  cases b<;>simp only [biX] at h1<;>try cases h1
  ·-- append
   split at h1
   rotate_left
   ·cases h1
   rename_i x y t t' hts
   have hat:c.argTypes=#[t,t']:=by apply kJ;simpa using hts
   match us,h2 with
   |[ux,uy],h2=>
    simp only [RvL] at h2
    obtain ⟨hx,hy,_⟩:=h2
    split at h1
    rotate_left
    ·cases h1
    rename_i es e hes hk
    split at h1
    rotate_left
    ·cases h1
    rename_i ety hety
    split at h1
    next htt=>
     have htt:=zF htt
     subst htt
     split at h1
     next m hm=>
      rw [fN_eq] at h1
      obtain ⟨l,xs,g1,g2,g3,g4,g5⟩:=cellsOf_ok hR hS hy h1
      obtain ⟨v,g',n',q1,u,Z',w',q2,q3,q4,q5,q6,q7⟩:=appendX_ok (bar:=bar) hE hes hk hety o.type hS hx hy hm g2 g4 g3 g5 g1
      exact ⟨v,g',n',q1,val (by rw [hrun w];simp [Go.builtin,hat,q2]) q3 q4 q5 q6 q7⟩
     cases h1
    split at h1
    rotate_left
    ·cases h1
    rename_i ik kk m hk'
    obtain ⟨d,hd,hkd⟩:=und_of hE hk' (by simp)
    simp only [KdOk] at hkd
    subst hkd
    simp only [Rv] at hx hy
    subst hx hy
    obtain ⟨e',ety',i,z,hu,hety',hk2,hsz,hpos,hi,his,hib,hz,hzr⟩:=elem_ok hE hes
    rw [hk] at hk2;cases hk2
    rw [hety] at hety';cases hety'
    split at h1
    ·refine ⟨_,_,_,h1,val (u:=.slice none 0 0) ?_ (by simp only [Rv]) hS (agree.refl _ _) (zB _) (Fr.refl _ _)⟩
     rw [hrun w]
     have hw0:IntKind.i64.wrap 0=0:=by rw [IntKind.wrap_i64];omega
     simp [Go.builtin,hat,Builtin.append_,zE hu,zE hd,run_sizeOf' hi,asInt,asIntOf,typeInfo,hi,hw0]
    rename_i hm0
    have hm0:m≠0:=fun e=>hm0 e
    split at h1
    rotate_left
    ·cases h1
    rename_i hc2
    simp only [zC,xV,roomOk] at hc2
    obtain ⟨hc3,hb1,hb2⟩:=hc2
    have hb1:m * ety.bytes<=4294967296:=hb1
    rw [fL_eq] at h1
    unfold grown at h1
    have hzs:z.cells.size=es:=by have:=(hzr Z n).length;rw [<-kI,this,(hE.T _ _ hety).zlen,hsz]
    have hge:m<=grownCap w m 0 e:=grownCap_ge w m 0 e
    have hrun2:=Lib.run_append_nil_zeros (P:=P) w t t' o.type e i z kk ik hu hd hi hz m (Nat.pos_of_ne_zero hm0) (by omega) (by omega) (by rw [hib];omega)
    obtain ⟨g',p1,p2,p3⟩:=newRow_ok (bar:=bar) (ty:=e) (slack:=(Builtin.zeroCells z.cells (grownCap w m 0 e - m)).toList) hS (rep_rel (hzr Z n) m) h1
     (w':=w.drew.alloc (.cells (Builtin.zeroCells z.cells m++Builtin.zeroCells z.cells (grownCap w m 0 e - m)) e)) (by
      show w.heap.push _=_
      congr 2
      apply kJ
      simp [zeroCells_eq z.cells (by omega) m]) ⟨rfl,rfl,rfl,zQ _⟩
    refine ⟨_,_,_,p1,val (by rw [hrun w];simp [Go.builtin,hat,hrun2];rfl) ?_ p2 (agree_put _ _ _) (zQ _) p3⟩
    simp only [Rv]
    refine ⟨zM _,hpos,_,_,0,put_same _ _ _,rfl,hge,?_,.inl rfl⟩
    have hzc:(Builtin.zeroCells z.cells (grownCap w m 0 e - m)).toList.length=(grownCap w m 0 e - m) * es:=by simp [Builtin.zeroCells,hzs]
    have hzl:z.cells.toList.length=es:=by simpa using hzs
    simp only [xK,repV_len,hzl,hzc,zO,<-zR]
    congr 1;omega
   |[],h2=>simp [RvL] at h2
   |[_],h2=>simp [RvL] at h2
   |_ :: _ :: _ :: _,h2=>simp [RvL] at h2
  ·-- clear
   split at h1
   rotate_left
   ·cases h1
   rename_i x t hts
   have hat:c.argTypes=#[t]:=by apply kJ;simpa using hts
   match us,h2 with
   |[ux],h2=>
    simp only [RvL] at h2
    obtain ⟨hx,_⟩:=h2
    have fin0:∀{r'},k (.tup []) g n=some r'->(Builtin.clear_ c.argTypes o.type #[ux]).run P w=.ok (.tuple #[]) w->∃v g' n',k v g' n'=some r'/\MOk Z g.get n w bar ((execOp Ze o).run P w) v g'.get n':=by
     intro r' h hr
     exact ⟨_,_,_,h,val (u:=.tuple #[]) (by rw [hrun w];simp [Go.builtin,hr]) (by simp only [Rv];exact ⟨[],by simp [RvL],rfl⟩) hS (agree.refl _ _) (zB _) (Fr.refl _ _)⟩
    split at h1
    next e hk=>
     obtain ⟨d,hd,hkd⟩:=und_of hE hk (by simp)
     simp only [KdOk] at hkd
     subst hkd
     simp only [Rv] at hx
     subst hx
     exact fin0 h1 (by simp [Builtin.clear_,hat,zE hd])
    rotate_left
    ·cases h1
    rename_i e id es off m cap hk
    obtain ⟨d,hd,hkd⟩:=und_of hE hk (by simp)
    simp only [KdOk] at hkd
    subst hkd
    split at h1
    ·have:∃a c',ux=.slice (some a) 0 c':=by
      cases cap with
      |none=>simp only [Rv] at hx;obtain ⟨_,_,L,c,o,_,hu,_⟩:=hx;exact ⟨_,_,hu⟩
      |some c=>simp only [Rv] at hx;obtain ⟨_,_,_,L,_,hu⟩:=hx;exact ⟨_,_,hu⟩
     obtain ⟨a,c',rfl⟩:=this
     exact fin0 h1 (by simp [Builtin.clear_,hat,zE hd])
    rename_i hm0
    have hm0:m≠0:=fun e=>hm0 e
    split at h1
    rotate_left
    ·cases h1
    rename_i ety hety
    have hok:=hE.T _ _ hety
    obtain ⟨i,z,hi,his,_,hz,hzr,_⟩:=hok.info
    split at h1
    rotate_left
    ·cases h1
    rename_i hes
    have hes:=zF hes
    rw [fL_eq] at h1
    have:∃L c',Z id=some L/\ux=.slice (some ⟨L.b,L.base+off,none⟩) m c'/\0 < es:=by
     cases cap with
     |none=>
      simp only [Rv] at hx
      obtain ⟨_,h0,L,c,o',hL,hu,hle,_,ho'⟩:=hx
      have:o'=L.base+off:=by
       rcases ho' with h |h
       ·exact h
       omega
      exact ⟨L,c,hL,by rw [hu,this],h0⟩
     |some c=>simp only [Rv] at hx;obtain ⟨_,h0,_,L,hL,hu⟩:=hx;exact ⟨L,c,hL,hu,h0⟩
    obtain ⟨L,c',hL,rfl,hpos⟩:=this
    obtain ⟨g',w',p1,p2,p3,p4,_⟩:=store_ok (P:=P) hS (rep_rel (hzr Z n) m) hL h1
    have hzs:z.cells.size=es:=by have:=(hzr Z n).length;rw [<-kI,this,hok.zlen,hes]
    have hzc:(Builtin.zeroCells z.cells m).toList=repV m z.cells.toList:=zeroCells_eq z.cells (by omega) m
    refine ⟨_,_,_,p1,val (u:=.tuple #[]) ?_ (by simp only [Rv];exact ⟨[],by simp [RvL],rfl⟩) p2 (agree.refl _ _) (zB _) p3⟩
    rw [hrun w]
    have hcl:(Builtin.clear_ c.argTypes o.type #[.slice (some ⟨L.b,L.base+off,none⟩) m c']).run P w=.ok (.tuple #[]) w':=by
     obtain ⟨m',rfl⟩:∃m',m=m'+1:=⟨m - 1,by omega⟩
     simp [Builtin.clear_,hat,zE hd,run_zeroValue' hi hz,hzc,p4]
    simp [Go.builtin,hcl]
   |[],h2=>simp [RvL] at h2
   |_ :: _ :: _,h2=>simp [RvL] at h2
  ·-- copy
   split at h1
   next x y t ts' hts=>
    have hat:c.argTypes[0]?=some t:=by rw [<-xE,hts];rfl
    match us,h2 with
    |[ux,uy],h2=>
     simp only [RvL] at h2
     obtain ⟨hx,hy,_⟩:=h2
     split at h1
     next es hes=>
      obtain ⟨v,g',w',u,q1,q2,q3,q4,q5⟩:=copyX_ok (bar:=bar) hE hes hat o.type hR hS hx hy h1
      exact ⟨v,g',n,q1,val (by rw [hrun w];simp [Go.builtin,q2]) q3 q4 (agree.refl _ _) (zB _) q5⟩
     cases h1
    |[],h2=>simp [RvL] at h2
    |[_],h2=>simp [RvL] at h2
    |_ :: _ :: _ :: _,h2=>simp [RvL] at h2
   cases h1
  -- delete
  split at h1
  rotate_left
  ·cases h1
  rename_i x y t ts' hts
  have hat:c.argTypes[0]?=some t:=by rw [<-xE,hts];rfl
  match us,h2 with
  |[ux,uy],h2=>
   simp only [RvL] at h2
   obtain ⟨hx,hy,_⟩:=h2
   split at h1
   rotate_left
   ·cases h1
   rename_i kt et hk
   obtain ⟨d,hd,hkd⟩:=und_of hE hk (by simp)
   simp only [KdOk] at hkd
   subst hkd
   have kind_of:keyV E kt y=true->∃kind,P.underlying kt=some kind/\KdOk P (kindOf E kt) kind:=fun hkv=>by
    refine und_of hE rfl fun h0=>?_
    unfold keyV at hkv
    rw [h0] at hkv
    simp at hkv
   split at h1
   next id=>
    simp only [Rv] at hx
    obtain ⟨hid,L,hL,rfl⟩:=hx
    split at h1
    rotate_left
    ·cases h1
    rename_i l cl hg hb
    simp only [zC] at hb
    obtain ⟨hbar,hkv⟩:=hb
    have hbar:bar<=id:=by simpa [geB] using hbar
    obtain ⟨kind,hkind,hkdk⟩:=kind_of hkv
    obtain ⟨_,hobj⟩:=hS.objs id _ hg
    simp only [ObjOk] at hobj
    obtain ⟨L',es,hL',hh,hmm⟩:=hobj
    rw [hL] at hL';cases hL'
    have hck:∀emp,(Instr.checkKey emp 10000 kt uy).run P w=.ok () w:=fun emp=>run_checkKey hE hkind hkdk hkv hy emp 9997 w
    obtain ⟨j,l',h3,h4,h5,h6⟩:=delK_at l h1
    have hfind:=findM_ok hE hkind hkdk hkv hy hmm h4.1 h4.2 w
    rw [T.set_eq] at h3
    have fin:∀(es':Array MapEntry),RvM Z n l' es'.toList->(Builtin.delete_ c.argTypes o.type #[.map (some L.b),uy]).run P w=((setObj L.b (.map es' cl)).run P w).andThen (fun _ w=>.ok (.tuple #[]) w)->∃v g' n',k v g' n'=some r/\MOk Z g.get n w bar ((execOp Ze o).run P w) v g'.get n':=fun es' hr' hrun'=>by
     have hset:=run_setMap (P:=P) hh (.map es' cl)
     obtain ⟨q1,q2⟩:=setObj_ok (bar:=bar) (o':=.map l' cl) hS hL hg hbar (ob:=.map es' cl) (w':={ w with heap:=w.heap.setIfInBounds L.b (.map es' cl) }) rfl ⟨rfl,rfl,rfl,zB _⟩ (by
      simp only [ObjOk]
      exact ⟨L,es',hL,set_get hh _,hr'⟩)
     refine ⟨_,_,_,h3,val (u:=.tuple #[]) ?_ (by simp only [Rv];exact ⟨[],by simp [RvL],rfl⟩) q1 (agree.refl _ _) (zB _) q2⟩
     rw [hrun w]
     simp [Go.builtin,hrun',hset]
    cases j with
    |none=>
     refine fin es (by rw [h5 rfl];exact hmm) ?_
     have hf:(Instr.findKey kt uy es.toList).run P w=.ok none w:=hfind
     simp [Builtin.delete_,hat,zE hd,run_getMap hh,hck,hf]
    |some j=>
     have hjl:=h4.2 j rfl
     have hlen:l.length=es.toList.length:=RvM.length hmm
     have hjs:j < es.size:=by rw [hlen] at hjl;simpa using hjl
     have hf:(Instr.findKey kt uy es.toList).run P w=.ok (some (j,es[j].val)) w:=by rw [hfind];simp [hjs]
     refine fin (es.eraseIdxIfInBounds j) ?_ ?_
     ·rw [h6 j rfl]
      have:(es.eraseIdxIfInBounds j).toList=es.toList.eraseIdx j:=by simp [Array.eraseIdxIfInBounds,hjs]
      rw [this]
      exact hmm.erase j
     simp [Builtin.delete_,hat,zE hd,run_getMap hh,hck,hf]
   ·simp only [Rv] at hx
    subst hx
    split at h1
    next hkv=>
     obtain ⟨kind,hkind,hkdk⟩:=kind_of hkv
     have hck:∀emp,(Instr.checkKey emp 10000 kt uy).run P w=.ok () w:=fun emp=>run_checkKey hE hkind hkdk hkv hy emp 9997 w
     refine ⟨_,_,_,h1,val (u:=.tuple #[]) ?_ (by simp only [Rv];exact ⟨[],by simp [RvL],rfl⟩) hS (agree.refl _ _) (zB _) (Fr.refl _ _)⟩
     rw [hrun w]
     simp [Go.builtin,Builtin.delete_,hat,zE hd,hck]
    cases h1
   cases h1
  |[],h2=>simp [RvL] at h2
  |[_],h2=>simp [RvL] at h2
  |_ :: _ :: _ :: _,h2=>simp [RvL] at h2
 |_=>rw [ho] at h;simp [opM] at h
end
end
end CX

namespace CX
open Go
theorem all2_ok {f:V->V->Bool} (hf:∀a b,f a b=true->a=b):∀(l l':List V),all2 f l l'=true->l=l'
 |[],[],_=>rfl
 |[],_ :: _,h=>by simp [all2] at h
 |_ :: _,[],h=>by simp [all2] at h
 |a :: l,b :: l',h=>by
  simp only [all2] at h
  split at h
  next h1=>rw [hf _ _ h1,all2_ok hf l l' h]
  cases h
theorem optEq_ok {a b:Option Nat} (h:optEq a b=true):a=b:=by
 cases a<;>cases b<;>simp_all [optEq]
theorem ieq_ok {a b:Int} (h:ieq a b=true):a=b:=by
 rw [ieq_eq,qE] at h;exact h
theorem vSame1_ok {f:V->V->Bool} (hf:∀a b,f a b=true->a=b) (x y:V) (h:vSame1 f x y=true):x=y:=by
 cases x with
 |int k a=>cases y with
  |int k' b=>simp only [vSame1,zC] at h;rw [kindEq_ok h.1,ieq_ok h.2]
  |_=>simp [vSame1] at h
 |bool a=>cases y with
  |bool b=>cases a<;>cases b<;>simp_all [vSame1]
  |_=>simp [vSame1] at h
 |str a=>cases y with
  |str b=>simp only [vSame1] at h;rw [(lEq_iff _ _).1 h]
  |_=>simp [vSame1] at h
 |ptr i o=>cases y with
  |ptr i' o'=>simp only [vSame1,zC] at h;rw [zF h.1,zF h.2]
  |_=>simp [vSame1] at h
 |nilp=>cases y<;>simp_all [vSame1]
 |slc i e o l c=>cases y with
  |slc i' e' o' l' c'=>
   simp only [vSame1,zC] at h
   obtain ⟨⟨⟨⟨h1,h2⟩,h3⟩,h4⟩,h5⟩:=h
   rw [zF h1,zF h2,zF h3,zF h4,optEq_ok h5]
  |_=>simp [vSame1] at h
 |nils=>cases y<;>simp_all [vSame1]
 |map i=>cases y with
  |map i'=>simp only [vSame1] at h;rw [zF h]
  |_=>simp [vSame1] at h
 |nilm=>cases y<;>simp_all [vSame1]
 |fn g a b=>cases y with
  |fn g' a' b'=>
   cases g<;>cases g'<;>simp only [vSame1,zC] at h
   ·obtain ⟨⟨h1,h2⟩,h3⟩:=h
    rw [zF h1,all2_ok hf _ _ h2,all2_ok hf _ _ h3]
   ·cases h
   ·cases h
   obtain ⟨⟨h1,h2⟩,h3⟩:=h
   rw [zF h1,all2_ok hf _ _ h2,all2_ok hf _ _ h3]
  |_=>simp [vSame1] at h
 |nilf=>cases y<;>simp_all [vSame1]
 |iface t v=>cases y with
  |iface t' v'=>simp only [vSame1,zC] at h;rw [zF h.1,hf _ _ h.2]
  |_=>simp [vSame1] at h
 |nili=>cases y<;>simp_all [vSame1]
 |agg l=>cases y with
  |agg l'=>simp only [vSame1] at h;rw [all2_ok hf _ _ h]
  |_=>simp [vSame1] at h
 |tup l=>cases y with
  |tup l'=>simp only [vSame1] at h;rw [all2_ok hf _ _ h]
  |_=>simp [vSame1] at h
 |raw u=>simp [vSame1] at h
 |rptr a=>simp [vSame1] at h
 |rslc a l c=>simp [vSame1] at h
theorem vSame_ok:∀(x y:V),vSame x y=true->x=y:=by
 have key:∀(n:Nat) (x y:V),(Nat.rec (motive:=fun _=>V->V->Bool) (fun _ _=>false) (fun _ ih=>vSame1 ih) n:V->V->Bool) x y=true->x=y:=by
  intro n
  induction n with
  |zero=>intro x y h;cases h
  |succ n ih=>intro x y h;exact vSame1_ok ih x y h
 exact key 6
theorem oSame_ok {a b:Option V} (h:oSame vSame a b=true):a=b:=by
 cases a with
 |none=>cases b with
  |none=>rfl
  |some b=>simp [oSame] at h
 |some a=>cases b with
  |none=>simp [oSame] at h
  |some b=>simp only [oSame] at h;rw [vSame_ok _ _ h]
theorem tSame_ok:∀(t u:T V),tSame t u=true->t=u
 |.e,.e,_=>rfl
 |.e,.n ..,h=>by simp [tSame] at h
 |.n ..,.e,h=>by simp [tSame] at h
 |.n l v r,.n l' v' r',h=>by
  have h:(match oSame vSame v v' with |true=>(match tSame l l' with |true=>tSame r r' |false=>false) |false=>false)=true:=h
  split at h
  next h1=>
   split at h
   next h2=>
    rw [oSame_ok h1,tSame_ok l l' h2,tSame_ok r r' h]
   cases h
  cases h
theorem mSame_ok:∀(l l':List (V×V×Nat)),mSame l l'=true->l=l'
 |[],[],_=>rfl
 |[],_ :: _,h=>by simp [mSame] at h
 |_ :: _,[],h=>by simp [mSame] at h
 |(k,v,b) :: l,(k',v',b') :: l',h=>by
  simp only [mSame] at h
  split at h
  next h1=>
   simp only [zC] at h1
   rw [vSame_ok _ _ h1.1.1,vSame_ok _ _ h1.1.2,zF h1.2,mSame_ok l l' h]
  cases h
theorem obSame_ok {a b:Option O} {o:O} (h:obSame a b=some (some o)):a=some o/\b=some o:=by
 unfold obSame at h
 split at h
 ·split at h
  next h1=>
   simp only [zC] at h1
   simp only [zA] at h
   subst h
   exact ⟨rfl,by rw [zF h1.1,tSame_ok _ _ h1.2]⟩
  cases h
 ·split at h
  next h1=>
   simp only [zC] at h1
   simp only [zA] at h
   subst h
   exact ⟨rfl,by rw [zF h1.1,mSame_ok _ _ h1.2]⟩
  cases h
 ·split at h
  ·simp only [zA] at h;subst h;exact ⟨rfl,rfl⟩
  ·simp only [zA] at h;subst h;exact ⟨rfl,rfl⟩
  simp at h
 simp at h
theorem leO_ok {a b:Option O} (h:leO a b=true) {o:O} (ha:a=some o):b=some o:=by
 subst ha
 simp only [leO] at h
 split at h
 next o' h1=>
  obtain ⟨h2,h3⟩:=obSame_ok h1
  rw [h3,<-h2]
 cases h
theorem leH_ok:∀(t u:T O),leH t u=true->∀id v,t.get id=some v->u.get id=some v
 |.e,_,_,id,v,h=>by simp [T.get_e] at h
 |.n l x r,.e,h,id,v,hv=>by
  have h:(match (generalizing:=false) x with |none=>(match leH l .e with |true=>leH r .e |false=>false) |some _=>false)=true:=h
  split at h
  ·split at h
   next h1=>
    cases id with
    |zero=>rw [T.get_zero] at hv;cases hv
    |succ j=>
     rw [T.get_succ] at hv
     split at hv
     ·exact absurd (leH_ok l .e h1 _ _ hv) (by simp [T.get_e])
     exact absurd (leH_ok r .e h _ _ hv) (by simp [T.get_e])
   cases h
  cases h
 |.n l x r,.n l' x' r',h,id,v,hv=>by
  have h:(match leO x x' with |true=>(match leH l l' with |true=>leH r r' |false=>false) |false=>false)=true:=h
  split at h
  next h0=>
   split at h
   next h1=>
    cases id with
    |zero=>
     rw [T.get_zero] at hv ⊢
     exact leO_ok h0 hv
    |succ j=>
     rw [T.get_succ] at hv ⊢
     split at hv
     next hj=>rw [if_pos hj];exact leH_ok l l' h1 _ _ hv
     rename_i hj;rw [if_neg hj];exact leH_ok r r' h _ _ hv
   cases h
  cases h
end CX

namespace CX
open Go
def Fw (r:Option Nat):Fence:={ Fence.wide with round:=r }
def rdB (Z:Nm) (rd:Option Nat):Option Nat:=rd.bind fun id=>(Z id).map Loc.b
def exO:Ex->Exit
 |.normal=>.normal
 |.ret=>.ret
 |.exit id=>.exit id
structure Lands (E:Env) (Z:Nm) (S:St) (w:World) (S':St) (a':Act) (w':World) (Z':Nm):Prop where
 sat:Sat E Z' S' a' w'
 ag:agree S.nx Z Z'
 le:S.nx<=S'.nx
 nt:S'.nt=S.nt
 bar:S'.bar=S.bar
 fr:Fr (Own Z S.h.get S.bar) w (Own Z' S'.h.get S'.bar) w'
def CPost (E:Env) (Z:Nm) (S:St) (w:World) (e:Ex) (S':St):Exit->Act->World->Prop:=fun x a' w'=>x=exO e/\∃Z',Lands E Z S w S' a' w' Z'
def RdOk (Z:Nm) (n:Nat) (rd:Option Nat):Prop:=∀id,rd=some id->id < n/\∃L,Z id=some L
def IhOk (E:Env) (P:Program) (ih:IH):Prop:=∀rd c S e S',ih rd c S=some (e,S')->∀Z a w,Sat E Z S a w->RdOk Z S.nx rd->c.wpIn (Fw (rdB Z rd)) 0 P (CPost E Z S w e S') a w
theorem Lands.trans {E:Env} {Z Z1 Z2:Nm} {S S1 S2:St} {a1 a2:Act} {w w1 w2:World} (h:Lands E Z S w S1 a1 w1 Z1) (k:Lands E Z1 S1 w1 S2 a2 w2 Z2):Lands E Z S w S2 a2 w2 Z2:=
 ⟨k.sat,h.ag.trans (k.ag.mono h.le),zT h.le k.le,k.nt.trans h.nt,k.bar.trans h.bar,h.fr.trans k.fr⟩
theorem Sat.lands {E:Env} {Z:Nm} {S:St} {a:Act} {w:World} (h:Sat E Z S a w):Lands E Z S w S a w Z:=⟨h,agree.refl _ _,zB _,rfl,rfl,Fr.refl _ _⟩
theorem rdB_ag {Z Z':Nm} {n:Nat} {rd:Option Nat} (h:RdOk Z n rd) (ha:agree n Z Z'):rdB Z' rd=rdB Z rd:=by
 cases rd with
 |none=>rfl
 |some id=>simp only [rdB,qG,ha id (h id rfl).1]
theorem RdOk.ag {Z Z':Nm} {n m:Nat} {rd:Option Nat} (h:RdOk Z n rd) (ha:agree n Z Z') (hm:n<=m):RdOk Z' m rd:=fun id e=>by
 obtain ⟨h1,L,h2⟩:=h id e
 exact ⟨by omega,L,by rw [ha id h1];exact h2⟩
theorem callsFw {r:Option Nat} {n:Nat} {P:Program} {f:FuncId} {args:Array Value} {w:World} {R:Ending->World->Prop} (h:Calls P f args w R):CallsIn (Fw r) n P f args w R:=
 callsIn_wide.2 h
theorem outV_ok {β:Type} {x:R} {k:V->T O->Nat->Option β} {r:β} (h:outV x k=some r) :
  ∃r0 v g n,x=some r0/\k v g n=some r/\∀v' g' n',retV v' g' n'=some r0->v'=v/\g'=g/\n'=n:=by
 unfold outV at h
 split at h
 ·exact ⟨_,_,_,_,rfl,h,fun v' g' n' e=>by simp only [retV,zA,zI,St.mk.injEq,T.n.injEq] at e;obtain ⟨_,_,_,⟨_,e1,_⟩,e2,e3,_⟩:=e;exact ⟨e1,e2,e3⟩⟩
 cases h
theorem enterRegs_ok {Z:Nm} {n:Nat}:∀(l:List V) (x:List Value) (i:Nat) (t:T V) {k:T V->R} {r:Ex×St},enterRegs l i t k=some r->RvL Z n l x->
  ∃t',k t'=some r/\∀j v,t'.get j=some v->(∃u,i<=j/\x[j - i]?=some u/\Rv Z n v u)\/t.get j=some v
 |[],[],i,t,k,r,h,_=>⟨t,h,fun j v hj=>.inr hj⟩
 |v :: l,u :: x,i,t,k,r,h,hr=>by
  simp only [RvL] at hr
  simp only [enterRegs] at h
  rw [T.set_eq] at h
  obtain ⟨t',h1,h2⟩:=enterRegs_ok l x (Nat.succ i) _ h hr.2
  refine ⟨t',h1,fun j w hj=>?_⟩
  rcases h2 j w hj with ⟨u',h3,h4,h5⟩ |h3
  ·exact .inl ⟨u',by omega,by rw [show j - i=(j - Nat.succ i)+1 by omega];simpa using h4,h5⟩
  rw [T.get_up] at h3
  split at h3
  next e=>
   subst e
   simp only [zA] at h3
   subst h3
   exact .inl ⟨u,zB _,by simp,hr.1⟩
  exact .inr h3
 |[],_ :: _,_,_,_,_,_,hr=>by simp [RvL] at hr
 |_ :: _,[],_,_,_,_,_,hr=>by simp [RvL] at hr
theorem enterRegs_len {Z:Nm} {n:Nat} {l:List V} {x:List Value} (hr:RvL Z n l x) {k:T V->R} {r:Ex×St} (h:enterRegs l 0 .e k=some r) {nt:Nat} (hn:len l<=nt) :
  ∃t',k t'=some r/\RegsOk Z n t' (x.toArray++Array.replicate (nt - x.toArray.size) undef)/\(x.toArray++Array.replicate (nt - x.toArray.size) undef).size=nt:=by
 have hlen:=hr.length
 rw [len_eq] at hn
 obtain ⟨t',h1,h2⟩:=enterRegs_ok l x 0 .e h hr
 refine ⟨t',h1,fun j v hj=>?_,by simp;omega⟩
 rcases h2 j v hj with ⟨u,_,h3,h4⟩ |h3
 ·refine ⟨u,?_,h4⟩
  simp only [kO] at h3
  have:=(xB.1 h3).1
  rw [Array.getElem?_append_left (by simpa using this)]
  simpa using h3
 simp [T.get] at h3
section
variable {P:Program} {E:Env} {n bar:Nat} {F:Fence}
theorem takeDf_ok {Z:Nm} {n bar:Nat}:∀(l:List Nat) (ds:List Deferred) (h:T O) (w:World) {k:T O->R} {r:Ex×St},takeDf bar l h k=some r->HSat Z h.get n w->RvD Z n l ds->
  ∃h' w',k h'=some r/\HSat Z h'.get n w'/\Fr (Own Z h.get bar) w (Own Z h'.get bar) w'/\
   ∀fn tm R,LeavesInM F 0 P fn tm R [] .returning w'->LeavesInM F 0 P fn tm R ds .returning w
 |[],[],h,w,k,r,hk,hS,_=>⟨h,w,hk,hS,Fr.refl _ _,fun _ _ _ h=>h⟩
 |d :: l,x :: ds,h,w,k,r,hk,hS,hD=>by
  simp only [RvD] at hD
  obtain ⟨hd,⟨L,hL,hx⟩,hD⟩:=hD
  simp only [takeDf] at hk
  split at hk
  next hg hb=>
   rw [T.set_eq] at hk
   have hob:=(hS.objs d _ hg).2
   simp only [ObjOk] at hob
   obtain ⟨L',hL',hh⟩:=hob
   rw [hL] at hL';cases hL'
   obtain ⟨h1,h2⟩:=setObj_ok (bar:=bar) hS hL hg (by simpa [geB] using hb) (o':=.dfr false) (ob:=.deferred none) (w':=w.putObj L.b (.deferred none)) rfl ⟨rfl,rfl,rfl,zB _⟩
    (by simp only [ObjOk];exact ⟨L,hL,World.putObj_heap_same (hS.blk d L hL)⟩)
   obtain ⟨h',w',h3,h4,h5,h6⟩:=takeDf_ok l ds _ _ hk h1 hD
   refine ⟨h',w',h3,h4,h2.trans h5,fun fn tm R hR=>?_⟩
   refine ⟨by simp,.inl ⟨L.b,_,by rw [hx],?_,h6 fn tm R hR⟩⟩
   exact run_takeDeferred (by simpa using hh)
  cases hk
 |[],_ :: _,_,_,_,_,_,_,hD=>by simp [RvD] at hD
 |_ :: _,[],_,_,_,_,_,_,hD=>by simp [RvD] at hD
def resSem (tmps:Array Value):ResultVar->Sem Value
 |.tmp t=>pure (tmps.getD t undef)
 |.cell y t=>do loadVar t (<-asAddr (tmps.getD y undef))
theorem HSat.more {Z:Nm} {g:Nat->Option O} {w w':World} (hS:HSat Z g n w) (m:MoreW w w'):HSat Z g n w':=
 ⟨fun id o ho=>⟨(hS.objs id o ho).1,ObjOk.ext (hS.objs id o ho).1 (zB _) (fun _ _ _ h=>h) (fun L hL=>m.heap _ (hS.blk id L hL)) o (hS.objs id o ho).2⟩,hS.sep,hS.dom,fun id L hL=>xH (hS.blk id L hL) m.size⟩
theorem Fr.moreW {O O':Nat->Prop} {w w1 w':World} (h:Fr O w O' w1) (m:MoreW w1 w'):Fr O w O' w':=
 ⟨m.os.trans h.os,m.tape.trans h.tape,m.output.trans h.output,zT h.size m.size,fun b hb ho=>(m.heap b (xH hb h.size)).trans (h.keep b hb ho),fun b hb=>h.own b hb⟩
theorem pairs_ok:∀(l:List V) {p:List (Int×Int)},pairs l=some p->l=unpairs p
 |[],p,h=>by simp only [pairs,zA] at h;subst h;rfl
 |[_],p,h=>by unfold pairs at h;split at h<;>simp_all
 |u :: v :: l,p,h=>by
  unfold pairs at h
  split at h
  next e=>simp at e
  next a b l' e=>
   simp only [xL] at e
   obtain ⟨rfl,rfl,rfl⟩:=e
   split at h
   next r hr=>
    simp only [zA] at h
    subst h
    rw [pairs_ok l hr]
    rfl
   cases h
  cases h
theorem unpairs_val {Z:Nm} {n:Nat}:∀(p:List (Int×Int)) {x:List Value},RvL Z n (unpairs p) x->x=valP p
 |[],[],_=>rfl
 |[],_ :: _,h=>by simp [unpairs,RvL] at h
 |_ :: p,[],h=>by simp [unpairs,RvL] at h
 |_ :: p,[_],h=>by simp [unpairs,RvL] at h
 |a :: p,u :: v :: x,h=>by
  simp only [unpairs,RvL,Rv] at h
  obtain ⟨rfl,rfl,h⟩:=h
  rw [unpairs_val p h]
  rfl
theorem val_unpairs {Z:Nm} {n:Nat}:∀(p:List (Int×Int)),RvL Z n (unpairs p) (valP p)
 |[]=>trivial
 |a :: p=>by simp only [unpairs,valP,RvL,Rv,true_and];exact val_unpairs p
theorem unpairs_len:∀(p:List (Int×Int)),(unpairs p).length=p.length * 2
 |[]=>rfl
 |a :: p=>by simp only [unpairs,zY,unpairs_len p];omega
variable (hE:EnvOk E P)
include hE
theorem sortX_ok {Z:Nm} {g:T O} {w:World} (hS:HSat Z g.get n w) {f c:Nat} (hext:E.ext f=some (.sort c)) {args:List V} {xs:List Value} (ha:RvL Z n args xs) {k:V->T O->Nat->R} {r:Ex×St} (h:sortX bar g n c args k=some r) :
  ∃v g' n',k v g' n'=some r/\Calls P f xs.toArray w (CallPost Z g.get n bar w v g'.get n'):=by
 have hs:=hE.sort f c hext
 have args2:∀{a:V} {c':Nat} {xs:List Value},RvL Z n [a,.fn (.func c') [] []] xs->∃u,Rv Z n a u/\xs=[u,.func (.func c') #[] #[]]:=by
  intro a c' xs ha
  match xs,ha with
  |[u,v],ha=>
   simp only [RvL,and_true] at ha
   obtain ⟨ha1,ha2⟩:=ha
   simp only [Rv] at ha2
   obtain ⟨x,y,hx,hy,rfl⟩:=ha2
   cases x with
   |cons _ _=>simp [RvL] at hx
   |nil=>
    cases y with
    |cons _ _=>simp [RvL] at hy
    |nil=>exact ⟨u,ha1,rfl⟩
  |[],ha=>simp [RvL] at ha
  |[_],ha=>simp [RvL] at ha
  |_ :: _ :: _ :: _,ha=>simp [RvL] at ha
 unfold sortX at h
 split at h
 next c'=>
  split at h
  next hc=>
   have hc:=zF hc
   subst hc
   obtain ⟨u,hu,rfl⟩:=args2 ha
   simp only [Rv] at hu
   subst hu
   refine ⟨_,_,_,h,(hs.1 none 0 w).mono fun e w' he=>?_⟩
   obtain ⟨rfl,hm⟩:=he
   exact ⟨.tuple #[],Z,rfl,by simp only [Rv];exact ⟨[],trivial,rfl⟩,hS.more hm,agree.refl _ _,zB _,(Fr.refl _ _).moreW hm⟩
  cases h
 rotate_left
 ·cases h
 rename_i id es off ln cap c'
 split at h
 rotate_left
 ·cases h
 rename_i hc
 simp only [zC] at hc
 obtain ⟨⟨hc,hes⟩,hln⟩:=hc
 have hc:=zF hc
 have hes:=zF hes
 have hln:ln < 4611686018427387904:=by simpa [kB] using hln
 subst hc hes
 split at h
 rotate_left
 ·cases h
 rename_i t m hg
 split at h
 rotate_left
 ·cases h
 rename_i hle
 have hle:off+ln * 2<=m:=by simpa using hle
 obtain ⟨l,x,L,cur,ty,h1,h2,h3,_,h5,h6,h7,h8,h9,_⟩:=cells_read hS hg hle h
 split at h1
 rotate_left
 ·cases h1
 rename_i p hp
 have hlp:=pairs_ok l hp
 subst hlp
 have hx:=unpairs_val p h3
 subst hx
 rw [unpairs_len] at h2
 have hpl:p.length=ln:=by
  have h2:p.length * 2=ln * 2:=h2
  omega
 obtain ⟨u,hu,rfl⟩:=args2 ha
 obtain ⟨g',w1,e1,e2,e3,_,_,t2,m2,cur2,ty2,_,_,_,e8,_,_,e11⟩:=store_ok (P:=P) (bar:=bar) hS (val_unpairs (psort p)) h5 h1
 rw [h6] at e8
 cases e8
 have hspec:∃off' c0,u=.slice (some ⟨L.b,off',none⟩) ln c0/\(off'=L.base+off\/ln=0):=by
  cases cap with
  |some c0=>
   simp only [Rv] at hu
   obtain ⟨_,_,_,L',hL',rfl⟩:=hu
   rw [h5] at hL';cases hL'
   exact ⟨_,_,rfl,.inl rfl⟩
  |none=>
   simp only [Rv] at hu
   obtain ⟨_,_,L',c0,off',hL',rfl,h01,_,h02⟩:=hu
   rw [h5] at hL';cases hL'
   refine ⟨_,_,rfl,?_⟩
   rcases h02 with h |h
   ·exact .inl h
   exact .inr (by omega)
 obtain ⟨off',c0,rfl,ho⟩:=hspec
 refine ⟨.tup [],g',n,e1,?_⟩
 have fin:∀w',MoreW w1 w'->CallPost Z g.get n bar w (.tup []) g'.get n (.returned (.tuple #[])) w':=fun w' hm=>
  ⟨.tuple #[],Z,rfl,by simp only [Rv];exact ⟨[],trivial,rfl⟩,e2.more hm,agree.refl _ _,zB _,e3.moreW hm⟩
 by_cases hz:ln=0
 ·subst hz
  have hp0:p=[]:=zS.1 hpl
  subst hp0
  refine (hs.1 _ c0 w).mono fun e w' he=>?_
  obtain ⟨rfl,hm⟩:=he
  refine fin w' ?_
  have e:w1=w:=by
   rw [e11]
   have e0:psort []=[]:=by simp [psort]
   rw [e0]
   simp only [valP,qL,xI,kF,List.take_append_drop]
   exact setRow_self w L.b cur ty (0,0) h6
  rw [e];exact hm
 have ho:off'=L.base+off:=by rcases ho with h |h;exact h;exact absurd h hz
 subst ho
 have:=hs.2 p L.b (L.base+off) c0 w cur ty h6 (by rw [h7];omega) h9 (by omega)
 rw [hpl] at this
 refine this.mono fun e w' he=>?_
 obtain ⟨rfl,hm⟩:=he
 exact fin w' (by rw [e11];exact hm)
theorem resultsX_ok {Z:Nm} {g:T O} {w:World} (hS:HSat Z g.get n w) {regs:T V} {tm:Array Value} (hR:RegsOk Z n regs tm):∀(l:List ResultVar) {k:List V->R} {r:Ex×St},resultsX E regs g l k=some r->
  ∃vs us,k vs=some r/\RvL Z n vs us/\(l.mapM (resSem tm)).run P w=.ok us w
 |[],k,r,h=>⟨[],[],h,by simp [RvL],by simp⟩
 |.tmp t :: l,k,r,h=>by
  simp only [resultsX] at h
  split at h
  next v hv=>
   obtain ⟨vs,us,h1,h2,h3⟩:=resultsX_ok hS hR l h
   obtain ⟨u,hu,hr⟩:=hR t v hv
   refine ⟨v :: vs,u :: us,h1,by simp only [RvL];exact ⟨hr,h2⟩,?_⟩
   rw [List.mapM_cons,zN]
   simp only [resSem,xD,zG]
   rw [zN,h3,zG,xD,kC,hu]
   rfl
  cases h
 |.cell y t :: l,k,r,h=>by
  simp only [resultsX] at h
  split at h
  rotate_left
  ·cases h
  rename_i ty id off hty hy
  split at h
  rotate_left
  ·cases h
  rename_i c m hg
  split at h
  next hle=>
   have hle:off+ty.size<=m:=by simpa using hle
   obtain ⟨u0,hu0,hr0⟩:=hR y _ hy
   simp only [Rv] at hr0
   obtain ⟨_,L,hL,rfl⟩:=hr0
   obtain ⟨l1,xs,L',cur,tt,h1,h2,h3,h4,h5,h6,h7,h8,h9,h10⟩:=cells_read hS hg hle h
   rw [hL] at h5;cases h5
   obtain ⟨v,u,g1,g2,g3⟩:=run_loadVar hE hty w ⟨L.b,L.base+off,none⟩ h3 h2 h10 h1
   obtain ⟨vs,us,f1,f2,f3⟩:=resultsX_ok hS hR l g1
   refine ⟨v :: vs,u :: us,f1,by simp only [RvL];exact ⟨g2,f2⟩,?_⟩
   have haddr:tm.getD y undef=.pointer (some ⟨L.b,L.base+off,none⟩):=by rw [kC,hu0];rfl
   rw [List.mapM_cons,zN]
   have:(resSem tm (.cell y t)).run P w=.ok u w:=by simp [resSem,haddr,asAddr,g3]
   rw [this,zG,zN,f3,zG,xD]
  cases h
omit hE in
theorem results_run {fn:Func} {tm:Array Value} {w:World} {us:List Value} (h:(fn.results.toList.mapM (resSem tm)).run P w=.ok us w) {Z:Nm} {vs:List V} (hv:RvL Z n vs us) :
  ∃u,(results fn tm).run P w=.ok u w/\Rv Z n (one vs) u:=by
 have e:(results fn tm).run P w=.ok (let vs:=us.toArray;if h:vs.size=1 then vs[0] else .tuple vs) w:=by
  have e1:results fn tm=(do
    let vs <-fn.results.mapM (resSem tm)
    pure (if h:vs.size=1 then vs[0] else .tuple vs)):=by
   unfold results
   congr 1
  rw [e1,Array.mapM_eq_mapM_toList,map_eq_pure_bind,zN,zN,h,zG,xD,zG,xD]
 rw [e]
 refine ⟨_,rfl,?_⟩
 match vs,us,hv with
 |[],[],hv=>simp [one,Rv,RvL]
 |[v],[u],hv=>simpa [one,RvL] using hv
 |v :: v' :: vs,u :: u' :: us,hv=>simp only [one,Rv];exact ⟨_,hv,by simp⟩
 |[],_ :: _,hv=>simp [RvL] at hv
 |_ :: _,[],hv=>simp [RvL] at hv
 |[_],_ :: _ :: _,hv=>simp [RvL] at hv
 |_ :: _ :: _,[_],hv=>simp [RvL] at hv
variable {ih:IH} (hI:IhOk E P ih)
include hI
theorem callG_ok {Z:Nm} {g:T O} {w:World} (hRo:RoOk E Z g.get bar w) (hS:HSat Z g.get n w) {f:Nat} {args:List V} {xs:List Value} (ha:RvL Z n args xs) {k:V->T O->Nat->R} {r:Ex×St} (h:callG E ih bar g n f args k=some r) :
  ∃v g' n' fn,k v g' n'=some r/\E.fn f=some fn/\fn.body.isSome=true/\∀ro,CallsIn (Fw ro) 0 P f xs.toArray w (CallPost Z g.get n bar w v g'.get n'):=by
 unfold callG at h
 split at h
 rotate_left
 ·cases h
 rename_i fn hfn
 obtain ⟨hf,hname⟩:=hE.fn f fn hfn
 split at h
 rotate_left
 ·cases h
 rename_i c hb hle
 split at h
 rotate_left 1
 ·cases h
 obtain ⟨regs,h1,h2,h3⟩:=enterRegs_len ha h (by simpa using hle)
 have hSat:Sat E Z ⟨fn.ntmps,bar,regs,g,n,[]⟩ { tmps:=xs.toArray++Array.replicate (fn.ntmps - xs.toArray.size) undef,defers:=[] } w:=⟨hS,h3,h2,by simp [RvD],hRo⟩
 have fin:∀{e:Ex} {nt' bar':Nat} {regs':T V} {h':T O} {nx':Nat} {df':List Nat},ih none c ⟨fn.ntmps,bar,regs,g,n,[]⟩=some (e,⟨nt',bar',regs',h',nx',df'⟩)->(e=.normal\/e=.ret)->
   outV (takeDf bar df' h' fun h=>resultsX E regs' h fn.results.toList fun l=>retV (one l) h nx') k=some r->
   ∃v g' n' fn,k v g' n'=some r/\E.fn f=some fn/\fn.body.isSome=true/\∀ro,CallsIn (Fw ro) 0 P f xs.toArray w (CallPost Z g.get n bar w v g'.get n'):=by
  intro e nt' bar' regs' h' nx' df' he hee hk
  obtain ⟨r0,v,g',n',hr0,hk,hv⟩:=outV_ok hk
  refine ⟨v,g',n',fn,hk,hfn,by simp [hb],fun ro=>?_⟩
  have hw:=hI none c _ _ _ he Z _ w hSat (fun _ h=>by cases h)
  refine callsFw (callsIn_wide.1 (callsIn_of_wp_marks hf hb trivial (xM hw ?_)))
  rintro x a' w' ⟨rfl,Z',hL⟩
  have hlv:LeavesInM Fence.wide 0 P fn a'.tmps (CallPost Z g.get n bar w v g'.get n') a'.defers .returning w':=by
   obtain ⟨h2,w2,e1,e2,e3,e4⟩:=takeDf_ok (P:=P) df' a'.defers h' w' hr0 hL.sat.hs hL.sat.df
   obtain ⟨vs,us,f1,f2,f3⟩:=resultsX_ok hE e2 hL.sat.regs _ e1
   obtain ⟨rfl,rfl,rfl⟩:=hv _ _ _ f1
   obtain ⟨u,d1,d2⟩:=results_run f3 f2
   refine e4 _ _ _ ?_
   simp only [LeavesInM,LeavesIn]
   have hbar:=hL.bar
   simp only at hbar
   subst hbar
   exact ⟨u,d1,u,Z',rfl,d2,e2,hL.ag,hL.le,hL.fr.trans e3⟩
  rcases hee with rfl |rfl
  ·exact hlv
  exact hlv
 split at h1
 next he=>
  exact fin he (.inl rfl) h1
 next he=>
  exact fin he (.inr rfl) h1
 cases h1
theorem callF_ok {Z:Nm} {g:T O} {w:World} (hRo:RoOk E Z g.get bar w) (hS:HSat Z g.get n w) {f:Nat} {args:List V} {xs:List Value} (ha:RvL Z n args xs) {k:V->T O->Nat->R} {r:Ex×St} (h:callF E ih bar g n f args k=some r) :
  ∃v g' n' fn,k v g' n'=some r/\E.fn f=some fn/\fn.body.isSome=true/\∀ro,CallsIn (Fw ro) 0 P f xs.toArray w (CallPost Z g.get n bar w v g'.get n'):=by
 unfold callF at h
 split at h
 rotate_left
 ·cases h
 rename_i fn hfn
 obtain ⟨hf,hname⟩:=hE.fn f fn hfn
 split at h
 rotate_left
 ·cases h
 rename_i c hb hle
 split at h
 rotate_left
 next hin nxin args0 v hout nxout hext=>
  split at h
  next hc=>
   simp only [zC] at hc
   obtain ⟨⟨⟨c1,c2⟩,c3⟩,c4⟩:=hc
   have c1:=zF c1
   have c2:=zF c2
   have c3:=all2_ok vSame_ok _ _ c3
   subst c1 c2 c3
   have c4:=leH_ok _ _ c4
   refine ⟨_,_,_,fn,h,hfn,by simp [hb],fun ro=>callsFw ((hE.known f _ _ _ _ _ _ hext Z w xs (hS.sub c4) ha).mono fun e w' he=>?_)⟩
   obtain ⟨u,Z',q1,q2,q3,q4,q5,q6⟩:=he
   have own:∀b,Own Z hin.get 0 b->Own Z g.get 0 b:=fun b ⟨id,o,L,e1,e2,e3,e4⟩=>⟨id,o,L,e1,c4 _ _ e2,e3,e4⟩
   exact ⟨u,Z',q1,q2,q3,q4,q5,q6.os,q6.tape,q6.output,q6.size,fun b hb ho=>q6.keep b hb fun h=>ho (own b h),fun b hb=>(q6.own b hb).imp (own b) id⟩
  cases h
 next hext=>
  split at h
  rotate_left
  ·cases h
  rename_i gg la lb
  cases xs with
  |nil=>simp [RvL] at ha
  |cons x xs=>
   cases xs with
   |cons _ _=>simp [RvL] at ha
   |nil=>
    simp only [RvL,and_true] at ha
    simp only [Rv] at ha
    obtain ⟨xa,xb,ha1,ha2,rfl⟩:=ha
    obtain ⟨ty,hG⟩:=hE.guard f hext
    have e1:∀i,i < w.heap.size->(w.alloc (.cells #[.int .i64 0] ty)).heap[i]?=w.heap[i]?:=fun i hi=>by
     show (w.heap.push _)[i]?=_
     rw [Array.getElem?_push,if_neg (by omega)]
    have e2:(w.alloc (.cells #[.int .i64 0] ty)).heap.size=w.heap.size+1:=by show (w.heap.push _).size=_;rw [Array.size_push]
    have e3:(w.alloc (.cells #[.int .i64 0] ty)).heap[w.heap.size]?=some (.cells #[.int .i64 0] ty):=by
     show (w.heap.push _)[w.heap.size]?=_
     rw [Array.getElem?_push,if_pos rfl]
    have hS1:HSat Z g.get n (w.alloc (.cells #[.int .i64 0] ty)):=⟨fun id o ho=>⟨(hS.objs id o ho).1,ObjOk.ext (hS.objs id o ho).1 (zB _) (fun _ _ _ h=>h) (fun L hL=>e1 _ (hS.blk id L hL)) o (hS.objs id o ho).2⟩,hS.sep,hS.dom,fun id L hL=>by rw [e2];exact Nat.lt_succ_of_lt (hS.blk id L hL)⟩
    have hF1:Fr (Own Z g.get bar) w (Own Z g.get bar) (w.alloc (.cells #[.int .i64 0] ty)):=⟨rfl,rfl,⟨rfl,zB _⟩,by rw [e2];omega,fun b hb _=>e1 b hb,fun _ h=>.inl h⟩
    obtain ⟨v,g',n',fn',hk,hfn',hb',hc⟩:=callG_ok hE hI (hRo.fr hF1) hS1 (xs:=xa++xb) (RvL.append ha1 ha2) h
    refine ⟨.int .i64 0,g',n',fn,hk,hfn,by simp [hb],fun ro=>callsFw ?_⟩
    have hQ:Calls P gg (xa.toArray++xb.toArray) (w.alloc (.cells #[.int .i64 0] ty)) (fun e w'=>(∃u,e=.returned u)/\w'.heap[w.heap.size]?=some (.cells #[.int .i64 0] ty)/\(∃Z',HSat Z' g'.get n' w'/\agree n Z Z'/\n<=n'/\Fr (Own Z g.get bar) (w.alloc (.cells #[.int .i64 0] ty)) (Own Z' g'.get bar) w')):=by
     have hc':=callsIn_wide.1 (hc none)
     rw [show (xa++xb).toArray=xa.toArray++xb.toArray from (List.append_toArray xa xb).symm] at hc'
     refine hc'.mono fun e w' he=>?_
     obtain ⟨u,Z',q1,q2,q3,q4,q5,q6⟩:=he
     refine ⟨⟨u,q1⟩,?_,Z',q3,q4,q5,q6⟩
     rw [q6.keep w.heap.size (by rw [e2];omega) (fun ho=>?_),e3]
     obtain ⟨id,o,L,_,_,hL,hb⟩:=ho
     have:=hS.blk id L hL
     omega
    refine (hG gg xa.toArray xb.toArray w _ fn' (hE.fn _ _ hfn').1 (hE.fn _ _ hfn').2 hb' hQ).mono fun e w' he=>?_
    obtain ⟨rfl,w1,⟨Z',q3,q4,q5,q6⟩,sw⟩:=he
    refine ⟨.int .i64 0,Z',rfl,by simp only [Rv],⟨fun id o ho=>⟨(q3.objs id o ho).1,ObjOk.ext (q3.objs id o ho).1 (zB _) (fun _ _ _ h=>h) (fun L hL=>sw.heap _) o (q3.objs id o ho).2⟩,q3.sep,q3.dom,fun id L hL=>by rw [sw.size];exact q3.blk id L hL⟩,q4,q5,?_⟩
    have hF:=hF1.trans q6
    exact ⟨sw.os.trans hF.os,sw.tape.trans hF.tape,sw.output.trans hF.output,by rw [sw.size];exact hF.size,fun b hb ho=>(sw.heap b).trans (hF.keep b hb ho),fun b hb=>hF.own b hb⟩
 next c0 hext=>
  obtain ⟨v,g',n',hk,hc⟩:=sortX_ok hE hS hext ha h
  exact ⟨v,g',n',fn,hk,hfn,by simp [hb],fun ro=>callsFw hc⟩
 rotate_left
 next b hext=>
  split at h
  ·have hx:xs=[]:=by
    cases xs with
    |nil=>rfl
    |cons _ _=>simp [RvL] at ha
   subst hx
   refine ⟨_,_,_,fn,h,hfn,by simp [hb],fun ro=>callsFw ((hE.ext f b hext w).mono fun e w' he=>?_)⟩
   obtain ⟨rfl,h1,h2,h3,h4,h5⟩:=he
   refine ⟨.bool b,Z,rfl,by simp only [Rv],⟨fun id o ho=>⟨(hS.objs id o ho).1,ObjOk.ext (hS.objs id o ho).1 (zB _) (fun _ _ _ h=>h) (fun L hL=>h5 _ (hS.blk id L hL)) o (hS.objs id o ho).2⟩,hS.sep,hS.dom,fun id L hL=>xH (hS.blk id L hL) h4⟩,agree.refl _ _,zB _,⟨h1,h2,h3,h4,fun b hb _=>h5 b hb,fun _ h=>.inl h⟩⟩
  cases h
 refine callG_ok hE hI hRo hS ha (k:=k) ?_
 rename_i hext
 unfold callG
 simp only [hfn,hb,hle,hext]
 exact h
end
end CX

namespace CX
open Go
theorem setLoop_ok {bar:Nat} {h:T O} {id:Nat} {st:LoopState} {j:Option Code} {k:T O->R} {r:Ex×St} (hk:setLoop bar h id st j k=some r) :
  ∃st0 j0 nt regs ps a b df,h.get id=some (.loop st0 j0 nt regs ps a b df)/\bar<=id/\k (h.up id (some (.loop st j nt regs ps a b df)))=some r:=by
 unfold setLoop at hk
 split at hk
 next hg hb=>
  rw [T.set_eq] at hk
  exact ⟨_,_,_,_,_,_,_,_,hg,by simpa [geB] using hb,hk⟩
 cases hk
section
variable {P:Program} {n bar:Nat}
theorem loopObj {Z:Nm} {g:Nat->Option O} {w:World} (hS:HSat Z g n w) {id:Nat} {st:LoopState} {j:Option Code} {nt:Nat} {regs:T V} {ps:List Nat} {a b:Code} {df:Nat} (hg:g id=some (.loop st j nt regs ps a b df)) :
  ∃L D fn tm,id < n/\Z id=some L/\df < n/\Z df=some D/\tm.size=nt/\RegsOk Z n regs tm/\w.heap[L.b]?=some (.loop { state:=st,pending:=j,fn:=fn,tmps:=tm,params:=ps.toArray,assign:=a,body:=b,defers:=D.b })/\L.b < w.heap.size:=by
 obtain ⟨h0,h⟩:=hS.objs id _ hg
 simp only [ObjOk] at h
 obtain ⟨L,fn,tm,D,h1,h2,h3,h4,h5,h6⟩:=h
 exact ⟨L,D,fn,tm,h0,h1,h2,h3,h4,h5,h6,hS.blk _ _ h1⟩
theorem putLoop_ok {Z:Nm} {g:T O} {w:World} (hS:HSat Z g.get n w) {id:Nat} {st:LoopState} {j:Option Code} {nt:Nat} {regs:T V} {ps:List Nat} {a b:Code} {df:Nat} (hg:g.get id=some (.loop st j nt regs ps a b df)) (hbar:bar<=id)
  {L D:Loc} {fn:FuncId} {tm:Array Value} (h1:Z id=some L) (h2:df < n) (h3:Z df=some D) (h4:tm.size=nt) (h5:RegsOk Z n regs tm) (st':LoopState) (j':Option Code) :
  HSat Z (g.up id (some (.loop st' j' nt regs ps a b df))).get n (w.putObj L.b (.loop { state:=st',pending:=j',fn:=fn,tmps:=tm,params:=ps.toArray,assign:=a,body:=b,defers:=D.b }))/\
  Fr (Own Z g.get bar) w (Own Z (g.up id (some (.loop st' j' nt regs ps a b df))).get bar) (w.putObj L.b (.loop { state:=st',pending:=j',fn:=fn,tmps:=tm,params:=ps.toArray,assign:=a,body:=b,defers:=D.b })):=
 setObj_ok (bar:=bar) hS h1 hg hbar rfl ⟨rfl,rfl,rfl,zB _⟩ (by
  simp only [ObjOk]
  exact ⟨L,fn,tm,D,h1,h2,h3,h4,h5,World.putObj_heap_same (hS.blk _ _ h1)⟩)
theorem paramsX_ok {Z:Nm} {nt:Nat}:∀(ps:List Nat) (vs:List V) (xs:List Value) (regs:T V) (tm:Array Value) {k:T V->R} {r:Ex×St},paramsX nt ps vs regs k=some r->RvL Z n vs xs->RegsOk Z n regs tm->tm.size=nt->
  ps.length=xs.length/\∃regs',k regs'=some r/\RegsOk Z n regs' ((ps.zip xs).foldl (fun tm (t,a)=>tm.setIfInBounds t a) tm)/\((ps.zip xs).foldl (fun tm (t,a)=>tm.setIfInBounds t a) tm).size=nt
 |[],[],[],regs,tm,k,r,h,_,hR,hs=>⟨rfl,regs,h,hR,hs⟩
 |p :: ps,v :: vs,x :: xs,regs,tm,k,r,h,hv,hR,hs=>by
  simp only [RvL] at hv
  simp only [paramsX] at h
  split at h
  rotate_left
  ·cases h
  rename_i hp
  rw [T.set_eq] at h
  have hp:p < nt:=by simpa [kB] using hp
  have hR':RegsOk Z n (regs.up p (some v)) (tm.setIfInBounds p x):=by
   intro t y ht
   rw [T.get_up] at ht
   split at ht
   next e=>
    subst e
    simp only [zA] at ht
    subst ht
    exact ⟨x,by simp [hs,hp],hv.1⟩
   rename_i e
   obtain ⟨u,h1,h2⟩:=hR t y ht
   exact ⟨u,by rw [kV (Ne.symm e)];exact h1,h2⟩
  obtain ⟨h1,h2⟩:=paramsX_ok ps vs xs _ _ h hv.2 hR' (by simpa using hs)
  exact ⟨by simp [h1],by simpa using h2⟩
 |[],[],_ :: _,_,_,_,_,_,hv,_,_=>by simp [RvL] at hv
 |[],_ :: _,_,_,_,_,_,h,_,_,_=>by simp [paramsX] at h
 |_ :: _,[],_,_,_,_,_,h,_,_,_=>by simp [paramsX] at h
 |_ :: _,_ :: _,[],_,_,_,_,_,hv,_,_=>by simp [RvL] at hv
variable {E:Env} {ih:IH} (hI:IhOk E P ih)
include hI
theorem callY_ok {Z:Nm} {g:T O} {w:World} (hRo:RoOk E Z g.get bar w) (hS:HSat Z g.get n w) {id:Nat} {L:Loc} (hL:Z id=some L) {args:List V} {xs:List Value} (ha:RvL Z n args xs) {k:V->T O->Nat->R} {r:Ex×St} (h:callY ih bar g n id args k=some r) :
  ∃v g' n' f tm assign body,k v g' n'=some r/\(Instr.yield L.b xs.toArray).run P w=.ok (.round L.b f tm assign body) w/\
   ∀ro,RoundIn (Fw ro) 0 P L.b f tm assign body w (CallPost Z g.get n bar w v g'.get n'):=by
 unfold callY at h
 split at h
 rotate_left
 ·cases h
 rename_i j0 nt regs ps assign body df hg
 obtain ⟨L',D,fn,tm,hid,hL',hdf,hD,hsz,hR,hh,hb⟩:=loopObj hS hg
 rw [hL] at hL';cases hL'
 obtain ⟨hlen,regs1,h,hR1,hsz1⟩:=paramsX_ok _ _ _ _ _ h ha hR hsz
 have hrun:(Instr.yield L.b xs.toArray).run P w=.ok (.round L.b fn ((ps.zip xs).foldl (fun tm (t,a)=>tm.setIfInBounds t a) tm) assign body) w:=by
  rw [run_yield hh (by simp [hlen])]
  simp
 have hSat:Sat E Z ⟨nt,bar,regs1,g,n,[]⟩ { tmps:=(ps.zip xs).foldl (fun tm (t,a)=>tm.setIfInBounds t a) tm,defers:=[] } w:=⟨hS,hsz1,hR1,by simp [RvD],hRo⟩
 have hrd:RdOk Z n (some id):=fun i e=>by cases e;exact ⟨hid,L,hL⟩
 split at h
 rotate_left
 ·cases h
 rename_i nt1 bar1 regs2 g1 n1 df1 he1
 split at h
 rotate_left
 ·cases h
 rename_i j2 nt2 regs3 ps2 a2 b2 df2 hg1 hbar
 rw [T.set_eq] at h
 have hw1:=hI (some id) assign _ _ _ he1 Z _ w hSat hrd
 rw [show rdB Z (some id)=some L.b by simp [rdB,hL]] at hw1
 have fin:∀{e:Ex} {S3:St} {st:LoopState} {j:Option Code} {b:Bool},ih (some id) body ⟨nt,bar,regs2,g1.up id (some (.loop .busy j2 nt2 regs3 ps2 a2 b2 df2)),n1,df1⟩=some (e,S3)->
   (∀R w3,(∃v w4,(Instr.endRound L.b j).run P w3=.ok v w4/\R (.returned v) w4)->∀a3,roundPost P L.b R (exO e) a3 w3)->b=j.isNone->st=(if j.isNone then .ready else .done)->
   outV (setLoop bar S3.h id st j fun h=>retV (.bool b) h S3.nx) k=some r->
   ∃v g' n' f tm assign body,k v g' n'=some r/\(Instr.yield L.b xs.toArray).run P w=.ok (.round L.b f tm assign body) w/\
    ∀ro,RoundIn (Fw ro) 0 P L.b f tm assign body w (CallPost Z g.get n bar w v g'.get n'):=by
  intro e S3 st j b he2 hround hbj hst hk
  obtain ⟨r0,v,g',n',hr0,hk,hv⟩:=outV_ok hk
  refine ⟨v,g',n',fn,_,assign,body,hk,hrun,fun ro=>roundIn_of_wpIn trivial (xM hw1 ?_)⟩
  rintro x a1 w1 ⟨rfl,Z1,hL1⟩
  have e1:=hL1.nt
  have e2:=hL1.bar
  simp only at e1 e2
  subst e1 e2
  obtain ⟨L1,D1,fn1,tm1,hid1,hLL1,hdf1,hD1,hsz1',hR1',hh1,hb1⟩:=loopObj hL1.sat.hs hg1
  have hLe:L1=L:=by rw [hL1.ag id hid] at hLL1;rw [hL] at hLL1;exact (Option.some.inj hLL1).symm
  subst hLe
  obtain ⟨hS2,hF2⟩:=putLoop_ok hL1.sat.hs hg1 (by simpa [geB] using hbar) hLL1 hdf1 hD1 hsz1' hR1' (fn:=fn1) .busy j2
  refine ⟨_,run_beginRound hh1 rfl,?_⟩
  have hSat2:Sat E Z1 ⟨nt1,bar1,regs2,g1.up id (some (.loop .busy j2 nt2 regs3 ps2 a2 b2 df2)),n1,df1⟩ a1 (w1.putObj L1.b (.loop { state:=.busy,pending:=j2,fn:=fn1,tmps:=tm1,params:=ps2.toArray,assign:=a2,body:=b2,defers:=D1.b })):=by
   exact ⟨hS2,hL1.sat.size,hL1.sat.regs,hL1.sat.df,hL1.sat.ro.fr hF2⟩
  have hw2:=hI (some id) body _ _ _ he2 Z1 a1 _ hSat2 (fun i e=>by cases e;exact ⟨hid1,L1,hLL1⟩)
  rw [show rdB Z1 (some id)=some L1.b by simp [rdB,hLL1]] at hw2
  refine xM hw2 ?_
  rintro x a3 w3 ⟨rfl,Z3,hL3⟩
  refine hround _ _ ?_ _
  have e2:=hL3.bar
  simp only at e2
  subst e2
  obtain ⟨st0,j0',nt3,regs4,ps3,a3',b3,df3,hg3,hbar3,hr0⟩:=setLoop_ok hr0
  obtain ⟨L3,D3,fn3,tm3,hid3,hLL3,hdf3,hD3,hsz3,hR3,hh3,hb3⟩:=loopObj hL3.sat.hs hg3
  have hLe3:L3=L1:=by rw [hL3.ag id hid1] at hLL3;rw [hLL1] at hLL3;exact (Option.some.inj hLL3).symm
  subst hLe3
  obtain ⟨hS4,hF4⟩:=putLoop_ok hL3.sat.hs hg3 hbar3 hLL3 hdf3 hD3 hsz3 hR3 (fn:=fn3) st j
  obtain ⟨rfl,rfl,rfl⟩:=hv _ _ _ hr0
  refine ⟨_,_,run_endRound j hh3,.bool j.isNone,Z3,rfl,by simp only [Rv];rw [hbj],?_,hL1.ag.trans (hL3.ag.mono hL1.le),zT hL1.le hL3.le,?_⟩
  ·subst hst;exact hS4
  subst hst;exact ((hL1.fr.trans hF2).trans hL3.fr).trans hF4
 split at h
 next he2=>
  exact fin he2 (fun R w3 hx a3=>hx) rfl rfl h
 next he2=>
  exact fin he2 (fun R w3 hx a3=>hx) rfl rfl h
 next he2=>
  exact fin he2 (fun R w3 hx a3=>hx) rfl rfl h
 cases h
variable (hE:EnvOk E P)
include hE
omit hI in
theorem farX_ok {Z:Nm} {g:T O} {w:World} (hS:HSat Z g.get n w) {o:Oper} {ev:Operand->Option V} {Ze:Operand->Value} (hev:∀x∈o.op.operands,∀v,ev x=some v->Rv Z n v (Ze x)) {id es q m:Nat} (h:farX E ev g o.op=some (id,es,q,m)) :
  ∃u,Rv Z n (.slc id es q m none) u/\(execOp Ze o).run P w=.ok (.value u) w:=by
 cases ho:o.op with
 |slice t x lo hi mx=>
  rw [ho] at h hev
  cases hi with
  |none=>simp [farX] at h
  |some hi=>
   cases mx with
   |some mx=>simp [farX] at h
   |none=>
    simp only [farX] at h
    split at h
    rotate_left
    ·cases h
    rename_i id' es' off ln lo' kr r hx hl hr
    split at h
    rotate_left
    ·cases h
    rename_i l c n' es2 hb hlt hg hes
    split at h
    rotate_left
    ·cases h
    rename_i hc
    simp only [zC,xV] at hc
    obtain ⟨⟨he,h1⟩,h2⟩:=hc
    have he:es'=es2:=by simpa using he
    subst he
    simp only [zA,zI] at h
    obtain ⟨rfl,rfl,rfl,rfl⟩:=h
    have hxv:=hev x (by simp [Op.operands]) _ hx
    have hrv:=hev hi (by simp [Op.operands]) _ hr
    obtain ⟨l1,l2⟩:=evO_ok (Z:=Z) (n:=n) (Ze:=Ze) (fun y hy=>hev y (by simp [Op.operands];simp at hy;simp [hy])) hl
    have hlb:=bnd_ok l1 l2 hb
    obtain ⟨e,ety,i,z,hu,_,_,_,hpos,hi',hs,_⟩:=elem_ok hE hes
    simp only [Rv] at hxv hrv
    obtain ⟨hid,_,L,c',off',hL,hxe,hln,hbs,hoff⟩:=hxv
    have hob:=(hS.objs _ _ hg).2
    simp only [ObjOk] at hob
    obtain ⟨L',cur,ty,hL',_,_,hm,_⟩:=hob
    rw [hL] at hL'
    cases hL'
    have hlt:ln < r:=by simpa [kB] using hlt
    have h2:off+r * es'<=n':=h2
    have hrc:r<=c':=by
     have:r * es'<=c' * es':=by omega
     exact Nat.le_of_mul_le_mul_right this hpos
    have hoff':off'=L.base+off:=by
     rcases hoff with h |h
     ·exact h
     omega
    have hsub:Nat.sub r l=r - l:=rfl
    have hmul:Nat.add off (Nat.mul l es')=off+l * es':=rfl
    have hrun:(execOp Ze o).run P w=.ok (.value (.slice (if c'=l then some ⟨L.b,off',none⟩ else some ⟨L.b,off'+l * es',none⟩) (r - l) (c' - l))) w:=by
     have:(Instr.sliceAt t (.slice (some ⟨L.b,off',none⟩) ln c') (lo.map Ze) (some (.int kr (r:Int))) none).run P w =
      .ok (.slice (if c'=l then some ⟨L.b,off',none⟩ else some ⟨L.b,off'+l * es',none⟩) (r - l) (c' - l)) w:=by
      simp only [Instr.sliceAt,zN,zE hu,zG,Instr.slice,run_bounds hlb (.inr ⟨_,rfl⟩) h1 hrc,run_sizeOf' hi',hs,xD,zX,add_at]
     have hrv':Ze hi=.int kr (r:Int):=hrv
     simp [execOp,ho,hxe,hrv',this]
    have hmulc:l * es'+(c' - l) * es'=c' * es':=by rw [<-zR];congr 1;omega
    by_cases hcl:c'=l
    ·refine ⟨.slice (some ⟨L.b,off',none⟩) (r - l) 0,?_,by rw [hrun,if_pos hcl,hcl,kX]⟩
     simp only [Rv]
     exact ⟨hid,hpos,L,0,off',hL,by rw [hsub],by rw [hsub];omega,by rw [hmul,<-hbs,hcl];omega,.inr rfl⟩
    refine ⟨.slice (some ⟨L.b,off'+l * es',none⟩) (r - l) (c' - l),?_,by rw [hrun,if_neg hcl]⟩
    simp only [Rv]
    refine ⟨hid,hpos,L,c' - l,off'+l * es',hL,by rw [hsub],by rw [hsub];omega,by rw [hmul];omega,.inl ?_⟩
    rw [hmul];omega
 |_=>rw [ho] at h;simp [farX] at h
omit hE hI in
theorem far_none {E:Env} {ev:Operand->Option V} {h:T O} {op:Op} {v:V} (hv:∀k:V->R,opP E ev op k=k v):farX E ev h op=none:=by
 cases hf:farX E ev h op with
 |none=>rfl
 |some y=>
  exfalso
  have hv:=hv (fun _=>some (.normal,⟨0,0,.e,.e,0,[]⟩))
  cases op with
  |slice t x lo hi mx=>
   cases hi with
   |none=>simp [farX] at hf
   |some hi=>
    cases mx with
    |some mx=>simp [farX] at hf
    |none=>
     simp only [farX] at hf
     split at hf
     rotate_left
     ·cases hf
     rename_i id' es' off ln lo' kr r hx hl hr
     split at hf
     next l c n' es2 hb hlt hg hes=>
      have hlt:¬r<=ln:=by
       have:ln < r:=by simpa [kB] using hlt
       omega
      have hh:evO ev (some hi)=some (some (.int kr (.ofNat r))):=by simp only [evO,hr]
      have hbr:bnd (some (.int kr (.ofNat r))) ln=some r:=rfl
      simp only [opP,hx,hl,hh,sliceA,hes,sliceX,hb,hbr] at hv
      have hb2:Nat.ble r ln=false:=by
       cases h:Nat.ble r ln with
       |false=>rfl
       |true=>exact absurd (Nat.le_of_ble_eq_true h) hlt
      revert hv
      cases Nat.beq es2 es' with
      |false=>simp
      |true=>simp [hb2]
     cases hf
  |_=>simp [farX] at hf
theorem opA_ok {Z:Nm} {g:T O} {w:World} (hRo:RoOk E Z g.get bar w) (hS:HSat Z g.get n w) {o:Oper} {ev:Operand->Option V} {a:Act} (hev:∀x∈o.op.operands,∀v,ev x=some v->Rv Z n v (a.eval x))
  {k:V->T O->Nat->R} {r:Ex×St} (h:opA E ih bar ev g n o.op k=some r) :
  ∃v g' n',k v g' n'=some r/\∀(ro:Option Nat) (K:Act->World->Prop) (Q:Exit->Act->World->Prop),
   (∀u Z' w',Rv Z' n' v u->HSat Z' g'.get n' w'->agree n Z Z'->n<=n'->Fr (Own Z g.get bar) w (Own Z' g'.get bar) w'->K (a.put o.dst u) w')->o.wpIn (Fw ro) 0 P a w K Q:=by
 have nd:∀m,clsOf E o.op=m->m≠4->∀c,o.op≠.defer c:=by
  intro m hm hne c hc
  rw [hc] at hm
  simp [clsOf] at hm
  exact hne hm.symm
 unfold opA at h
 split at h
 next hc=>
  split at h
  ·obtain ⟨v,u,h1,h2,h3⟩:=opP_ok hE (Ze:=a.eval) hev h
   refine ⟨v,g,n,h1,fun ro K Q hK=>⟨fun _ _=>trivial,?_⟩⟩
   show o.uponIn (Fw ro) 0 P a K Q ((o.semAt ro a.eval).run P w)
   rw [kS _ _ _ (nd _ hc (by decide)),h3 w,Oper.uponIn_value]
   exact hK u Z w h2 hS (agree.refl _ _) (zB _) (Fr.refl _ _)
  rename_i id es q m hf
  rw [fN_eq,fN_eq] at h
  obtain ⟨u,h2,h3⟩:=farX_ok hE hS (o:=o) (Ze:=a.eval) hev hf
  refine ⟨_,g,n,h,fun ro K Q hK=>⟨fun _ _=>trivial,?_⟩⟩
  show o.uponIn (Fw ro) 0 P a K Q ((o.semAt ro a.eval).run P w)
  rw [kS _ _ _ (nd _ hc (by decide)),h3,Oper.uponIn_value]
  exact hK u Z w h2 hS (agree.refl _ _) (zB _) (Fr.refl _ _)
 next hc=>
  obtain ⟨v,u,h1,h2,h3⟩:=opL_ok hE hRo.at_ hS (Ze:=a.eval) hev hc h
  refine ⟨v,g,n,h1,fun ro K Q hK=>⟨fun _ _=>trivial,?_⟩⟩
  show o.uponIn (Fw ro) 0 P a K Q ((o.semAt ro a.eval).run P w)
  rw [kS _ _ _ (nd _ hc (by decide)),h3,Oper.uponIn_value]
  exact hK u Z w h2 hS (agree.refl _ _) (zB _) (Fr.refl _ _)
 next hc=>
  obtain ⟨v,g',n',h1,nxt,u,Z',w',h2,h3,h4,h5,h6,h7,h8⟩:=opM_ok hE hRo.at_ hS (Ze:=a.eval) hev h
  refine ⟨v,g',n',h1,fun ro K Q hK=>⟨fun _ _=>trivial,?_⟩⟩
  show o.uponIn (Fw ro) 0 P a K Q ((o.semAt ro a.eval).run P w)
  rw [kS _ _ _ (nd _ hc (by decide)),h2]
  have:=hK u Z' w' h4 h5 h6 h7 h8
  rcases h3 with rfl |⟨rfl,rfl⟩
  ·exact this
  exact this
 rotate_left
 ·cases h
 rename_i hc
 split at h
 rotate_left
 ·cases h
 rename_i c ho
 split at h
 rotate_left
 ·cases h
 rename_i f hcal
 split at h
 rotate_left
 ·cases h
 rename_i fv hf
 have hfr:=hev f (by simp [ho,Op.operands,Call.operands,hcal]) _ hf
 obtain ⟨vs,h1,h2⟩:=evL_ok' c.args.toList (Ze:=a.eval) (fun x hx v=>hev x (by simp [ho,Op.operands,Call.operands,hcal];exact .inr (by simpa using hx)) v) h
 unfold callV at h1
 split at h1
 next f' fa fb=>
  simp only [Rv] at hfr
  obtain ⟨xa,xb,g1,g2,g3⟩:=hfr
  obtain ⟨v,g',n',fn,e1,e2,e3,e4⟩:=callF_ok hE hI hRo hS (RvL.append (RvL.append g1 h2) g2) h1
  obtain ⟨hfn,hname⟩:=hE.fn _ _ e2
  have hname':¬fn.name = "runtime.NumGoroutine":=hname
  refine ⟨v,g',n',e1,fun ro K Q hK=>⟨fun _ _=>trivial,?_⟩⟩
  show o.uponIn (Fw ro) 0 P a K Q ((o.semAt ro a.eval).run P w)
  have hrun:(execOp a.eval o).run P w=.ok (.enter f' (xa++c.args.toList.map a.eval++xb).toArray) w:=by
   simp [execOp,ho,resolve,hcal,g3,Deferred.ofValue,invoke,callFunc,hfn,hname',Option.isNone_iff_eq_none,Option.isSome_iff_ne_none.1 e3]
   try apply kJ
   try simp
  rw [kS _ _ _ (nd _ hc (by decide)),hrun,Oper.uponIn_enter]
  refine ⟨fun h=>by simp [Fw,Fence.wide] at h,CallsIn.mono (e4 ro) fun e w' he=>?_⟩
  obtain ⟨u,Z',rfl,d1,d2,d3,d4,d5⟩:=he
  exact hK u Z' w' d1 d2 d3 d4 d5
 rotate_left
 ·cases h1
 rename_i id
 simp only [Rv] at hfr
 obtain ⟨hid,L,xa,xb,hL,g1,g2,g3⟩:=hfr
 have e0:xa=[]/\xb=[]:=by
  constructor
  ·cases xa with
   |nil=>rfl
   |cons=>simp [RvL] at g1
  cases xb with
  |nil=>rfl
  |cons=>simp [RvL] at g2
 obtain ⟨rfl,rfl⟩:=e0
 obtain ⟨v,g',n',f',tm,as0,bd,e1,e2,e3⟩:=callY_ok hI hRo hS hL h2 h1
 refine ⟨v,g',n',e1,fun ro K Q hK=>⟨fun _ _=>trivial,?_⟩⟩
 show o.uponIn (Fw ro) 0 P a K Q ((o.semAt ro a.eval).run P w)
 have hrun:(execOp a.eval o).run P w=.ok (.round L.b f' tm as0 bd) w:=by
  rw [<-e2]
  simp [execOp,ho,resolve,hcal,g3,Deferred.ofValue,invoke]
  congr 2
  apply kJ
  simp
 rw [kS _ _ _ (nd _ hc (by decide)),hrun,Oper.uponIn_round]
 refine ⟨fun h=>by simp [Fw,Fence.wide] at h,RoundIn.mono (e3 ro) fun e w' he=>?_⟩
 obtain ⟨u,Z',rfl,d1,d2,d3,d4,d5⟩:=he
 exact hK u Z' w' d1 d2 d3 d4 d5
end
end CX
