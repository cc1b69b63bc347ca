/-
  Texts of the executors: HxClose, HxOwn, HxCtr, PkD, PkB, V92, V63, PkL, PkM, V67, V72, V17, V50, V100, V76, V71, V51, V27, V38, PkN, V29, PkR, PkU, PkT, PkV.
-/
import Derived.Test.YtmnaiddobipclaaSenseSees7
set_option linter.all false
namespace HX
open Go Go.Proofs Go.ChangeShapes Go.WideShapes Go.ChangeAt Go.RowKit CX
def descF (g:TypeId→Option (List Kd)) (P:Program):List Field→Nat→Option (List Kd)
 |[],_=>some []
 |f :: r,off=>match g f.type with
  |some ks=>match beqN f.offset off && beqN (P.cellsOf f.type) ks.length with
   |true=>match descF g P r (off+ks.length) with
    |some ks'=>some (ks++ks')
    |none=>none
   |false=>none
  |none=>none
def repK (ks:List Kd):Nat→List Kd
 |0=>[]
 |n+1=>ks++repK ks n
def desc (P:Program):Nat→TypeId→Option (List Kd)
 |0,_=>none
 |n+1,t=>match P.underlying t with
  |some .bool=>some [.bool]
  |some (.int k)=>some [.int k]
  |some .string=>some [.str]
  |some (.slice e)=>match desc P n e with
   |some (k :: ks)=>match beqN (P.cellsOf e) (ks.length+1) with
    |true=>some [.sl (k :: ks)]
    |false=>none
   |_=>none
  |some (.struct fs)=>match descF (desc P n) P fs.toList 0 with
   |some ks=>match beqN (P.cellsOf t) ks.length with
    |true=>some ks
    |false=>none
   |none=>none
  |some (.array m e)=>match desc P n e with
   |some ks=>match beqN (P.cellsOf e) ks.length && beqN (P.cellsOf t) (repK ks m).length with
    |true=>some (repK ks m)
    |false=>none
   |none=>none
  |_=>none
mutual
def RngK:Kd→D→Prop
 |.int k,d=>k.min≤d.int∧d.int≤k.max
 |.str,d=>∀b∈d.str,b < 256
 |.sl ks,d=>∀row∈d.rows,RngL ks row
 |_,_=>True
def RngL:List Kd→List D→Prop
 |k :: ks,d :: ds=>RngK k d∧RngL ks ds
 |_,_=>True
end
mutual
def RdK (w:World):Kd→D→Value→Prop
 |.int k,d,u=>(∃n,d=.i n)∧u=.int k d.int
 |.bool,d,u=>(∃b,d=.b b)∧u=.bool d.boo
 |.str,d,u=>(∃s,d=.s s)∧u=.string (bytesOf d.str)
 |.fnc _,_,_=>False
 |.pt _,_,_=>False
 |.sl ks,d,u=>(∃rows,d=.l rows∧LenR ks rows)∧0 < ks.length∧((d.rows=[]∧u=.slice none 0 0)∨∃a cap,u=.slice (some a) d.rows.length cap∧d.rows.length≤cap∧
   ∀i row,d.rows[i]?=some row→∃cs:List Value,(∀c,c < ks.length→w.cell? (a.add (i * ks.length+c))=cs[c]?)∧RdL w ks row cs)
def RdL (w:World):List Kd→List D→List Value→Prop
 |[],[],[]=>True
 |k :: ks,d :: ds,c :: cs=>RdK w k d c∧RdL w ks ds cs
 |_,_,_=>False
end
def Holds (w:World) (ks:List Kd) (cs:List Value):Prop:=∃l,RdL w ks l cs∧RngL ks l
theorem RdL.append {w:World}:∀{ks ks':List Kd} {l l':List D} {cs cs':List Value},RdL w ks l cs→RdL w ks' l' cs'→RdL w (ks++ks') (l++l') (cs++cs')
 |[],_,[],_,[],_,_,h=>h
 |_ :: _,_,_ :: _,_,_ :: _,_,h,h'=>by
  simp only [RdL,List.cons_append] at h ⊢
  exact ⟨h.1,RdL.append h.2 h'⟩
 |[],_,[],_,_ :: _,_,h,_=>by simp [RdL] at h
 |[],_,_ :: _,_,_,_,h,_=>by simp [RdL] at h
 |_ :: _,_,[],_,_,_,h,_=>by simp [RdL] at h
 |_ :: _,_,_ :: _,_,[],_,h,_=>by simp [RdL] at h
theorem RdL.len {w:World}:∀{ks:List Kd} {l:List D} {cs:List Value},RdL w ks l cs→l.length=ks.length∧cs.length=ks.length
 |[],[],[],_=>⟨rfl,rfl⟩
 |_ :: _,_ :: _,_ :: _,h=>by
  simp only [RdL] at h
  have:=RdL.len h.2
  exact ⟨by simp [this.1],by simp [this.2]⟩
 |[],[],_ :: _,h=>by simp [RdL] at h
 |[],_ :: _,_,h=>by simp [RdL] at h
 |_ :: _,[],_,h=>by simp [RdL] at h
 |_ :: _,_ :: _,[],h=>by simp [RdL] at h
theorem RngL.append:∀{ks ks':List Kd} {l l':List D},l.length=ks.length→RngL ks l→RngL ks' l'→RngL (ks++ks') (l++l')
 |[],_,[],_,_,_,h=>h
 |_ :: _,_,_ :: _,_,hl,h,h'=>by
  simp only [RngL,List.cons_append] at h ⊢
  exact ⟨h.1,RngL.append (by simpa using hl) h.2 h'⟩
 |[],_,_ :: _,_,hl,_,_=>by simp at hl
 |_ :: _,_,[],_,hl,_,_=>by simp at hl
theorem Holds.append {w:World} {ks ks':List Kd} {cs cs':List Value} (h:Holds w ks cs) (h':Holds w ks' cs'):Holds w (ks++ks') (cs++cs'):=by
 obtain ⟨l,a,b⟩:=h
 obtain ⟨l',a',b'⟩:=h'
 exact ⟨l++l',a.append a',b.append a.len.1 b'⟩
theorem Holds.nil {w:World}:Holds w [] []:=⟨[],trivial,trivial⟩
section
variable {H:Type} {enc:TypeId×Value→H} {P:Program} {w:World} {base:Nat} {spare:Nat→Bool} {held:Bool}
theorem holds_one {k:Kd} {d:D} {u:Value} (h:RdK w k d u) (hr:RngK k d):Holds w [k] [u]:=⟨[d],⟨h,trivial⟩,⟨hr,trivial⟩⟩
theorem holds_rep {ks:List Kd} {cs:List Value} (m:Nat) (hl:cs.length=(repK ks m).length) (h:∀i,i < m→Holds w ks ((cs.drop (i * ks.length)).take ks.length)):Holds w (repK ks m) cs:=by
 induction m generalizing cs with
 |zero=>
  have:cs=[]:=List.length_eq_zero_iff.1 (by simpa [repK] using hl)
  subst this
  exact Holds.nil
 |succ m ih=>
  have e:cs=cs.take ks.length++cs.drop ks.length:=(List.take_append_drop _ _).symm
  rw [e]
  refine Holds.append (by simpa using h 0 (by omega)) (ih ?_ fun i hi=>?_)
  ·simp only [List.length_drop,hl,repK,List.length_append]
   omega
  ·have:=h (i+1) (by omega)
   rwa [List.drop_drop,show ks.length+i * ks.length=(i+1) * ks.length by rw [Nat.add_mul];omega]
theorem holds_fields {g:TypeId→Option (List Kd)} {cs:List Value}:∀(fs:List Field) (off:Nat) (ks:List Kd),descF g P fs off=some ks→cs.length=off+ks.length→
  (∀f∈fs,∀ks',g f.type=some ks'→Holds w ks' ((cs.drop f.offset).take (P.cellsOf f.type)))→Holds w ks (cs.drop off)
 |[],off,ks,h,hl,_=>by
  simp only [descF,Option.some.injEq] at h
  subst h
  have:cs.drop off=[]:=List.drop_eq_nil_of_le (by simp at hl;omega)
  rw [this]
  exact Holds.nil
 |f :: r,off,ks,h,hl,hf=>by
  simp only [descF] at h
  split at h
  ·rename_i ks1 hk
   split at h
   ·rename_i hb
    simp only [Bool.and_eq_true,beqN_iff] at hb
    split at h
    ·rename_i ks2 hks2
     simp only [Option.some.injEq] at h
     subst h
     have e:cs.drop off=(cs.drop off).take ks1.length++(cs.drop off).drop ks1.length:=(List.take_append_drop _ _).symm
     rw [e]
     refine Holds.append ?_ ?_
     ·have:=hf f (by simp) ks1 hk
      rwa [hb.1,hb.2] at this
     ·rw [List.drop_drop]
      exact holds_fields r (off+ks1.length) ks2 hks2 (by rw [hl,List.length_append];omega) (fun f' hf'=>hf f' (by simp [hf']))
    ·cases h
   ·cases h
  ·cases h
theorem bytes_of (z:ByteArray):bytesOf (z.data.toList.map UInt8.toNat)=z:=by
 obtain ⟨d⟩:=z
 simp only [bytesOf,List.map_map]
 congr 1
 have:(UInt8.ofNat∘UInt8.toNat)=id:=by funext x;simp
 rw [this]
 simp
theorem holds_of_trod:∀(n:Nat) (t:TypeId) (ks:List Kd),desc P n t=some ks→∀(m:Nat) (cs:List Value) (x:DataW H×List MemPlace),DataW.trod enc P w base spare held m t cs=some x→Holds w ks cs
 |0,_,_,h,_,_,_,_=>by simp [desc] at h
 |n+1,t,ks,h,m,cs,x,hx=>by
  unfold desc at h
  split at h
  ·rename_i hu
   simp only [Option.some.injEq] at h
   subst h
   obtain ⟨b,rfl,_⟩:=DataW.trod_bool hu hx
   exact holds_one (d:=.b b) ⟨⟨_,rfl⟩,rfl⟩ trivial
  ·rename_i k hu
   simp only [Option.some.injEq] at h
   subst h
   obtain ⟨z,rfl,_,hw⟩:=DataW.trod_int hu hx
   exact holds_one (d:=.i z) ⟨⟨_,rfl⟩,rfl⟩ (HB.wf_rng hw)
  ·rename_i hu
   simp only [Option.some.injEq] at h
   subst h
   obtain ⟨z,rfl,_,_⟩:=DataW.trod_string hu hx
   refine holds_one (d:=.s (z.data.toList.map UInt8.toNat)) ⟨⟨_,rfl⟩,?_⟩ ?_
   ·show Value.string z=.string (bytesOf (z.data.toList.map UInt8.toNat))
    rw [bytes_of]
   ·intro b hb
    obtain ⟨x,_,rfl⟩:=List.mem_map.1 (show b∈z.data.toList.map UInt8.toNat from hb)
    exact x.toNat_lt
  ·rename_i e hu
   split at h
   ·rename_i k ks' hd
    split at h
    ·rename_i hb
     have hb:P.cellsOf e=ks'.length+1:=by rw [beqN_iff] at hb;exact hb
     simp only [Option.some.injEq] at h
     subst h
     rcases DataW.trod_slice hu hx with ⟨rfl,_⟩ |⟨a,len,cap,elems,rest,m',rfl,rfl,_,_,h2,h3,h4,h5,_,_⟩
     ·exact holds_one (d:=.l []) ⟨⟨_,rfl,fun _ h=>(by cases h),by simp⟩,by simp,.inl ⟨rfl,rfl⟩⟩ (fun _ h=>(by cases h))
     ·have row:∀i,i < len→∃l cs',(∀c,c < ks'.length+1→w.cell? (a.add (i * (ks'.length+1)+c))=cs'[c]?)∧RdL w (k :: ks') l cs'∧RngL (k :: ks') l:=by
       intro i hi
       have e1:=h5 i hi
       rw [List.getElem?_eq_getElem (by omega)] at e1
       obtain ⟨cs',c1,c2⟩:=Option.bind_eq_some_iff.1 e1
       obtain ⟨d1,d2,d3⟩:=HB.cells_get c1
       rw [hb] at d1 d2 d3 c1
       obtain ⟨l,g1,g2⟩:=holds_of_trod n e (k :: ks') hd m' cs' _ c2
       refine ⟨l,cs',fun c hc=>?_,g1,g2⟩
       rw [←d3 c hc,HB.addr_add2]
      let rows:Rows:=(List.range len).map fun i=>if h:i < len then Classical.choose (row i h) else []
      have hlen:rows.length=len:=by simp [rows]
      have hget:∀i r,rows[i]?=some r→∃h:i < len,r=Classical.choose (row i h):=by
       intro i r hr
       have hi:i < len:=by rw [←hlen];exact (List.getElem?_eq_some_iff.1 hr).1
       refine ⟨hi,?_⟩
       simp only [rows,List.getElem?_map,List.getElem?_range hi,Option.map_some,Option.some.injEq] at hr
       rw [←hr,dif_pos hi]
      refine holds_one (d:=.l rows) ⟨⟨_,rfl,fun r hr=>?_,?_⟩,by simp,.inr ⟨a,cap,?_,?_,fun i r hr=>?_⟩⟩ (fun r hr=>?_)
      ·obtain ⟨i,hi⟩:=List.getElem?_of_mem hr
       obtain ⟨h,rfl⟩:=hget i r hi
       obtain ⟨_,_,h6,_⟩:=Classical.choose_spec (row i h)
       exact h6.len.1
      ·have h3:cap≤9223372036854775807:=h3
       rw [hlen];omega
      ·show Value.slice (some a) len cap=.slice (some a) rows.length cap
       rw [hlen]
      ·show rows.length≤cap
       rw [hlen];exact h2
      ·obtain ⟨h,rfl⟩:=hget i r hr
       obtain ⟨cs',h5',h6,_⟩:=Classical.choose_spec (row i h)
       exact ⟨cs',fun c hc=>h5' c (by simpa using hc),h6⟩
      ·obtain ⟨i,hi⟩:=List.getElem?_of_mem (show r∈rows from hr)
       obtain ⟨h,rfl⟩:=hget i r hi
       obtain ⟨_,_,_,h7⟩:=Classical.choose_spec (row i h)
       exact h7
    ·cases h
   ·cases h
  ·rename_i fs hu
   split at h
   ·rename_i ks' hd
    split at h
    ·rename_i hb
     rw [beqN_iff] at hb
     simp only [Option.some.injEq] at h
     subst h
     obtain ⟨xs,m',rfl,_,hl,hxs,hf⟩:=DataW.trod_struct hu hx
     have:=holds_fields (w:=w) (cs:=cs) fs.toList 0 ks' hd (by rw [hl,hb];simp) (fun f hm ks1 hk1=>?_)
     ·simpa using this
     ·obtain ⟨i,hi,rfl⟩:=List.mem_iff_getElem.1 hm
      have hi':i < fs.size:=by simpa using hi
      have e1:=hf i fs[i] (by simp [hi'])
      rw [List.getElem?_eq_getElem (by omega)] at e1
      have e2:fs.toList[i]=fs[i]:=by simp
      rw [e2] at hk1 ⊢
      exact holds_of_trod n _ ks1 hk1 m' _ _ e1
    ·cases h
   ·cases h
  ·rename_i m0 e hu
   split at h
   ·rename_i ks' hd
    split at h
    ·rename_i hb
     simp only [Bool.and_eq_true,beqN_iff] at hb
     simp only [Option.some.injEq] at h
     subst h
     cases m with
     |zero=>simp [DataW.trod] at hx
     |succ m'=>
      obtain ⟨hl,hi⟩:=HB.trod_array hu hx
      refine holds_rep m0 (by rw [hl,hb.2]) fun i h=>?_
      obtain ⟨y,hy⟩:=hi i h
      rw [hb.1] at hy
      exact holds_of_trod n e ks' hd m' _ y hy
    ·cases h
   ·cases h
  ·cases h
def strOf (z:ByteArray):List Nat:=z.data.toList.map UInt8.toNat
def valOf:Value→Option V
 |.int k n=>some (.int k n)
 |.bool b=>some (.bool b)
 |.string z=>some (.str (strOf z))
 |.slice none 0 0=>some .nils
 |.slice (some a) n cap=>if n≤cap then some (.rslc a n cap) else none
 |_=>none
noncomputable def roOf (w:World) (a:Addr):Option V:=match w.cell? a with
 |some u=>valOf u
 |none=>none
theorem valOf_rv {u:Value} {v:V} (h:valOf u=some v):one1 v=true∧∀ρ n,Rv ρ n v u:=by
 unfold valOf at h
 split at h
 ·cases h;exact ⟨rfl,fun _ _=>by simp only [Rv]⟩
 ·cases h;exact ⟨rfl,fun _ _=>by simp only [Rv]⟩
 ·cases h
  rename_i z
  refine ⟨rfl,fun _ _=>?_⟩
  simp only [Rv]
  refine ⟨fun b hb=>?_,by rw [strOf,bytes_of]⟩
  obtain ⟨x,_,rfl⟩:=List.mem_map.1 (show b∈z.data.toList.map UInt8.toNat from hb)
  exact x.toNat_lt
 ·cases h;exact ⟨rfl,fun _ _=>by simp only [Rv]⟩
 ·split at h
  ·rename_i hle
   cases h
   exact ⟨rfl,fun _ _=>by simp only [Rv];exact ⟨hle,trivial⟩⟩
  ·cases h
 ·cases h
theorem roOf_ok (w:World):RoAt (roOf w) w:=by
 intro a v h
 unfold roOf at h
 split at h
 ·rename_i u hu
  obtain ⟨h1,h2⟩:=valOf_rv h
  exact ⟨h1,u,hu,fun ρ n=>h2 ρ n⟩
 ·cases h
theorem str_bytes {s:List Nat} (h:∀b∈s,b < 256):strOf (bytesOf s)=s:=by
 simp only [strOf,bytesOf,List.map_map]
 induction s with
 |nil=>rfl
 |cons b s ih=>
  have hb:=h b (.head _)
  simp only [List.map_cons,Function.comp_apply,UInt8.toNat_ofNat',List.cons.injEq]
  exact ⟨Nat.mod_eq_of_lt hb,ih fun x hx=>h x (.tail _ hx)⟩
mutual
theorem rdK_fz {g:Nat→Option O} {B:Nat}:∀(k:Kd) (d:D) (u:Value),RdK w k d u→RngK k d→∃v,valOf u=some v∧FzC (roOf w) g B k d v
 |.int k,d,u,h,_=>by
  simp only [RdK] at h
  obtain ⟨⟨n,rfl⟩,rfl⟩:=h
  exact ⟨_,rfl,by simp only [FzC];exact ⟨⟨_,rfl⟩,trivial⟩⟩
 |.bool,d,u,h,_=>by
  simp only [RdK] at h
  obtain ⟨⟨n,rfl⟩,rfl⟩:=h
  exact ⟨_,rfl,by simp only [FzC];exact ⟨⟨_,rfl⟩,trivial⟩⟩
 |.str,d,u,h,hr=>by
  simp only [RdK] at h
  obtain ⟨⟨n,rfl⟩,rfl⟩:=h
  simp only [RngK,D.str] at hr
  refine ⟨_,rfl,?_⟩
  simp only [FzC,D.str,str_bytes hr]
  exact ⟨⟨_,rfl⟩,trivial⟩
 |.sl ks,d,u,h,hr=>by
  simp only [RdK] at h
  obtain ⟨⟨rows,rfl,hl⟩,hpos,h⟩:=h
  simp only [RngK,D.rows] at hr h
  rcases h with ⟨rfl,rfl⟩ |⟨a,cap,rfl,hcap,hrow⟩
  ·exact ⟨.nils,rfl,by simp only [FzC];exact ⟨⟨_,rfl,hl⟩,.inl ⟨rfl,trivial⟩⟩⟩
  ·refine ⟨.rslc a rows.length cap,by simp only [valOf];rw [if_pos hcap],?_⟩
   simp only [FzC,D.rows]
   refine ⟨⟨_,rfl,hl⟩,.inr (.inr ⟨a,cap,rfl,hpos,hcap,fun i hi=>?_⟩)⟩
   obtain ⟨cs,c1,c2⟩:=hrow i rows[i] (List.getElem?_eq_getElem hi)
   have hg:=hr rows[i] (List.getElem_mem hi)
   refine FzR.of _ _ _ _ fun j k hk=>?_
   have hj:j < ks.length:=(List.getElem?_eq_some_iff.1 hk).1
   obtain ⟨v,e1,e2⟩:=rdL_fz (g:=g) (B:=B) ks rows[i] cs c2 hg j k hk
   refine ⟨v,?_,?_⟩
   ·simp only [roOf,Nat.zero_add,c1 j hj]
    revert e1
    cases cs[j]? with
    |none=>intro e1;cases e1
    |some u=>intro e1;exact e1
   ·have:gt rows i (0+j)=rows[i].getD j .nil:=by simp [gt,List.getD_eq_getElem?_getD,hi]
    rw [this];exact e2
theorem rdL_fz {g:Nat→Option O} {B:Nat}:∀(ks:List Kd) (l:List D) (cs:List Value),RdL w ks l cs→RngL ks l→∀j k,ks[j]?=some k→∃v,(cs[j]?).bind valOf=some v∧FzC (roOf w) g B k (l.getD j .nil) v
 |[],_,_,_,_,j,k,hk=>by simp at hk
 |k0 :: ks,d :: l,c :: cs,h,hr,0,k,hk=>by
  simp only [RdL] at h
  simp only [RngL] at hr
  simp only [List.getElem?_cons_zero,Option.some.injEq] at hk
  subst hk
  obtain ⟨v,a,b⟩:=rdK_fz (g:=g) (B:=B) k0 d c h.1 hr.1
  exact ⟨v,by simpa using a,by simpa using b⟩
 |k0 :: ks,d :: l,c :: cs,h,hr,j+1,k,hk=>by
  simp only [RdL] at h
  simp only [RngL] at hr
  obtain ⟨v,a,b⟩:=rdL_fz (g:=g) (B:=B) ks l cs h.2 hr.2 j k (by simpa using hk)
  exact ⟨v,by simpa using a,by simpa using b⟩
 |_ :: _,[],_,h,_,_,_,_=>by simp [RdL] at h
 |_ :: _,_ :: _,[],h,_,_,_,_=>by simp [RdL] at h
end
theorem rdL_vals {g:Nat→Option O} {B:Nat} {ρ:Nm} {n:Nat}:∀(ks:List Kd) (l:List D) (cs:List Value),RdL w ks l cs→RngL ks l→
  ∃x:List V,x.length=ks.length∧(∀j k,ks[j]?=some k→∃u,x[j]?=some u∧FzC (roOf w) g B k (l.getD j .nil) u)∧RvL ρ n x cs
 |[],[],[],_,_=>⟨[],rfl,fun j k h=>by simp at h,by simp [RvL]⟩
 |k :: ks,d :: l,c :: cs,h,hr=>by
  simp only [RdL] at h
  simp only [RngL] at hr
  obtain ⟨v,a,b⟩:=rdK_fz (g:=g) (B:=B) k d c h.1 hr.1
  obtain ⟨x,e1,e2,e3⟩:=rdL_vals (g:=g) (B:=B) (ρ:=ρ) (n:=n) ks l cs h.2 hr.2
  refine ⟨v :: x,by simp [e1],fun j k' hk=>?_,by simp only [RvL];exact ⟨(valOf_rv a).2 ρ n,e3⟩⟩
  cases j with
  |zero=>
   simp only [List.getElem?_cons_zero,Option.some.injEq] at hk
   subst hk
   exact ⟨v,rfl,by simpa using b⟩
  |succ j=>simpa using e2 j k' (by simpa using hk)
 |[],[],_ :: _,h,_=>by simp [RdL] at h
 |[],_ :: _,_,h,_=>by simp [RdL] at h
 |_ :: _,[],_,h,_=>by simp [RdL] at h
 |_ :: _,_ :: _,[],h,_=>by simp [RdL] at h
def descAll (P:Program) (n:Nat):List TypeId→Option (List (Bool×List Kd))
 |[]=>some []
 |t :: r=>match desc P n t,descAll P n r with
  |some ks,some l=>some ((HB.isAgg P t,ks) :: l)
  |_,_=>none
def RngAll:List (Bool×List Kd)→List (List D)→Prop
 |(_,ks) :: r,d :: ds=>RngL ks d∧RngAll r ds
 |_,_=>True
def trueRes (_:List (List D)) (_ _:Nat):D:=.b true
def ArgsRd (w:World):List (Bool×List Kd)→List (List D)→List Value→Prop
 |[],[],[]=>True
 |(g,ks) :: r,d :: ds,v :: vs=>(RdL w ks d v.cells.toList∧(g=true→v=.agg (v.cells.toList).toArray)∧(g=false→v.cells.toList=[v]))∧ArgsRd w r ds vs
 |_,_,_=>False
theorem args_fz {g:Nat→Option O} {B:Nat} {ρ:Nm} {n:Nat}:∀(ps:List (Bool×List Kd)) (ds:List (List D)) (vs:List Value),ArgsRd w ps ds vs→RngAll ps ds→∃x:List V,ArgsFz (roOf w) g B ps ds x∧RvL ρ n x vs
 |[],[],[],_,_=>⟨[],trivial,by simp [RvL]⟩
 |(a,ks) :: ps,d :: ds,v :: vs,h,hr=>by
  obtain ⟨⟨h1,h2,h3⟩,h4⟩:=h
  obtain ⟨x,e1,e2,e3⟩:=rdL_vals (g:=g) (B:=B) (ρ:=ρ) (n:=n) ks d _ h1 hr.1
  obtain ⟨xs,f1,f2⟩:=args_fz (g:=g) (B:=B) (ρ:=ρ) (n:=n) ps ds vs h4 hr.2
  cases a with
  |true=>exact ⟨.agg x :: xs,⟨h1.len.1,⟨x,e1,e2,rfl⟩,f1⟩,by simp only [RvL,Rv];exact ⟨⟨_,e3,h2 rfl⟩,f2⟩⟩
  |false=>
   rw [h3 rfl] at e3
   match x,e3 with
   |[y],e3=>
    simp only [RvL,and_true] at e3
    exact ⟨y :: xs,⟨h1.len.1,⟨[y],e1,e2,y,rfl,rfl⟩,f1⟩,by simp only [RvL];exact ⟨e3,f2⟩⟩
   |[],e3=>simp [RvL] at e3
   |_ :: _ :: _,e3=>simp [RvL] at e3
 |[],[],_ :: _,h,_=>h.elim
 |[],_ :: _,_,h,_=>h.elim
 |_ :: _,[],_,h,_=>h.elim
 |_ :: _,_ :: _,[],h,_=>h.elim
theorem shape_of {r:Reach} {n:Nat} {t:TypeId} {ks:List Kd} {v:Value} (hd:desc P n t=some ks) (h:Value.okWide P w r base t v) :
  (HB.isAgg P t=true→v=.agg (v.cells.toList).toArray)∧(HB.isAgg P t=false→v.cells.toList=[v]):=by
 cases n with
 |zero=>simp [desc] at hd
 |succ n=>
  unfold desc at hd
  unfold HB.isAgg
  split at hd
  ·rename_i hu
   obtain ⟨b,rfl⟩:=okWide_bool hu h
   rw [hu]
   exact ⟨fun h=>(by cases h),fun _=>rfl⟩
  ·rename_i k hu
   obtain ⟨z,rfl⟩:=okWide_int hu h
   rw [hu]
   exact ⟨fun h=>(by cases h),fun _=>rfl⟩
  ·rename_i hu
   obtain ⟨z,rfl⟩:=okWide_string hu h
   rw [hu]
   exact ⟨fun h=>(by cases h),fun _=>rfl⟩
  ·rename_i e hu
   obtain ⟨a,l,c,rfl⟩:=okWide_slice hu h
   rw [hu]
   exact ⟨fun h=>(by cases h),fun _=>rfl⟩
  ·rename_i fs hu
   obtain ⟨cs,rfl,_⟩:=okWide_struct hu h
   rw [hu]
   exact ⟨fun _=>by simp [Value.cells],fun h=>by cases h⟩
  ·rename_i m e hu
   have:∃cs,v=.agg cs:=by
    unfold Value.okWide at h
    rw [hu] at h
    obtain ⟨cs,hc,_⟩:=h
    exact ⟨cs,hc⟩
   obtain ⟨cs,rfl⟩:=this
   rw [hu]
   exact ⟨fun _=>by simp [Value.cells],fun h=>by cases h⟩
  ·cases hd
theorem args_read {r:Reach} {n:Nat}:∀(ts:List TypeId) (params:List (Bool×List Kd)) (vs:List Value) (ds:List (DataW H)) (ps:List MemPlace),descAll P n ts=some params→
  (∀(j:Nat) t v,ts[j]?=some t→vs[j]?=some v→Value.okWide P w r base t v)→DataW.TrodAll enc P w 0 spare held ts vs ds ps→
  ∃dss,ArgsRd w params dss vs∧RngAll params dss
 |[],params,vs,ds,ps,hd,_,h=>by
  simp only [descAll,Option.some.injEq] at hd
  subst hd
  obtain ⟨rfl,_,_⟩:=trodAll_nil h
  exact ⟨[],trivial,trivial⟩
 |t :: ts,params,vs,ds,ps,hd,hok,h=>by
  unfold descAll at hd
  split at hd
  ·rename_i ks l hks hl
   simp only [Option.some.injEq] at hd
   subst hd
   cases vs with
   |nil=>simp [DataW.TrodAll] at h
   |cons v vs=>
    cases ds with
    |nil=>simp [DataW.TrodAll] at h
    |cons d ds=>
     obtain ⟨p,q,⟨m,hm⟩,h2,_⟩:=h
     obtain ⟨f,g1,g2⟩:=holds_of_trod n t ks hks m _ _ hm
     obtain ⟨dss,i1,i2⟩:=args_read ts l vs ds q hl (fun j t' v' ht hv=>hok (j+1) t' v' (by simpa using ht) (by simpa using hv)) h2
     obtain ⟨s1,s2⟩:=shape_of hks (hok 0 t v (by simp) (by simp))
     exact ⟨f :: dss,⟨⟨g1,s1,s2⟩,i1⟩,g2,i2⟩
  ·cases hd
end
section
variable {H:Type} {enc:TypeId×Value→H} {P:Program}
theorem said {fnum:FuncId} {f:Func} {s:ChangeSpec} {fresh handsOn again:Bool} {n:Nat} {params:List (Bool×List Kd)} {tb:TypeId}
  (hE:∀ro,CX.EnvOk (cxE ro) P) (hpure:∀ro,PureC0 (cxE ro) fnum ⟨params,[(false,[.bool])],false⟩ (RngAll params) trueRes) (hd:descAll P n f.params.toList=some params) (hl:laidOutB P=true)
  (hr:(f.params.toList.all fun t=>P.readableRec t && decide (t < P.types.size))=true) (hres:f.resultTypes=#[tb]) (hb:P.underlying tb=some .bool)
  (hs:∀ds:List (DataW H),ds.length=f.params.toList.length→s.fn H ds=⟨[.lit (.bool true)],ds,[]⟩) (hv:s.vars=[]) {apart:Bool} (W:World) (base:Nat) (args:Array Value) (ds gs:List (DataW H)) (before:List MemPlace)
  (hval:∀(j:Nat) t v,f.params[j]?=some t→args[j]?=some v→Value.okWide P W .any base t v) (hW:DataW.Whole enc P f.params.toList s.vars apart W args.toList ds gs before) :
  Calls P fnum args W fun e W'=>∃v,e=.returned v∧s.post enc P f apart fresh handsOn again W args v W':=by
 have hW':=hW
 obtain ⟨p,q,hA,hV,rfl,_,_⟩:=hW
 rw [hv] at hV
 obtain ⟨rfl,rfl⟩:=trodVars_none hV
 obtain ⟨dss,h1,h2⟩:=args_read (r:=.any) (base:=base) f.params.toList params args.toList ds p hd (fun j t v ht hv=>hval j t v (by simpa using ht) (by simpa using hv)) hA
 have hlen:=(trodAll_length hA).2
 have hfn:s.fn H (ds++[])=⟨[.lit (.bool true)],ds,[]⟩:=by rw [List.append_nil];exact hs ds hlen
 obtain ⟨xs,x1,x2⟩:=args_fz (g:=fun _=>none) (B:=0) (ρ:=fun _=>none) (n:=0) params dss args.toList h1 h2
 obtain ⟨vs,h',nx',g',⟨n0,hrun⟩,hresF⟩:=hpure (roOf W) dss h2 xs x1
 have hvs:vs=[.bool true]:=by
  match vs,hresF with
  |[v],hresF=>
   obtain ⟨⟨x,_,e2,u,rfl,rfl⟩,_⟩:=hresF
   obtain ⟨u,e3,e4⟩:=e2 0 .bool rfl
   simp only [List.getElem?_cons_zero,Option.some.injEq] at e3
   subst e3
   simp only [FzC] at e4
   rw [e4.2];rfl
  |[],hresF=>simp [ResFz] at hresF
  |_ :: _ :: _,hresF=>simp [ResFz] at hresF
 subst hvs
 have hcall:=call_ro (hE (roOf W)) (w:=W) (roOf_ok W) x2 (hrun n0 (Nat.le_refl _) retV)
 rw [show args.toList.toArray=args by simp] at hcall
 refine hcall.mono fun e W' h=>?_
 obtain ⟨u,ρ,m,rfl,hu,hk⟩:=h
 simp only [CX.one,Rv] at hu
 subst hu
 have hlt:=hW'.lt
 simp only [List.append_nil] at hW' hlt
 refine ⟨_,rfl,CX.post_kept (pa:=p) (pv:=[]) hW' (fun b sp hd=>?_) (fun sp hsp=>?_) (fun sp _=>?_) (by simp) hk (ok_one hres rfl (okWide_bool_mk hb _))⟩
 ·rw [hfn,hres]
  exact trodAll_mk1 (shut_bool hb _)
 ·rw [hfn]
  exact HB.args_stay hl hr hA (fun x hx=>HB.Kept_same hk (hlt x hx)) (fun x hx=>hsp x hx)
 ·rw [hfn,hv]
  rfl
end
end HX

namespace HX
open Go Go.Proofs
theorem own:ownKnob Try.prog.godebug=none:=by kernel_rfl
theorem laid:laidOutB Try.prog=true:=by kernel_rfl
end HX

namespace HX
open Go Go.Proofs CX
inductive Ctrs (E:CX.Env):List Ctr→Prop
 |nil:Ctrs E []
 |cons {c:Ctr} {l:List Ctr} (h:PureC E c.f c.sg c.pre c.res) (r:Ctrs E l):Ctrs E (c :: l)
theorem Ctrs.find {E:CX.Env}:∀{l:List Ctr},Ctrs E l→∀{f:Nat} {sg:Sig},sigL (sigs l) f=some sg→PureC E f sg (preOf l f) (resOf l f)
 |[],_,f,sg,h=>by simp [sigL,sigs,look] at h
 |c :: l,.cons h1 h2,f,sg,h=>by
  simp only [sigL,sigs,List.map_cons] at h
  rw [look_cons] at h
  split at h
  ·rename_i e
   simp only [Option.some.injEq] at h
   subst e h
   have e1:preOf (c :: l) c.f=c.pre:=by funext ds;simp [preOf,ctrOf]
   have e2:resOf (c :: l) c.f=c.res:=by funext ds;simp [resOf,ctrOf]
   rw [e1,e2];exact h1
  ·rename_i e
   have e1:preOf (c :: l) f=preOf l f:=by funext ds;simp [preOf,ctrOf,e]
   have e2:resOf (c :: l) f=resOf l f:=by funext ds;simp [resOf,ctrOf,e]
   rw [e1,e2]
   exact h2.find h
theorem envL {ro:Addr→Option V} {l:List Ctr} (h:Ctrs (cxE ro) l):EnvOk ⟨Ar.std,cxE ro,ksF,sigL (sigs l),preOf l,resOf l⟩:=hxEnv fun _ _ hs=>h.find hs
end HX

namespace HX
open Go Go.Proofs CX
theorem wrap64 {n:Int} (h1:-9223372036854775808≤n) (h2:n≤9223372036854775807):IntKind.wrap .i64 n=n:=by
 simp [IntKind.wrap,IntKind.bits,IntKind.signed];omega
theorem shr_eq {v k:Int} (hk:0≤k) (h2:k≤64):Ar.std.shr .i64 v k=v / 2 ^ k.toNat:=by
 show v.fdiv (2 ^ (Nat.min k.toNat 64))=_
 rw [show Nat.min k.toNat 64=k.toNat from Nat.min_eq_left (by omega),Int.fdiv_eq_ediv_of_nonneg _ (Int.le_of_lt (Int.pow_pos (by omega)))]
theorem shr_bd {v k:Int} (hv:0≤v) (hk:0≤k) (h2:k≤64):0≤Ar.std.shr .i64 v k∧Ar.std.shr .i64 v k≤v:=by
 rw [shr_eq hk h2]
 exact ⟨Int.ediv_nonneg hv (Int.le_of_lt (Int.pow_pos (by omega))),Int.ediv_le_self _ hv⟩
theorem pow_le (m:Nat) (h:m≤24):(1:Int)≤2 ^ m∧(2:Int) ^ m≤16777216:=by
 have h0:(0:Int) < 2 ^ m:=Int.pow_pos (by omega)
 refine ⟨by omega,?_⟩
 have:(2:Nat) ^ m≤2 ^ 24:=Nat.pow_le_pow_right (by omega) h
 have:(2:Int) ^ m=((2 ^ m:Nat):Int):=by rw [Int.natCast_pow];rfl
 omega
theorem shl_one {k:Int} (h1:0≤k) (h2:k≤24):Ar.std.shl .i64 1 k=2 ^ k.toNat:=by
 show IntKind.wrap .i64 (1 * 2 ^ (Nat.min k.toNat 64))=_
 rw [show Nat.min k.toNat 64=k.toNat from Nat.min_eq_left (by omega),Int.one_mul]
 have:=pow_le k.toNat (by omega)
 exact wrap64 (by omega) (by omega)
noncomputable def lowG (a n:Int):Nat→Nat
 |0=>24
 |f+1=>if Ar.std.shl .i64 n ((23 - f:Nat):Int) < a then lowG a n f else 23 - f
noncomputable def lowK (m:Int×Int):Nat:=lowG m.1 m.2 24
theorem lowG_le (a n:Int):∀f,lowG a n f≤24
 |0=>Nat.le_refl _
 |f+1=>by
  rw [lowG]
  split
  ·exact lowG_le a n f
  ·omega
theorem lowK_le (m:Int×Int):lowK m≤24:=lowG_le _ _ _
def lrn (m:Int×Int) (v:Int):Int×Int:=if m.2+1=64 then (Int.tdiv (m.1+v) 2,Int.tdiv (m.2+1) 2) else (m.1+v,m.2+1)
structure MOk (m:Int×Int):Prop where
 a0:0≤m.1
 a1:m.1≤8589934592 * m.2
 n0:1≤m.2
 n1:m.2≤63
theorem MOk.lrn {m:Int×Int} (h:MOk m) {v:Int} (h0:0≤v) (h1:v≤8589934592):MOk (lrn m v):=by
 have:=h.a0;have:=h.a1;have:=h.n0;have:=h.n1
 unfold HX.lrn
 split
 ·refine ⟨?_,?_,?_,?_⟩<;>simp only []<;>(try rw [Int.tdiv_eq_ediv_of_nonneg (by omega)])<;>(try rw [Int.tdiv_eq_ediv_of_nonneg (by omega)])<;>omega
 ·refine ⟨?_,?_,?_,?_⟩<;>simp only []<;>omega
noncomputable def bitB (v k:Int):Int:=Ar.std.wrap .u8 (Ar.std.bit .and .i64 (Ar.std.shr .i64 v k) 1)
noncomputable def orL (o:Rows) (b sh:Int):Rows:=List.set o (Int.toNat ((o.length:Int) - 1)) [D.i (Ar.std.bit .or .u8 (D.int (gt o (Int.toNat ((o.length:Int) - 1)) 0)) (Ar.std.shl .u8 b sh))]
noncomputable def put1 (s:Rows×Int) (v k:Int):Rows×Int:=if s.2=0 then (orL (s.1++[[D.i 0]]) (bitB v k) (8 - 1),8 - 1) else (orL s.1 (bitB v k) (s.2 - 1),s.2 - 1)
noncomputable def putN (v:Int):Nat→Rows×Int→Rows×Int
 |0,s=>s
 |n+1,s=>putN v n (put1 s v n)
noncomputable def wrS (m:Int×Int) (v:Int) (s:Rows×Int):Rows×Int:=
 if Ar.std.shr .i64 v (lowK m:Int) < 24 then putN v (lowK m) (putN (Ar.std.shl .i64 1 (Ar.std.shr .i64 v (lowK m:Int)+1) - 2) (Ar.std.shr .i64 v (lowK m:Int)+1).toNat s)
 else putN v 31 (putN 16777215 24 s)
structure Wf (s:Rows×Int):Prop where
 pos:0 < s.1.length
 r0:0≤s.2
 r7:s.2≤7
def bitsN (s:Rows×Int):Int:=8 * s.1.length - s.2
theorem orL_len (o:Rows) (b sh:Int):(orL o b sh).length=o.length:=by simp [orL]
theorem put1_wf {s:Rows×Int} (h:Wf s) (v k:Int):Wf (put1 s v k)∧bitsN (put1 s v k)=bitsN s+1:=by
 obtain ⟨h1,h2,h3⟩:=h
 unfold put1 bitsN
 split
 ·refine ⟨⟨?_,?_,?_⟩,?_⟩<;>simp only [orL_len,List.length_append,List.length_cons,List.length_nil]<;>omega
 ·refine ⟨⟨?_,?_,?_⟩,?_⟩<;>simp only [orL_len]<;>omega
theorem putN_wf (v:Int):∀(n:Nat) {s:Rows×Int},Wf s→Wf (putN v n s)∧bitsN (putN v n s)=bitsN s+n
 |0,s,h=>⟨h,by simp [putN]⟩
 |n+1,s,h=>by
  obtain ⟨a,b⟩:=put1_wf h v n
  obtain ⟨c,d⟩:=putN_wf v n a
  exact ⟨c,by rw [putN,d,b];omega⟩
def eT (l:Rows) (i:Nat):Int:=(gt l i 0).int
def eI (l:Rows) (i:Nat):Int:=(gt l i 1).int
structure EvOk' (l:Rows):Prop where
 rt:∀i,i < l.length→0≤eT l i∧eT l i≤1073741824
 ri:∀i,i < l.length→0≤eI l i∧eI l i≤65535
 up:∀i,i+1 < l.length→eT l i < eT l (i+1)∨(eT l i=eT l (i+1)∧eI l i < eI l (i+1))
end HX

namespace HX
open Go Go.Proofs CX
theorem wrapU8 {n:Int} (h1:0≤n) (h2:n≤255):IntKind.wrap .u8 n=n:=by
 simp [IntKind.wrap,IntKind.bits,IntKind.signed];omega
theorem toNat_ofInt {n:Nat} {x:Int} (h1:0≤x) (h2:x < 2 ^ n):(BitVec.ofInt n x).toNat=x.toNat:=by
 rw [BitVec.toNat_ofInt,Int.emod_eq_of_lt h1 (by simpa using h2)]
theorem and1_i64 {x:Int} (h1:0≤x) (h2:x≤9223372036854775807):Ar.std.bit .and .i64 x 1=x % 2:=by
 show IntKind.wrap .i64 ((BitVec.ofInt 64 x &&& BitVec.ofInt 64 1).toNat:Int)=_
 have e:(BitVec.ofInt 64 x &&& BitVec.ofInt 64 1).toNat=x.toNat % 2:=by
  rw [BitVec.toNat_and,toNat_ofInt h1 (by omega),toNat_ofInt (by omega) (by decide),show (1:Int).toNat=1 from rfl,Nat.and_one_is_mod]
 rw [e,wrap64 (by omega) (by omega)]
 omega
theorem and1_u8 {x:Int} (h1:0≤x) (h2:x≤255):Ar.std.bit .and .u8 x 1=x % 2:=by
 show IntKind.wrap .u8 ((BitVec.ofInt 8 x &&& BitVec.ofInt 8 1).toNat:Int)=_
 have e:(BitVec.ofInt 8 x &&& BitVec.ofInt 8 1).toNat=x.toNat % 2:=by
  rw [BitVec.toNat_and,toNat_ofInt h1 (by omega),toNat_ofInt (by omega) (by decide),show (1:Int).toNat=1 from rfl,Nat.and_one_is_mod]
 rw [e,wrapU8 (by omega) (by omega)]
 omega
theorem or_add {a b i:Nat} (h:b < 2 ^ i):(a * 2 ^ i) ||| b=a * 2 ^ i+b:=by
 rw [←Nat.shiftLeft_eq,Nat.shiftLeft_add_eq_or_of_lt h]
theorem or_u8 {a b:Int} {s:Nat} (hs:s≤7) (h1:0≤a) (h2:a≤255) (h3:a % 2 ^ (s+1)=0) (b0:0≤b) (b1:b≤1):Ar.std.bit .or .u8 a (Ar.std.shl .u8 b s)=a+b * 2 ^ s:=by
 have hp:(2:Nat) ^ s≤128:=Nat.pow_le_pow_right (by omega:0 < 2) hs
 have hpi:(2:Int) ^ s=((2 ^ s:Nat):Int):=by rw [Int.natCast_pow];rfl
 have hpi1:(2:Int) ^ (s+1)=((2 ^ (s+1):Nat):Int):=by rw [Int.natCast_pow];rfl
 have hbs:0≤b * 2 ^ s∧b * 2 ^ s≤128:=by
  rcases (show b=0∨b=1 by omega) with rfl |rfl<;>rw [hpi]<;>omega
 have e0:Ar.std.shl .u8 b s=b * 2 ^ s:=by
  show IntKind.wrap .u8 (b * 2 ^ (Nat.min (s:Int).toNat 8))=_
  rw [show Nat.min (s:Int).toNat 8=s from Nat.min_eq_left (by omega),wrapU8 (by omega) (by omega)]
 rw [e0]
 show IntKind.wrap .u8 ((BitVec.ofInt 8 a ||| BitVec.ofInt 8 (b * 2 ^ s)).toNat:Int)=_
 obtain ⟨m,hm⟩:∃m:Nat,a.toNat=m * 2 ^ (s+1):=by
  refine ⟨a.toNat / 2 ^ (s+1),?_⟩
  have:a.toNat % 2 ^ (s+1)=0:=by
   rw [hpi1,show a=((a.toNat:Nat):Int) by omega] at h3
   exact_mod_cast h3
  have:=Nat.div_add_mod a.toNat (2 ^ (s+1))
  rw [Nat.mul_comm];omega
 have hb:(b * 2 ^ s).toNat < 2 ^ (s+1):=by
  rw [Nat.pow_succ]
  rcases (show b=0∨b=1 by omega) with rfl |rfl<;>rw [hpi]<;>omega
 have hsum:a+b * 2 ^ s≤255:=by
  -- a is a multiple of 2^(s+1) below 256
  have h8:∃n:Nat,256=n * 2 ^ (s+1):=⟨2 ^ (7 - s),by rw [←Nat.pow_add,show 7 - s+(s+1)=8 by omega]⟩
  obtain ⟨n,hn⟩:=h8
  have hlt:m < n:=by
   refine Nat.lt_of_mul_lt_mul_right (a:=2 ^ (s+1)) ?_
   omega
  have:(m+1) * 2 ^ (s+1)≤n * 2 ^ (s+1):=Nat.mul_le_mul_right _ hlt
  rw [Nat.add_mul] at this
  omega
 have e:(BitVec.ofInt 8 a ||| BitVec.ofInt 8 (b * 2 ^ s)).toNat=(a+b * 2 ^ s).toNat:=by
  rw [BitVec.toNat_or,toNat_ofInt h1 (by omega),toNat_ofInt hbs.1 (by omega),hm,or_add hb]
  omega
 rw [e,wrapU8 (by omega) (by omega)]
 omega
theorem shr_u8 {x:Int} {s:Nat} (hs:s≤7):Ar.std.shr .u8 x s=x / 2 ^ s:=by
 show x.fdiv (2 ^ (Nat.min (s:Int).toNat 8))=_
 rw [show Nat.min (s:Int).toNat 8=s from Nat.min_eq_left (by omega),Int.fdiv_eq_ediv_of_nonneg _ (Int.le_of_lt (Int.pow_pos (by omega)))]
theorem bitB_eq {v k:Int} (hv:0≤v) (hv2:v≤9223372036854775807) (hk:0≤k) (h2:k≤64):bitB v k=v / 2 ^ k.toNat % 2:=by
 have:=shr_bd (v:=v) hv hk h2
 rw [bitB,and1_i64 this.1 (by omega),shr_eq hk h2]
 exact wrapU8 (by omega) (by omega)
def bAt (l:Rows) (p:Nat):Int:=(gt l (p / 8) 0).int / 2 ^ (7 - p % 8) % 2
theorem bAt_rng (l:Rows) (p:Nat):0≤bAt l p∧bAt l p≤1:=by unfold bAt;omega
end HX

namespace HX
open Go Go.Proofs CX
end HX

namespace HX
open Go Go.Proofs CX
end HX

namespace HX
open Go Go.Proofs CX
structure LI (v:Int) (N:Nat) (s0:Rows×Int) (k:Int) (s:Rows×Int):Prop where
 lo:-1≤k
 hi:k+1≤N
 wf:Wf s
 bits:bitsN s+(k+1)=bitsN s0+N
 to:putN v (k+1).toNat s=putN v N s0
theorem LI.start {v:Int} {N:Nat} {s0:Rows×Int} (h:Wf s0) {k:Int} (e:k+1=N):LI v N s0 k s0:=
 ⟨by omega,by omega,h,by omega,by rw [show (k+1).toNat=N by omega]⟩
theorem LI.step {v:Int} {N:Nat} {s0:Rows×Int} {k:Int} {s:Rows×Int} (h:LI v N s0 k s) (hk:0≤k):LI v N s0 (k - 1) (put1 s v k):=by
 obtain ⟨h1,h2,h3,h4,h5⟩:=h
 obtain ⟨a,b⟩:=put1_wf h3 v k
 refine ⟨by omega,by omega,a,by omega,?_⟩
 rw [←h5,show (k+1).toNat=(k - 1+1).toNat+1 by omega,putN,show (((k - 1+1).toNat:Nat):Int)=k by omega]
theorem LI.stop {v:Int} {N:Nat} {s0:Rows×Int} {k:Int} {s:Rows×Int} (h:LI v N s0 k s) (hk:¬0≤k):s=putN v N s0:=by
 have:=h.lo
 rw [←h.to,show (k+1).toNat=0 by omega,putN]
theorem put1_0 {o:Rows} {r v k:Int} (h:r=0):put1 (o,r) v k=(orL (o++[[D.i 0]]) (bitB v k) (8 - 1),8 - 1):=if_pos h
theorem put1_1 {o:Rows} {r v k:Int} (h:¬r=0):put1 (o,r) v k=(orL o (bitB v k) (r - 1),r - 1):=if_neg h
end HX

namespace HX
open Go Go.Proofs CX
end HX

namespace HX
open Go Go.Proofs CX
end HX

namespace HX
open Go Go.Proofs CX
end HX

namespace HX
open Go Go.Proofs CX
structure V17 (a0:Rows) (a1:Rows) (R:Nat→Nat→D) (I0:Bool→Int→Prop) (m0:Bool→Int→Nat):Prop where
 g0:(¬(a0.length:Int)=(a1.length:Int))→R 0 0=D.b false
 i0:((a0.length:Int)=(a1.length:Int))→I0 false 0
 g2:∀x0_0 x0_1,I0 x0_0 x0_1→((a0.length:Int)=(a1.length:Int))→(x0_1 < (a0.length:Int))→0≤x0_1
 g3:∀x0_0 x0_1,I0 x0_0 x0_1→((a0.length:Int)=(a1.length:Int))→(x0_1 < (a0.length:Int))→x0_1 < (a0.length:Int)
 g4:∀x0_0 x0_1,I0 x0_0 x0_1→((a0.length:Int)=(a1.length:Int))→(x0_1 < (a0.length:Int))→(((Int.toNat x0_1:Nat):Int)) < (a0.length:Int)
 g6:∀x0_0 x0_1,I0 x0_0 x0_1→((a0.length:Int)=(a1.length:Int))→(x0_1 < (a0.length:Int))→x0_1 < (a1.length:Int)
 g7:∀x0_0 x0_1,I0 x0_0 x0_1→((a0.length:Int)=(a1.length:Int))→(x0_1 < (a0.length:Int))→(((Int.toNat x0_1:Nat):Int)) < (a1.length:Int)
 g8:∀x0_0 x0_1,I0 x0_0 x0_1→((a0.length:Int)=(a1.length:Int))→(x0_1 < (a0.length:Int))→((¬(D.int (gt a0 x0_1.toNat 0))=(D.int (gt a1 x0_1.toNat 0)))∨(¬(D.int (gt a0 x0_1.toNat 1))=(D.int (gt a1 x0_1.toNat 1))))→R 0 0=D.b false
 g9:∀x0_0 x0_1,I0 x0_0 x0_1→((a0.length:Int)=(a1.length:Int))→(x0_1 < (a0.length:Int))→((D.int (gt a0 x0_1.toNat 0))=(D.int (gt a1 x0_1.toNat 0))∧(D.int (gt a0 x0_1.toNat 1))=(D.int (gt a1 x0_1.toNat 1)))→-9223372036854775808≤(x0_1+1)∧(x0_1+1)≤9223372036854775807
 n10:∀x0_0 x0_1,I0 x0_0 x0_1→((a0.length:Int)=(a1.length:Int))→(x0_1 < (a0.length:Int))→((D.int (gt a0 x0_1.toNat 0))=(D.int (gt a1 x0_1.toNat 0))∧(D.int (gt a0 x0_1.toNat 1))=(D.int (gt a1 x0_1.toNat 1)))→I0 x0_0 (x0_1+1)∧m0 x0_0 (x0_1+1) < m0 x0_0 x0_1
 g11:∀x0_0 x0_1,I0 x0_0 x0_1→((a0.length:Int)=(a1.length:Int))→(¬x0_1 < (a0.length:Int))→R 0 0=D.b true
end HX

namespace HX
open Go Go.Proofs CX
structure V50 (a0:Int) (a1:Int) (a2:Int) (R:Nat→Nat→D)  : Prop where
 g0:(a1≤a0)→R 0 0=D.b (decide (a0≤a2))
 g1:(¬a1≤a0)→R 0 0=D.b false
end HX

namespace HX
open Go Go.Proofs CX
structure V100 (a0:Int) (a1:Int) (R:Nat→Nat→D)  : Prop where
 g0:(¬a0=a0)→(¬a1=a1)→R 0 0=D.i 0
 g1:(¬a0=a0)→(a1=a1)→R 0 0=D.i (-1)
 g2:(a0=a0)→(¬a1=a1)→R 0 0=D.i 1
 g3:(a0=a0)→(a1=a1)→(a0 < a1)→R 0 0=D.i (-1)
 g4:(a0=a0)→(a1=a1)→(¬a0 < a1)→(a1 < a0)→R 0 0=D.i 1
 g5:(a0=a0)→(a1=a1)→(¬a0 < a1)→(¬a1 < a0)→R 0 0=D.i 0
end HX

namespace HX
open Go Go.Proofs CX
structure V76 (pre:Nat→List (List D)→Prop) (fn:Nat→List (List D)→Nat→Nat→D) (a0_0:Int) (a0_1:Int) (a1_0:Int) (a1_1:Int) (R:Nat→Nat→D) (I0:Int→Int→Prop) (m0:Int→Int→Nat):Prop where
 g0:pre 100 [[D.i a0_0],[D.i a1_0]]
 g1:pre 100 [[D.i a0_1],[D.i a1_1]]
 i0:I0 0 0
 g3:∀x0_0 x0_1,I0 x0_0 x0_1→(x0_1 < (([[D.i (D.int (fn 100 [[D.i a0_0],[D.i a1_0]] 0 0))],[D.i (D.int (fn 100 [[D.i a0_1],[D.i a1_1]] 0 0))]]).length:Int))→0≤x0_1
 g4:∀x0_0 x0_1,I0 x0_0 x0_1→(x0_1 < (([[D.i (D.int (fn 100 [[D.i a0_0],[D.i a1_0]] 0 0))],[D.i (D.int (fn 100 [[D.i a0_1],[D.i a1_1]] 0 0))]]).length:Int))→x0_1 < (([[D.i (D.int (fn 100 [[D.i a0_0],[D.i a1_0]] 0 0))],[D.i (D.int (fn 100 [[D.i a0_1],[D.i a1_1]] 0 0))]]).length:Int)
 g5:∀x0_0 x0_1,I0 x0_0 x0_1→(x0_1 < (([[D.i (D.int (fn 100 [[D.i a0_0],[D.i a1_0]] 0 0))],[D.i (D.int (fn 100 [[D.i a0_1],[D.i a1_1]] 0 0))]]).length:Int))→(((Int.toNat x0_1:Nat):Int)) < (([[D.i (D.int (fn 100 [[D.i a0_0],[D.i a1_0]] 0 0))],[D.i (D.int (fn 100 [[D.i a0_1],[D.i a1_1]] 0 0))]]).length:Int)
 g6:∀x0_0 x0_1,I0 x0_0 x0_1→(x0_1 < (([[D.i (D.int (fn 100 [[D.i a0_0],[D.i a1_0]] 0 0))],[D.i (D.int (fn 100 [[D.i a0_1],[D.i a1_1]] 0 0))]]).length:Int))→(¬(D.int (gt [[D.i (D.int (fn 100 [[D.i a0_0],[D.i a1_0]] 0 0))],[D.i (D.int (fn 100 [[D.i a0_1],[D.i a1_1]] 0 0))]] x0_1.toNat 0))=0)→R 0 0=D.i (D.int (gt [[D.i (D.int (fn 100 [[D.i a0_0],[D.i a1_0]] 0 0))],[D.i (D.int (fn 100 [[D.i a0_1],[D.i a1_1]] 0 0))]] x0_1.toNat 0))
 g7:∀x0_0 x0_1,I0 x0_0 x0_1→(x0_1 < (([[D.i (D.int (fn 100 [[D.i a0_0],[D.i a1_0]] 0 0))],[D.i (D.int (fn 100 [[D.i a0_1],[D.i a1_1]] 0 0))]]).length:Int))→((D.int (gt [[D.i (D.int (fn 100 [[D.i a0_0],[D.i a1_0]] 0 0))],[D.i (D.int (fn 100 [[D.i a0_1],[D.i a1_1]] 0 0))]] x0_1.toNat 0))=0)→-9223372036854775808≤(x0_1+1)∧(x0_1+1)≤9223372036854775807
 n8:∀x0_0 x0_1,I0 x0_0 x0_1→(x0_1 < (([[D.i (D.int (fn 100 [[D.i a0_0],[D.i a1_0]] 0 0))],[D.i (D.int (fn 100 [[D.i a0_1],[D.i a1_1]] 0 0))]]).length:Int))→((D.int (gt [[D.i (D.int (fn 100 [[D.i a0_0],[D.i a1_0]] 0 0))],[D.i (D.int (fn 100 [[D.i a0_1],[D.i a1_1]] 0 0))]] x0_1.toNat 0))=0)→I0 x0_0 (x0_1+1)∧m0 x0_0 (x0_1+1) < m0 x0_0 x0_1
 g9:∀x0_0 x0_1,I0 x0_0 x0_1→(¬x0_1 < (([[D.i (D.int (fn 100 [[D.i a0_0],[D.i a1_0]] 0 0))],[D.i (D.int (fn 100 [[D.i a0_1],[D.i a1_1]] 0 0))]]).length:Int))→R 0 0=D.i 0
end HX

namespace HX
open Go Go.Proofs CX
structure V71 (pre:Nat→List (List D)→Prop) (fn:Nat→List (List D)→Nat→Nat→D) (a0:Rows) (a1_0:Int) (a1_1:Int) (R:Nat→Nat→D)  : Prop where
 g0:pre 50 [[D.i a1_0],[D.i 0],[D.i 1073741824]]
 g1:(D.boo (fn 50 [[D.i a1_0],[D.i 0],[D.i 1073741824]] 0 0)=false)→R 0 0=D.i 3
 g2:(D.boo (fn 50 [[D.i a1_0],[D.i 0],[D.i 1073741824]] 0 0)=true)→pre 50 [[D.i a1_1],[D.i 0],[D.i 65535]]
 g3:(D.boo (fn 50 [[D.i a1_0],[D.i 0],[D.i 1073741824]] 0 0)=true)→(D.boo (fn 50 [[D.i a1_1],[D.i 0],[D.i 65535]] 0 0)=false)→R 0 0=D.i 3
 g4:(D.boo (fn 50 [[D.i a1_0],[D.i 0],[D.i 1073741824]] 0 0)=true)→(D.boo (fn 50 [[D.i a1_1],[D.i 0],[D.i 65535]] 0 0)=true)→(0 < (a0.length:Int))→-9223372036854775808≤((a0.length:Int) - 1)∧((a0.length:Int) - 1)≤9223372036854775807
 g5:(D.boo (fn 50 [[D.i a1_0],[D.i 0],[D.i 1073741824]] 0 0)=true)→(D.boo (fn 50 [[D.i a1_1],[D.i 0],[D.i 65535]] 0 0)=true)→(0 < (a0.length:Int))→0≤((a0.length:Int) - 1)
 g6:(D.boo (fn 50 [[D.i a1_0],[D.i 0],[D.i 1073741824]] 0 0)=true)→(D.boo (fn 50 [[D.i a1_1],[D.i 0],[D.i 65535]] 0 0)=true)→(0 < (a0.length:Int))→((a0.length:Int) - 1) < (a0.length:Int)
 g7:(D.boo (fn 50 [[D.i a1_0],[D.i 0],[D.i 1073741824]] 0 0)=true)→(D.boo (fn 50 [[D.i a1_1],[D.i 0],[D.i 65535]] 0 0)=true)→(0 < (a0.length:Int))→(((Int.toNat ((a0.length:Int) - 1):Nat):Int)) < (a0.length:Int)
 g8:(D.boo (fn 50 [[D.i a1_0],[D.i 0],[D.i 1073741824]] 0 0)=true)→(D.boo (fn 50 [[D.i a1_1],[D.i 0],[D.i 65535]] 0 0)=true)→(0 < (a0.length:Int))→pre 76 [[D.i (D.int (gt a0 (Int.toNat ((a0.length:Int) - 1)) 0)),D.i (D.int (gt a0 (Int.toNat ((a0.length:Int) - 1)) 1))],[D.i a1_0,D.i a1_1]]
 g9:(D.boo (fn 50 [[D.i a1_0],[D.i 0],[D.i 1073741824]] 0 0)=true)→(D.boo (fn 50 [[D.i a1_1],[D.i 0],[D.i 65535]] 0 0)=true)→(0 < (a0.length:Int))→(0≤(D.int (fn 76 [[D.i (D.int (gt a0 (Int.toNat ((a0.length:Int) - 1)) 0)),D.i (D.int (gt a0 (Int.toNat ((a0.length:Int) - 1)) 1))],[D.i a1_0,D.i a1_1]] 0 0)))→R 0 0=D.i 2
 g10:(D.boo (fn 50 [[D.i a1_0],[D.i 0],[D.i 1073741824]] 0 0)=true)→(D.boo (fn 50 [[D.i a1_1],[D.i 0],[D.i 65535]] 0 0)=true)→(0 < (a0.length:Int))→(¬0≤(D.int (fn 76 [[D.i (D.int (gt a0 (Int.toNat ((a0.length:Int) - 1)) 0)),D.i (D.int (gt a0 (Int.toNat ((a0.length:Int) - 1)) 1))],[D.i a1_0,D.i a1_1]] 0 0)))→R 0 0=D.i 0
 g11:(D.boo (fn 50 [[D.i a1_0],[D.i 0],[D.i 1073741824]] 0 0)=true)→(D.boo (fn 50 [[D.i a1_1],[D.i 0],[D.i 65535]] 0 0)=true)→(¬0 < (a0.length:Int))→R 0 0=D.i 0
end HX

namespace HX
open Go Go.Proofs CX
structure V51 (pre:Nat→List (List D)→Prop) (fn:Nat→List (List D)→Nat→Nat→D) (a0:Rows) (R:Nat→Nat→D) (I0:Int→Int→Prop) (m0:Int→Int→Nat):Prop where
 g0:(65536 < (a0.length:Int))→R 0 0=D.i 9
 i0:(¬65536 < (a0.length:Int))→I0 0 0
 g2:∀x0_0 x0_1,I0 x0_0 x0_1→(¬65536 < (a0.length:Int))→(x0_1 < (a0.length:Int))→0≤x0_1
 g3:∀x0_0 x0_1,I0 x0_0 x0_1→(¬65536 < (a0.length:Int))→(x0_1 < (a0.length:Int))→x0_1 < (a0.length:Int)
 g4:∀x0_0 x0_1,I0 x0_0 x0_1→(¬65536 < (a0.length:Int))→(x0_1 < (a0.length:Int))→(((Int.toNat x0_1:Nat):Int)) < (a0.length:Int)
 g6:∀x0_0 x0_1,I0 x0_0 x0_1→(¬65536 < (a0.length:Int))→(x0_1 < (a0.length:Int))→x0_1≤(a0.length:Int)
 g7:∀x0_0 x0_1,I0 x0_0 x0_1→(¬65536 < (a0.length:Int))→(x0_1 < (a0.length:Int))→pre 71 [[D.l (List.take x0_1.toNat (List.drop 0 a0))],[D.i (D.int (gt a0 x0_1.toNat 0)),D.i (D.int (gt a0 x0_1.toNat 1))]]
 g8:∀x0_0 x0_1,I0 x0_0 x0_1→(¬65536 < (a0.length:Int))→(x0_1 < (a0.length:Int))→(¬(D.int (fn 71 [[D.l (List.take x0_1.toNat (List.drop 0 a0))],[D.i (D.int (gt a0 x0_1.toNat 0)),D.i (D.int (gt a0 x0_1.toNat 1))]] 0 0))=0)→R 0 0=D.i (D.int (fn 71 [[D.l (List.take x0_1.toNat (List.drop 0 a0))],[D.i (D.int (gt a0 x0_1.toNat 0)),D.i (D.int (gt a0 x0_1.toNat 1))]] 0 0))
 g9:∀x0_0 x0_1,I0 x0_0 x0_1→(¬65536 < (a0.length:Int))→(x0_1 < (a0.length:Int))→((D.int (fn 71 [[D.l (List.take x0_1.toNat (List.drop 0 a0))],[D.i (D.int (gt a0 x0_1.toNat 0)),D.i (D.int (gt a0 x0_1.toNat 1))]] 0 0))=0)→-9223372036854775808≤(x0_1+1)∧(x0_1+1)≤9223372036854775807
 n10:∀x0_0 x0_1,I0 x0_0 x0_1→(¬65536 < (a0.length:Int))→(x0_1 < (a0.length:Int))→((D.int (fn 71 [[D.l (List.take x0_1.toNat (List.drop 0 a0))],[D.i (D.int (gt a0 x0_1.toNat 0)),D.i (D.int (gt a0 x0_1.toNat 1))]] 0 0))=0)→I0 x0_0 (x0_1+1)∧m0 x0_0 (x0_1+1) < m0 x0_0 x0_1
 g11:∀x0_0 x0_1,I0 x0_0 x0_1→(¬65536 < (a0.length:Int))→(¬x0_1 < (a0.length:Int))→R 0 0=D.i 0
end HX

namespace HX
open Go Go.Proofs CX
end HX

namespace HX
open Go Go.Proofs CX
end HX

namespace HX
open Go Go.Proofs CX
def byL (l:Rows):Prop:=∀i,i < l.length→0≤(gt l i 0).int∧(gt l i 0).int≤255
theorem law17 {a0 a1:Rows} (h:a1=a0) (hl:(a0.length:Int)≤9223372036854775807) {R:Nat→Nat→D} (hR:R 0 0=.b true) :
  V17 a0 a1 R (fun _ i=>∃q:Nat,i=q∧q≤a0.length) (fun _ i=>(a0.length - i).toNat):=by
 subst h
 constructor
 case g0=>intro h;exact absurd rfl h
 case i0=>exact fun _=>⟨0,rfl,by omega⟩
 all_goals (intro u i hI;obtain ⟨q,hq,hql⟩:=hI;subst hq;intro hx hy)
 case g11=>exact hR
 case g8=>intro h;exfalso;rcases h with h |h<;>exact h rfl
 case n10=>intro _;exact ⟨⟨q+1,by omega,by omega⟩,by omega⟩
 all_goals omega
def inB (a b c:Int):Bool:=decide (b≤a∧a≤c)
theorem law50 {a b c:Int} {R:Nat→Nat→D} (hR:R 0 0=.b (inB a b c)):V50 a b c R:=by
 constructor
 ·intro h;rw [hR,inB];congr 1;exact decide_eq_decide.2 ⟨fun h=>h.2,fun h2=>⟨h,h2⟩⟩
 ·intro h;rw [hR,inB,decide_eq_false fun h2=>h h2.1]
def cmpI (a b:Int):Int:=if a < b then -1 else if b < a then 1 else 0
theorem law100 {a b:Int} {R:Nat→Nat→D} (hR:R 0 0=.i (cmpI a b)):V100 a b R:=by
 constructor
 case g0=>intro h;exact absurd rfl h
 case g1=>intro h;exact absurd rfl h
 case g2=>intro _ h;exact absurd rfl h
 case g3=>intro _ _ h;rw [hR,cmpI,if_pos h]
 case g4=>intro _ _ h h2;rw [hR,cmpI,if_neg h,if_pos h2]
 case g5=>intro _ _ h h2;rw [hR,cmpI,if_neg h,if_neg h2]
def cmpE (t i t2 i2:Int):Int:=if cmpI t t2=0 then cmpI i i2 else cmpI t t2
theorem law76 {pre:Nat→List (List D)→Prop} {fn:Nat→List (List D)→Nat→Nat→D} (hp:∀x,pre 100 x) (hf:∀a b,fn 100 [[.i a],[.i b]] 0 0=.i (cmpI a b)) {t i t2 i2:Int} {R:Nat→Nat→D} (hR:R 0 0=.i (cmpE t i t2 i2)) :
  V76 pre fn t i t2 i2 R (fun _ k=>k=0∨(k=1∧cmpI t t2=0)∨(k=2∧cmpI t t2=0∧cmpI i i2=0)) (fun _ k=>(2 - k).toNat):=by
 have hi:∀n:Int,(D.i n).int=n:=fun _=>rfl
 constructor
 all_goals (try simp only [hf,hi,List.length_cons,List.length_nil])
 case g0 |g1=>exact hp _
 case i0=>left;trivial
 all_goals (intro u k hI)
 case g6=>
  intro hk h
  rcases hI with rfl |⟨rfl,e⟩ |⟨rfl,e,e2⟩
  ·have h:¬cmpI t t2=0:=h
   rw [hR,cmpE,if_neg h]
   rfl
  ·rw [hR,cmpE,if_pos e]
   rfl
  ·omega
 case n8=>
  intro hk h
  rcases hI with rfl |⟨rfl,e⟩ |⟨rfl,e,e2⟩
  ·exact ⟨.inr (.inl ⟨rfl,h⟩),by omega⟩
  ·exact ⟨.inr (.inr ⟨rfl,e,h⟩),by omega⟩
  ·omega
 case g9=>
  intro hk
  rcases hI with rfl |⟨rfl,e⟩ |⟨rfl,e,e2⟩
  ·omega
  ·omega
  ·rw [hR,cmpE,if_pos e,e2]
 all_goals (intros;omega)
def folE (l:Rows) (t i:Int):Int:=
 if ¬(inB t 0 1073741824=true∧inB i 0 65535=true) then 3 else if 0 < l.length∧0≤cmpE (eT l (l.length - 1)) (eI l (l.length - 1)) t i then 2 else 0
theorem law71 {pre:Nat→List (List D)→Prop} {fn:Nat→List (List D)→Nat→Nat→D} (hp50:∀x,pre 50 x) (hf50:∀a b c,fn 50 [[.i a],[.i b],[.i c]] 0 0=.b (inB a b c))
  (hp76:∀x,pre 76 x) (hf76:∀a b c d,fn 76 [[.i a,.i b],[.i c,.i d]] 0 0=.i (cmpE a b c d)) {l:Rows} (hl:(l.length:Int)≤9223372036854775807) {t i:Int} {R:Nat→Nat→D} (hR:R 0 0=.i (folE l t i)):V71 pre fn l t i R:=by
 have hi:∀n:Int,(D.i n).int=n:=fun _=>rfl
 have hb:∀n:Bool,(D.b n).boo=n:=fun _=>rfl
 constructor
 all_goals (try simp only [hf50,hf76,hi,hb])
 case g0=>exact hp50 _
 case g1=>intro h;rw [hR,folE,if_pos fun h2=>by rw [h] at h2;cases h2.1]
 case g2=>intro _;exact hp50 _
 case g3=>intro _ h;rw [hR,folE,if_pos fun h2=>by rw [h] at h2;cases h2.2]
 all_goals (intro h1 h2 h3)
 case g8=>exact hp76 _
 case g9=>
  intro h4
  rw [show ((l.length:Int) - 1).toNat=l.length - 1 by omega] at h4
  have h4:0≤cmpE (eT l (l.length - 1)) (eI l (l.length - 1)) t i:=h4
  rw [hR,folE,if_neg fun h=>h ⟨h1,h2⟩,if_pos ⟨by omega,h4⟩]
 case g10=>
  intro h4
  rw [show ((l.length:Int) - 1).toNat=l.length - 1 by omega] at h4
  have h4:¬0≤cmpE (eT l (l.length - 1)) (eI l (l.length - 1)) t i:=h4
  rw [hR,folE,if_neg fun h=>h ⟨h1,h2⟩,if_neg fun h=>h4 h.2]
 case g11=>rw [hR,folE,if_neg fun h=>h ⟨h1,h2⟩,if_neg fun h=>h3 (by omega)]
 all_goals omega
def chkG (l:Rows):Nat→Int
 |0=>0
 |f+1=>if folE (l.take (l.length - (f+1))) (eT l (l.length - (f+1))) (eI l (l.length - (f+1)))=0 then chkG l f else folE (l.take (l.length - (f+1))) (eT l (l.length - (f+1))) (eI l (l.length - (f+1)))
def chkE (l:Rows):Int:=if 65536 < l.length then 9 else chkG l l.length
theorem law51 {pre:Nat→List (List D)→Prop} {fn:Nat→List (List D)→Nat→Nat→D} (hp71:∀x,pre 71 x) (hf71:∀l a b,fn 71 [[.l l],[.i a,.i b]] 0 0=.i (folE l a b)) {l:Rows} {R:Nat→Nat→D} (hR:R 0 0=.i (chkE l)) :
  V51 pre fn l R (fun _ i=>∃f:Nat,f≤l.length∧i=(l.length - f:Nat)∧chkG l l.length=chkG l f) (fun _ i=>(l.length - i).toNat):=by
 have hi:∀n:Int,(D.i n).int=n:=fun _=>rfl
 constructor
 all_goals (try simp only [hf71,hi,List.drop_zero])
 case g0=>intro h;rw [hR,chkE,if_pos (by omega)]
 case i0=>exact fun _=>⟨l.length,Nat.le_refl _,by omega,rfl⟩
 all_goals (intro e i hI;obtain ⟨f,hf,hq,hc⟩:=hI;subst hq;(try simp only [Int.toNat_natCast]);intro hl hx)
 case g7=>exact hp71 _
 case g11=>
  obtain rfl:f=0:=by omega
  rw [hR,chkE,if_neg (by omega),hc];rfl
 case g8=>
  intro h
  obtain ⟨g,rfl⟩:∃g,f=g+1:=⟨f - 1,by omega⟩
  have h:¬folE (l.take (l.length - (g+1))) (eT l (l.length - (g+1))) (eI l (l.length - (g+1)))=0:=h
  rw [hR,chkE,if_neg (by omega),hc,chkG,if_neg h]
  rfl
 case n10=>
  intro h
  obtain ⟨g,rfl⟩:∃g,f=g+1:=⟨f - 1,by omega⟩
  refine ⟨⟨g,by omega,by omega,?_⟩,by omega⟩
  have h:folE (l.take (l.length - (g+1))) (eT l (l.length - (g+1))) (eI l (l.length - (g+1)))=0:=h
  rw [hc,chkG,if_pos h]
 all_goals omega
end HX

namespace HX
open Go Go.Proofs CX
end HX

namespace HX
open Go Go.Proofs CX
def tkN (d:Rows):Nat→Int→Nat→Int
 |0,v,_=>v
 |n+1,v,p=>tkN d n (2 * v+bAt d p) (p+1)
structure TI (d:Rows) (N:Nat) (p:Nat) (v t at_:Int):Prop where
 t0:0≤t
 t1:t≤N
 pl:at_=p+t
 v0:0≤v
 v1:v < 2 ^ t.toNat
 to:tkN d (N - t.toNat) v at_.toNat=tkN d N 0 p
theorem TI.start (d:Rows) (N p:Nat):TI d N p 0 0 p:=⟨by omega,by omega,by omega,by omega,by decide,rfl⟩
theorem TI.step {d:Rows} {N p:Nat} {v t at_:Int} (h:TI d N p v t at_) (ht:t < N):TI d N p (2 * v+bAt d at_.toNat) (t+1) (at_+1):=by
 obtain ⟨h1,h2,h3,h4,h5,h6⟩:=h
 have hb:=bAt_rng d at_.toNat
 refine ⟨by omega,by omega,by omega,by omega,?_,?_⟩
 ·rw [show (t+1).toNat=t.toNat+1 by omega,Int.pow_succ];omega
 ·rw [←h6,show N - t.toNat=(N - (t+1).toNat)+1 by omega,tkN,show (at_+1).toNat=at_.toNat+1 by omega]
theorem TI.stop {d:Rows} {N p:Nat} {v t at_:Int} (h:TI d N p v t at_) (ht:¬t < N):v=tkN d N 0 p∧at_=p+N:=by
 obtain ⟨h1,h2,h3,h4,h5,h6⟩:=h
 rw [show N - t.toNat=0 by omega] at h6
 exact ⟨h6,by omega⟩
theorem TI.bd {d:Rows} {N p:Nat} {v t at_:Int} (h:TI d N p v t at_) (hN:N≤31):v≤2147483647:=by
 have h5:=h.v1
 have:(2:Nat) ^ t.toNat≤2 ^ 31:=Nat.pow_le_pow_right (by omega) (by have:=h.t1;omega)
 have e:(2:Int) ^ t.toNat=((2 ^ t.toNat:Nat):Int):=by rw [Int.natCast_pow];rfl
 omega
theorem bit_eq {d:Rows} (hb:byL d) {p:Int} (h0:0≤p) (h1:p < 8 * d.length) :
  (0≤Int.tdiv p 8∧Int.tdiv p 8 < d.length)∧(0≤7 - Int.tmod p 8∧7 - Int.tmod p 8≤7)∧
  Ar.std.bit .and .u8 (Ar.std.shr .u8 (gt d (Int.tdiv p 8).toNat 0).int (7 - Int.tmod p 8)) 1=bAt d p.toNat:=by
 rw [Int.tdiv_eq_ediv_of_nonneg h0,Int.tmod_eq_emod_of_nonneg h0]
 have hx:=hb (p.toNat / 8) (by omega)
 refine ⟨by omega,by omega,?_⟩
 rw [show (p / 8).toNat=p.toNat / 8 by omega]
 show _=(gt d (p.toNat / 8) 0).int / 2 ^ (7 - p.toNat % 8) % 2
 generalize (gt d (p.toNat / 8) 0).int=x at hx
 have e:(7 - p % 8:Int)=((7 - p.toNat % 8:Nat):Int):=by omega
 rw [e,shr_u8 (by omega)]
 have h2:0≤x / 2 ^ (7 - p.toNat % 8)∧x / 2 ^ (7 - p.toNat % 8)≤x:=
  ⟨Int.ediv_nonneg hx.1 (Int.le_of_lt (Int.pow_pos (by omega))),Int.ediv_le_self _ hx.1⟩
 rw [and1_u8 h2.1 (by omega)]
end HX

namespace HX
open Go Go.Proofs CX
theorem folE_0 {l:Rows} {t i:Int} (h:folE l t i=0):(0≤t∧t≤1073741824)∧(0≤i∧i≤65535)∧(0 < l.length→eT l (l.length - 1) < t∨(eT l (l.length - 1)=t∧eI l (l.length - 1) < i)):=by
 unfold folE at h
 split at h
 ·omega
 ·rename_i h1
  have h1:inB t 0 1073741824=true∧inB i 0 65535=true:=Classical.not_not.1 h1
  have a:=of_decide_eq_true h1.1
  have b:=of_decide_eq_true h1.2
  split at h
  ·omega
  ·rename_i h2
   refine ⟨a,b,fun hl=>?_⟩
   have h3:¬0≤cmpE (eT l (l.length - 1)) (eI l (l.length - 1)) t i:=fun h=>h2 ⟨hl,h⟩
   simp only [cmpE,cmpI] at h3
   split at h3<;>(split at h3<;>(try split at h3))<;>(try omega)
   all_goals (repeat' (split at h3))<;>omega
theorem folE_of {l:Rows} {t i:Int} (h1:0≤t∧t≤1073741824) (h2:0≤i∧i≤65535) (h3:0 < l.length→eT l (l.length - 1) < t∨(eT l (l.length - 1)=t∧eI l (l.length - 1) < i)):folE l t i=0:=by
 have a:inB t 0 1073741824=true:=decide_eq_true h1
 have b:inB i 0 65535=true:=decide_eq_true h2
 rw [folE,if_neg fun h=>h ⟨a,b⟩,if_neg]
 intro ⟨hl,h⟩
 have h3:=h3 hl
 simp only [cmpE,cmpI] at h
 repeat' (split at h)
 all_goals omega
theorem gt_eq (l:Rows) (i c:Nat):gt l i c=((l[i]?).getD []).getD c .nil:=by
 show (l.getD i []).getD c .nil=_
 rw [List.getD_eq_getElem?_getD (l:=l)]
theorem gtA {l:Rows} {x:List D} {i c:Nat} (h:i < l.length):gt (l++[x]) i c=gt l i c:=by
 rw [gt_eq,gt_eq,List.getElem?_append_left h]
theorem gtN {l:Rows} {x:List D} {c:Nat}:gt (l++[x]) l.length c=x.getD c .nil:=by
 rw [gt_eq,List.getElem?_append_right (Nat.le_refl _),Nat.sub_self]
 rfl
theorem gt_take {l:Rows} {n i c:Nat} (h:i < n):gt (l.take n) i c=gt l i c:=by
 rw [gt_eq,gt_eq,List.getElem?_take,if_pos h]
theorem gt_drop (l:Rows) (n i c:Nat):gt (l.drop n) i c=gt l (n+i) c:=by
 rw [gt_eq,gt_eq,List.getElem?_drop]
theorem EvOk'.push {l:Rows} (h:EvOk' l) {t i:Int} (e:folE l t i=0):EvOk' (l++[[.i t,.i i]]):=by
 obtain ⟨e1,e2,e3⟩:=folE_0 e
 have oldT:∀j,j < l.length→eT (l++[[D.i t,D.i i]]) j=eT l j:=fun j hj=>by unfold eT;rw [gtA hj]
 have oldI:∀j,j < l.length→eI (l++[[D.i t,D.i i]]) j=eI l j:=fun j hj=>by unfold eI;rw [gtA hj]
 have newT:eT (l++[[D.i t,D.i i]]) l.length=t:=by unfold eT;rw [gtN];rfl
 have newI:eI (l++[[D.i t,D.i i]]) l.length=i:=by unfold eI;rw [gtN];rfl
 have len:(l++[[D.i t,D.i i]]).length=l.length+1:=by simp
 refine ⟨fun j hj=>?_,fun j hj=>?_,fun j hj=>?_⟩<;>rw [len] at hj
 ·by_cases e:j=l.length
  ·rw [e,newT];exact e1
  ·rw [oldT j (by omega)];exact h.rt j (by omega)
 ·by_cases e:j=l.length
  ·rw [e,newI];exact e2
  ·rw [oldI j (by omega)];exact h.ri j (by omega)
 ·by_cases e:j+1=l.length
  ·rw [e,newT,newI,oldT j (by omega),oldI j (by omega),show j=l.length - 1 by omega]
   exact e3 (by omega)
  ·rw [oldT j (by omega),oldI j (by omega),oldT (j+1) (by omega),oldI (j+1) (by omega)]
   exact h.up j (by omega)
end HX

namespace HX
open Go Go.Proofs CX
structure Wb (s:Rows×Int):Prop where
 wf:Wf s
 by_:byL s.1
 z:(gt s.1 (s.1.length - 1) 0).int % 2 ^ s.2.toNat=0
theorem gt_set {o:Rows} {i j:Nat} {x:List D} (h:i < o.length):gt (o.set i x) j 0=if j=i then x.getD 0 .nil else gt o j 0:=by
 rw [gt_eq,gt_eq]
 by_cases e:j=i
 ·subst e
  rw [if_pos rfl,List.getElem?_set_self h];rfl
 ·rw [if_neg e,List.getElem?_set_ne (fun h=>e h.symm)]
theorem orL_eq {o:Rows} (hp:0 < o.length) {b:Int} {s:Nat} (hs:s≤7) (hb:byL o) (h3:(gt o (o.length - 1) 0).int % 2 ^ (s+1)=0) (b0:0≤b) (b1:b≤1) :
  orL o b s=o.set (o.length - 1) [.i ((gt o (o.length - 1) 0).int+b * 2 ^ s)]:=by
 have h:=hb (o.length - 1) (by omega)
 rw [orL,show ((o.length:Int) - 1).toNat=o.length - 1 by omega,or_u8 hs h.1 h.2 h3 b0 b1]
theorem pw:(2:Int) ^ 0=1∧(2:Int) ^ 1=2∧(2:Int) ^ 2=4∧(2:Int) ^ 3=8∧(2:Int) ^ 4=16∧(2:Int) ^ 5=32∧(2:Int) ^ 6=64∧(2:Int) ^ 7=128∧(2:Int) ^ 8=256:=by decide
theorem put1_ok {s:Rows×Int} (h:Wb s) {v k:Int} (hv:0≤v) (hv2:v≤9223372036854775807) (hk:0≤k) (hk2:k≤64) :
  Wb (put1 s v k)∧(∀p:Nat,(p:Int) < bitsN s→bAt (put1 s v k).1 p=bAt s.1 p)∧bAt (put1 s v k).1 (bitsN s).toNat=v / 2 ^ k.toNat % 2∧(∀i,i+1 < s.1.length∨(i < s.1.length∧s.2=0)→gt (put1 s v k).1 i 0=gt s.1 i 0):=by
 obtain ⟨⟨h1,h2,h3⟩,hb,hz⟩:=h
 obtain ⟨w1,w2⟩:=put1_wf ⟨h1,h2,h3⟩ v k
 obtain ⟨o,r⟩:=s
 simp only [] at h1 h2 h3 hb hz
 have eb:=bitB_eq hv hv2 hk hk2
 obtain ⟨b,hbe⟩:∃b,v / 2 ^ k.toNat % 2=b:=⟨_,rfl⟩
 rw [hbe] at eb ⊢
 have b0:0≤b∧b≤1:=by omega
 by_cases hr:r=0
 ·subst hr
  have hbo:byL (o++[[D.i 0]]):=by
   intro i hi
   by_cases e:i < o.length
   ·rw [gtA e];exact hb i e
   ·rw [show i=o.length by simp at hi;omega,gtN];decide
  have e1:put1 (o,0) v k=((o++[[D.i 0]]).set o.length [D.i (b * 128)],7):=by
   rw [put1_0 rfl,eb]
   have:=orL_eq (o:=o++[[D.i 0]]) (by simp) (b:=b) (s:=7) (by omega) hbo (by simp only [List.length_append,List.length_cons,List.length_nil,Nat.add_sub_cancel];rw [gtN];decide) b0.1 b0.2
   simp only [List.length_append,List.length_cons,List.length_nil,Nat.add_sub_cancel,gtN] at this
   rw [show ((8:Int) - 1)=((7:Nat):Int) from rfl,this]
   simp [D.int,pw]
  rw [e1] at w1 w2 ⊢
  have g1:∀j,gt ((o++[[D.i 0]]).set o.length [D.i (b * 128)]) j 0=if j=o.length then .i (b * 128) else gt (o++[[D.i 0]]) j 0:=fun j=>by rw [gt_set (by simp)];rfl
  have len:((o++[[D.i 0]]).set o.length [D.i (b * 128)]).length=o.length+1:=by simp
  refine ⟨⟨w1,fun i hi=>?_,?_⟩,fun p hp=>?_,?_,fun i hi=>?_⟩
  ·simp only [] at hi ⊢
   rw [g1]
   split
   ·show 0≤b * 128∧b * 128≤255;omega
   ·exact hbo i (by rw [len] at hi;simpa using hi)
  ·simp only [len,Nat.add_sub_cancel]
   rw [g1,if_pos rfl]
   show b * 128 % 2 ^ 7=0
   rw [pw.2.2.2.2.2.2.2.1];omega
  ·simp only [bitsN] at hp
   unfold bAt
   rw [g1,if_neg (by omega),gtA (by omega)]
  ·simp only [bitsN]
   unfold bAt
   rw [show (8 * (o.length:Int) - 0).toNat / 8=o.length by omega,show (8 * (o.length:Int) - 0).toNat % 8=0 by omega,g1,if_pos rfl]
   show b * 128 / 2 ^ 7 % 2=b
   rw [pw.2.2.2.2.2.2.2.1];omega
  ·simp only [] at hi ⊢
   rw [g1,if_neg (by omega),gtA (by omega)]
 ·obtain ⟨s,rfl⟩:∃s:Nat,r=((s+1:Nat):Int):=⟨r.toNat - 1,by omega⟩
  have hs:s≤6:=by omega
  rw [Int.toNat_natCast] at hz
  have hA:=hb (o.length - 1) (by omega)
  obtain ⟨A,hAe⟩:∃A,(gt o (o.length - 1) 0).int=A:=⟨_,rfl⟩
  have e1:put1 (o,((s+1:Nat):Int)) v k=(o.set (o.length - 1) [D.i (A+b * 2 ^ s)],(s:Int)):=by
   rw [put1_1 (by omega),eb,show (((s+1:Nat):Int) - 1)=(s:Int) by omega]
   rw [orL_eq h1 (by omega) hb hz b0.1 b0.2,hAe]
  rw [hAe] at hA hz
  rw [e1] at w1 w2 ⊢
  have g1:∀j,gt (o.set (o.length - 1) [D.i (A+b * 2 ^ s)]) j 0=if j=o.length - 1 then .i (A+b * 2 ^ s) else gt o j 0:=fun j=>by rw [gt_set (by omega)];rfl
  have len:(o.set (o.length - 1) [D.i (A+b * 2 ^ s)]).length=o.length:=by simp
  have cs:s=0∨s=1∨s=2∨s=3∨s=4∨s=5∨s=6:=by omega
  refine ⟨⟨w1,fun i hi=>?_,?_⟩,fun p hp=>?_,?_,fun i hi=>?_⟩
  ·simp only [] at hi ⊢
   rw [g1]
   split
   ·show 0≤A+b * 2 ^ s∧A+b * 2 ^ s≤255
    rcases cs with rfl |rfl |rfl |rfl |rfl |rfl |rfl<;>simp only [pw,Nat.reduceAdd] at hz ⊢<;>omega
   ·exact hb i (by rw [len] at hi;exact hi)
  ·simp only [len,Int.toNat_natCast]
   rw [g1,if_pos rfl]
   show (A+b * 2 ^ s) % 2 ^ s=0
   rcases cs with rfl |rfl |rfl |rfl |rfl |rfl |rfl<;>simp only [pw,Nat.reduceAdd] at hz ⊢<;>omega
  ·simp only [bitsN] at hp
   unfold bAt
   rw [g1]
   split
   ·rename_i e
    rw [e,hAe]
    show (A+b * 2 ^ s) / 2 ^ (7 - p % 8) % 2=_
    have hq:p % 8+s+1 < 8:=by omega
    generalize p % 8=q at hq
    have cq:q=0∨q=1∨q=2∨q=3∨q=4∨q=5∨q=6:=by omega
    rcases cs with rfl |rfl |rfl |rfl |rfl |rfl |rfl<;>rcases cq with rfl |rfl |rfl |rfl |rfl |rfl |rfl<;>first |(exfalso;omega;done) |(simp only [pw,Nat.reduceAdd,Nat.reduceSub] at hz ⊢;omega)
   ·rfl
  ·simp only [bitsN]
   unfold bAt
   rw [show (8 * (o.length:Int) - ((s+1:Nat):Int)).toNat / 8=o.length - 1 by omega,show 7 - (8 * (o.length:Int) - ((s+1:Nat):Int)).toNat % 8=s by omega,g1,if_pos rfl]
   show (A+b * 2 ^ s) / 2 ^ s % 2=b
   rcases cs with rfl |rfl |rfl |rfl |rfl |rfl |rfl<;>simp only [pw,Nat.reduceAdd] at hz ⊢<;>omega
  ·simp only [] at hi ⊢
   rw [g1,if_neg (by omega)]
end HX

namespace HX
open Go Go.Proofs CX
theorem put_hd {s:Rows×Int} (h:Wf s) (hb:40≤bitsN s) {i:Nat} (hi:i < 5):i+1 < s.1.length∨(i < s.1.length∧s.2=0):=by
 have:=h.r0;have:=h.r7
 simp only [bitsN] at hb
 omega
structure Sb (s s':Rows×Int):Prop where
 le:bitsN s≤bitsN s'
 bit:∀p:Nat,(p:Int) < bitsN s→bAt s'.1 p=bAt s.1 p
 hd:40≤bitsN s→∀i,i < 5→gt s'.1 i 0=gt s.1 i 0
theorem Sb.refl (s:Rows×Int):Sb s s:=⟨Int.le_refl _,fun _ _=>rfl,fun _ _ _=>rfl⟩
theorem Sb.trans {a b c:Rows×Int} (h:Sb a b) (g:Sb b c):Sb a c:=
 ⟨Int.le_trans h.le g.le,fun p hp=>by rw [g.bit p (Int.lt_of_lt_of_le hp h.le),h.bit p hp],fun hb i hi=>by rw [g.hd (Int.le_trans hb h.le) i hi,h.hd hb i hi]⟩
theorem putN_ok {v:Int} (hv:0≤v) (hv2:v≤9223372036854775807):∀n,n≤64→∀{s:Rows×Int},Wb s→
  Wb (putN v n s)∧Sb s (putN v n s)∧∀t,t < n→bAt (putN v n s).1 ((bitsN s).toNat+t)=v / 2 ^ (n - 1 - t) % 2
 |0,_,s,h=>⟨h,Sb.refl s,fun t ht=>by omega⟩
 |n+1,hn,s,h=>by
  obtain ⟨a1,a2,a3,a4⟩:=put1_ok h (k:=(n:Int)) hv hv2 (by omega) (by omega)
  have a5:=(put1_wf h.wf v n).2
  obtain ⟨b1,b2,b3⟩:=putN_ok hv hv2 n (by omega) a1
  have pos:0≤bitsN s:=by have:=h.wf.pos;have:=h.wf.r7;simp only [bitsN];omega
  refine ⟨b1,Sb.trans ⟨by omega,a2,fun hb i hi=>a4 i (put_hd h.wf hb hi)⟩ b2,fun t ht=>?_⟩
  cases t with
  |zero=>
   show bAt (putN v n (put1 s v n)).1 _=_
   rw [Nat.add_zero,b2.bit _ (by omega),a3]
   rfl
  |succ t=>
   have:=b3 t (by omega)
   rw [a5] at this
   rw [show (bitsN s).toNat+(t+1)=(bitsN s+1).toNat+t by omega,show n+1 - 1 - (t+1)=n - 1 - t by omega]
   exact this
structure Rd (d:Rows) (s:Rows×Int):Prop where
 len:bitsN s≤40+8 * d.length
 bit:∀p:Nat,40≤p→(p:Int) < bitsN s→bAt d (p - 40)=bAt s.1 p
theorem Rd.less {d:Rows} {s s':Rows×Int} (h:Rd d s') (g:Sb s s'):Rd d s:=
 ⟨Int.le_trans g.le h.len,fun p h1 h2=>by rw [h.bit p h1 (Int.lt_of_lt_of_le h2 g.le),g.bit p h2]⟩
theorem ones24:∀t,t < 24→(16777215:Int) / 2 ^ (24 - 1 - t) % 2=1:=by decide
theorem onesq:∀q,q < 24→∀t,t < q→((2:Int) ^ (q+1) - 2) / 2 ^ (q+1 - 1 - t) % 2=1:=by decide
theorem zeroq:∀q,q < 24→((2:Int) ^ (q+1) - 2) / 2 ^ (q+1 - 1 - q) % 2=0:=by decide
end HX
