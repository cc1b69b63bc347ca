/-
  CX: drawn regions: the walk.
-/
import Derived.Test.YtmnaiddobipclaaCxDraw4
namespace CX
open Go

theorem bindsA_eq (e : Edge) : Region.binds .any e = bindsA e := by
  unfold Region.binds bindsA
  cases e.ground <;> rfl

def unl : List Bool → Nat
  | [] => 0
  | true :: r => unl r
  | false :: r => unl r + 1

theorem unl_set : ∀ (l : List Bool) (i : Nat), l[i]? = some false → unl (l.set i true) + 1 = unl l
  | [], i, h => by simp at h
  | b :: r, 0, h => by
    simp only [List.getElem?_cons_zero, Option.some.injEq] at h
    subst h
    simp [unl]
  | b :: r, i + 1, h => by
    have := unl_set r i (by simpa using h)
    cases b <;> simp only [List.set_cons_succ, unl] <;> omega

theorem unl_zero : ∀ (l : List Bool), unl l = 0 → ∀ i : Nat, l[i]? ≠ some false
  | [], _, i, h => by simp at h
  | true :: r, h, 0, h' => by simp at h'
  | true :: r, h, i + 1, h' => unl_zero r (by simpa [unl] using h) i (by simpa using h')
  | false :: r, h, i, h' => by simp [unl] at h

theorem unl_rep : ∀ n, unl (List.replicate n false) = n
  | 0 => rfl
  | n + 1 => by simp [List.replicate_succ, unl, unl_rep n]

theorem getD_false_iff {l : Array Bool} {i : Nat} : l.getD i true = false ↔ l.toList[i]? = some false := by
  rw [Array.getD_eq_getD_getElem?, ← Array.getElem?_toList]
  cases h : l.toList[i]? with
  | none => simp
  | some b => simp

theorem getD_true_iff {l : Array Bool} {i : Nat} : Array.getD l i false = true ↔ l[i]? = some true := by
  rw [Array.getD_eq_getD_getElem?]
  cases h : l[i]? with
  | none => simp
  | some b => simp

section
variable {P : Program} {E : Env} {ih : IH} {ms dm : T Nat} {g : Nat → St} {fp : Nat → Fp} {recs : List Rc} {len : Nat} {ops : Array Oper}
variable {ρ0 ρ : Nm} {w0 w : World} {D : Nat → Prop} {xh : Nat → Option O} {xr : Nat → Option V} {a : Act}

/-- All are done: the state is the text's last. -/
theorem DInv.last (hT : Tr E ih ops.toList ms dm len g fp recs) (hl : len = ops.toList.length) (hI : DInv ρ0 w0 ops.toList len g fp D ρ xh xr a w) (hall : ∀ t, t < len → D t) : Lands ρ0 (g 0) w0 (g len) a w ρ := by
  obtain ⟨hb, hn, hdf⟩ := const_of hT hl len (Nat.le_refl _)
  have hle : ∀ {m}, m ≤ len → (g m).nx ≤ (g len).nx := fun h => nx_le hT hl h (Nat.le_refl _)
  have hmem : xh = (g len).h.get := by
    funext x
    obtain ⟨m, h1, h2, h3, _⟩ := hI.mem x
    rw [h2]
    refine sameRange' (tch := Tm g fp) (x := x) (g := fun k => (g k).h.get x) (fun t ht hn => ?_) h1 (Nat.le_refl _) (fun t ht htx => ?_)
    · obtain ⟨o, _, hs⟩ := hT.at hl ht
      exact hs.same x hn
    · rw [h3 t ht htx]; exact ⟨fun _ => ht, fun _ => hall t ht⟩
  have hreg : xr = (g len).regs.get := by
    funext x
    obtain ⟨m, h1, h2, h3, _⟩ := hI.reg x
    rw [h2]
    refine sameRange' (tch := TmR ops.toList) (x := x) (g := fun k => (g k).regs.get x) (fun t ht hn => ?_) h1 (Nat.le_refl _) (fun t ht htx => ?_)
    · obtain ⟨o, ho, hs⟩ := hT.at hl ht
      exact hs.sameR ho x hn
    · rw [h3 t ht htx]; exact ⟨fun _ => ht, fun _ => hall t ht⟩
  subst hmem hreg
  refine ⟨⟨⟨fun x o hx => ?_, hI.sep, fun x hx => ?_, hI.blk⟩, by rw [hn]; exact hI.size, fun t v hv => ?_, ?_⟩, hI.ag, hle (Nat.zero_le _), hn, hb, by rw [hb]; exact hI.fr⟩
  · obtain ⟨m, h1, _, _, _, h5⟩ := hI.mem x
    obtain ⟨h6, h7⟩ := h5 o hx
    have := hle h1
    exact ⟨by omega, ObjOk.ext h6 this (fun _ _ _ h => h) (fun _ _ => rfl) o h7⟩
  · cases h : ρ x with
    | none => rfl
    | some L =>
      exfalso
      rcases hI.dom x L h with h | ⟨t, h1, _, _, h4⟩
      · have := hle (Nat.zero_le len); omega
      · have := hle (m := t + 1) (by omega); omega
  · obtain ⟨m, h1, _, _, _, h5⟩ := hI.reg t
    obtain ⟨u, h6, h7⟩ := h5 v hv
    exact ⟨u, h6, Rv.ext (hle h1) (fun _ _ _ h => h) _ _ h7⟩
  · rw [hdf]
    exact hI.df.ext (hle (Nat.zero_le _)) (fun _ _ _ h => h)

variable (hE : EnvOk E P) (hI' : IhOk P ih)
include hE hI'

theorem DInv.step (hp : PrepOk ops.toList ms dm) (hT : Tr E ih ops.toList ms dm len g fp recs) (hl : len = ops.toList.length) (h0 : ∀ x o, (g 0).h.get x = some o → x < (g 0).nx) (hI : DInv ρ0 w0 ops.toList len g fp D ρ xh xr a w) (hD : ∀ a b, D a → Cl ms a b → D b)
    {i : Nat} (hi : ¬ D i) (hil : i < len) (hcl : ∀ b, Cl ms i b → D b) {ro : Option Nat} {K : Act → World → Prop} {Q : Exit → Act → World → Prop}
    (hK : ∀ ρ' xh' xr' a' w', DInv ρ0 w0 ops.toList len g fp (fun t => D t ∨ t = i) ρ' xh' xr' a' w' → K a' w') : wpOpIn (Fw ro) 0 P ops Q i K a w := by
  obtain ⟨o, ho, hs⟩ := hT.at hl hil
  have ho' : ops[i]? = some o := by simpa using ho
  obtain ⟨hfb, hfn, _⟩ := const_of hT hl i (Nat.le_of_lt hil)
  obtain ⟨_, _, _, cl, v, hc, hg, hd, hex⟩ := hs
  rw [hfn] at hd
  unfold wpOpIn
  rw [ho']
  simp only
  rcases hex with ⟨hw, rfl, _, ht⟩ | ⟨hw, hcls, ⟨r0, hr0, hv0⟩, _, ht⟩ | ⟨hw, ⟨hv, h', r0, hr0, hv0, hview, hm1, _⟩, hbar, hmono, hlow⟩
  · rw [wantB_ok hp hT hl hI hD hi hil hcl rfl hc hw, if_neg (by simp)]
    exact ⟨fun _ _ => trivial, hK _ _ _ _ _ (hI.quiet hp hD hi hil hcl ho (u := undef) (by simp only [Rv]; exact ⟨[], by simp [RvL], rfl⟩) hg hd ht)⟩
  · rw [wantB_ok hp hT hl hI hD hi hil hcl rfl hc hw, if_pos rfl]
    have hnd : ∀ c, o.op ≠ .defer c := fun c h => by rw [h] at hcls; simp [clsOf] at hcls
    obtain ⟨v', u, h1, h2, h3⟩ := opP_ok hE (ρe := a.eval) (fun x _ v hv => evD_ok hp hT hl hI hD hi hil hcl hc x v hv) hr0
    have := hv0 _ h1
    subst this
    refine ⟨fun _ _ => trivial, ?_⟩
    show o.uponIn (Fw ro) 0 P a K Q ((o.semAt ro a.eval).run P w)
    rw [Oper.semAt_eq _ _ _ hnd, h3 w, Oper.uponIn_value]
    refine hK _ _ _ _ _ (hI.quiet hp hD hi hil hcl ho (v := v') ?_ hg hd ht)
    rw [ht.2]
    refine Rv.ext (Nat.le_refl _) (fun k L hk hL => ?_) _ _ h2
    rw [if_pos hk] at hL; exact hL
  · rw [wantB_ok hp hT hl hI hD hi hil hcl rfl hc hw, if_pos rfl]
    have hvw : ∀ x ob, hv.get x = some ob → xh x = some ob ∧ x < (g i).nx ∧ Rm ms g fp i x ∧ ∃ m, m ≤ i ∧ x < (g m).nx ∧ ObjOk ρ (g m).nx w x ob := by
      intro x ob hx
      obtain ⟨h1, h2⟩ := hview x ob hx
      have hR : Rm ms g fp i x := by
        refine h2 fun hq => ?_
        refine hI.bound hT hl h0 i (Nat.le_of_lt hil) (fun j hj hf => ?_) x ob h1
        rcases hT.pr j i hj hil with h | h | h | h
        · exact hcl j h
        · rw [h.1] at hq; cases hq
        · rw [h.1] at hf; cases hf
        · unfold pairOk at h; rw [hq, hf] at h; cases h
      obtain ⟨h3, m, h4, h5⟩ := hI.memAt hT hl hD hi hil hcl hR
      rw [h1] at h3
      obtain ⟨h6, h7⟩ := h5 ob h3
      have := nx_le hT hl h4 (Nat.le_of_lt hil)
      exact ⟨h3, by omega, hR, m, h4, h6, h7⟩
    have hS : HSat (fun k => if k < (g i).nx then ρ k else none) hv.get (g i).nx w := by
      refine ⟨fun x ob hx => ?_, fun x ob x' ob' hx hx' hne L L' hL hL' => ?_, fun x hx => if_neg (by omega), fun x L hL => ?_⟩
      · obtain ⟨_, h1, _, m, h2, h3, h4⟩ := hvw x ob hx
        have hle := nx_le hT hl h2 (Nat.le_of_lt hil)
        exact ⟨h1, ObjOk.ext h3 hle (fun k L hk hL => by rw [if_pos (by omega)]; exact hL) (fun _ _ => rfl) ob h4⟩
      · rw [if_pos (hvw x ob hx).2.1] at hL
        rw [if_pos (hvw x' ob' hx').2.1] at hL'
        exact hI.sep x ob x' ob' (hvw x ob hx).1 (hvw x' ob' hx').1 hne L L' hL hL'
      · split at hL
        · exact hI.blk x L hL
        · cases hL
    obtain ⟨v', g', n', h1, h2⟩ := opA_ok hI' hE hS (a := a) (fun x _ v hv => evD_ok hp hT hl hI hD hi hil hcl hc x v hv) hr0
    obtain ⟨rfl, rfl, rfl⟩ := hv0 _ _ _ h1
    refine h2 ro _ _ fun u ρ' w' e1 e2 e3 _ e5 => ?_
    rw [hfb] at e5 hbar
    obtain ⟨ρ2, xh2, xr2, hI2⟩ := hI.memo hp hT hl hD hi hil hcl ho (u := u) (fun x ob hx => ⟨(hvw x ob hx).1, (hvw x ob hx).2.1, (hvw x ob hx).2.2.1⟩) hm1 hbar hmono hg hd hfb e1 e2 e3 e5
    exact hK _ _ _ _ _ hI2

theorem DInv.walk (hp : PrepOk ops.toList ms dm) (hT : Tr E ih ops.toList ms dm len g fp recs) (hl : len = ops.toList.length) (h0 : ∀ x o, (g 0).h.get x = some o → x < (g 0).nx) {ro : Option Nat} {Q : Exit → Act → World → Prop}
    (hQ : ∀ ρ a w, Lands ρ0 (g 0) w0 (g len) a w ρ → Q .normal a w) : ∀ (fuel : Nat) (listed : Array Bool) (ρ : Nm) (xh : Nat → Option O) (xr : Nat → Option V) (a : Act) (w : World), listed.size = ops.size → unl listed.toList = fuel →
    DInv ρ0 w0 ops.toList len g fp (fun t => listed[t]? = some true) ρ xh xr a w → (∀ a b, listed[a]? = some true → Cl ms a b → listed[b]? = some true) → wpAnyIn (Fw ro) 0 P .any ops Q fuel listed a w := by
  have hlen : len = ops.size := by simpa using hl
  -- nothing is left if nothing is ready
  have empty : ∀ listed : Array Bool, listed.size = ops.size → Region.ready .any ops listed = [] → ∀ t, t < len → listed[t]? = some true := by
    intro listed hsz hr t
    induction t using Nat.strongRecOn with
    | _ t ihh =>
      intro ht
      have hlt : t < listed.size := by omega
      cases hc : listed.getD t true with
      | true =>
        rw [Array.getD_eq_getD_getElem?] at hc
        simp only [hlt, Array.getElem?_eq_getElem, Option.getD_some] at hc
        simp [hlt, hc]
      | false =>
        exfalso
        have hm : t ∈ Region.ready .any ops listed := by
          rw [mem_ready]
          obtain ⟨o, ho⟩ : ∃ o, ops[t]? = some o := ⟨ops[t]'(by omega), by simp [show t < ops.size by omega]⟩
          refine ⟨hc, o, ho, fun e he hbe => ?_⟩
          obtain ⟨m, _, _, hb⟩ := hp.hm t o (by simpa using ho)
          have hlt := hb e (by simpa using he) (by rw [← bindsA_eq]; exact hbe)
          exact getD_true_iff.2 (ihh e.on hlt (by omega))
        rw [hr] at hm
        cases hm
  intro fuel
  induction fuel with
  | zero =>
    intro listed ρ xh xr a w hsz hu hI _
    have hr : Region.ready .any ops listed = [] := by
      cases h : Region.ready .any ops listed with
      | nil => rfl
      | cons x xs =>
        exfalso
        have hm : x ∈ Region.ready .any ops listed := by rw [h]; simp
        rw [mem_ready] at hm
        exact unl_zero _ hu x (getD_false_iff.1 hm.1)
    exact ⟨hr, hQ _ _ _ (hI.last hT hl (empty listed hsz hr))⟩
  | succ fuel ihf =>
    intro listed ρ xh xr a w hsz hu hI hD
    refine ⟨fun hr => hQ _ _ _ (hI.last hT hl (empty listed hsz hr)), fun i hi => ?_⟩
    rw [mem_ready] at hi
    obtain ⟨hif, o, ho, hpre⟩ := hi
    have hil : i < len := by rw [hlen]; exact (Array.getElem?_eq_some_iff.1 ho).1
    have hfl : listed.toList[i]? = some false := getD_false_iff.1 hif
    have hni : ¬ (listed[i]? = some true) := fun h => by rw [← Array.getElem?_toList, hfl] at h; cases h
    have hcl : ∀ b, Cl ms i b → listed[b]? = some true := by
      rintro b ⟨m, hm, hb⟩
      obtain ⟨m', h1, h2, _⟩ := hp.hm i o (by simpa using ho)
      rw [hm] at h1; cases h1
      obtain ⟨e, he, hbe, h⟩ := h2 b hb
      have hon := getD_true_iff.1 (hpre e (by simpa using he) (by rw [bindsA_eq]; exact hbe))
      rcases h with rfl | ⟨me, hme, hb'⟩
      · exact hon
      · exact hD e.on b hon ⟨me, hme, hb'⟩
    have hset : ∀ t, (listed.setIfInBounds i true)[t]? = some true ↔ (listed[t]? = some true ∨ t = i) := by
      intro t
      rw [Array.getElem?_setIfInBounds]
      by_cases h : i = t
      · subst h
        rw [if_pos rfl, if_pos (by omega)]
        simp
      · rw [if_neg h]
        exact ⟨.inl, fun hh => hh.resolve_right fun e => h e.symm⟩
    refine hI.step hE hI' hp hT hl h0 hD hni hil hcl fun ρ' xh' xr' a' w' hI2 => ?_
    refine ihf _ ρ' xh' xr' a' w' (by simpa using hsz) ?_ ?_ ?_
    · have := unl_set _ _ hfl
      rw [Array.toList_setIfInBounds]
      omega
    · have e : (fun t => (listed.setIfInBounds i true)[t]? = some true) = (fun t => listed[t]? = some true ∨ t = i) := funext fun t => propext (hset t)
      rw [e]; exact hI2
    · intro x y hx hy
      rw [hset] at hx ⊢
      rcases hx with hx | rfl
      · exact .inl (hD x y hx hy)
      · exact .inl (hcl y hy)

/-- **A region that draws its order.** -/
theorem draw_ok {ρ : Nm} {S : St} {a : Act} {w : World} (hS : Sat ρ S a w) {id : Nat} {r : Ex × St}
    (h : (prep ops.toList 0 .e .e fun ms dm => match drawGo E ih ops.toList ms dm ops.toList 0 [] S with
      | some S => some (Ex.normal, S)
      | none => none) = some r) {ro : Option Nat} : ∃ S', r = (.normal, S') ∧ (Code.region id ops true).wpIn (Fw ro) 0 P (CPost ρ S w .normal S') a w := by
  obtain ⟨ms, dm, h, hp⟩ := prep_ok ops.toList [] .e .e (by simpa using h) ⟨by simp, fun i m j h => by simp [T.get] at h, by simp, fun i m h => by simp [T.get] at h⟩
  simp only [List.nil_append] at hp
  split at h
  · rename_i S1 hd
    simp only [Option.some.injEq] at h
    subst h
    refine ⟨S1, rfl, wpIn_region_any hE.mixed ?_⟩
    obtain ⟨g, fp, recs, hT, hg0, hge⟩ := drawGo_ok (E := E) (ih := ih) (all := ops.toList) (ms := ms) (dm := dm) ops.toList 0 [] (fun _ => S) (fun _ => .all) (fun j => by simp) hd
      ⟨fun j o hj => by omega, fun r hr => by simp at hr, fun j hj => by omega, fun a b _ hb => by omega⟩
    have e0 : g 0 = S := hg0 0 (Nat.le_refl _)
    rw [Nat.zero_add] at hT hge
    have hS1 : Sat ρ S a { w with drawn := w.drawn + 1 } := ⟨hS.hs.world rfl, hS.size, hS.regs, hS.df⟩
    refine DInv.walk hE hI' (ρ0 := ρ) (w0 := w) hp hT rfl (by rw [e0]; exact fun x o hx => (hS.hs.objs x o hx).1) (fun ρ' a' w' hL => ?_) ops.size _ ρ S.h.get S.regs.get a _ (by simp) (by simp [unl_rep]) ?_ ?_
    · rw [hge, e0] at hL
      exact ⟨rfl, ρ', hL⟩
    · have nn : ∀ t : Nat, ¬ ((Array.replicate ops.size false)[t]? = some true) := by
        intro t h
        rw [Array.getElem?_replicate] at h
        split at h <;> cases h
      refine ⟨fun x => ⟨0, Nat.zero_le _, by rw [e0], fun t _ _ => ⟨fun h => by omega, fun h => absurd h (nn t)⟩, .inl rfl, fun o ho => by rw [e0]; exact hS1.hs.objs x o ho⟩,
        fun x => ⟨0, Nat.zero_le _, by rw [e0], fun t _ _ => ⟨fun h => by omega, fun h => absurd h (nn t)⟩, .inl rfl, fun v hv => by rw [e0]; exact hS1.regs x v hv⟩,
        hS1.hs.sep, hS1.hs.blk, fun x L hx => .inl ?_, by rw [e0]; exact hS1.size, by rw [e0]; exact hS1.df, by rw [e0]; exact agree.refl _ _, by rw [e0]; exact ⟨rfl, rfl, rfl, Nat.le_refl _, fun _ _ _ => rfl, fun _ h => .inl h⟩, fun j hj _ hdj => absurd hdj (nn j)⟩
      rw [e0]
      rcases Nat.lt_or_ge x S.nx with h | h
      · exact h
      · rw [hS1.hs.dom x h] at hx; cases hx
    · intro x y hx _
      rw [Array.getElem?_replicate] at hx
      split at hx <;> cases hx
  · cases h
end
end CX
