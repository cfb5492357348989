/-
  The abstract evaluator, part 12: closed checks of what is told of the types; what is known; loops as functions; the steps of a walk.
-/
import Derived.Test.YtpmmaohaahbphaaDoorB11
import Derived.KernelRfl
namespace Go.Proofs.YtpmmaohaahbphaaDoor
open Go.RowKit

def aggOf (P : Program) (t : TypeId) : Option Bool :=
  match P.underlying t with
  | some (.struct _) => some true
  | some (.array _ _) => some true
  | some _ => some false
  | none => none
def offsOk (P : Program) (fs : Array Field) (l : List (Nat × Nat × Bool)) : Bool :=
  (List.range l.length).all fun k => match l[k]?, fs[k]? with
    | some (o, s, g), some fd => fd.offset == o && ((P.info? fd.type).map (·.size)) == some s && decide (0 < s) && aggOf P fd.type == some g
    | _, _ => false
def placesOk (P : Program) (fs : Array Field) (l : List (Nat × Nat × Bool)) : Bool :=
  l.isEmpty || fs.toList.mapM (fun f => (P.info? f.type).map fun j => (f.offset, j.size)) == some (l.map fun x => (x.1, x.2.1))
def arrCheck (P : Program) (t : TypeId) (i : TI) : Bool :=
  match i.arr.1 with
  | 0 => true
  | n + 1 => match P.underlying t with
    | some (.array m e) => Nat.beq m (n + 1) && Nat.beq e i.arr.2
    | _ => false
theorem arr_of {P : Program} {t : TypeId} {i : TI} (h : arrCheck P t i = true) (hn : Nat.beq i.arr.1 0 = false) : P.underlying t = some (.array i.arr.1 i.arr.2) := by
  unfold arrCheck at h
  split at h
  · rename_i e; rw [e] at hn; cases hn
  · rename_i n e
    split at h
    · rename_i m f hu
      rw [Bool.and_eq_true] at h
      rw [hu, e, Nat.eq_of_beq_eq_true h.1, Nat.eq_of_beq_eq_true h.2]
    · cases h
def mapCheck (P : Program) (t : TypeId) (i : TI) : Bool :=
  match i.mapT with
  | none => true
  | some (k, e) => match P.underlying t with
    | some (.map k' e') => Nat.beq k k' && Nat.beq e e'
    | _ => false
def tiCheck (P : Program) (t : TypeId) (i : TI) : Bool :=
  ((P.info? t).map (·.size)) == some i.size && ((P.info? t).map (·.bytes)) == some i.bytes && aggOf P t == some i.agg && (i.agg || i.size == 1) &&
  (match P.underlying t with
   | some (.struct fs) => offsOk P fs i.offs && placesOk P fs i.offs && i.elem == 0 && i.kind == none && !i.str
   | some (.slice e) => i.offs.isEmpty && (i.elem == 0 || i.elem == e) && i.kind == none && !i.str
   | some (.int k) => i.offs.isEmpty && i.elem == 0 && (i.kind == none || i.kind == some k) && !i.str
   | some .string => i.offs.isEmpty && i.elem == 0 && i.kind == none
   | _ => i.offs.isEmpty && i.elem == 0 && i.kind == none && !i.str) &&
  (match i.zero with
   | .bool _ => (match P.underlying t with | some .bool => true | _ => false)
   | _ => true) && arrCheck P t i && mapCheck P t i

theorem run_isAgg {P : Program} {t : TypeId} {g : Bool} (h : aggOf P t = some g) (w : World) : (isAgg t).run P w = .ok g w := by
  unfold aggOf at h
  unfold isAgg
  split at h
  · rename_i d hd; simp at h; subst h; simp [run_underlying hd]
  · rename_i d hd; simp at h; subst h; simp [run_underlying hd]
  · rename_i d h1 h2 hd
    simp at h; subst h
    simp only [Sem.run_bind, run_underlying hd, Result.andThen_ok]
    rfl
  · cases h
theorem run_sizeOf {P : Program} {t : TypeId} {s : Nat} (h : (P.info? t).map (·.size) = some s) (w : World) : (sizeOf t).run P w = .ok s w := by
  obtain ⟨ti, h1, rfl⟩ := Option.map_eq_some_iff.1 h
  simp [sizeOf, typeInfo, h1]

def ckDesc (k : CK) (o : Option TypeDesc) : Bool :=
  match k with
  | .i k => match o with
    | some (.int k') => k == k'
    | _ => false
  | .b => match o with
    | some .bool => true
    | _ => false
  | .s => match o with
    | some .string => true
    | _ => false
def eqFs (P : Program) : Nat → List Field → List CK → Bool
  | _, [], [] => true
  | j, f :: fs, k :: ks => (f.name != "_") && Nat.beq f.offset j && aggOf P f.type == some false && ckDesc k (P.underlying f.type) && eqFs P (j + 1) fs ks
  | _, _, _ => false
def eqCheck (P : Program) (t : TypeId) (i : TI) : Bool :=
  match ckOf i.cod with
  | none => true
  | some ks => (match P.underlying t with
    | some (.struct fs) => eqFs P 0 fs.toList ks
    | _ => false) && (P.stoodInHeld t == false) && (P.eqGuardType P.depth t == false)
theorem run_eq1 {P : Program} {t : TypeId} {k : CK} (hd : ckDesc k (P.underlying t) = true) {x y : Value} (hx : k.fits x) (hy : k.fits y) (d : Nat) (w : World) : (Op.equalIn (d + 1) t x y).run P w = .ok (eqV1 x y) w := by
  unfold ckDesc at hd
  split at hd
  · split at hd
    · rename_i k' hu
      obtain ⟨a, rfl⟩ := hx
      obtain ⟨b, rfl⟩ := hy
      rw [run_equalIn_int w d t _ k' a b hu]
      rfl
    · cases hd
  · split at hd
    · rename_i hu
      obtain ⟨a, rfl⟩ := hx
      obtain ⟨b, rfl⟩ := hy
      rw [run_equalIn_bool' w d t a b hu]
      rfl
    · cases hd
  · split at hd
    · rename_i hu
      obtain ⟨a, rfl⟩ := hx
      obtain ⟨b, rfl⟩ := hy
      rw [run_equalIn_string w d t a b hu, str_eq]
      rfl
    · cases hd
theorem fits_get : ∀ {ks : List CK} {xs : List Value} (j : Nat), CK.fitsL ks xs → ∀ k, ks[j]? = some k → ∃ x, xs[j]? = some x ∧ k.fits x
  | [], _, j, _, k, e => by simp at e
  | k :: ks, [], j, h, _, _ => by simp [CK.fitsL] at h
  | k :: ks, x :: xs, 0, h, k', e => by simp at e; subst e; exact ⟨x, rfl, h.1⟩
  | k :: ks, x :: xs, j + 1, h, k', e => by simpa using fits_get j h.2 k' (by simpa using e)
theorem fits_len : ∀ {ks : List CK} {xs : List Value}, CK.fitsL ks xs → xs.length = ks.length
  | [], [], _ => rfl
  | [], _ :: _, h => by simp [CK.fitsL] at h
  | _ :: _, [], h => by simp [CK.fitsL] at h
  | k :: ks, x :: xs, h => by simp [fits_len h.2]
theorem eqFs_run {P : Program} {xs ys : Array Value} {ks0 : List CK} (hx : CK.fitsL ks0 xs.toList) (hy : CK.fitsL ks0 ys.toList) (w : World) : ∀ (fs : List Field) (ks : List CK) (j : Nat), ks = ks0.drop j → eqFs P j fs ks = true →
    (Op.eqFields 9999 xs ys fs).run P w = .ok (eqVs (xs.toList.drop j) (ys.toList.drop j)) w
  | [], [], j, hks, _ => by
    have h0 : ks0.length ≤ j := by
      have := congrArg List.length hks; simp at this; omega
    have h1 := fits_len hx
    have h2 : xs.toList.drop j = [] := by rw [List.drop_eq_nil_iff]; omega
    rw [h2]; simp [Op.eqFields, eqVs]
  | [], _ :: _, j, _, h => by simp [eqFs] at h
  | _ :: _, [], j, _, h => by simp [eqFs] at h
  | f :: fs, k :: ks, j, hks, h => by
    simp only [eqFs, Bool.and_eq_true, bne_iff_ne, ne_eq] at h
    obtain ⟨⟨⟨⟨h1, h2⟩, h3⟩, h4⟩, h5⟩ := h
    have h2 := Nat.eq_of_beq_eq_true h2
    have h3 := run_isAgg (P := P) (by simpa using h3)
    have hk : ks0[j]? = some k := by
      have := congrArg (fun l => l[0]?) hks
      simpa using this.symm
    obtain ⟨x, ex, fx⟩ := fits_get j hx k hk
    obtain ⟨y, ey, fy⟩ := fits_get j hy k hk
    have px : ∀ w, (part f.type xs f.offset).run P w = .ok x w := fun w => by
      have : xs[f.offset]? = some x := by rw [h2]; simpa using ex
      simp [part, h3, this]
    have py : ∀ w, (part f.type ys f.offset).run P w = .ok y w := fun w => by
      have : ys[f.offset]? = some y := by rw [h2]; simpa using ey
      simp [part, h3, this]
    have hrec := eqFs_run hx hy w fs ks (j + 1) (by rw [← List.tail_drop, ← hks]; rfl) h5
    have dx : xs.toList.drop j = x :: xs.toList.drop (j + 1) := by
      have hj := (List.getElem?_eq_some_iff.1 ex)
      rw [List.drop_eq_getElem_cons hj.1, hj.2]
    have dy : ys.toList.drop j = y :: ys.toList.drop (j + 1) := by
      have hj := (List.getElem?_eq_some_iff.1 ey)
      rw [List.drop_eq_getElem_cons hj.1, hj.2]
    have he := run_eq1 h4 fx fy 9998 w
    rw [dx, dy]
    simp only [Op.eqFields, eqVs]
    rw [if_pos (by simpa using h1)]
    simp only [Sem.run_bind, px, py, Result.andThen_ok]
    rw [show (9999 : Nat) = 9998 + 1 from rfl, he]
    simp only [Result.andThen_ok]
    cases hv : eqV1 x y
    · simp
    · simpa using hrec
theorem eqok_of {P : Program} {t : TypeId} {i : TI} (h : eqCheck P t i = true) (ks : List CK) (hk : ckOf i.cod = some ks) : EqOk P t ks := by
  unfold eqCheck at h
  rw [hk] at h
  simp only [Bool.and_eq_true, beq_iff_eq] at h
  obtain ⟨⟨h1, h2⟩, h3⟩ := h
  refine ⟨h3, fun xs ys hx hy w => ?_⟩
  split at h1
  · rename_i fs hu
    have hf : P.fieldsOf t = fs := by simp [Program.fieldsOf, hu]
    rw [run_equalIn_struct w 9999 t xs ys (by rw [hf]; exact hu) h2, hf]
    simpa using eqFs_run hx hy w fs.toList ks 0 (by simp) h1
  · cases h1

theorem run_ck1 {P : Program} {t : TypeId} {k : CK} (hd : ckDesc k (P.underlying t) = true) {x : Value} (hx : k.fits x) (b : Bool) (n : Nat) (w : World) : (Instr.checkKey b (n + 1) t x).run P w = .ok () w := by
  unfold ckDesc at hd
  split at hd
  · split at hd
    · rename_i k' hu
      obtain ⟨a, rfl⟩ := hx
      simp [Instr.checkKey, run_underlying hu]
    · cases hd
  · split at hd
    · rename_i hu
      obtain ⟨a, rfl⟩ := hx
      simp [Instr.checkKey, run_underlying hu]
    · cases hd
  · split at hd
    · rename_i hu
      obtain ⟨a, rfl⟩ := hx
      simp [Instr.checkKey, run_underlying hu]
    · cases hd
theorem keyok_of {P : Program} {t : TypeId} {i : TI} (h : eqCheck P t i = true) (ks : List CK) (hk : ckOf i.cod = some ks) : KeyOk P t ks := by
  unfold eqCheck at h
  rw [hk] at h
  simp only [Bool.and_eq_true, beq_iff_eq] at h
  obtain ⟨⟨h1, _⟩, _⟩ := h
  split at h1
  · rename_i fs hu
    refine ⟨⟨fs, hu⟩, fun b xs hx w => ?_⟩
    rw [show (10000 : Nat) = 9998 + 1 + 1 from rfl, Instr.checkKey]
    simp only [Sem.run_bind, run_underlying hu, Result.andThen_ok]
    rw [← Array.forIn_toList]
    have key : ∀ (L : List Field) (ks' : List CK) (j : Nat), ks' = ks.drop j → eqFs P j L ks' = true → ∀ f ∈ L, f.name ≠ "_" ∧ ∃ x, (part f.type xs f.offset).run P w = .ok x w ∧ (Instr.checkKey b (9998 + 1) f.type x).run P w = .ok () w := by
      intro L
      induction L with
      | nil => intro _ _ _ _ f hf; simp at hf
      | cons g L ih =>
        intro ks' j hks h f hf
        cases ks' with
        | nil => simp [eqFs] at h
        | cons k ks' =>
          simp only [eqFs, Bool.and_eq_true, bne_iff_ne, ne_eq] at h
          obtain ⟨⟨⟨⟨g1, g2⟩, g3⟩, g4⟩, g5⟩ := h
          rcases List.mem_cons.1 hf with rfl | hf
          · have g2 := Nat.eq_of_beq_eq_true g2
            have g3 := run_isAgg (P := P) (by simpa using g3)
            have hk : ks[j]? = some k := by
              have := congrArg (fun l => l[0]?) hks
              simpa using this.symm
            obtain ⟨x, ex, fx⟩ := fits_get j hx k hk
            have hx' : xs[f.offset]? = some x := by rw [g2]; simpa using ex
            exact ⟨g1, x, by simp [part, g3, hx'], run_ck1 g4 fx b 9998 w⟩
          · exact ih ks' (j + 1) (by rw [← List.tail_drop, ← hks]; rfl) g5 f hf
    have each := key fs.toList ks 0 (by simp) h1
    clear key
    generalize fs.toList = L at each
    induction L with
    | nil => simp
    | cons f L ih =>
      obtain ⟨hn, x, p1, p2⟩ := each f (by simp)
      simp only [List.forIn_cons, Sem.run_bind, hn, ne_eq, not_false_eq_true, if_true, Result.andThen_ok, p1, p2, Sem.run_pure]
      exact ih (fun y hy => each y (by simp [hy]))
  · cases h1
theorem map_of {P : Program} {t : TypeId} {i : TI} (h : mapCheck P t i = true) (k e : Nat) (hm : i.mapT = some (k, e)) : P.underlying t = some (.map k e) := by
  unfold mapCheck at h
  rw [hm] at h
  dsimp only at h
  split at h
  · rename_i k' e' hu
    rw [Bool.and_eq_true] at h
    rw [hu, Nat.eq_of_beq_eq_true h.1, Nat.eq_of_beq_eq_true h.2]
  · cases h

theorem tiok_of {P : Program} {t : TypeId} {i : TI} (h : tiCheck P t i = true) (hz : (P.info? t).bind (·.zero) = some i.zero) (hq : eqCheck P t i = true) : TIok P t i := by
  simp only [tiCheck, Bool.and_eq_true, beq_iff_eq] at h
  obtain ⟨⟨⟨⟨⟨⟨⟨h1, h2⟩, h3⟩, h4⟩, h5⟩, h6⟩, h7⟩, h8⟩ := h
  obtain ⟨ti, e1, e2⟩ := Option.map_eq_some_iff.1 h1
  have e3 : ti.bytes = i.bytes := by rw [e1] at h2; simpa using h2
  have e4 : ti.zero = some i.zero := by rw [e1] at hz; simpa using hz
  refine ⟨run_sizeOf h1, run_isAgg h3, fun w => by simp [zeroValue, typeInfo, e1, e4], fun f o s g e => ?_, fun hne => ?_, fun k hk => ?_, fun hs => ?_, fun b hb => ?_, fun hne => ?_, fun ha => ?_, ⟨ti, e1, e4, e2, e3⟩, eqok_of hq, arr_of h7, map_of h8, keyok_of hq⟩
  · split at h5
    · rename_i fs hu
      simp only [Bool.and_eq_true, offsOk, List.all_eq_true, List.mem_range] at h5
      have := h5.1.1.1.1 f (List.getElem?_eq_some_iff.1 e).1
      rw [e] at this
      cases e5 : fs[f]? with
      | none => simp [e5] at this
      | some fd =>
        simp only [e5, Bool.and_eq_true, beq_iff_eq, decide_eq_true_eq] at this
        obtain ⟨⟨⟨f1, f2⟩, f3⟩, f4⟩ := this
        exact ⟨fs, fd, hu, e5, f1, run_sizeOf f2, f3, run_isAgg f4⟩
    all_goals (simp only [Bool.and_eq_true, List.isEmpty_iff] at h5)
    · rw [h5.1.1.1] at e; simp at e
    · rw [h5.1.1.1] at e; simp at e
    · rw [h5.1.1] at e; simp at e
    · rw [h5.1.1.1] at e; simp at e
  · split at h5
    all_goals (simp only [Bool.and_eq_true, beq_iff_eq, Bool.or_eq_true] at h5)
    · exact absurd h5.1.1.2 hne
    · rename_i e' hu
      rcases h5.1.1.2 with h | h
      · exact absurd h hne
      · rw [h]; exact hu
    · exact absurd h5.1.1.2 hne
    · exact absurd h5.1.2 hne
    · exact absurd h5.1.1.2 hne
  · split at h5
    all_goals (simp only [Bool.and_eq_true, beq_iff_eq, Bool.or_eq_true] at h5)
    · rw [h5.1.2] at hk; cases hk
    · rw [h5.1.2] at hk; cases hk
    · rename_i k' hu
      rcases h5.1.2 with h | h
      · rw [h] at hk; cases hk
      · rw [h] at hk; cases hk; exact hu
    · rw [h5.2] at hk; cases hk
    · rw [h5.1.2] at hk; cases hk
  · split at h5
    all_goals (simp only [Bool.and_eq_true] at h5)
    · rw [hs] at h5; simp at h5
    · rw [hs] at h5; simp at h5
    · rw [hs] at h5; simp at h5
    · rename_i hu; exact hu
    · rw [hs] at h5; simp at h5
  · rw [hb] at h6
    dsimp only at h6
    split at h6
    · assumption
    · cases h6
  · split at h5
    · rename_i fs hu
      simp only [Bool.and_eq_true, placesOk, hne, Bool.false_or, beq_iff_eq] at h5
      exact ⟨fs, hu, h5.1.1.1.2⟩
    all_goals (simp only [Bool.and_eq_true, hne, Bool.false_eq_true, false_and] at h5)
  · simpa [ha] using h4


/-! ### What is known, one thing more at a time -/
def Env.add (G : Env) (f : Nat) (ms : List Bool) (S : List AV → List (Option LB) → AV → List (Option LB) → Prop) : Env := ⟨G.T, fun g => match Nat.beq g f with
    | true => ms
    | false => G.M g, fun g az h r h1 => match Nat.beq g f with
    | true => S az h r h1
    | false => G.S g az h r h1, []⟩
def env0 (T : Nat → Option TI) : Env := ⟨T, fun _ => [], fun _ _ _ _ _ => False, []⟩
theorem EnvOk.at {P : Program} {G : Env} (hG : EnvOk P G) {T : Nat → Option TI} (hT : TOk P T) (tr : List Nat) : EnvOk P ⟨T, G.M, G.S, tr⟩ := ⟨hT, hG.mix, hG.S⟩
theorem env0_ok {P : Program} {T : Nat → Option TI} (hT : TOk P T) (hm : P.follows .mixedOrders = true) : EnvOk P (env0 T) := ⟨hT, hm, fun _ _ _ _ _ h => h.elim⟩
theorem EnvOk.add {P : Program} {G : Env} (hG : EnvOk P G) {f : Nat} {ms : List Bool} (hent : Enters P f) {S : List AV → List (Option LB) → AV → List (Option LB) → Prop} (h : ∀ az h r h1, S az h r h1 → Spec P f az h r h1) : EnvOk P (G.add f ms S) :=
  ⟨hG.T, hG.mix, fun g az k r h1 hh => by
    unfold Env.add at hh
    dsimp only at hh
    split at hh
    · rename_i e; obtain rfl := Nat.eq_of_beq_eq_true e; exact ⟨hent, h az k r h1 hh⟩
    · exact hG.S g az k r h1 hh⟩

/-- One contract more for a function that has some. -/
def Env.addOr (G : Env) (f : Nat) (ms : List Bool) (S : List AV → List (Option LB) → AV → List (Option LB) → Prop) : Env := ⟨G.T, fun g => match Nat.beq g f with
    | true => ms
    | false => G.M g, fun g az h r h1 => match Nat.beq g f with
    | true => S az h r h1 ∨ G.S g az h r h1
    | false => G.S g az h r h1, []⟩
theorem EnvOk.addOr {P : Program} {G : Env} (hG : EnvOk P G) {f : Nat} {ms : List Bool} (hent : Enters P f) {S : List AV → List (Option LB) → AV → List (Option LB) → Prop} (h : ∀ az h r h1, S az h r h1 → Spec P f az h r h1) : EnvOk P (G.addOr f ms S) :=
  ⟨hG.T, hG.mix, fun g az k r h1 hh => by
    unfold Env.addOr at hh
    dsimp only at hh
    split at hh
    · rename_i e
      rcases hh with hh | hh
      · obtain rfl := Nat.eq_of_beq_eq_true e; exact ⟨hent, h az k r h1 hh⟩
      · exact hG.S g az k r h1 hh
    · exact hG.S g az k r h1 hh⟩

/-! ### Contracts at a call: less is asked than is known -/
def leB (b' b : LB) : Prop :=
  match b with
  | .box ty cs => match b' with
    | .box ty' cs' => Nat.beq ty' ty = true ∧ leL cs' cs
    | _ => False
  | .arr ty t xs => Ob (b' = .arr ty t xs)
  | .mp ty t ks => Ob (b' = .mp ty t ks)
  | .nst ty tyI t xss => Ob (b' = .nst ty tyI t xss)
def leBk (b' b : LB) (K : Prop) : Prop :=
  match b with
  | .box ty cs => match b' with
    | .box ty' cs' => whenB (Nat.beq ty' ty) (leLk cs' cs K)
    | _ => False
  | .arr ty t xs => Ob (b' = .arr ty t xs) ∧ K
  | .mp ty t ks => Ob (b' = .mp ty t ks) ∧ K
  | .nst ty tyI t xss => Ob (b' = .nst ty tyI t xss) ∧ K
theorem leBk_out {b' b : LB} {K : Prop} (h : leBk b' b K) : leB b' b ∧ K := by
  unfold leBk at h
  unfold leB
  split at h
  · split at h
    · obtain ⟨h1, h⟩ := whenB_out h
      obtain ⟨h2, h3⟩ := leLk_out h
      exact ⟨⟨h1, h2⟩, h3⟩
    · exact h.elim
  · exact h
  · exact h
  · exact h
def leH (h' : List (Option LB)) : List (Option LB) → Prop
  | [] => match h' with
    | [] => True
    | _ => False
  | none :: os => match h' with
    | none :: h' => leH h' os
    | _ => False
  | some b :: os => match h' with
    | some b' :: h' => leB b' b ∧ leH h' os
    | _ => False
def leHk (h' : List (Option LB)) : List (Option LB) → Prop
  | [] => match h' with
    | [] => True
    | _ => False
  | none :: os => match h' with
    | none :: h' => leHk h' os
    | _ => False
  | some b :: os => match h' with
    | some b' :: h' => leBk b' b (leHk h' os)
    | _ => False
theorem leHk_out : ∀ {h h' : List (Option LB)}, leHk h' h → leH h' h
  | [], h', e => by unfold leHk at e; unfold leH; exact e
  | none :: os, h', e => by
    unfold leHk at e
    unfold leH
    split at e
    · exact leHk_out e
    · exact e.elim
  | some b :: os, h', e => by
    unfold leHk at e
    unfold leH
    split at e
    · obtain ⟨h1, h2⟩ := leBk_out e
      exact ⟨h1, leHk_out h2⟩
    · exact e.elim
/-- What is asked at a call. -/
theorem args_ok {ar cs : List AV} {h' h : List (Option LB)} (e : leLk ar cs (leHk h' h)) : leL ar cs ∧ leH h' h := by
  obtain ⟨h1, h2⟩ := leLk_out e
  exact ⟨h1, leHk_out h2⟩
theorem leH_get : ∀ {h h' : List (Option LB)}, leH h' h → h'.length = h.length ∧ ∀ k : Nat, (h'[k]? = h[k]?) ∨ ∃ b' b, h'[k]? = some (some b') ∧ h[k]? = some (some b) ∧ leB b' b
  | [], h', e => by
    unfold leH at e
    split at e
    · exact ⟨rfl, fun k => .inl rfl⟩
    · exact e.elim
  | none :: os, h', e => by
    unfold leH at e
    split at e
    · obtain ⟨h1, h2⟩ := leH_get e
      refine ⟨by simp [h1], fun k => ?_⟩
      cases k with
      | zero => exact .inl rfl
      | succ k => simpa using h2 k
    · exact e.elim
  | some b :: os, h', e => by
    unfold leH at e
    split at e
    · rename_i b' h''
      obtain ⟨h1, h2⟩ := leH_get e.2
      refine ⟨by simp [h1], fun k => ?_⟩
      cases k with
      | zero => exact .inr ⟨b', b, rfl, rfl, e.1⟩
      | succ k => simpa using h2 k
    · exact e.elim
theorem leH_live {h h' : List (Option LB)} (e : leH h' h) {k : Nat} {b : LB} (hb : h[k]? = some (some b)) : ∃ b', h'[k]? = some (some b') ∧ (b' = b ∨ leB b' b) := by
  rcases (leH_get e).2 k with e1 | ⟨b1, b2, e1, e2, e3⟩
  · exact ⟨b, e1.trans hb, .inl rfl⟩
  · rw [hb] at e2; cases e2; exact ⟨b1, e1, .inr e3⟩
theorem leB_sub {b' b : LB} (e : b' = b ∨ leB b' b) : b.subn = b'.subn := by
  rcases e with rfl | e
  · rfl
  unfold leB at e
  split at e
  · split at e
    · rfl
    · exact e.elim
  · rw [e.out]
  · rw [e.out]
  · rw [e.out]
theorem leH_live' {h h' : List (Option LB)} (e : leH h' h) {k : Nat} {b' : LB} (hb : h'[k]? = some (some b')) : ∃ b, h[k]? = some (some b) ∧ b.subn = b'.subn := by
  rcases (leH_get e).2 k with e1 | ⟨b1, b2, e1, e2, e3⟩
  · exact ⟨b', e1.symm.trans hb, rfl⟩
  · rw [hb] at e1; cases e1; exact ⟨b2, e2, leB_sub (.inr e3)⟩
theorem blkR_le {w : World} {S : Nat → Prop} {V : Nat → Info} {N : Nat} {I : Info} {b' b : LB} {cur : Array Value} (hc : BlkR w S V N I b' cur) (e : b' = b ∨ leB b' b) : BlkR w S V N I b cur := by
  rcases e with rfl | e
  · exact hc
  unfold leB at e
  split at e
  · rename_i ty cs
    split at e
    · rename_i ty' cs'
      obtain ⟨a1, a2⟩ := e
      obtain rfl := Nat.eq_of_beq_eq_true a1
      have hcur : cur.size = cs'.length := by have := hc.box rfl; simpa [LB.len, LB.sz] using this
      have hcell : ∀ (j : Nat) (c : AV) (y : Value), cs'[j]? = some c → cur[j]? = some y → y.oneCell' = true ∧ R w S V N c y := fun j c y g1 g2 => by
        obtain ⟨y', k1, k2, k3⟩ := hc.cell 0 j c Nat.zero_lt_one g1
        have k1 : cur[0 * cs'.length + j]? = some y' := k1
        rw [Nat.zero_mul, Nat.zero_add, g2] at k1
        cases k1
        exact ⟨k2, k3⟩
      obtain ⟨b1, b2⟩ := leL_R (w := w) (S := S) (V := V) (N := N) a2 cur.toList (by simpa using hcur) fun j c y g1 g2 => (hcell j c y g1 (by simpa using g2)).2
      have hsz : I.sz = cs'.length := hc.sz
      refine ⟨by rw [hsz]; exact b1, hc.ln, hc.heap, fun k j c g1 g2 => ?_, fun g => by simp [LB.isArr] at g, (fun _ => by simp [LB.len, LB.sz]; omega), (fun g => by simp [LB.isArr] at g), trivial⟩
      have hk0 : k = 0 := by simp only [LB.len] at g1; omega
      subst hk0
      have g2 : cs[j]? = some c := g2
      have hj : j < cur.size := by have := (List.getElem?_eq_some_iff.1 g2).1; omega
      have hy : cur[j]? = some cur[j] := Array.getElem?_eq_getElem hj
      have hj' : j < cs'.length := by omega
      exact ⟨cur[j], by simp [LB.sz, hj], (hcell j _ _ (List.getElem?_eq_getElem hj') hy).1, b2 j c _ g2 (by simp [hj])⟩
    · exact e.elim
  · rw [← e.out]; exact hc
  · rw [← e.out]; exact hc
  · rw [← e.out]; exact hc
theorem Spec.le {P : Program} {f : FuncId} {args args' : List AV} {h h' h1 : List (Option LB)} {r : AV} (hs : Spec P f args h r h1) (ha : leL args' args) (hh : leH h' h) : Spec P f args' h' r h1 := by
  have hlen := (leH_get hh).1
  have hblk : ∀ V : Nat → Info, blkOf h' V = blkOf h V := fun V => by
    funext b
    refine propext ⟨fun ⟨id, lb, e1, e2⟩ => ?_, fun ⟨id, lb, e1, e2⟩ => ?_⟩
    · obtain ⟨lb', e3, e4⟩ := leH_live' hh e1; exact ⟨id, lb', e3, foot_sub (Nat.le_of_eq e4.symm) e2⟩
    · obtain ⟨lb', e3, e4⟩ := leH_live hh e1; exact ⟨id, lb', e3, foot_sub (Nat.le_of_eq (leB_sub e4)) e2⟩
  intro w GB V S0 vs hLw hGB hhr hsz hargs
  have hat : atR S0 h' V w = atR S0 h V w := by unfold atR; rw [hblk]
  have hstb : ∀ b, Stb (atR S0 h V w) w h' V b → Stb (atR S0 h V w) w h V b := fun b hb => ⟨hb.1, hb.2.1, fun id lb e => by
    obtain ⟨lb', e1, e4⟩ := leH_live hh e
    exact fun hf => hb.2.2 id lb' e1 (foot_sub (Nat.le_of_eq (leB_sub e4)) hf)⟩
  rw [hblk, hat] at hhr
  rw [hat] at hargs
  rw [hblk] at hGB ⊢
  rw [hat, hlen]
  obtain ⟨g1, g2⟩ := leL_R (w := w) (S := Stb (atR S0 h V w) w h' V) (V := V) (N := h'.length) ha vs.toList (by simpa using hsz) fun i c x e1 e2 => hargs i c x e1 (by simpa using e2)
  refine hs w GB V S0 vs hLw hGB ⟨fun i j li lj e1 e2 hne b g1 g2 => ?_, fun id lb e => ?_, fun id lb e b hf hlt => ⟨id, lb, e, hf⟩⟩ (by omega) fun i c x e1 e2 => ?_
  · obtain ⟨l1, f1, k1⟩ := leH_live hh e1
    obtain ⟨l2, f2, k2⟩ := leH_live hh e2
    exact hhr.inj i j l1 l2 f1 f2 hne b (foot_sub (Nat.le_of_eq (leB_sub k1)) g1) (foot_sub (Nat.le_of_eq (leB_sub k2)) g2)
  · obtain ⟨lb', f1, f2⟩ := leH_live hh e
    obtain ⟨cur, hc⟩ := hhr.blk id lb' f1
    exact ⟨cur, (blkR_le hc f2).mono (fun b hb => ⟨hstb b hb, rfl⟩) (fun _ _ => rfl) (by omega) (fun _ _ => rfl)⟩
  · exact (g2 i c x e1 (by simpa using e2)).mono (fun b hb => ⟨hstb b hb, rfl⟩) (fun _ _ => rfl) (by omega)

/-! ### Conditions, choices, loops, as functions -/
def grd {α : Type} (p : Prop) [Decidable p] (x : Option α) : Option α := if p then x else none
theorem grd_p {α : Type} {p : Prop} [Decidable p] {x : Option α} {r : α} (h : grd p x = some r) : p := by
  unfold grd at h
  split at h
  · assumption
  · cases h
theorem grd_k {α : Type} {p : Prop} [Decidable p] {x : Option α} {r : α} (h : grd p x = some r) : x = some r := by
  unfold grd at h
  split at h
  · exact h
  · cases h
theorem cond_t {α : Type} {b : Bool} {x y : Option α} {r : α} (hb : b = true) (h : cond b x y = some r) : x = some r := by rw [hb] at h; exact h
theorem cond_f {α : Type} {b : Bool} {x y : Option α} {r : α} (hb : b = false) (h : cond b x y = some r) : y = some r := by rw [hb] at h; exact h
theorem bind_some {α β : Type} {x : Option α} {f : α → Option β} {r : β} (h : x.bind f = some r) : ∃ y, x = some y ∧ f y = some r := by
  cases x with
  | none => cases h
  | some y => exact ⟨y, rfl, h⟩
theorem eqg {α : Type} {a b : α} (h : a = b) : a = b := h
inductive Lp (S R : Type) where
  | go (s : S)
  | out (r : R)
def iterN {S R : Type} (step : S → Option (Lp S R)) : Nat → S → Option R
  | 0, _ => none
  | n + 1, s => match step s with
    | none => none
    | some (.go s') => iterN step n s'
    | some (.out r) => some r
theorem iterN_mono {S R : Type} {step : S → Option (Lp S R)} : ∀ {n m : Nat} {s : S} {r : R}, iterN step n s = some r → n ≤ m → iterN step m s = some r
  | 0, _, _, _, h, _ => by cases h
  | n + 1, 0, _, _, _, h => by omega
  | n + 1, m + 1, s, r, h, hm => by
    unfold iterN at h ⊢
    split at h
    · cases h
    · exact iterN_mono h (by omega)
    · exact h
/-- A loop: what it comes to, if it ends. -/
noncomputable def iter {S R : Type} (step : S → Option (Lp S R)) (s : S) : Option R :=
  open Classical in if h : ∃ r n, iterN step n s = some r then some h.choose else none
theorem iter_iff {S R : Type} {step : S → Option (Lp S R)} {s : S} {r : R} : iter step s = some r ↔ ∃ n, iterN step n s = some r := by
  unfold iter
  constructor
  · intro h
    split at h
    · rename_i hh
      cases h
      exact hh.choose_spec
    · cases h
  · rintro ⟨n, hn⟩
    have hh : ∃ r n, iterN step n s = some r := ⟨r, n, hn⟩
    rw [dif_pos hh]
    obtain ⟨m, hm⟩ := hh.choose_spec
    have h1 := iterN_mono hn (Nat.le_max_left n m)
    have h2 := iterN_mono hm (Nat.le_max_right n m)
    rw [h1] at h2
    cases h2; rfl
theorem iter_go {S R : Type} {step : S → Option (Lp S R)} {s s' : S} (h : step s = some (.go s')) : iter step s = iter step s' := by
  have key : ∀ r, iter step s = some r ↔ iter step s' = some r := fun r => by
    rw [iter_iff, iter_iff]
    constructor
    · rintro ⟨n, hn⟩
      cases n with
      | zero => cases hn
      | succ n => unfold iterN at hn; rw [h] at hn; exact ⟨n, hn⟩
    · rintro ⟨n, hn⟩
      exact ⟨n + 1, by unfold iterN; rw [h]; exact hn⟩
  cases e : iter step s' with
  | some r => exact (key r).2 e
  | none =>
    cases e2 : iter step s with
    | none => rfl
    | some r => rw [(key r).1 e2] at e; cases e
theorem iter_out {S R : Type} {step : S → Option (Lp S R)} {s : S} {r : R} (h : step s = some (.out r)) : iter step s = some r :=
  iter_iff.2 ⟨1, by unfold iterN; rw [h]⟩
theorem iter_step {S R : Type} {step : S → Option (Lp S R)} {s : S} {r : R} (h : iter step s = some r) : ∃ v, step s = some v ∧ (∀ s', v = .go s' → iter step s' = some r) ∧ ∀ r', v = .out r' → r' = r := by
  cases e : step s with
  | none =>
    obtain ⟨n, hn⟩ := iter_iff.1 h
    cases n with
    | zero => cases hn
    | succ n => unfold iterN at hn; rw [e] at hn; cases hn
  | some v =>
    refine ⟨v, rfl, fun s' hv => ?_, fun r' hv => ?_⟩
    · subst hv; rw [← iter_go e]; exact h
    · subst hv; rw [iter_out e] at h; cases h; rfl
/-- To show that a loop ends, and where: an invariant and a measure. -/
theorem iter_rule {S R : Type} {step : S → Option (Lp S R)} (I : S → Prop) (μ : S → Nat) (Q : R → Prop)
    (h : ∀ s, I s → (∃ s', step s = some (.go s') ∧ I s' ∧ μ s' < μ s) ∨ ∃ r, step s = some (.out r) ∧ Q r) : ∀ s, I s → ∃ r, iter step s = some r ∧ Q r := by
  have key : ∀ (n : Nat) (s : S), μ s = n → I s → ∃ r, iter step s = some r ∧ Q r := by
    intro n
    induction n using Nat.strongRecOn with
    | _ n ih =>
      intro s hs hI
      rcases h s hI with ⟨s', e, hI', hlt⟩ | ⟨r, e, hq⟩
      · obtain ⟨r, e2, hq⟩ := ih (μ s') (hs ▸ hlt) s' rfl hI'
        exact ⟨r, (iter_go e).trans e2, hq⟩
      · exact ⟨r, iter_out e, hq⟩
  exact fun s hI => key _ s rfl hI
/-- How many rounds are left. -/
def cnt {S R : Type} (step : S → Option (Lp S R)) : Nat → S → Nat
  | 0, _ => 0
  | n + 1, s => match step s with
    | some (.go s') => cnt step n s' + 1
    | _ => 0
theorem cnt_eq {S R : Type} {step : S → Option (Lp S R)} : ∀ {n m : Nat} {s : S} {r r' : R}, iterN step n s = some r → iterN step m s = some r' → cnt step n s = cnt step m s
  | 0, _, _, _, _, h, _ => by cases h
  | _ + 1, 0, _, _, _, _, h => by cases h
  | n + 1, m + 1, s, r, r', h1, h2 => by
    unfold iterN at h1 h2
    unfold cnt
    split at h1
    · cases h1
    · rename_i s' e
      rw [e] at h2 ⊢
      simp only at h2 ⊢
      rw [cnt_eq h1 h2]
    · rename_i r0 e
      rw [e]
noncomputable def rank {S R : Type} (step : S → Option (Lp S R)) (s : S) : Nat :=
  open Classical in if h : ∃ n r, iterN step n s = some r then cnt step h.choose s else 0
theorem rank_eq {S R : Type} {step : S → Option (Lp S R)} {s : S} {r : R} {n : Nat} (h : iterN step n s = some r) : rank step s = cnt step n s := by
  have hh : ∃ n r, iterN step n s = some r := ⟨n, r, h⟩
  unfold rank
  rw [dif_pos hh]
  obtain ⟨r', hr'⟩ := hh.choose_spec
  exact cnt_eq hr' h
theorem rank_lt {S R : Type} {step : S → Option (Lp S R)} {s s' : S} {r : R} (h : step s = some (.go s')) (hr : iter step s = some r) : rank step s' < rank step s := by
  obtain ⟨n, hn⟩ := iter_iff.1 hr
  cases n with
  | zero => cases hn
  | succ n =>
    rw [rank_eq hn]
    unfold iterN at hn
    rw [h] at hn
    have hn : iterN step n s' = some r := hn
    rw [rank_eq hn]
    simp [cnt, h]
/-- One round: what it yields, and what comes behind the loop. -/
structure Round {S R α : Type} (step : S → Option (Lp S R)) (r : R) (s : S) (v : Lp S R) (A : R → Option α) (x : α) : Prop where
  all : iter step s = some r
  one : step s = some v
  aft : A r = some x
theorem out_step {S R α : Type} {step : S → Option (Lp S R)} {r : R} {s : S} {v : Lp S R} {e : R} {A : R → Option α} {x : α} (H : some (Lp.out e) = some v) (hr : Round step r s v A x) : A e = some x := by
  cases H
  have := iter_out hr.one
  rw [hr.all] at this
  cases this
  exact hr.aft
/-- Tells joints apart. -/
inductive Tg (n : Nat) : Type where
  | mk
/-! Joints of ways of which some leave. -/
def outm {Z Y : Type} (x : Option Y) : Option (Lp Z Y) :=
  match x with
  | some r => some (.out r)
  | none => none
def joinx {Z Y : Type} (X : Option (Lp Z Y)) (k : Z → Option Y) : Option Y :=
  match X with
  | some (.go z) => k z
  | some (.out r) => some r
  | none => none
theorem joinx_some {Z Y : Type} {X : Option (Lp Z Y)} {k : Z → Option Y} {y : Y} (h : joinx X k = some y) : (∃ z, X = some (.go z) ∧ k z = some y) ∨ X = some (.out y) := by
  unfold joinx at h
  split at h
  · exact .inl ⟨_, rfl, h⟩
  · cases h; exact .inr rfl
  · cases h
theorem outm_no {Z Y : Type} {x : Option Y} {z : Z} (h : (outm x : Option (Lp Z Y)) = some (.go z)) : False := by
  unfold outm at h; split at h <;> cases h
theorem outm_out {Z Y : Type} {x : Option Y} {r : Y} (h : (outm x : Option (Lp Z Y)) = some (.out r)) : x = some r := by
  unfold outm at h
  split at h
  · cases h; rfl
  · cases h
theorem go_out {Z Y : Type} {z : Z} {r : Y} (h : some (Lp.go (R := Y) z) = some (Lp.out r)) : False := by cases h
theorem go_inj {Z Y : Type} {z z' : Z} (h : some (Lp.go (R := Y) z) = some (Lp.go z')) : z = z' := by cases h; rfl
theorem joinx_go {Z Y : Type} (z : Z) (k : Z → Option Y) : joinx (some (.go z)) k = k z := rfl
theorem joinx_out {Z Y : Type} (x : Option Y) (k : Z → Option Y) : joinx (outm x) k = x := by cases x <;> rfl
theorem joinx_cond {Z Y : Type} (b : Bool) (x y : Option (Lp Z Y)) (k : Z → Option Y) : joinx (cond b x y) k = cond b (joinx x k) (joinx y k) := by cases b <;> rfl
theorem joinx_grd {Z Y : Type} (p : Prop) [Decidable p] (x : Option (Lp Z Y)) (k : Z → Option Y) : joinx (grd p x) k = grd p (joinx x k) := by
  unfold grd; split <;> rfl
theorem joinx_bind {α Z Y : Type} (x : Option α) (f : α → Option (Lp Z Y)) (k : Z → Option Y) : joinx (x.bind f) k = x.bind fun a => joinx (f a) k := by cases x <;> rfl

/-- Round again: what the evaluator stops at. -/
def Again {S R : Type} (m : Nat) (F : S → St) (step : S → Option (Lp S R)) (r : R) (s : S) (st : St) : Prop := ∃ s', iter step s' = some r ∧ rank step s' < rank step s ∧ Sub m st (F s')
theorem again_step {S R α : Type} {m : Nat} {F : S → St} {step : S → Option (Lp S R)} {r : R} {s s' : S} {v : Lp S R} {A : R → Option α} {x : α} {st : St} (H : some (Lp.go s') = some v) (hr : Round step r s v A x) (hs : Sub m st (F s')) : Again m F step r s st := by
  cases H
  exact ⟨s', (iter_go hr.one).symm.trans hr.all, rank_lt hr.one hr.all, hs⟩
section
variable {P : Program} {G : Env}
theorem loop_iter (hG : EnvOk P G) {ct : CT} {n m : Nat} {body : Code} {st : St} {Q : Exit → St → Prop} {S R α : Type} (F : S → St) (step : S → Option (Lp S R)) (s0 : S) {A : R → Option α} {x : α} (H : (iter step s0).bind A = some x) (hok : okCode n body = true) (hs : Sub m st (F s0))
    (hround : ∀ s r v, Round step r s v A x → step s = some v → evC P G ct n m body (F s) (seqQ (Again m F step r s) Q)) : loopwp P n m body st Q := by
  obtain ⟨r, hr, hA⟩ := bind_some H
  refine loop_rule hG (ct := ct) hok F (fun s => iter step s = some r) (rank step) s0 hr hs fun s hI => ?_
  obtain ⟨v, hv, _⟩ := iter_step hI
  exact hround s r v ⟨hI, hv, hA⟩ hv
end
theorem fin_mk {m : Nat} {c : AV} {h : List (Option LB)} {r : AV} {h1 : List (Option LB)} (hh : subK m ⟨sl [(0, c)], h⟩ [(0, r)] h1 (sigmaOf m h h1 (pairC r c))) : Fin m c h r h1 := subK_out hh
theorem grd_no {Y : Type} {x : Option Y} {y : Y} (h : grd False x = some y) : False := by
  unfold grd at h; rw [if_neg (fun h => h)] at h; cases h
theorem viewz (i : Nat) (k : Int) : AV.view i (Int.toNat 0) (k - 0).toNat = AV.view i 0 k.toNat := by rw [Int.sub_zero]; rfl
end Go.Proofs.YtpmmaohaahbphaaDoor
