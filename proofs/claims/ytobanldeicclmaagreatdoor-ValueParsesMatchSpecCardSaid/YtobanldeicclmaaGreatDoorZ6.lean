/- Lemmas for the claim: walks and plain laws. -/
import Derived.Test.YtobanldeicclmaaGreatDoorZ5
import Derived.Lib.SlTrimSet
import Derived.Test.YtobanldeicclmaaGreatDoorZ1
import Derived.Test.YtobanldeicclmaaGreatDoorZSh
import Derived.Outline
set_option maxHeartbeats 2000000
set_option maxRecDepth 100000
namespace Go.Proofs.YtobanldeicclmaaGreatDoor
open Vtx Go.Lib Dig
def eU (a : Option UInt8) (l : List UInt8) : Bool := match a, l with
 | some a, d :: _ => (bI a || decide (a = 35)) && bI d
 | _, _ => false
theorem VM (out l : List UInt8) : Nz out l = eU out.getLast? l := by
 unfold Nz eU
 rfl
theorem qY (l : List UInt8) : (l.dropWhile aA).length ≤ l.length := (List.dropWhile_sublist _).length_le
def qx (a : Option UInt8) : List UInt8 → List UInt8
 | [] => []
 | c :: r => if c ≠ 32 then c :: qx (some c) r else if eU a (r.dropWhile aA) then 32 :: qx (some 32) (r.dropWhile aA) else qx a (r.dropWhile aA)
termination_by l => l.length
decreasing_by
 all_goals have := qY r
 all_goals simp
 all_goals omega
theorem nM (a : Option UInt8) : qx a [] = [] := by rw [qx]
theorem fU (a : Option UInt8) {c : UInt8} (r : List UInt8) (h : c ≠ 32) : qx a (c :: r) = c :: qx (some c) r := by rw [qx, if_pos h]
theorem jP (a : Option UInt8) (r : List UInt8) : qx a (32 :: r) = if eU a (r.dropWhile aA) then 32 :: qx (some 32) (r.dropWhile aA) else qx a (r.dropWhile aA) := by rw [qx, if_neg (by simp)]
theorem xM : ∀ (f : Nat) (out l : List UInt8), l.length < f → qF f out l = out ++ qx out.getLast? l
 | 0, _, _, h => by omega
 | f + 1, out, [], _ => by rw [qF, nM, List.append_nil]
 | f + 1, out, c :: r, h => by
  have hl : r.length < f := by simpa using h
  have hd := qY r
  rw [qF]
  by_cases hc : c = 32
  ·
   subst hc
   rw [if_neg (by simp), xM f _ _ (by omega), VM, jP]
   by_cases hk : eU out.getLast? (r.dropWhile aA) = true
   ·
    rw [if_pos hk, if_pos hk]
    simp
   ·
    rw [if_neg hk, if_neg hk]
  ·
   rw [if_pos hc, xM f _ _ hl, fU _ _ hc]
   simp
theorem AU (s : List UInt8) : iE s = qx none s := by
 unfold iE
 rw [xM _ _ _ (Nat.lt_succ_self _)]
 rfl
theorem yB {x : UInt8} (hx : x ≠ 32) (r : List UInt8) : ∀ p : List UInt8, (p ++ x :: r).dropWhile aA = p.dropWhile aA ++ x :: r
 | [] => by rw [List.nil_append, List.dropWhile_cons, qW hx]; rfl
 | c :: p => by
  rw [List.cons_append, List.dropWhile_cons, List.dropWhile_cons]
  cases aA c
  ·
   rfl
  ·
   exact yB hx r p
theorem SE {a : Option UInt8} {p : List UInt8} {x : UInt8} {r : List UInt8} (hx : bI x = false) : eU a (p ++ x :: r) = eU a p := by
 cases a with
 | none => rfl
 | some a =>
  cases p with
  | nil => simp [eU, hx]
  | cons c p => rfl
theorem su {x : UInt8} (hx : x ≠ 32) (hd : bI x = false) (r : List UInt8) : ∀ (n : Nat) (a : Option UInt8) (p : List UInt8), p.length ≤ n → qx a (p ++ x :: r) = qx a p ++ x :: qx (some x) r
 | _, a, [], _ => by rw [nM, List.nil_append, fU _ _ hx]; rfl
 | 0, _, c :: p, h => by simp at h
 | n + 1, a, c :: p, h => by
  have hl : p.length ≤ n := by simpa using h
  rw [List.cons_append]
  by_cases hc : c = 32
  ·
   subst hc
   have hd2 := qY p
   rw [jP, jP, yB hx, SE hd, su hx hd r n _ _ (by omega), su hx hd r n _ _ (by omega)]
   split <;> rfl
  ·
   rw [fU _ _ hc, fU _ _ hc, su hx hd r n _ _ hl]; rfl
def tp (p : List UInt8) : List UInt8 := qx (some 44) p
theorem Gl : ∀ (n : Nat) (p : List UInt8), p.length ≤ n → qx (some 123) p = tp p
 | _, [], _ => by unfold tp; rw [nM, nM]
 | 0, c :: p, h => by simp at h
 | n + 1, c :: p, h => by
  have hl : p.length ≤ n := by simpa using h
  have hd := qY p
  unfold tp
  by_cases hc : c = 32
  ·
   subst hc
   have k1 : eU (some 123) (p.dropWhile aA) = false := by unfold eU; cases p.dropWhile aA <;> rfl
   have k2 : eU (some 44) (p.dropWhile aA) = false := by unfold eU; cases p.dropWhile aA <;> rfl
   rw [jP, jP, k1, k2, if_neg (by decide), if_neg (by decide)]
   exact Gl n _ (by omega)
  ·
   rw [fU _ _ hc, fU _ _ hc]
theorem NK : ∀ (l : List (List UInt8)), qx (some 44) (joinTail [44] l ++ [125]) = joinTail [44] (l.map tp) ++ [125] ∧ (∀ p : List UInt8, qx (some 44) (p ++ (joinTail [44] l ++ [125])) = tp p ++ (joinTail [44] (l.map tp) ++ [125]))
 | [] => ⟨by show qx (some 44) [125] = [125]; rw [fU _ _ (by decide), nM], fun p => by
   show qx (some 44) (p ++ [125]) = tp p ++ [125]
   rw [su (by decide) (by decide) [] p.length _ p (Nat.le_refl _), nM]; rfl⟩
 | q :: l => by
  have ih := NK l
  have e : joinTail [44] (q :: l) ++ [125] = 44 :: (q ++ (joinTail [44] l ++ [125])) := by unfold joinTail; simp
  have e2 : joinTail [44] ((q :: l).map tp) ++ [125] = 44 :: (tp q ++ (joinTail [44] (l.map tp) ++ [125])) := by unfold joinTail; simp
  refine ⟨by rw [e, e2, fU _ _ (by decide), ih.2 q], fun p => ?_⟩
  rw [e, e2, su (by decide) (by decide) _ p.length _ p (Nat.le_refl _), ih.2 q]
  rfl
theorem OW (p : List UInt8) (l : List (List UInt8)) : iE (123 :: (join (p :: l) [44] ++ [125])) = 123 :: (join ((p :: l).map tp) [44] ++ [125]) := by
 rw [AU, fU _ _ (by decide), join_cons, List.map_cons, join_cons, List.append_assoc, List.append_assoc]
 congr 1
 have h := (NK l).2 p
 rw [← h]
 -- the ZY and the comma are alike
 cases l with
 | nil =>
  show qx (some 123) (p ++ [125]) = qx (some 44) (p ++ [125])
  rw [su (by decide) (by decide) [] p.length _ p (Nat.le_refl _), su (by decide) (by decide) [] p.length _ p (Nat.le_refl _), Gl p.length p (Nat.le_refl _)]
  rfl
 | cons q l =>
  have e : joinTail [44] (q :: l) ++ [125] = 44 :: (q ++ (joinTail [44] l ++ [125])) := by unfold joinTail; simp
  rw [e, su (by decide) (by decide) _ p.length _ p (Nat.le_refl _), su (by decide) (by decide) _ p.length _ p (Nat.le_refl _), Gl p.length p (Nat.le_refl _)]
  rfl
def Blanks (l : List UInt8) : Prop := ∀ c ∈ l, c = 32
theorem EW {l : List UInt8} (h : Blanks l) : l.dropWhile aA = [] := by
 induction l with
 | nil => rfl
 | cons c r ih =>
  have hc := h c (List.mem_cons_self ..)
  subst hc
  rw [List.dropWhile_cons]
  exact ih (fun c hc => h c (List.mem_cons_of_mem _ hc))
theorem qy : ∀ l : List UInt8, ∃ b, Blanks b ∧ l = b ++ l.dropWhile aA ∧ ∀ c r, l.dropWhile aA = c :: r → c ≠ 32
 | [] => ⟨[], fun c h => (by cases h), rfl, fun c r h => (by cases h)⟩
 | c :: l => by
  rw [List.dropWhile_cons]
  by_cases hc : c = 32
  ·
   subst hc
   obtain ⟨b, h1, h2, h3⟩ := qy l
   refine ⟨32 :: b, fun c hc => ?_, ?_, h3⟩
   ·
    rcases List.mem_cons.1 hc with h | h
    ·
     exact h
    ·
     exact h1 c h
   ·
    show 32 :: l = 32 :: b ++ l.dropWhile aA
    rw [List.cons_append, ← h2]
  ·
   rw [qW hc]
   exact ⟨[], fun c h => (by cases h), rfl, fun d r h => by injection h with h; subst h; exact hc⟩
theorem EX (a : Option UInt8) {l : List UInt8} (h : Blanks l) : qx a l = [] := by
 cases l with
 | nil => exact nM a
 | cons c r =>
  have hc := h c (List.mem_cons_self ..)
  subst hc
  rw [jP, EW (fun c hc => h c (List.mem_cons_of_mem _ hc))]
  have : eU a [] = false := by cases a <;> rfl
  rw [this, if_neg (by decide), nM]
theorem EY : ∀ (n : Nat) (a : UInt8) (r ds : List UInt8), r.length ≤ n → (bI a = true ∨ a = 35) → (∀ c ∈ ds, bI c = true) → qx (some a) r = ds → ∃ b, Blanks b ∧ r = ds ++ b
 | _, a, [], ds, _, _, _, h => by
  rw [nM] at h
  exact ⟨[], fun c h => (by cases h), by rw [← h]; rfl⟩
 | 0, a, c :: r, ds, hl, _, _, _ => by simp at hl
 | n + 1, a, c :: r, ds, hl, ha, hds, h => by
  have hl' : r.length ≤ n := by simpa using hl
  by_cases hc : c = 32
  ·
   subst hc
   obtain ⟨b, hb, hr, hne⟩ := qy r
   rw [jP] at h
   cases hd : r.dropWhile aA with
   | nil =>
    rw [hd] at h hr
    have hk : eU (some a) [] = false := rfl
    rw [hk, if_neg (by decide), nM] at h
    refine ⟨32 :: b, fun c hc => ?_, by rw [← h, hr]; simp⟩
    rcases List.mem_cons.1 hc with h | h
    ·
     exact h
    ·
     exact hb c h
   | cons d t =>
    rw [hd] at h
    have hd32 := hne d t hd
    exfalso
    by_cases hdig : bI d = true
    ·
     have hk : eU (some a) (d :: t) = true := by
      unfold eU
      rcases ha with ha | ha
      ·
       simp [ha, hdig]
      ·
       simp [ha, hdig]
     rw [hk, if_pos rfl] at h
     have := hds 32 (by rw [← h]; exact List.mem_cons_self ..)
     exact absurd this (by decide)
    ·
     have hk : eU (some a) (d :: t) = false := by
      unfold eU
      simp [Bool.eq_false_iff.2 hdig]
     rw [hk, if_neg (by decide), fU _ _ hd32] at h
     exact hdig (hds d (by rw [← h]; exact List.mem_cons_self ..))
  ·
   rw [fU _ _ hc] at h
   cases ds with
   | nil => cases h
   | cons d ds =>
    injection h with h1 h2
    subst h1
    obtain ⟨b, hb, hr⟩ := EY n c r ds hl' (.inl (hds c (List.mem_cons_self ..))) (fun x hx => hds x (List.mem_cons_of_mem _ hx)) h2
    exact ⟨b, hb, by rw [hr]; rfl⟩
theorem pJ : ∀ (ds b : List UInt8) (a : UInt8), (∀ c ∈ ds, bI c = true) → Blanks b → qx (some a) (ds ++ b) = ds
 | [], b, a, _, hb => EX _ hb
 | d :: ds, b, a, h, hb => by
  rw [List.cons_append, fU _ _ (oV (h d (List.mem_cons_self ..)) (by decide)), pJ ds b d (fun c hc => h c (List.mem_cons_of_mem _ hc)) hb]
def yC (x : List UInt8) : Prop := ∃ ds, x = 35 :: ds ∧ ∀ c ∈ ds, bI c = true
theorem VN {p x : List UInt8} (hx : yC x) : tp p = x ↔ ∃ b b', Blanks b ∧ Blanks b' ∧ p = b ++ x ++ b' := by
 obtain ⟨ds, rfl, hd⟩ := hx
 constructor
 ·
  intro h
  obtain ⟨b, hb, hp, hne⟩ := qy p
  have h' : tp (p.dropWhile aA) = 35 :: ds := by
   cases p with
   | nil => exact h
   | cons c r =>
    by_cases hc : c = 32
    ·
     subst hc
     have hk : eU (some 44) (r.dropWhile aA) = false := by unfold eU; cases r.dropWhile aA <;> rfl
     unfold tp at h
     rw [jP, hk, if_neg (by decide)] at h
     exact h
    ·
     rw [List.dropWhile_cons, qW hc]; exact h
  cases hd' : p.dropWhile aA with
  | nil => rw [hd'] at h'; unfold tp at h'; rw [nM] at h'; cases h'
  | cons c t =>
   rw [hd'] at h' hp
   unfold tp at h'
   rw [fU _ _ (hne c t hd')] at h'
   injection h' with h1 h2
   subst h1
   obtain ⟨b', hb', ht⟩ := EY t.length 35 t ds (Nat.le_refl _) (.inr rfl) hd h2
   exact ⟨b, b', hb, hb', by rw [hp, ht]; simp⟩
 ·
  rintro ⟨b, b', hb, hb', rfl⟩
  have e : ∀ b : List UInt8, Blanks b → tp (b ++ (35 :: ds) ++ b') = 35 :: ds := by
   intro b hb
   cases b with
   | nil =>
    unfold tp
    rw [List.nil_append, List.cons_append, fU _ _ (by decide), pJ ds b' 35 hd hb']
   | cons c r =>
    have hc := hb c (List.mem_cons_self ..)
    subst hc
    have hr : Blanks r := fun c hc => hb c (List.mem_cons_of_mem _ hc)
    have ed : (r ++ (35 :: (ds ++ b'))).dropWhile aA = 35 :: (ds ++ b') := by rw [yB (by decide), EW hr]; rfl
    unfold tp
    rw [List.append_assoc, List.cons_append, List.cons_append, jP, ed, show eU (some 44) (35 :: (ds ++ b')) = false from rfl, if_neg (by decide), fU _ _ (by decide), pJ ds b' 35 hd hb']
  exact e b hb
theorem Yh {p : List UInt8} : tp p = [] ↔ Blanks p := by
 constructor
 ·
  intro h
  obtain ⟨b, hb, hp, hne⟩ := qy p
  cases hd : p.dropWhile aA with
  | nil => rw [hd, List.append_nil] at hp; rw [hp]; exact hb
  | cons c t =>
   exfalso
   cases p with
   | nil => cases hd
   | cons a r =>
    unfold tp at h
    by_cases ha : a = 32
    ·
     subst ha
     have hk : eU (some 44) (r.dropWhile aA) = false := by unfold eU; cases r.dropWhile aA <;> rfl
     have hd' : r.dropWhile aA = c :: t := hd
     rw [jP, hk, if_neg (by decide), hd', fU _ _ (hne c t hd)] at h
     cases h
    ·
     rw [fU _ _ ha] at h; cases h
 ·
  exact fun h => EX _ h
theorem ZZ {b : List UInt8} (hb : Blanks b) {x : List UInt8} (hx : ∀ c, x.getLast? = some c → c ≠ 32) : trimRightB (x ++ b) 32 = x := by
 unfold trimRightB
 have h1 : ∀ b : List UInt8, Blanks b → (b ++ x.reverse).dropWhile (· == 32) = x.reverse := by
  intro b hb
  induction b with
  | nil =>
   rw [List.nil_append]
   cases hr : x.reverse with
   | nil => rfl
   | cons c r =>
    have : x.getLast? = some c := by rw [List.getLast?_eq_head?_reverse, hr]; rfl
    rw [List.dropWhile_cons, show (c == 32) = false from by simpa using hx c this]; rfl
  | cons c r ih =>
   have hc := hb c (List.mem_cons_self ..)
   subst hc
   rw [List.cons_append, List.dropWhile_cons]
   exact ih (fun c hc => hb c (List.mem_cons_of_mem _ hc))
 rw [List.reverse_append, h1 b.reverse (fun c hc => hb c (List.mem_reverse.1 hc)), List.reverse_reverse]
theorem sD (p : List UInt8) : ∃ b b', Blanks b ∧ Blanks b' ∧ p = b ++ trimS p [32] ++ b' := by
 rw [trimS_one]
 unfold trimB
 have h1 : ∀ l : List UInt8, ∃ b, Blanks b ∧ l = b ++ l.dropWhile (· == 32) := by
  intro l
  refine ⟨l.takeWhile (· == 32), fun c hc => ?_, (List.takeWhile_append_dropWhile).symm⟩
  have := List.all_eq_true.1 (List.all_takeWhile (p := fun b : UInt8 => b == 32) (l := l)) c hc
  simpa using this
 obtain ⟨b', hb', e'⟩ := h1 p.reverse
 have e2 : p = trimRightB p 32 ++ b'.reverse := by
  have := congrArg List.reverse e'
  rw [List.reverse_reverse, List.reverse_append] at this
  exact this
 obtain ⟨b, hb, e⟩ := h1 (trimRightB p 32)
 exact ⟨b, b'.reverse, hb, fun c hc => hb' c (List.mem_reverse.1 hc), by
  have : trimLeftB (trimRightB p 32) 32 = (trimRightB p 32).dropWhile (· == 32) := rfl
  rw [this, ← e]; exact e2⟩
theorem VO {b b' x : List UInt8} (hb : Blanks b) (hb' : Blanks b') (h0 : x ≠ []) (h1 : ∀ c, x.head? = some c → c ≠ 32) (h2 : ∀ c, x.getLast? = some c → c ≠ 32) : trimS (b ++ x ++ b') [32] = x := by
 rw [trimS_one]
 unfold trimB
 rw [ZZ hb' (x := b ++ x) (fun c hc => h2 c (by
  rw [List.getLast?_append] at hc
  cases hx : x.getLast? with
  | none => exact absurd (List.getLast?_eq_none_iff.1 hx) h0
  | some d => rw [hx] at hc; exact hc))]
 unfold trimLeftB
 have h3 : ∀ b : List UInt8, Blanks b → (b ++ x).dropWhile (· == 32) = x := by
  intro b hb
  induction b with
  | nil =>
   cases x with
   | nil => rfl
   | cons c r => rw [List.nil_append, List.dropWhile_cons, show (c == 32) = false from by simpa using h1 c rfl]; rfl
  | cons c r ih =>
   have hc := hb c (List.mem_cons_self ..)
   subst hc
   rw [List.cons_append, List.dropWhile_cons]
   exact ih (fun c hc => hb c (List.mem_cons_of_mem _ hc))
 exact h3 b hb
theorem EZ {p x : List UInt8} (hx : yC x) : trimS p [32] = x ↔ tp p = x := by
 rw [VN hx]
 obtain ⟨ds, rfl, hd⟩ := hx
 constructor
 ·
  intro h
  obtain ⟨b, b', h1, h2, h3⟩ := sD p
  rw [h] at h3
  exact ⟨b, b', h1, h2, h3⟩
 ·
  rintro ⟨b, b', hb, hb', rfl⟩
  refine VO hb hb' (by simp) (fun c hc => by injection hc with hc; subst hc; decide) (fun c hc => ?_)
  have := List.mem_of_getLast? hc
  rcases List.mem_cons.1 this with h | h
  ·
   subst h; decide
  ·
   exact oV (hd c h) (by decide)
theorem IP {p : List UInt8} : trimS p [32] = [] ↔ tp p = [] := by
 rw [Yh]
 constructor
 ·
  intro h
  obtain ⟨b, b', h1, h2, h3⟩ := sD p
  rw [h, List.append_nil] at h3
  rw [h3]
  intro c hc
  rcases List.mem_append.1 hc with h | h
  ·
   exact h1 c h
  ·
   exact h2 c h
 ·
  intro h
  obtain ⟨b, b', h1, h2, h3⟩ := sD p
  cases ht : trimS p [32] with
  | nil => rfl
  | cons c r =>
   exfalso
   have hm : c ∈ p := by rw [h3, ht]; simp
   have hc := h c hm
   have : (trimS p [32]).head? ≠ some 32 := by
    rw [trimS_one]
    unfold trimB trimLeftB
    intro he
    cases hd : (trimRightB p 32).dropWhile (· == 32) with
    | nil => rw [hd] at he; cases he
    | cons a t =>
     rw [hd] at he
     injection he with he
     subst he
     have h5 := List.head_dropWhile_not (p := fun b : UInt8 => b == 32) (l := trimRightB p 32) (w := by rw [hd]; simp)
     simp [hd] at h5
   rw [ht] at this
   exact this (by rw [hc]; rfl)
theorem AV : ∀ (n : Nat) (a : Option UInt8) (l : List UInt8), l.length ≤ n → ∀ x ∈ qx a l, x = 32 ∨ x ∈ l
 | _, a, [], _, x, h => by rw [nM] at h; cases h
 | 0, a, c :: r, h, _, _ => by simp at h
 | n + 1, a, c :: r, h, x, hx => by
  have hl : r.length ≤ n := by simpa using h
  have hd := qY r
  have hsub : ∀ y ∈ r.dropWhile aA, y ∈ c :: r := fun y hy => List.mem_cons_of_mem _ ((List.dropWhile_sublist _).subset hy)
  by_cases hc : c = 32
  ·
   subst hc
   rw [jP] at hx
   split at hx
   ·
    rcases List.mem_cons.1 hx with e | e
    ·
     exact .inl e
    ·
     exact (AV n _ _ (by omega) x e).imp id (hsub x)
   ·
    exact (AV n _ _ (by omega) x hx).imp id (hsub x)
  ·
   rw [fU _ _ hc] at hx
   rcases List.mem_cons.1 hx with e | e
   ·
    exact .inr (by rw [e]; exact List.mem_cons_self ..)
   ·
    exact (AV n _ _ hl x e).imp id (fun h => List.mem_cons_of_mem _ h)
theorem SG {p : List UInt8} {x : UInt8} (h : x ∈ trimS p [32]) : x ∈ p := by
 obtain ⟨b, b', -, -, e⟩ := sD p
 rw [e]
 simp [h]
theorem pieces : ∀ u : List UInt8, ∃ q : List (List UInt8), q ≠ [] ∧ (∀ p ∈ q, (44 : UInt8) ∉ p) ∧ u = join q [44]
 | [] => ⟨[[]], by simp, by simp, rfl⟩
 | c :: u => by
  obtain ⟨q, h1, h2, h3⟩ := pieces u
  match q, h1 with
  | p :: q, _ =>
   by_cases hc : c = 44
   ·
    subst hc
    refine ⟨[] :: p :: q, by simp, fun x hx => ?_, by rw [h3, join_cons, join_cons]; unfold joinTail; simp⟩
    rcases List.mem_cons.1 hx with e | e
    ·
     rw [e]; simp
    ·
     exact h2 x e
   ·
    refine ⟨(c :: p) :: q, by simp, fun x hx => ?_, by rw [h3, join_cons, join_cons]; rfl⟩
    rcases List.mem_cons.1 hx with e | e
    ·
     rw [e]
     intro hm
     rcases List.mem_cons.1 hm with e2 | e2
     ·
      exact hc e2.symm
     ·
      exact h2 p (List.mem_cons_self ..) e2
    ·
     exact h2 x (List.mem_cons_of_mem _ e)
theorem Gm {q : List (List UInt8)} (h0 : q ≠ []) (h : join q [44] = []) : q = [[]] := by
 match q, h0 with
 | [p], _ => rw [join_one] at h; rw [h]
 | p :: p2 :: r, _ =>
  rw [join_cons] at h
  unfold joinTail at h
  simp at h
theorem SH {l : List Int} (hl : ∀ c ∈ l, 1 ≤ c ∧ c ≤ 999) : ∀ x ∈ l.map dh, yC x := fun x hx => by
 obtain ⟨c, hc, rfl⟩ := List.mem_map.1 hx
 have := hl c hc
 exact ⟨Lib.decDigits c.toNat, lg (by omega), fun b hb => vI (nR _ b hb)⟩
theorem E5 {f g : List UInt8 → List UInt8} (hfg : ∀ p x, yC x → (f p = x ↔ g p = x)) : ∀ (q : List (List UInt8)) (l : List (List UInt8)), (∀ x ∈ l, yC x) → q.map f = l → q.map g = l
 | [], [], _, _ => rfl
 | [], x :: l, _, h => by cases h
 | p :: q, [], _, h => by cases h
 | p :: q, x :: l, hl, h => by
  injection h with h1 h2
  rw [List.map_cons, (hfg p x (hl x (List.mem_cons_self ..))).1 h1, E5 hfg q l (fun y hy => hl y (List.mem_cons_of_mem _ hy)) h2]
theorem uF {f g : List UInt8 → List UInt8} (hfg : ∀ p x, yC x → (f p = x ↔ g p = x)) (h0 : ∀ p, f p = [] ↔ g p = []) (hf : ∀ p, (44 : UInt8) ∉ p → (44 : UInt8) ∉ f p) {q : List (List UInt8)} (hq : q ≠ []) (hc : ∀ p ∈ q, (44 : UInt8) ∉ p) {l : List Int} (hl : ∀ c ∈ l, 1 ≤ c ∧ c ≤ 999)
  (h : join (q.map f) [44] = join (l.map dh) [44]) : join (q.map g) [44] = join (l.map dh) [44] := by
 cases l with
 | nil =>
  have h1 := Gm (by simpa using hq) (show join (q.map f) [44] = [] from h)
  match q, hq with
  | [p], _ =>
   injection h1 with h1 _
   rw [List.map_cons, (h0 p).1 h1]
   rfl
  | p :: p2 :: r, _ => injection h1 with _ h1; cases h1
 | cons c r =>
  have e1 : split (join (q.map f) [44]) [44] = q.map f := lI (by simpa using hq) (fun p hp => by
   obtain ⟨x, hx, rfl⟩ := List.mem_map.1 hp
   exact hf x (hc x hx))
  have e2 : split (join ((c :: r).map dh) [44]) [44] = (c :: r).map dh := lI (by simp) (Aw hl)
  rw [h, e2] at e1
  rw [E5 hfg q _ (SH hl) e1.symm]
theorem wW {v : Val} {x : List UInt8} (hv : aV v = 0) (h : showT v.k v.n v.s.data.toList v.l = 123 :: x) : (∀ c ∈ v.l, 1 ≤ c ∧ c ≤ 999) ∧ showT v.k v.n v.s.data.toList v.l = kW v.l := by
 have hs := (qG hv).1
 generalize v.k = k, v.n = n, v.s.data.toList = t, v.l = l at h hs ⊢
 cases hs with
 | none_ => cases h
 | word h1 h2 =>
  obtain rfl | rfl | rfl : n = 1 ∨ n = 2 ∨ n = 3 := by omega
  all_goals cases h
 | num h1 h2 =>
  obtain ⟨b, r, e, hb⟩ := IE h1 h2
  have h' : mJ n = 123 :: x := h
  rw [e] at h'
  injection h' with h' _
  rcases hb with hb | hb
  ·
   rw [h'] at hb; exact absurd hb (nd (by decide))
  ·
   rw [h'] at hb; exact absurd hb.1 (by decide)
 | text s => cases h
 | code h1 h2 => cases h
 | set hl => exact ⟨hl, rfl⟩
 | day h1 h2 => cases h
 | bool h1 h2 =>
  have h' : (if n = 1 then iP else dV) = 123 :: x := h
  split at h' <;> cases h'
def yD (w : List UInt8) : Prop := ∃ u, (125 : UInt8) ∉ u ∧ (w = 123 :: u ∨ w = 123 :: (u ++ [125]))
noncomputable def oM (w : List UInt8) : Option Val := if hasSuffix w [125] then fQ (123 :: (join ((split (nH w) [44]).map (fun p => trimS p [32])) [44] ++ [125])) else none
theorem lJ {x : List UInt8} (h : ∀ v : Val, aV v = 0 → showT v.k v.n v.s.data.toList v.l ≠ x) : fQ x = none := by
 unfold fQ
 rw [dif_neg (fun ⟨v, h1, h2⟩ => h v h1 h2)]
theorem zl {u : List UInt8} : hasSuffix (u ++ [125]) [125] = true := by
 unfold hasSuffix
 rw [List.isSuffixOf_iff_suffix]
 exact ⟨_, rfl⟩
theorem VP {w : List UInt8} (hb : yD w) : oM w = fQ (iE w) := by
 obtain ⟨u, hu, rfl | rfl⟩ := hb
 ·
  have h1 : hasSuffix (123 :: u) [125] = false := by
   rw [Bool.eq_false_iff]
   intro h
   unfold hasSuffix at h
   rw [List.isSuffixOf_iff_suffix] at h
   have : (125 : UInt8) ∈ 123 :: u := h.subset (List.mem_singleton.2 rfl)
   rcases List.mem_cons.1 this with e | e
   ·
    cases e
   ·
    exact hu e
  unfold oM
  rw [h1, if_neg (by decide)]
  refine (lJ fun v hv he => ?_).symm
  have e1 : iE (123 :: u) = 123 :: qx (some 123) u := by rw [AU, fU _ _ (by decide)]
  rw [e1] at he
  have h2 := (wW hv he).2
  rw [he] at h2
  have h3 : (125 : UInt8) ∈ qx (some 123) u := by
   have h4 : (125 : UInt8) ∈ kW v.l := by unfold kW; simp
   rw [← h2] at h4
   rcases List.mem_cons.1 h4 with e | e
   ·
    cases e
   ·
    exact e
  rcases AV u.length _ u (Nat.le_refl _) _ h3 with e | e
  ·
   cases e
  ·
   exact hu e
 ·
  obtain ⟨q, hq, hc, rfl⟩ := pieces u
  have hin : nH (123 :: (join q [44] ++ [125])) = join q [44] := by
   unfold nH
   have h1 : trimPrefix (123 :: (join q [44] ++ [125])) [123] = join q [44] ++ [125] := by simp [trimPrefix, hasPrefix, List.isPrefixOf]
   rw [h1]
   unfold trimSuffix
   rw [if_pos zl]
   simp
  have hs : hasSuffix (123 :: (join q [44] ++ [125])) [125] = true := zl (u := 123 :: join q [44])
  unfold oM
  rw [if_pos hs, hin, lI hq hc]
  have ht : iE (123 :: (join q [44] ++ [125])) = 123 :: (join (q.map tp) [44] ++ [125]) := by
   match q, hq with
   | p :: l, _ => exact OW p l
  rw [ht]
  have key : (∃ v : Val, aV v = 0 ∧ (showT v.k v.n v.s.data.toList v.l = 123 :: (join (q.map fun p => trimS p [32]) [44] ++ [125]) ∨ showT v.k v.n v.s.data.toList v.l = 123 :: (join (q.map tp) [44] ++ [125]))) → join (q.map fun p => trimS p [32]) [44] = join (q.map tp) [44] := by
   rintro ⟨v, hv, he | he⟩
   ·
    obtain ⟨hl, h2⟩ := wW hv he
    rw [he] at h2
    have h3 : join (q.map fun p => trimS p [32]) [44] = join (v.l.map dh) [44] := by
     unfold kW at h2
     injection h2 with _ h2
     exact List.append_cancel_right h2
    rw [h3, uF (f := fun p => trimS p [32]) (g := tp) (fun p x hx => EZ hx) (fun p => IP) (fun p hp h => hp (SG h)) hq hc hl h3]
   ·
    obtain ⟨hl, h2⟩ := wW hv he
    rw [he] at h2
    have h3 : join (q.map tp) [44] = join (v.l.map dh) [44] := by
     unfold kW at h2
     injection h2 with _ h2
     exact List.append_cancel_right h2
    rw [h3, uF (f := tp) (g := fun p => trimS p [32]) (fun p x hx => (EZ hx).symm) (fun p => IP.symm) (fun p hp h => by
     rcases AV p.length _ p (Nat.le_refl _) _ h with e | e
     ·
      cases e
     ·
      exact hp e) hq hc hl h3]
  by_cases hex : ∃ v : Val, aV v = 0 ∧ (showT v.k v.n v.s.data.toList v.l = 123 :: (join (q.map fun p => trimS p [32]) [44] ++ [125]) ∨ showT v.k v.n v.s.data.toList v.l = 123 :: (join (q.map tp) [44] ++ [125]))
  ·
   rw [key hex]
  ·
   rw [lJ (fun v hv he => hex ⟨v, hv, .inl he⟩), lJ (fun v hv he => hex ⟨v, hv, .inr he⟩)]
theorem dJ {s : List UInt8} {i : Nat} {t : Tok} {r : List Tok} (h : wordsOf s i = t :: r) : bV s i = some t ∧ r = wordsOf s (t.at_ + t.tx.length) := by
 rw [eQ] at h
 split at h
 ·
  cases h
 ·
  rename_i u hu
  injection h with h1 h2
  subst h1
  exact ⟨hu, h2.symm⟩
theorem drop_cons {s : List UInt8} {j : Nat} (h : j < s.length) : s.drop j = s.getD j 0 :: s.drop (j + 1) := by
 rw [List.drop_eq_getElem_cons h, List.getD_eq_getElem?_getD, List.getElem?_eq_getElem h]
 rfl
theorem nX {s : List UInt8} {i : Nat} {t : Tok} (h : bV s i = some t) : ∃ w, t.tx = s.getD t.at_ 0 :: w ∧ s.getD t.at_ 0 ≠ 32 := by
 obtain ⟨h1, h2, h3, h4, h5, h6, h7⟩ := dW h
 obtain ⟨m, hm⟩ : ∃ m, aJ (s.drop t.at_) = m + 1 := ⟨aJ (s.drop t.at_) - 1, by omega⟩
 rw [drop_cons h2] at h6 hm
 rw [hm, List.take_succ_cons] at h6
 refine ⟨_, h6, ?_⟩
 -- the byte behind the blanks is none
 have key : ∀ l : List UInt8, ∀ k, k = aK aA l → k < l.length → l.getD k 0 ≠ 32 := by
  intro l
  induction l with
  | nil => intro k _ h; simp at h
  | cons c r ih =>
   intro k hk hl
   rw [aK] at hk
   by_cases hc : c = 32
   ·
    subst hc
    rw [show aA 32 = true from rfl, if_pos rfl] at hk
    subst hk
    have := ih _ rfl (by simpa using hl)
    simpa [List.getD_eq_getElem?_getD] using this
   ·
    rw [qW hc, if_neg (by decide)] at hk
    subst hk
    simpa [List.getD_eq_getElem?_getD] using hc
 have := key (s.drop i) _ rfl (by rw [List.length_drop]; omega)
 rw [List.getD_eq_getElem?_getD, List.getElem?_drop, ← h5] at this
 rw [List.getD_eq_getElem?_getD]
 exact this
theorem AX : ∀ r : List UInt8, ∃ u, (125 : UInt8) ∉ u ∧ (r.take (fZ r) = u ∨ r.take (fZ r) = u ++ [125])
 | [] => ⟨[], by simp, .inl rfl⟩
 | c :: r => by
  rw [fZ]
  by_cases hc : c = 125
  ·
   subst hc
   exact ⟨[], by simp, .inr (by simp)⟩
  ·
   rw [if_neg hc]
   obtain ⟨u, hu, h⟩ := AX r
   refine ⟨c :: u, fun h => ?_, ?_⟩
   ·
    rcases List.mem_cons.1 h with e | e
    ·
     exact hc e.symm
    ·
     exact hu e
   ·
    rw [List.take_succ_cons]
    rcases h with h | h
    ·
     exact .inl (by rw [h])
    ·
     exact .inr (by rw [h]; rfl)
theorem OX {s : List UInt8} {i : Nat} {t : Tok} (h : bV s i = some t) (hb : fM t.tx = true) : yD t.tx := by
 obtain ⟨w, hw, -⟩ := nX h
 obtain ⟨h1, h2, h3, h4, h5, h6, h7⟩ := dW h
 have hc : s.getD t.at_ 0 = 123 := by
  rw [hw] at hb
  exact of_decide_eq_true hb
 rw [drop_cons h2, hc] at h6
 have hl : aJ (123 :: s.drop (t.at_ + 1)) = fZ (s.drop (t.at_ + 1)) + 1 := by
  rw [aJ, if_neg (by decide), if_neg (by decide), if_neg (by decide), if_neg (by decide), if_neg (by decide), if_pos rfl]
 rw [hl, List.take_succ_cons] at h6
 obtain ⟨u, hu, hb | hb⟩ := AX (s.drop (t.at_ + 1))
 ·
  exact ⟨u, hu, .inl (by rw [h6, hb])⟩
 ·
  exact ⟨u, hu, .inr (by rw [h6, hb])⟩
theorem E8 {s : List UInt8} {i : Nat} {t : Tok} (h : bV s i = some t) : t.touch = (decide (t.at_ = i) && decide (0 < i) && bK (s.getD (i - 1) 0) && bK (s.getD i 0)) := by
 unfold bV at h
 split at h
 ·
  injection h with h
  rw [← h]
  dsimp only
  congr 3
  exact decide_eq_decide.2 (by omega)
 ·
  cases h
theorem xN {s : List UInt8} {i : Nat} {t : Tok} (h : bV s i = some t) {c : UInt8} {w : List UInt8} (e : t.tx = c :: w) (hc : bK c = false) : t.touch = false := by
 obtain ⟨w', hw, -⟩ := nX h
 rw [E8 h]
 by_cases hi : t.at_ = i
 ·
  rw [e] at hw
  injection hw with hw _
  rw [← hi, ← hw, hc]
  simp
 ·
  rw [decide_eq_false hi]; rfl
theorem OY {s : List UInt8} {i : Nat} {t u : Tok} (h : bV s i = some t) (hu : bV s (t.at_ + t.tx.length) = some u) {c : UInt8} (e : t.tx = [c]) (hc : bK c = false) : u.touch = false := by
 obtain ⟨w', hw, -⟩ := nX h
 rw [e] at hw
 injection hw with hw _
 rw [E8 hu, e]
 show (decide (u.at_ = t.at_ + 1) && decide (0 < t.at_ + 1) && bK (s.getD (t.at_ + 1 - 1) 0) && bK (s.getD (t.at_ + 1) 0)) = false
 rw [Nat.add_sub_cancel, ← hw, hc]
 simp
theorem nY {s : List UInt8} {i : Nat} (h : bV s i = none) : wordsOf s i = [] := by rw [eQ, h]
theorem Gn {s : List UInt8} {i : Nat} (h : i < s.length) (h32 : s.getD i 0 ≠ 32) : ∃ u, bV s i = some u ∧ u.at_ = i := by
 have hs : aK aA (s.drop i) = 0 := by rw [drop_cons h, aK, qW h32]; rfl
 unfold bV
 rw [hs, Nat.add_zero, if_pos h]
 exact ⟨_, rfl, rfl⟩
theorem VQ {s : List UInt8} {i : Nat} {t : Tok} (h : bV s i = some t) (e : t.tx.length = 1) : qw (t :: wordsOf s (t.at_ + t.tx.length)) = (decide (t.at_ + 1 < s.length) && bI (s.getD (t.at_ + 1) 0)) := by
 rw [e]
 by_cases hl : t.at_ + 1 < s.length
 ·
  rw [decide_eq_true hl, Bool.true_and]
  cases hu : bV s (t.at_ + 1) with
  | none =>
   rw [nY hu]
   by_cases h32 : s.getD (t.at_ + 1) 0 = 32
   ·
    rw [h32]; rfl
   ·
    obtain ⟨u, hu2, -⟩ := Gn hl h32
    rw [hu] at hu2; cases hu2
  | some u =>
   rw [eQ, hu]
   obtain ⟨w, hw, h32⟩ := nX hu
   have hge := (dW hu).1
   by_cases ha : u.at_ = t.at_ + 1
   ·
    show (decide (u.at_ = t.at_ + 1) && (match u.tx with | c :: _ => bI c | [] => false)) = _
    rw [decide_eq_true ha, hw, ha]; rfl
   ·
    show (decide (u.at_ = t.at_ + 1) && (match u.tx with | c :: _ => bI c | [] => false)) = _
    rw [decide_eq_false ha, Bool.false_and]
    by_cases hb : s.getD (t.at_ + 1) 0 = 32
    ·
     rw [hb]; rfl
    ·
     obtain ⟨u2, hu2, h2⟩ := Gn hl hb
     rw [hu] at hu2
     injection hu2 with hu2
     rw [hu2] at ha
     exact absurd h2 ha
 ·
  rw [decide_eq_false hl, Bool.false_and]
  have : bV s (t.at_ + 1) = none := by
   cases hu : bV s (t.at_ + 1) with
   | none => rfl
   | some u =>
    have := dW hu
    omega
  rw [nY this]; rfl
theorem wX {s : List UInt8} {t : Tok} {j : Nat} (hj : j = t.at_ + t.tx.length) : jH t (wordsOf s j) = (decide (j < s.length) && decide (s.getD j 0 = 40)) := by
 by_cases hl : j < s.length
 ·
  rw [decide_eq_true hl, Bool.true_and]
  cases hu : bV s j with
  | none =>
   rw [nY hu]
   by_cases h32 : s.getD j 0 = 32
   ·
    rw [h32]; rfl
   ·
    obtain ⟨u, hu2, -⟩ := Gn hl h32
    rw [hu] at hu2; cases hu2
  | some u =>
   rw [eQ, hu]
   obtain ⟨w, hw, h32⟩ := nX hu
   show (decide (u.tx = [40]) && decide (u.at_ = t.at_ + t.tx.length)) = _
   by_cases ha : u.at_ = j
   ·
    rw [decide_eq_true (ha.trans hj), Bool.and_true]
    refine decide_eq_decide.2 ?_
    rw [ha] at hw
    constructor
    ·
     intro e
     rw [hw] at e
     injection e
    ·
     intro e
     have h6 := (dW hu).2.2.2.2.2.1
     rw [ha, drop_cons hl, e] at h6
     have h1 : aJ (40 :: s.drop (j + 1)) = 1 := VJ (c := 40) (by decide) (by decide) (by decide) (Ye (by decide) _)
     rw [h1] at h6
     exact h6
   ·
    rw [show decide (u.at_ = t.at_ + t.tx.length) = false from decide_eq_false (fun e => ha (e.trans hj.symm)), Bool.and_false]
    by_cases hb : s.getD j 0 = 32
    ·
     rw [hb]; rfl
    ·
     obtain ⟨u2, hu2, h2⟩ := Gn hl hb
     rw [hu] at hu2
     injection hu2 with hu2
     rw [hu2] at ha
     exact absurd h2 ha
 ·
  rw [decide_eq_false hl, Bool.false_and]
  have : bV s j = none := by
   cases hu : bV s j with
   | none => rfl
   | some u =>
    have := dW hu
    omega
  rw [nY this]; rfl
end Go.Proofs.YtobanldeicclmaaGreatDoor
namespace Go.Proofs.YtobanldeicclmaaGreatDoor
open Go.RowKit
theorem nZ (c : UInt8) (w : World) :
  Calls Tryz.prog 78 #[.int .u8 (c.toNat : Nat)] w fun e w' => e = .returned (.bool (dE c)) ∧ w = w' := by
 go_enter Tryz.func78, Tryz.ntmps78
 go_wp2
 all_goals (go_ret; exact ⟨aj (by unfold dE; rw [Bool.eq_iff_iff]; simp; try omega), rfl⟩)
theorem jv (c : UInt8) (w : World) :
  Calls Tryz.prog 52 #[.int .u8 (c.toNat : Nat)] w fun e w' => e = .returned (.bool (bK c)) ∧ w = w' := by
 go_enter Tryz.func52, Tryz.ntmps52
 go_wp2
 all_goals (go_ret; exact ⟨aj (by unfold bK dE; rw [Bool.eq_iff_iff]; simp; try omega), rfl⟩)
theorem oN (c : UInt8) (w : World) :
  Calls Tryz.prog 35 #[.int .u8 (c.toNat : Nat)] w fun e w' => e = .returned (.bool (bK c)) ∧ w = w' := by
 go_enter Tryz.func35, Tryz.ntmps35
 go_wp2
 all_goals (go_ret; exact ⟨aj (by unfold bK dE; rw [Bool.eq_iff_iff]; simp; try omega), rfl⟩)
theorem AY (s : ByteArray) (w : World) (h : s.data.toList ∈ aB) :
  Calls Tryz.prog 100 #[.string s] w fun e w' => e = .returned (.bool true) ∧ w = w' := by
 have hh : s = ⟨#[97, 110, 100]⟩ ∨ s = ⟨#[111, 114]⟩ ∨ s = ⟨#[110, 111, 116]⟩ ∨ s = ⟨#[105, 110]⟩ ∨ s = ⟨#[104, 97, 115]⟩ ∨ s = ⟨#[109, 111, 100]⟩ ∨ s = ⟨#[116, 114, 117, 101]⟩ ∨ s = ⟨#[102, 97, 108, 115, 101]⟩ := by
  have hb : ∀ l : List UInt8, s.data.toList = l → s = ⟨l.toArray⟩ := fun l e => by subst e; rfl
  simp only [aB, List.mem_cons, List.mem_nil_iff, or_false] at h
  rcases h with h | h | h | h | h | h | h | h
  ·
   exact .inl (hb _ h)
  ·
   exact .inr (.inl (hb _ h))
  ·
   exact .inr (.inr (.inl (hb _ h)))
  ·
   exact .inr (.inr (.inr (.inl (hb _ h))))
  ·
   exact .inr (.inr (.inr (.inr (.inl (hb _ h)))))
  ·
   exact .inr (.inr (.inr (.inr (.inr (.inl (hb _ h))))))
  ·
   exact .inr (.inr (.inr (.inr (.inr (.inr (.inl (hb _ h)))))))
  ·
   exact .inr (.inr (.inr (.inr (.inr (.inr (.inr ((hb _ h))))))))
 rcases hh with rfl | rfl | rfl | rfl | rfl | rfl | rfl | rfl
 all_goals
  go_enter Tryz.func100, Tryz.ntmps100
  go_wp2
  go_ret
  exact ⟨rfl, rfl⟩
theorem DV (s : ByteArray) (w : World) (h : s.data.toList ∉ aB) :
  Calls Tryz.prog 100 #[.string s] w fun e w' => e = .returned (.bool false) ∧ w = w' := by
 have q0 : (s.toList == [97, 110, 100]) = false := by rw [ByteArray.toList_eq, beq_eq_false_iff_ne]; exact fun e => h (by rw [e]; decide)
 have q1 : (s.toList == [111, 114]) = false := by rw [ByteArray.toList_eq, beq_eq_false_iff_ne]; exact fun e => h (by rw [e]; decide)
 have q2 : (s.toList == [110, 111, 116]) = false := by rw [ByteArray.toList_eq, beq_eq_false_iff_ne]; exact fun e => h (by rw [e]; decide)
 have q3 : (s.toList == [105, 110]) = false := by rw [ByteArray.toList_eq, beq_eq_false_iff_ne]; exact fun e => h (by rw [e]; decide)
 have q4 : (s.toList == [104, 97, 115]) = false := by rw [ByteArray.toList_eq, beq_eq_false_iff_ne]; exact fun e => h (by rw [e]; decide)
 have q5 : (s.toList == [109, 111, 100]) = false := by rw [ByteArray.toList_eq, beq_eq_false_iff_ne]; exact fun e => h (by rw [e]; decide)
 have q6 : (s.toList == [116, 114, 117, 101]) = false := by rw [ByteArray.toList_eq, beq_eq_false_iff_ne]; exact fun e => h (by rw [e]; decide)
 have q7 : (s.toList == [102, 97, 108, 115, 101]) = false := by rw [ByteArray.toList_eq, beq_eq_false_iff_ne]; exact fun e => h (by rw [e]; decide)
 clear h
 go_enter Tryz.func100, Tryz.ntmps100
 go_wp2
 go_ret
 exact ⟨rfl, rfl⟩
theorem mQ (s : ByteArray) (w : World) :
  Calls Tryz.prog 100 #[.string s] w fun e w' => e = .returned (.bool (aB.contains s.data.toList)) ∧ w = w' := by
 by_cases h : s.data.toList ∈ aB
 ·
  rw [List.contains_iff_mem.2 h]; exact AY s w h
 ·
  rw [show aB.contains s.data.toList = false from by rw [Bool.eq_false_iff]; exact fun e => h (List.contains_iff_mem.1 e)]; exact DV s w h
theorem xO {s : List UInt8} (h : s = []) : eu s = false := by subst h; rfl
theorem zn {s : List UInt8} (h : 16 < s.length) : eu s = false := by
 unfold eu
 rw [show decide (s.length ≤ 16) = false by simp; omega]
 simp
theorem wY {c : UInt8} {r : List UInt8} (h : dE c = false) : eu (c :: r) = false := by simp [eu, h]
theorem AZ {s : List UInt8} (h : aB.contains s = true) : eu s = false := by simp only [eu, h]; simp
theorem zo {c : UInt8} {r : List UInt8} (h1 : (c :: r).length ≤ 16) (h2 : dE c = true) (h3 : aB.contains (c :: r) = false) : eu (c :: r) = (c :: r).all bK := by
 simp only [eu, h2, h3]
 simp
 intro _ _
 simpa using h1
theorem head_cons {s : ByteArray} (h : 0 < s.size) : s.data.toList = s[0] :: s.data.toList.tail := by
 have hl : 0 < s.data.toList.length := h
 rw [show s.data.toList.tail = s.data.toList.drop 1 by simp]
 have := List.drop_eq_getElem_cons hl
 rw [List.drop_zero] at this
 rw [this]
 rfl
theorem IQ {s : ByteArray} {k : Nat} {p : UInt8 → Bool} (h : k < s.size) (ht : (s.data.toList.take k).all p = true) : (s.data.toList.take (k + 1)).all p = p s[k] := by
 have hl : k < s.data.toList.length := h
 rw [List.take_succ_eq_append_getElem hl, List.all_append, ht]
 simp
 rfl
theorem NL {s : ByteArray} {k : Nat} {p : UInt8 → Bool} (h : k < s.size) (hp : p s[k] = false) : s.data.toList.all p = false := by
 have hl : k < s.data.toList.length := h
 rw [Bool.eq_false_iff]
 intro e
 rw [List.all_eq_true] at e
 have := e s.data.toList[k] (List.getElem_mem hl)
 rw [show s.data.toList[k] = s[k] from rfl, hp] at this
 cases this
theorem wZ (s : ByteArray) (w : World) (hs : s.size ≤ maxLen) :
  Calls Tryz.prog 66 #[.string s] w fun e w' => e = .returned (.bool (eu s.data.toList)) ∧ w = w' := by
 unfold maxLen at hs
 have hsl : s.data.toList.length = s.size := rfl
 by_cases h0 : s = ⟨#[]⟩
 ·
  have HF := qh (xO (s := s.data.toList) (by rw [h0]))
  subst h0
  go_enter Tryz.func66, Tryz.ntmps66
  go_wp2_with fail
  go_ret
  exact ⟨aj (by rw [HF.out]), rfl⟩
 have hp : 0 < s.size := by
  rcases Nat.eq_zero_or_pos s.size with h | h
  ·
   exact absurd (ByteArray.ext (Array.toList_inj.1 (List.eq_nil_of_length_eq_zero (hsl.trans h)))) h0
  ·
   exact h
 have se : s.toList.isEmpty = false := by rw [ByteArray.toList_eq]; cases hh : s.data.toList with
  | nil => rw [hh] at hsl; simp at hsl; omega
  | cons a r => rfl
 have HC := qh (head_cons hp)
 by_cases h1 : 16 < s.size
 ·
  have HF := qh (zn (s := s.data.toList) h1)
  have b1 : decide ((16 : Int) < (s.size : Nat)) = true := by simp; omega
  clear h0 hsl h1
  go_enter Tryz.func66, Tryz.ntmps66
  go_wp2_with fail
  go_ret
  exact ⟨aj (by rw [HF.out]), rfl⟩
 have b1 : decide ((16 : Int) < (s.size : Nat)) = false := by simp; omega
 by_cases h2 : dE s[0] = true
 rotate_left
 ·
  have HF := qh (show eu s.data.toList = false by rw [HC.out]; exact wY (by simpa using h2))
  have HL := qh (show ∀ w', Calls Tryz.prog 78 #[.int .u8 (s[0].toNat : Nat)] w' fun e w'' => e = .returned (.bool false) ∧ w' = w'' from fun w' => by
   have h := nZ s[0] w'
   rwa [show dE s[0] = false by simpa using h2] at h)
  clear h0 hsl h1 h2
  go_enter Tryz.func66, Tryz.ntmps66
  go_wp2_with fail
  refine (HL.out _).mono ?_
  rintro e w1 ⟨rfl, rfl⟩
  go_wp2_with fail
  go_ret
  exact ⟨aj (by rw [HF.out]), rfl⟩
 have HL := qh (show ∀ w', Calls Tryz.prog 78 #[.int .u8 (s[0].toNat : Nat)] w' fun e w'' => e = .returned (.bool true) ∧ w' = w'' from fun w' => by
  have h := nZ s[0] w'
  rwa [h2] at h)
 by_cases h3 : aB.contains s.data.toList = true
 ·
  have HF := qh (AZ h3)
  have HR := qh (show ∀ w', Calls Tryz.prog 100 #[.string s] w' fun e w'' => e = .returned (.bool true) ∧ w' = w'' from fun w' => by
   have h := mQ s w'
   rwa [h3] at h)
  clear h0 hsl h1 h2 h3
  go_enter Tryz.func66, Tryz.ntmps66
  go_wp2_with fail
  refine (HL.out _).mono ?_
  rintro e w1 ⟨rfl, rfl⟩
  go_wp2_with fail
  refine (HR.out _).mono ?_
  rintro e w1 ⟨rfl, rfl⟩
  go_wp2_with fail
  go_ret
  exact ⟨aj (by rw [HF.out]), rfl⟩
 have h3' : aB.contains s.data.toList = false := by simpa using h3
 have HR := qh (show ∀ w', Calls Tryz.prog 100 #[.string s] w' fun e w'' => e = .returned (.bool false) ∧ w' = w'' from fun w' => by
  have h := mQ s w'
  rwa [h3'] at h)
 have HF := qh (show eu s.data.toList = s.data.toList.all bK by
  rw [HC.out] at h3' ⊢
  exact zo (by rw [← HC.out]; omega) h2 h3')
 have hle : s.size ≤ 16 := by omega
 clear h0 hsl h1 h2 h3 h3'
 go_enter Tryz.func66, Tryz.ntmps66
 go_wp2_with fail
 refine (HL.out _).mono ?_
 rintro e w1 ⟨rfl, rfl⟩
 go_wp2_with fail
 refine (HR.out _).mono ?_
 rintro e w1 ⟨rfl, rfl⟩
 clear HL HR
 go_wp2_with fail
 go_loop [3] (fun i => ∃ k : Nat, k ≤ s.size ∧ i = .int .i64 k ∧ Hid ((s.data.toList.take k).all bK = true)) (fun i => s.size - (intOf i).toNat)
 case atStart => exact ⟨0, Nat.zero_le _, rfl, qh rfl⟩
 case round =>
  obtain ⟨k, hk, rfl, HA⟩ := hrel
  by_cases hlt : k < s.size
  ·
   obtain ⟨b, hb⟩ := ae (bK s[k])
   have HB := qh hb
   have HS := qh ((IQ hlt HA.out).trans hb)
   have fO := qh hlt
   have HW := qh (show Calls Tryz.prog 52 #[.int .u8 (s[k].toNat : Nat)] w fun e w'' => e = .returned (.bool b) ∧ w = w'' from by
    exact (jv s[k] w).mono fun e w'' ⟨he, hw⟩ => ⟨he.trans (congrArg (fun x => Ending.returned (.bool x)) hb), hw⟩)
   clear hb
   go_wp2_with fail
   refine HW.out.mono ?_
   rintro e w1 ⟨rfl, rfl⟩
   cases b
   ·
    have HG := qh (NL fO.out HB.out)
    go_wp2_with fail
    go_ret
    exact ⟨aj (by rw [HF.out, HG.out]), rfl⟩
   ·
    go_wp2_with fail
    go_round
    case rel => exact ⟨k + 1, fO.out, by go_num, HS⟩
    case measure =>
     have := fO.out
     simp [intOf]
     omega
  ·
   have HG := qh (show s.data.toList.all bK = true by
    have h := HA.out
    rwa [List.take_of_length_le (by show s.size ≤ k; omega)] at h)
   go_wp2_with fail
   go_ret
   exact ⟨aj (by rw [HF.out, HG.out]), rfl⟩
end Go.Proofs.YtobanldeicclmaaGreatDoor
