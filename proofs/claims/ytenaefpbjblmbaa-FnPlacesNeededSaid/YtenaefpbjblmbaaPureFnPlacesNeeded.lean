/- Plain facts on the reference's reader of bytes: its choices lie in their ranges, for all bytes. Plain: what one place more, or all free places, do to the least cost of a player; for boards of at most 30 places. Plain: the reference's draws of boards end, for all bytes, with boards of at most 31 places. The law FnExactHexNear answers true for all ints: the program's HexNear and the reference's return the same, in memory of their own. No condition. Plain: the neighbours of a place of a board are increasing and each has the place for a neighbour; for boards of at most 30 places (by the kernel). The law FnExactWinnerOf answers true for all ints and every list of ints: the program's WinnerOf and the reference's return the same, and the list is left alone. No condition. The law FnPlacesNeeded answers true for all bytes: whoever has won needs nothing, and the places that are needed lead to a win. No condition. -/
import Derived.Test.YtenaefpbjblmbaaQx1
import Derived.Test.YtenaefpbjblmbaaPuAy
import Derived.Test.YtenaefpbjblmbaaQx2
import Derived.Test.YtenaefpbjblmbaaJb
import Derived.Test.YtenaefpbjblmbaaQx7
import Derived.Test.YtenaefpbjblmbaaQx5
import Derived.Test.YtenaefpbjblmbaaPmL
import Derived.Test.YtenaefpbjblmbaaQx8
import Derived.Test.YtenaefpbjblmbaaLwPlaces
namespace Go.Proofs.Ytenaefpbjblmbaa.Pj
open Go.RowKit Go.Proofs.Ytenaefpbjblmbaa.Q Go.Proofs.YtenaefpbjblmbaaW.PrintWords Go.Proofs.YtenaefpbjblmbaaW.PrintLast
set_option linter.unusedVariables false
set_option linter.unusedSimpArgs false

theorem wr {x : Int} (h0 : -9223372036854775808 ≤ x) (h1 : x ≤ 9223372036854775807) : wrap64 x = x := by unfold wrap64; omega
def Bytes (l : List Int) : Prop := ∀ x ∈ l, 0 ≤ x ∧ x ≤ 255
theorem bytes_of {l : List Int} (h : ∀ x ∈ l, (Lit.int .u8 x).wf = true) : Bytes l := by
  intro x hx
  have := h x hx
  simp [Lit.wf, IntKind.min, IntKind.max, IntKind.signed, IntKind.bits] at this
  omega
theorem and255 (x : Int) : 0 ≤ Go.bits .and .u64 x 255 ∧ Go.bits .and .u64 x 255 ≤ 255 := by
  have h : Go.bits .and .u64 x 255 = IntKind.u64.wrap ((BitVec.ofInt 64 x &&& BitVec.ofInt 64 255).toNat : Int) := rfl
  rw [h, BitVec.toNat_and]
  have h2 : (BitVec.ofInt 64 x).toNat &&& (BitVec.ofInt 64 255).toNat ≤ 255 := Nat.le_trans Nat.and_le_right (by decide)
  generalize (BitVec.ofInt 64 x).toNat &&& (BitVec.ofInt 64 255).toNat = m at h2
  rw [IntKind.wrap_u64]
  omega
theorem rd_byte {l : List Int} (h : Bytes l) (i : Int) : 0 ≤ rd l i ∧ rd l i ≤ 255 := by
  unfold rd
  rw [List.getD_eq_getElem?_getD]
  cases e : l[i.toNat]? with
  | none => simp
  | some y => exact h y (List.mem_of_getElem? e)
theorem w255 {x : Int} (h : 0 ≤ x ∧ x ≤ 255) : 0 ≤ wrap64 x ∧ wrap64 x ≤ 255 := by rw [wr (by omega) (by omega)]; exact h

theorem next_ok {l : List Int} (hl : Bytes l) (s1 s2 : Int) (h0 : 0 ≤ s1) (h1 : s1 ≤ 1099511627776) : ∃ b s3, spec_l1Cur_next.f l s1 s2 = some (b, s1 + 1, s3) ∧ 0 ≤ b ∧ b ≤ 255 := by
  have hw : wrap64 (s1 + 1) = s1 + 1 := wr (by omega) (by omega)
  unfold spec_l1Cur_next.f
  rw [hw]
  by_cases c : s1 < (l.length : Int)
  · rw [if_pos c, if_pos h0, if_pos (by omega)]
    exact ⟨_, _, rfl, w255 (rd_byte hl s1)⟩
  · rw [if_neg c, if_neg (by omega)]
    exact ⟨_, _, rfl, w255 (and255 _)⟩

theorem pick_ok {l : List Int} (hl : Bytes l) (s1 s2 m : Int) (h0 : 0 ≤ s1) (h1 : s1 ≤ 1099511627000) : ∃ t s1' s2', spec_l1Cur_pick.f l s1 s2 m = some (t, s1', s2') ∧ 0 ≤ t ∧ (1 < m → t < m) ∧ (m ≤ 1 → t = 0) ∧ s1 ≤ s1' ∧ s1' ≤ s1 + 2 := by
  unfold spec_l1Cur_pick.f
  by_cases c : m ≤ 1
  · rw [if_pos c]
    exact ⟨_, _, _, rfl, Int.le_refl _, fun h => by omega, fun _ => rfl, Int.le_refl _, by omega⟩
  · obtain ⟨b, s3, e, b0, b1⟩ := next_ok hl s1 s2 h0 (by omega)
    rw [if_neg c, e, Option.bind_some]
    by_cases c2 : m > 200
    · obtain ⟨b', s4, e', b0', b1'⟩ := next_ok hl (s1 + 1) s3 (by omega) (by omega)
      simp only
      rw [if_pos c2, e', Option.bind_some, if_neg (by omega)]
      have w1 : wrap64 (b * 256) = b * 256 := wr (by omega) (by omega)
      have w2 : wrap64 (b * 256 + b') = b * 256 + b' := wr (by omega) (by omega)
      simp only [w1, w2]
      rw [Int.tmod_eq_emod_of_nonneg (by omega)]
      exact ⟨_, _, _, rfl, Int.emod_nonneg _ (by omega), fun _ => Int.emod_lt_of_pos _ (by omega), fun h => by omega, by omega, by omega⟩
    · simp only
      rw [if_neg c2, if_neg (by omega), Int.tmod_eq_emod_of_nonneg (by omega)]
      exact ⟨_, _, _, rfl, Int.emod_nonneg _ (by omega), fun _ => Int.emod_lt_of_pos _ (by omega), fun h => by omega, by omega, by omega⟩
end Go.Proofs.Ytenaefpbjblmbaa.Pj

namespace Go.Proofs.Ytenaefpbjblmbaa.Px
open Go.RowKit Go.Proofs.Ytenaefpbjblmbaa.Q Go.Proofs.Ytenaefpbjblmbaa.Given Go.Proofs.Ytenaefpbjblmbaa.Hg Go.Proofs.Ytenaefpbjblmbaa.Pa Go.Proofs.Ytenaefpbjblmbaa.Pq Go.Proofs.Ytenaefpbjblmbaa.Pr Go.Proofs.YtenaefpbjblmbaaW.PrintWords Go.Proofs.YtenaefpbjblmbaaW.PrintLast
set_option linter.unusedVariables false
set_option linter.unusedSimpArgs false

def tot (f : Nat → Nat) (L : List Nat) : Nat := (L.map f).foldr (· + ·) 0
theorem tot_cons (f : Nat → Nat) (i : Nat) (L : List Nat) : tot f (i :: L) = f i + tot f L := by simp [tot]
theorem tot_le {f g : Nat → Nat} (h : ∀ j, f j ≤ g j) (L : List Nat) : tot f L ≤ tot g L := by
  induction L with
  | nil => exact Nat.le_refl _
  | cons x t ih => rw [tot_cons, tot_cons]; have := h x; omega
theorem tot_eq {f g : Nat → Nat} (L : List Nat) (h : ∀ j ∈ L, f j = g j) : tot f L = tot g L := by
  induction L with
  | nil => rfl
  | cons x t ih => rw [tot_cons, tot_cons, h x (by simp), ih (fun j hj => h j (by simp [hj]))]
theorem tot_less {f g : Nat → Nat} {i : Nat} (h : ∀ j, j ≠ i → g j ≤ f j) (hi : g i ≤ f i + 1) (L : List Nat) (hn : L.Nodup) : tot g L ≤ tot f L + 1 := by
  induction L with
  | nil => exact Nat.zero_le _
  | cons x t ih =>
    rw [tot_cons, tot_cons]
    have hn' := List.nodup_cons.mp hn
    by_cases hx : x = i
    · subst hx
      have : tot g t ≤ tot f t := by
        clear ih hn
        have h1 := hn'.1
        clear hn'
        induction t with
        | nil => exact Nat.le_refl _
        | cons y s ih2 =>
          rw [tot_cons, tot_cons]
          have := h y (fun e => h1 (by simp [e]))
          have := ih2 (fun hm => h1 (by simp [hm]))
          omega
      omega
    · have := h x hx
      have := ih hn'.2
      omega
theorem tot_lt {f g : Nat → Nat} {i : Nat} (h : ∀ j, f j ≤ g j) (hi : f i + 1 ≤ g i) (L : List Nat) (hm : i ∈ L) : tot f L + 1 ≤ tot g L := by
  induction L with
  | nil => cases hm
  | cons x t ih =>
    rw [tot_cons, tot_cons]
    rcases List.mem_cons.mp hm with rfl | hm
    · have := tot_le h t; omega
    · have := ih hm; have := h x; omega
theorem tot_pos {f : Nat → Nat} (L : List Nat) (h : 0 < tot f L) : ∃ j ∈ L, 0 < f j := by
  induction L with
  | nil => simp [tot] at h
  | cons x t ih =>
    rw [tot_cons] at h
    by_cases hx : 0 < f x
    · exact ⟨x, by simp, hx⟩
    · obtain ⟨j, h1, h2⟩ := ih (by omega)
      exact ⟨j, by simp [h1], h2⟩
theorem tot_zero {f : Nat → Nat} (L : List Nat) (h : ∀ j ∈ L, f j = 0) : tot f L = 0 := by
  induction L with
  | nil => rfl
  | cons x t ih => rw [tot_cons, h x (by simp), ih (fun j hj => h j (by simp [hj]))]
theorem tot_erase (f : Nat → Nat) (n : Nat) (L : List Nat) (h : n ∈ L) : tot f L = f n + tot f (L.erase n) := by
  induction L with
  | nil => cases h
  | cons x t ih =>
    by_cases hx : x = n
    · subst hx; rw [tot_cons, List.erase_cons_head]
    · rw [List.erase_cons_tail (by simpa using hx), tot_cons, tot_cons, ih (by rcases List.mem_cons.mp h with e | e; exact absurd e.symm hx; exact e)]
      omega
def up (f : Nat → Nat) : Nat → Nat
  | 0 => 0
  | n + 1 => up f n + f n
theorem tot_up (f : Nat → Nat) : ∀ (n : Nat) (L : List Nat), L.Nodup → (∀ x ∈ L, x < n) → tot f L ≤ up f n := by
  intro n
  induction n with
  | zero =>
    intro L _ h
    cases L with
    | nil => exact Nat.le_refl _
    | cons x t => exact absurd (h x (by simp)) (by omega)
  | succ n ih =>
    intro L hn h
    by_cases hm : n ∈ L
    · rw [tot_erase f n L hm]
      have := ih (L.erase n) (hn.erase n) (fun x hx => by
        have h1 := (hn.mem_erase_iff).mp hx
        have := h x h1.2
        have := h1.1
        omega)
      show _ ≤ up f n + f n
      omega
    · have := ih L hn (fun x hx => by
        have := h x hx
        have : x ≠ n := fun e => hm (e ▸ hx)
        omega)
      show _ ≤ up f n + f n
      omega
theorem other {nb : Nat → Nat → Prop} {st ok ok' : Nat → Prop} {cost : Nat → Nat} (cost' : Nat → Nat) (ho : ∀ i, ok i → ok' i) {L : List Nat} {c : Nat} (h : PL nb st ok cost L c) : PL nb st ok' cost' L (tot cost' L) := by
  induction h with
  | @one i h1 h2 =>
    have := PL.one (nb := nb) (cost := cost') h1 (ho _ h2)
    rw [tot_cons]
    exact this
  | @cons i j l c hp h1 h2 ih =>
    have := PL.cons (i := i) ih h1 (ho _ h2)
    rw [tot_cons, Nat.add_comm]
    exact this

section
variable {r c : Nat} {b : List Int} {pl : Int}
theorem path_of {cc : Nat} (h : Cost r c b pl cc) : ∃ (i : Nat) (t : List Nat), lastN r c pl i = true ∧ PL (nbG r c) (stG c pl) (okG r c b pl) (coG b pl) (i :: t) (tot (coG b pl) (i :: t)) ∧ tot (coG b pl) (i :: t) ≤ cc ∧ (i :: t).Nodup ∧ ∀ x ∈ i :: t, okG r c b pl x := by
  obtain ⟨i, hl, hP⟩ := h
  obtain ⟨t, c', h1, h2, h3⟩ := hP.simple
  have e : c' = tot (coG b pl) (i :: t) := h1.sum
  subst e
  exact ⟨i, t, hl, h1, h2, h3, h1.okAll⟩
theorem of_path {i : Nat} {t : List Nat} {cc : Nat} (hl : lastN r c pl i = true) (h : PL (nbG r c) (stG c pl) (okG r c b pl) (coG b pl) (i :: t) cc) : Cost r c b pl cc := ⟨i, hl, h.toP _ _ rfl⟩

/-- One place more: its path costs no more. -/
theorem one_more (hp : pl ≠ 0) {i : Nat} (hi : i < b.length) (h0 : rd b (i : Nat) = 0) {cc : Nat} (h : Cost r c b pl cc) : ∃ c', Cost r c (b.set i pl) pl c' ∧ c' ≤ cc := by
  obtain ⟨e, t, hl, h1, h2, h3, h4⟩ := path_of h
  refine ⟨_, of_path hl (other (ok' := okG r c (b.set i pl) pl) (coG (b.set i pl) pl) ?_ h1), Nat.le_trans (tot_le ?_ _) h2⟩
  · intro j hj
    refine ⟨hj.1, ?_⟩
    rw [rd_setN b i j pl hi]
    split
    · exact .inl rfl
    · exact hj.2
  · intro j
    unfold coG
    rw [rd_setN b i j pl hi]
    by_cases e : i = j
    · rw [if_pos e, if_pos rfl]; exact Nat.zero_le _
    · rw [if_neg e]; exact Nat.le_refl _
theorem one_less (hp : pl ≠ 0) {i : Nat} (hi : i < b.length) (h0 : rd b (i : Nat) = 0) {cc : Nat} (h : Cost r c (b.set i pl) pl cc) : ∃ c', Cost r c b pl c' ∧ c' ≤ cc + 1 := by
  obtain ⟨e, t, hl, h1, h2, h3, h4⟩ := path_of h
  refine ⟨_, of_path hl (other (ok' := okG r c b pl) (coG b pl) ?_ h1), Nat.le_trans (tot_less (i := i) ?_ ?_ _ h3) (Nat.succ_le_succ h2)⟩
  · intro j hj
    refine ⟨hj.1, ?_⟩
    have := hj.2
    rw [rd_setN b i j pl hi] at this
    by_cases e : i = j
    · subst e; exact .inr h0
    · rw [if_neg e] at this; exact this
  · intro j hj
    have e2 : rd (b.set i pl) (j : Nat) = rd b (j : Nat) := by rw [rd_setN b i j pl hi, if_neg (fun e => hj e.symm)]
    unfold coG
    rw [e2]
    exact Nat.le_refl _
  · have := coG_le b pl i
    omega
/-- Some place makes it one less. -/
theorem some_less (hp : pl ≠ 0) (hb : b.length = r * c) {cc : Nat} (h : Cost r c b pl cc) (hm : ∀ c', Cost r c b pl c' → cc ≤ c') (h0 : 0 < cc) : ∃ j, j < b.length ∧ rd b (j : Nat) = 0 ∧ ∃ c', Cost r c (b.set j pl) pl c' ∧ c' + 1 ≤ cc := by
  obtain ⟨e, t, hl, h1, h2, h3, h4⟩ := path_of h
  have := hm _ (of_path hl h1)
  obtain ⟨j, hj, hc⟩ := tot_pos (f := coG b pl) (e :: t) (by omega)
  have ho := h4 j hj
  have hlt : j < b.length := by rw [hb]; exact ho.1
  have hz : rd b (j : Nat) = 0 := by
    rcases ho.2 with e | e
    · unfold coG at hc; rw [if_pos e] at hc; omega
    · exact e
  refine ⟨j, hlt, hz, _, of_path hl (other (ok' := okG r c (b.set j pl) pl) (coG (b.set j pl) pl) ?_ h1), Nat.le_trans (tot_lt (i := j) ?_ ?_ _ hj) h2⟩
  · intro x hx
    refine ⟨hx.1, ?_⟩
    rw [rd_setN b j x pl hlt]
    split
    · exact .inl rfl
    · exact hx.2
  · intro x
    unfold coG
    rw [rd_setN b j x pl hlt]
    by_cases e : j = x
    · rw [if_pos e, if_pos rfl]; exact Nat.zero_le _
    · rw [if_neg e]; exact Nat.le_refl _
  · have e : coG (b.set j pl) pl j = 0 := by unfold coG; rw [rd_setN b j j pl hlt, if_pos rfl, if_pos rfl]
    rw [e]
    omega
def free (b : List Int) (i : Nat) : Nat := if rd b (i : Nat) = 0 then 1 else 0
/-- No more are needed than are free. -/
theorem le_free (hp : pl ≠ 0) {cc : Nat} (h : Cost r c b pl cc) (hm : ∀ c', Cost r c b pl c' → cc ≤ c') : cc ≤ up (free b) (r * c) := by
  obtain ⟨e, t, hl, h1, h2, h3, h4⟩ := path_of h
  have := hm _ (of_path hl h1)
  have := tot_up (free b) (r * c) (e :: t) h3 (fun x hx => (h4 x hx).1)
  have h5 : tot (coG b pl) (e :: t) = tot (free b) (e :: t) := tot_eq _ (fun j hj => by
    unfold coG free
    rcases (h4 j hj).2 with e | e
    · rw [if_pos e, if_neg (by omega)]
    · rw [if_pos e, if_neg (by omega)])
  omega
theorem fill_to {f : List Int} (hf : ∀ j : Nat, j < r * c → rd f (j : Nat) = if rd b (j : Nat) = 0 then pl else rd b (j : Nat)) {cc : Nat} (h : Cost r c b pl cc) : Cost r c f pl 0 := by
  obtain ⟨e, t, hl, h1, h2, h3, h4⟩ := path_of h
  have hall : ∀ x, okG r c b pl x → rd f (x : Nat) = pl := by
    intro x hx
    rw [hf x hx.1]
    rcases hx.2 with e | e
    · split
      · rfl
      · exact e
    · rw [if_pos e]
  have h5 := other (ok' := okG r c f pl) (coG f pl) (fun x hx => ⟨hx.1, .inl (hall x hx)⟩) h1
  rw [tot_zero (f := coG f pl) (e :: t) (fun j hj => by unfold coG; rw [if_pos (hall j (h4 j hj))])] at h5
  exact of_path hl h5
theorem fill_from (hp : pl ≠ 0) {f : List Int} (hf : ∀ j : Nat, j < r * c → rd f (j : Nat) = if rd b (j : Nat) = 0 then pl else rd b (j : Nat)) {cc : Nat} (h : Cost r c f pl cc) : ∃ c', Cost r c b pl c' := by
  obtain ⟨e, t, hl, h1, h2, h3, h4⟩ := path_of h
  refine ⟨_, of_path hl (other (ok' := okG r c b pl) (coG b pl) ?_ h1)⟩
  intro x hx
  refine ⟨hx.1, ?_⟩
  have := hx.2
  rw [hf x hx.1] at this
  by_cases e : rd b (x : Nat) = 0
  · exact .inr e
  · rw [if_neg e] at this
    rcases this with h | h
    · exact .inl h
    · exact absurd h e
end
end Go.Proofs.Ytenaefpbjblmbaa.Px

namespace Go.Proofs.Ytenaefpbjblmbaa.Py
open Go.RowKit Go.Proofs.Ytenaefpbjblmbaa.Q Go.Proofs.Ytenaefpbjblmbaa.Given Go.Proofs.Ytenaefpbjblmbaa.Pj Go.Proofs.YtenaefpbjblmbaaW.PrintWords Go.Proofs.YtenaefpbjblmbaaW.PrintLast
set_option linter.unusedVariables false
set_option linter.unusedSimpArgs false

theorem one_ok {l : List Int} (hl : Bytes l) (s1 s2 m : Int) (h0 : 0 ≤ s1) (h1 : s1 ≤ 1099511627000) : ∃ b s1' s2', spec_l1Cur_one.f l s1 s2 m = some (b, s1', s2') ∧ s1 ≤ s1' ∧ s1' ≤ s1 + 2 := by
  obtain ⟨t, a, b, e, _, _, _, h2, h3⟩ := pick_ok hl s1 s2 m h0 h1
  exact ⟨_, _, _, by unfold spec_l1Cur_one.f; rw [e, Option.bind_some], h2, h3⟩
theorem among_ok {l : List Int} (hl : Bytes l) (s1 s2 : Int) (c : List Int) (hc : 0 < c.length) (h0 : 0 ≤ s1) (h1 : s1 ≤ 1099511627000) : ∃ v s1' s2', spec_l1Cur_among.f l s1 s2 c = some (v, s1', s2') ∧ s1 ≤ s1' ∧ s1' ≤ s1 + 2 := by
  obtain ⟨t, a, b, e, h2, h3, h4, h5, h6⟩ := pick_ok hl s1 s2 (c.length : Int) h0 h1
  have ht : t < (c.length : Int) := by
    by_cases h : (1 : Int) < (c.length : Int)
    · exact h3 h
    · have := h4 (by omega); omega
  exact ⟨_, _, _, by unfold spec_l1Cur_among.f; rw [e, Option.bind_some, if_pos h2, if_pos ht], h5, h6⟩
theorem sides_ok {l : List Int} (hl : Bytes l) : ∃ a b s1 s2, spec_l1Cur_hexSides.f l 0 0 = some (a, b, s1, s2) ∧ 0 ≤ s1 ∧ s1 ≤ 6 := by
  obtain ⟨o, s1, s2, e1, a1, a2⟩ := one_ok hl 0 0 20 (by omega) (by omega)
  unfold spec_l1Cur_hexSides.f
  rw [e1, Option.bind_some]
  cases o with
  | true =>
    obtain ⟨u, s3, s4, e2, a3, a4⟩ := among_ok hl s1 s2 [0, 6, 31, (-1), 4611686018427387904] (by simp) (by omega) (by omega)
    obtain ⟨v, s5, s6, e3, a5, a6⟩ := among_ok hl s3 s4 [1, 5, 6, 4611686018427387904] (by simp) (by omega) (by omega)
    simp only [if_true, e2, e3, Option.bind_some]
    exact ⟨_, _, _, _, rfl, by omega, by omega⟩
  | false =>
    obtain ⟨u, s3, s4, e2, _, _, _, a3, a4⟩ := pick_ok hl s1 s2 5 (by omega) (by omega)
    obtain ⟨v, s5, s6, e3, _, _, _, a5, a6⟩ := pick_ok hl s3 s4 5 (by omega) (by omega)
    simp only [Bool.false_eq_true, if_false, e2, e3, Option.bind_some]
    exact ⟨_, _, _, _, rfl, by omega, by omega⟩

theorem wi1 {i : Nat} (h : i ≤ 30) : wrap64 ((i : Int) + 1) = ((i + 1 : Nat) : Int) := by rw [wr (by omega) (by omega)]; omega
theorem small {n : Nat} (h : n ≤ 30) : n < 17592186044416 := by omega
/-- It ends. -/
def Tot (F : Nat → Option (List Int × Int × Int)) : Prop := ∃ (K : Nat) (r : List Int × Int × Int), (r.1.length ≤ 31 ∧ 0 ≤ r.2.1 ∧ r.2.1 ≤ 1000) ∧ ∀ k, K ≤ k → F k = some r
theorem Tot.s {F F' : Nat → Option (List Int × Int × Int)} (h : Tot F) (e : ∀ k, F' (k + 1) = F k) : Tot F' := by
  obtain ⟨K, r, hr, hk⟩ := h
  refine ⟨K + 1, r, hr, fun k hkk => ?_⟩
  obtain ⟨k, rfl⟩ : ∃ m, k = m + 1 := ⟨k - 1, by omega⟩
  rw [e k]
  exact hk k (by omega)
theorem Tot.one {F : Nat → Option (List Int × Int × Int)} (v : Option (List Int × Int × Int)) (hv : ∃ r : List Int × Int × Int, (r.1.length ≤ 31 ∧ 0 ≤ r.2.1 ∧ r.2.1 ≤ 1000) ∧ v = some r) (e : ∀ k, F (k + 1) = v) : Tot F := by
  obtain ⟨r, hr, hv⟩ := hv
  refine ⟨1, r, hr, fun k hkk => ?_⟩
  obtain ⟨k, rfl⟩ : ∃ m, k = m + 1 := ⟨k - 1, by omega⟩
  rw [e k, hv]
section
variable {l : List Int}
theorem last_ok (hl : Bytes l) (x : List Int) (hx : x.length ≤ 30) (s1 s2 : Int) (h0 : 0 ≤ s1) (h2 : s1 ≤ 900) : ∃ r : List Int × Int × Int, (r.1.length ≤ 31 ∧ 0 ≤ r.2.1 ∧ r.2.1 ≤ 1000) ∧
    ((spec_l1Cur_one.f l s1 s2 30).bind fun bt264 => (if bt264.1 = true then (if x.length < 17592186044416 then (some ((x ++ [1]), bt264.2.1, bt264.2.2)) else (none)) else (some (x, bt264.2.1, bt264.2.2)))) = some r := by
  obtain ⟨o, s3, s4, e1, a1, a2⟩ := one_ok hl s1 s2 30 h0 (by omega)
  rw [e1, Option.bind_some]
  cases o with
  | true =>
    refine ⟨_, ?_, by rw [if_pos rfl, if_pos (small hx)]⟩
    simp only [List.length_append, List.length_cons, List.length_nil]
    omega
  | false =>
    refine ⟨_, ?_, by rw [if_neg (by simp)]⟩
    simp only
    omega
theorem j2_tot (hl : Bytes l) (x : List Int) (o : Bool) (hx : x.length ≤ 30) (ho : o = true → 0 < x.length) (s1 s2 : Int) (h0 : 0 ≤ s1) (h2 : s1 ≤ 800) : Tot (fun k => spec_l1Cur_board.j2 k x o l s1 s2) := by
  cases o with
  | false =>
    refine Tot.one _ (last_ok hl x hx s1 s2 h0 (by omega)) (fun k => ?_)
    rw [spec_l1Cur_board.j2, if_neg (by simp)]
  | true =>
    have hp := ho rfl
    obtain ⟨u, a3, a4, e2, u0, u1, u2, b3, b4⟩ := pick_ok hl s1 s2 (x.length : Int) (by omega) (by omega)
    obtain ⟨v, a5, a6, e3, b5, b6⟩ := among_ok hl a3 a4 [(-1), 0, 3, 4611686018427387904] (by simp) (by omega) (by omega)
    have hu : u < (x.length : Int) := by
      by_cases h : (1 : Int) < (x.length : Int)
      · exact u1 h
      · have := u2 (by omega); omega
    refine Tot.one _ (last_ok hl (x.set (u : Int).toNat v) (by rw [List.length_set]; exact hx) a5 a6 (by omega) (by omega)) (fun k => ?_)
    rw [spec_l1Cur_board.j2, if_pos rfl, e2, Option.bind_some]
    simp only [e3, Option.bind_some]
    rw [if_pos u0, if_pos hu]
theorem j1_tot (hl : Bytes l) (x : List Int) (hx : x.length ≤ 30) (s1 s2 : Int) (h0 : 0 ≤ s1) (h2 : s1 ≤ 700) : Tot (fun k => spec_l1Cur_board.j1 k x l s1 s2) := by
  by_cases h : (x.length : Int) > 0
  · obtain ⟨o, s3, s4, e1, a1, a2⟩ := one_ok hl s1 s2 20 h0 (by omega)
    refine (j2_tot hl x o hx (fun _ => by omega) s3 s4 (by omega) (by omega)).s (fun k => ?_)
    rw [spec_l1Cur_board.j1, if_pos h, e1, Option.bind_some]
  · refine (j2_tot hl x false hx (fun h => by cases h) s1 s2 (by omega) (by omega)).s (fun k => ?_)
    rw [spec_l1Cur_board.j1, if_neg h]
set_option maxHeartbeats 4000000 in
theorem l0_tot (hl : Bytes l) {a c m : Int} {N : Nat} (hN : N ≤ 30) (hw : wrap64 (a * c) = (N : Int)) (d : Nat) : ∀ (i : Nat) (x : List Int) (s1 s2 : Int), i + d = N → x.length = i → 0 ≤ s1 → s1 + 4 * (d : Int) ≤ 600 → Tot (fun k => spec_l1Cur_board.l0 k a c m x (i : Int) l s1 s2) := by
  have HW := Aside0.mk hw
  clear hw
  induction d with
  | zero =>
    intro i x s1 s2 hi hx h0 h2
    refine (j1_tot hl x (by omega) s1 s2 h0 (by omega)).s (fun k => ?_)
    rw [spec_l1Cur_board.l0, HW.out, if_neg (by omega)]
  | succ d ih =>
    intro i x s1 s2 hi hx h0 h2
    obtain ⟨t, s3, s4, e1, _, _, _, a1, a2⟩ := pick_ok hl s1 s2 2 h0 (by omega)
    obtain ⟨u, s5, s6, e2, _, _, _, a3, a4⟩ := pick_ok hl s3 s4 10 (by omega) (by omega)
    have hlt : (i : Int) < (N : Int) := by omega
    have hxs : x.length ≤ 30 := by omega
    have hxl : x.length < 17592186044416 := small hxs
    have hwi : wrap64 ((i : Int) + 1) = ((i + 1 : Nat) : Int) := wi1 (by omega)
    have q1 : (i + 1) + d = N := by omega
    have q2 : 0 ≤ s5 := by omega
    have q3 : s5 + 4 * (d : Int) ≤ 600 := by omega
    by_cases h : u < m
    · have h1 := ih (i + 1) (x ++ [0]) s5 s6 q1 (by simp [hx]) q2 q3
      rw [← hwi] at h1
      refine h1.s (fun k => ?_)
      show spec_l1Cur_board.l0 (k + 1) a c m x (i : Int) l s1 s2 = _
      rw [spec_l1Cur_board.l0, HW.out, if_pos hlt, e1, Option.bind_some, e2, Option.bind_some, if_pos h, if_pos hxl]
    · have h1 := ih (i + 1) (x ++ [wrap64 (1 + t)]) s5 s6 q1 (by simp [hx]) q2 q3
      rw [← hwi] at h1
      refine h1.s (fun k => ?_)
      show spec_l1Cur_board.l0 (k + 1) a c m x (i : Int) l s1 s2 = _
      rw [spec_l1Cur_board.l0, HW.out, if_pos hlt, e1, Option.bind_some, e2, Option.bind_some, if_neg h, if_pos hxl]
theorem board_tot (hl : Bytes l) (a c m s1 s2 : Int) (h0 : 0 ≤ s1) (h2 : s1 ≤ 100) : Tot (fun k => spec_l1Cur_board.f k l s1 s2 a c m) := by
  cases hs : Go.Proofs.Ytenaefpbjblmbaa.Ph.hshape a c with
  | false =>
    obtain ⟨K, r, hr, hk⟩ := j1_tot hl [] (by simp) s1 s2 h0 (by omega)
    refine ⟨K, r, hr, fun k hkk => ?_⟩
    have h1 := hk k hkk
    show spec_l1Cur_board.f k l s1 s2 a c m = some r
    unfold spec_l1Cur_board.f
    rw [Go.Proofs.Ytenaefpbjblmbaa.Ph.hxSides_f, hs, Option.bind_some, if_neg (by simp)]
    exact h1
  | true =>
    obtain ⟨r, q, _, _, _, _, h30, hw⟩ := Go.Proofs.Ytenaefpbjblmbaa.Pu.shape_nat hs
    obtain ⟨K, r, hr, hk⟩ := l0_tot hl (m := m) h30 hw (r * q) 0 [] s1 s2 (by omega) rfl h0 (by omega)
    refine ⟨K, r, hr, fun k hkk => ?_⟩
    have h1 := hk k hkk
    show spec_l1Cur_board.f k l s1 s2 a c m = some r
    unfold spec_l1Cur_board.f
    rw [Go.Proofs.Ytenaefpbjblmbaa.Ph.hxSides_f, hs, Option.bind_some, if_pos rfl]
    exact h1
/-- The draws of boards with players end. -/
theorem drawWon_tot (hl : Bytes l) (m : Int) : ∃ (K : Nat) (a c : Int) (b : List Int) (p : Int), b.length ≤ 31 ∧ ∀ k, K ≤ k → drawWon k l m = some (a, c, b, p) := by
  obtain ⟨a, c, s1, s2, e1, h0, h1⟩ := sides_ok hl
  obtain ⟨K, r, hr, hk⟩ := board_tot hl a c m s1 s2 h0 (by omega)
  obtain ⟨v, s5, s6, e3, _, _⟩ := among_ok hl r.2.1 r.2.2 [1, 2, 1, 2, 1, 2, 0, 3] (by simp) hr.2.1 (by omega)
  refine ⟨K, a, c, r.1, v, hr.1, fun k hkk => ?_⟩
  unfold drawWon
  have := hk k hkk
  simp only at this
  rw [e1, Option.bind_some]
  simp only [this, e3, Option.bind_some]
theorem drawNear_ok (hl : Bytes l) : ∃ a c i, spec_DrawHexNear.f l = some (a, c, i) := by
  obtain ⟨a, c, s1, s2, e1, h0, h1⟩ := sides_ok hl
  obtain ⟨u, s3, s4, e2, _, _, _, a3, a4⟩ := pick_ok hl s1 s2 26 h0 (by omega)
  obtain ⟨v, s5, s6, e3, _, _, _, a5, a6⟩ := pick_ok hl s3 s4 9 (by omega) (by omega)
  unfold spec_DrawHexNear.f
  rw [e1, Option.bind_some]
  simp only [e2, e3, Option.bind_some]
  exact ⟨_, _, _, rfl⟩
end
end Go.Proofs.Ytenaefpbjblmbaa.Py

namespace Go.Proofs.Ytenaefpbjblmbaa.Pure
open Go.RowKit Go.Proofs.Ytenaefpbjblmbaa.Q Go.Proofs.Ytenaefpbjblmbaa.Given Go.Proofs.Ytenaefpbjblmbaa.Pz Go.Proofs.Ytenaefpbjblmbaa.Pm Go.Proofs.YtenaefpbjblmbaaW.PrintWords Go.Proofs.YtenaefpbjblmbaaW.PrintLast
set_option linter.unusedVariables false
set_option linter.unusedSimpArgs false

namespace HexNear
def hshape (a b : Int) : Bool := if inRange a 1 30 = true then (if inRange b 1 30 = true then decide (wrap64 (a * b) ≤ 30) else false) else false
theorem hxSides_f (a b : Int) : spec_hxSides.f a b = some (hshape a b) := by
  unfold spec_hxSides.f hshape
  simp only [l1In_f, Option.bind_some]
  cases inRange a 1 30 <;> cases inRange b 1 30 <;> rfl
theorem isShape_f (a b : Int) : impl_isShape.f a b = some (hshape a b) := by
  unfold impl_isShape.f hshape
  simp only [in_f, Option.bind_some]
  cases inRange a 1 30 <;> cases inRange b 1 30 <;> rfl
theorem shape_nat {a c : Int} (h : hshape a c = true) : ∃ r q : Nat, a = (r : Int) ∧ c = (q : Int) ∧ (1 ≤ r ∧ r ≤ 30) ∧ (1 ≤ q ∧ q ≤ 30) ∧ r * q ≤ 30 ∧ wrap64 (a * c) = ((r * q : Nat) : Int) := by
  unfold hshape inRange at h
  split at h
  · rename_i h1
    split at h
    · rename_i h2
      simp only [Bool.and_eq_true, decide_eq_true_eq] at h1 h2 h
      obtain ⟨r, rfl⟩ := Int.eq_ofNat_of_zero_le (show 0 ≤ a by omega)
      obtain ⟨q, rfl⟩ := Int.eq_ofNat_of_zero_le (show 0 ≤ c by omega)
      have hle : r * q ≤ 30 * 30 := Nat.mul_le_mul (by omega) (by omega)
      have hw : wrap64 ((r : Int) * (q : Int)) = ((r * q : Nat) : Int) := by
        rw [← Int.natCast_mul]; unfold wrap64; omega
      rw [hw] at h
      exact ⟨r, q, rfl, rfl, by omega, by omega, by omega, hw⟩
    · simp at h
  · simp at h
theorem same (a c i : Int) : ∃ (g : List Int × Bool), g.1.length ≤ 6 ∧ impl_HexNear.f a c i = some g ∧ ∀ k, 12 ≤ k → spec_HexNear.f k a c i = some g := by
  cases hs : hshape a c with
  | false =>
    refine ⟨([], false), by simp, ?_, fun k _ => ?_⟩
    · unfold impl_HexNear.f; rw [isShape_f, hs]; simp
    · unfold spec_HexNear.f; rw [hxSides_f, hs]; simp
  | true =>
    obtain ⟨r, q, rfl, rfl, h1, h2, h3, hw⟩ := shape_nat hs
    have hw2 : wrap64 (((r * q : Nat) : Int) - 1) = ((r * q : Nat) : Int) - 1 := by unfold wrap64; omega
    cases hi : inRange i 0 (((r * q : Nat) : Int) - 1) with
    | false =>
      refine ⟨([], false), by simp, ?_, fun k _ => ?_⟩
      · unfold impl_HexNear.f; rw [isShape_f, hs, hw, hw2, in_f, hi]; simp
      · unfold spec_HexNear.f; rw [hxSides_f, hs, hw, hw2, l1In_f, hi]; simp
    | true =>
      have hi' := hi
      unfold inRange at hi'
      simp only [Bool.and_eq_true, decide_eq_true_eq] at hi'
      obtain ⟨j, rfl⟩ := Int.eq_ofNat_of_zero_le hi'.1
      have hj : j < r * q := by omega
      have hd : impl_hexNear.f r q j = some (hexL r q j 6) := by
        unfold impl_hexNear.f
        rw [if_pos]
        exact ⟨⟨by omega, by omega⟩, ⟨by omega, by omega⟩, by omega, by omega⟩
      refine ⟨(hexL r q j 6, true), hexL_len _ _ _ _, ?_, fun k hk => ?_⟩
      · unfold impl_HexNear.f; rw [isShape_f, hs, hw, hw2, in_f, hi]; simp [hd]
      · unfold spec_HexNear.f; rw [hxSides_f, hs, hw, hw2, l1In_f, hi]; simp [Go.Proofs.Ytenaefpbjblmbaa.Pa.around h1.1 h2.1 h3 hj k hk]
end HexNear

end Go.Proofs.Ytenaefpbjblmbaa.Pure

namespace Go.Proofs.Ytenaefpbjblmbaa.Pzn
open Go.RowKit Go.Proofs.Ytenaefpbjblmbaa.Q Go.Proofs.Ytenaefpbjblmbaa.Given Go.Proofs.Ytenaefpbjblmbaa.Pz Go.Proofs.Ytenaefpbjblmbaa.Pm Go.Proofs.YtenaefpbjblmbaaW.PrintWords Go.Proofs.YtenaefpbjblmbaaW.PrintLast
set_option linter.unusedVariables false
set_option linter.unusedSimpArgs false

theorem wrs {x : Int} (h0 : -1000000 ≤ x) (h1 : x ≤ 1000000) : wrap64 x = x := by unfold wrap64; omega
def chkQ (r c i : Nat) : Bool := (List.range (hexL r c i 6).length).all fun t =>
  decide (0 ≤ (hexL r c i 6).getD t 0) && decide ((hexL r c i 6).getD t 0 < ((r * c : Nat) : Int)) && (hexL r c ((hexL r c i 6).getD t 0) 6).contains (i : Int) && (decide (t = 0) || decide ((hexL r c i 6).getD (t - 1) 0 < (hexL r c i 6).getD t 0))
def chkR (c : Nat) : Bool := (List.range 31).all fun r => if decide (1 ≤ r) && decide (r * c ≤ 30) then (List.range (r * c)).all fun i => chkQ r c i else true
theorem chkAllQ : (List.range 31).all chkR = true := by decide +kernel
theorem chk_ofQ {r c i : Nat} (hr : 1 ≤ r) (hc : 1 ≤ c) (hn : r * c ≤ 30) (hi : i < r * c) : chkQ r c i = true := by
  have hr2 : r ≤ r * c := Nat.le_mul_of_pos_right r hc
  have hc2 : c ≤ r * c := Nat.le_mul_of_pos_left c hr
  have h1 := List.all_eq_true.mp chkAllQ c (List.mem_range.mpr (by omega))
  have h2 := List.all_eq_true.mp h1 r (List.mem_range.mpr (by omega))
  simp only [hr, hn, decide_true, Bool.and_self, if_true] at h2
  exact List.all_eq_true.mp h2 i (List.mem_range.mpr hi)
theorem near_at {r c i : Nat} (hr : 1 ≤ r) (hc : 1 ≤ c) (hn : r * c ≤ 30) (hi : i < r * c) (t : Nat) (ht : t < (hexL r c i 6).length) :
    0 ≤ (hexL r c i 6).getD t 0 ∧ (hexL r c i 6).getD t 0 < ((r * c : Nat) : Int) ∧ (i : Int) ∈ hexL r c ((hexL r c i 6).getD t 0) 6 ∧ (0 < t → (hexL r c i 6).getD (t - 1) 0 < (hexL r c i 6).getD t 0) := by
  have h := List.all_eq_true.mp (chk_ofQ hr hc hn hi) t (List.mem_range.mpr ht)
  simp only [Bool.and_eq_true, Bool.or_eq_true, decide_eq_true_eq, List.contains_iff_mem] at h
  obtain ⟨⟨⟨h1, h2⟩, h3⟩, h4⟩ := h
  exact ⟨h1, h2, h3, fun h0 => by rcases h4 with h4 | h4; omega; exact h4⟩
theorem zSame_l0 (l : List Int) (hm : l.length ≤ 100) (d : Nat) : ∀ (i k : Nat), i + d = l.length → d < k → laws_zSame.l0 k l l (l.length : Int) (i : Int) = some true := by
  induction d with
  | zero =>
    intro i k hi hk
    obtain ⟨k, rfl⟩ : ∃ m, k = m + 1 := ⟨k - 1, by omega⟩
    rw [laws_zSame.l0, if_neg (by omega)]
  | succ d ih =>
    intro i k hi hk
    obtain ⟨k, rfl⟩ : ∃ m, k = m + 1 := ⟨k - 1, by omega⟩
    have := ih (i + 1) k (by omega) (by omega)
    rw [laws_zSame.l0, if_pos (by omega), if_pos (by omega), if_pos (by omega), if_pos (by omega), if_pos rfl, wrs (by omega) (by omega)]
    exact_mod_cast this
theorem zSame_f (l : List Int) (hm : l.length ≤ 100) (k : Nat) (hk : l.length < k) : laws_zSame.f k l l = some true := by
  unfold laws_zSame.f
  rw [if_pos rfl]
  exact_mod_cast zSame_l0 l hm l.length 0 k (by omega) hk
theorem zHas_l0 (l : List Int) (x : Int) (hm : l.length ≤ 100) (d : Nat) : ∀ (i k : Nat), i + d = l.length → d < k → (∃ j : Nat, i ≤ j ∧ j < l.length ∧ rd l (j : Nat) = x) → laws_zHas.l0 k x l (l.length : Int) (i : Int) = some true := by
  induction d with
  | zero => rintro i k hi hk ⟨j, h1, h2, _⟩; omega
  | succ d ih =>
    rintro i k hi hk ⟨j, h1, h2, h3⟩
    obtain ⟨k, rfl⟩ : ∃ m, k = m + 1 := ⟨k - 1, by omega⟩
    by_cases e : rd l (i : Nat) = x
    · rw [laws_zHas.l0, if_pos (by omega), if_pos (by omega), if_pos (by omega), if_pos e]
    · have hne : j ≠ i := fun h => e (h ▸ h3)
      have := ih (i + 1) k (by omega) (by omega) ⟨j, by omega, h2, h3⟩
      rw [laws_zHas.l0, if_pos (by omega), if_pos (by omega), if_pos (by omega), if_neg e, wrs (by omega) (by omega)]
      exact_mod_cast this
theorem zHas_f (l : List Int) (x : Int) (hm : l.length ≤ 100) (hx : x ∈ l) (k : Nat) (hk : l.length < k) : laws_zHas.f k l x = some true := by
  unfold laws_zHas.f
  obtain ⟨j, hj, e⟩ := List.mem_iff_getElem.mp hx
  exact_mod_cast zHas_l0 l x hm l.length 0 k (by omega) hk ⟨j, by omega, hj, by unfold rd; rw [List.getD_eq_getElem?_getD, Int.toNat_natCast, List.getElem?_eq_getElem hj]; exact e⟩
open Go.Proofs.Ytenaefpbjblmbaa.Pure.HexNear in
/-- What both HexNear tell, and what their neighbours tell. -/
theorem near_f (a c i : Int) : ∃ (near : List Int) (two : Bool), near.length ≤ 6 ∧ impl_HexNear.f a c i = some (near, two) ∧ (∀ k, 12 ≤ k → spec_HexNear.f k a c i = some (near, two)) ∧
    ∀ t : Nat, t < near.length → ∃ back, back.length ≤ 6 ∧ impl_HexNear.f a c (rd near t) = some (back, true) ∧ i ∈ back ∧ (0 < t → rd near ((t : Int) - 1) < rd near t) := by
  cases hs : hshape a c with
  | false =>
    refine ⟨[], false, by simp, ?_, fun k _ => ?_, fun t ht => by simp at ht⟩
    · unfold impl_HexNear.f; rw [isShape_f, hs]; simp
    · unfold spec_HexNear.f; rw [hxSides_f, hs]; simp
  | true =>
    obtain ⟨r, q, rfl, rfl, h1, h2, h3, hw⟩ := shape_nat hs
    have hw2 : wrap64 (((r * q : Nat) : Int) - 1) = ((r * q : Nat) : Int) - 1 := by unfold wrap64; omega
    have hI : ∀ j : Nat, j < r * q → impl_HexNear.f r q (j : Int) = some (hexL r q j 6, true) := by
      intro j hj
      have hi : inRange (j : Int) 0 (((r * q : Nat) : Int) - 1) = true := by
        unfold inRange
        simp only [Bool.and_eq_true, decide_eq_true_eq]
        omega
      have hd : impl_hexNear.f r q j = some (hexL r q j 6) := by
        unfold impl_hexNear.f
        rw [if_pos]
        exact ⟨⟨by omega, by omega⟩, ⟨by omega, by omega⟩, by omega, by omega⟩
      unfold impl_HexNear.f; rw [isShape_f, hs, hw, hw2, in_f, hi]; simp [hd]
    cases hi : inRange i 0 (((r * q : Nat) : Int) - 1) with
    | false =>
      refine ⟨[], false, by simp, ?_, fun k _ => ?_, fun t ht => by simp at ht⟩
      · unfold impl_HexNear.f; rw [isShape_f, hs, hw, hw2, in_f, hi]; simp
      · unfold spec_HexNear.f; rw [hxSides_f, hs, hw, hw2, l1In_f, hi]; simp
    | true =>
      have hi' := hi
      unfold inRange at hi'
      simp only [Bool.and_eq_true, decide_eq_true_eq] at hi'
      obtain ⟨j, rfl⟩ := Int.eq_ofNat_of_zero_le hi'.1
      have hj : j < r * q := by omega
      refine ⟨hexL r q j 6, true, hexL_len _ _ _ _, hI j hj, fun k hk => ?_, fun t ht => ?_⟩
      · unfold spec_HexNear.f; rw [hxSides_f, hs, hw, hw2, l1In_f, hi]; simp [Go.Proofs.Ytenaefpbjblmbaa.Pa.around h1.1 h2.1 h3 hj k hk]
      · obtain ⟨n1, n2, n3, n4⟩ := near_at h1.1 h2.1 h3 hj t ht
        have e1 : rd (hexL r q j 6) (t : Int) = (hexL r q j 6).getD t 0 := by unfold rd; rw [Int.toNat_natCast]
        have e2 : 0 < t → rd (hexL r q j 6) ((t : Int) - 1) = (hexL r q j 6).getD (t - 1) 0 := by
          intro h0
          unfold rd
          rw [show ((t : Int) - 1).toNat = t - 1 from by omega]
        obtain ⟨m, hm⟩ := Int.eq_ofNat_of_zero_le n1
        refine ⟨hexL r q m 6, hexL_len _ _ _ _, ?_, ?_, fun h0 => ?_⟩
        · rw [e1, hm]; exact hI m (by omega)
        · rw [hm] at n3; exact n3
        · rw [e1, e2 h0]; exact n4 h0
end Go.Proofs.Ytenaefpbjblmbaa.Pzn

namespace Go.Proofs.Ytenaefpbjblmbaa.Pure
open Go.RowKit Go.Proofs.Ytenaefpbjblmbaa.Q Go.Proofs.Ytenaefpbjblmbaa.Given Go.Proofs.Ytenaefpbjblmbaa.Pz Go.Proofs.Ytenaefpbjblmbaa.Pm Go.Proofs.Ytenaefpbjblmbaa.Ph Go.Proofs.YtenaefpbjblmbaaW.PrintWords Go.Proofs.YtenaefpbjblmbaaW.PrintLast
set_option linter.unusedVariables false
set_option linter.unusedSimpArgs false

namespace WinnerOf
theorem index_l0 (l : List Int) (x : Int) (hm : l.length ≤ 1099511627776) (d : Nat) : ∀ (i k : Nat), i + d = l.length → d < k → (∀ j : Nat, j < i → rd l j ≠ x) →
    ∃ v, slices_Index_int_int.l0 k l x (l.length : Int) (i : Int) = some v ∧ ((0 ≤ v ∧ x ∈ l) ∨ (v < 0 ∧ ∀ j : Nat, j < l.length → rd l j ≠ x)) := by
  induction d with
  | zero =>
    intro i k hi hk hj
    obtain ⟨k, rfl⟩ : ∃ m, k = m + 1 := ⟨k - 1, by omega⟩
    refine ⟨-1, ?_, .inr ⟨by omega, fun j hj2 => hj j (by omega)⟩⟩
    rw [slices_Index_int_int.l0, if_neg (by omega)]
  | succ d ih =>
    intro i k hi hk hj
    obtain ⟨k, rfl⟩ : ∃ m, k = m + 1 := ⟨k - 1, by omega⟩
    have hil : i < l.length := by omega
    by_cases hx : x = rd l (i : Nat)
    · refine ⟨i, ?_, .inl ⟨by omega, ?_⟩⟩
      · rw [slices_Index_int_int.l0, if_pos (by omega), if_pos (by omega), if_pos (by omega), if_pos hx]
      · rw [hx]; unfold rd
        rw [List.getD_eq_getElem?_getD, Int.toNat_natCast, List.getElem?_eq_getElem hil]
        exact List.getElem_mem hil
    · obtain ⟨v, h1, h2⟩ := ih (i + 1) k (by omega) (by omega) (fun j hj2 => by
        by_cases e : j = i
        · subst e; exact fun h => hx h.symm
        · exact hj j (by omega))
      refine ⟨v, ?_, h2⟩
      rw [slices_Index_int_int.l0, if_pos (by omega), if_pos (by omega), if_pos (by omega), if_neg hx, wr (by omega) (by omega)]
      exact_mod_cast h1
theorem contains_f (l : List Int) (x : Int) (hm : l.length ≤ 1099511627776) (k : Nat) (hk : l.length < k) : slices_Contains_int_int.f k l x = some (l.contains x) := by
  unfold slices_Contains_int_int.f slices_Index_int_int.f
  obtain ⟨v, h1, h2⟩ := index_l0 l x hm l.length 0 k (by omega) hk (fun j hj => by omega)
  rw [show ((0 : Nat) : Int) = 0 from rfl] at h1
  rw [h1]
  simp only [Option.bind_some]
  rcases h2 with ⟨h2, h3⟩ | ⟨h2, h3⟩
  · simp [h2, h3]
  · have : x ∉ l := by
      intro hx
      obtain ⟨j, hj, e⟩ := List.mem_iff_getElem.mp hx
      have := h3 j hj
      unfold rd at this
      rw [List.getD_eq_getElem?_getD, Int.toNat_natCast, List.getElem?_eq_getElem hj] at this
      exact this e
    simp [this]
    omega
theorem full_iff (l : List Int) (hv : ∀ x ∈ l, 0 ≤ x ∧ x ≤ 2) : (l.all fun x => inRange x 1 2) = !(l.contains 0) := by
  induction l with
  | nil => rfl
  | cons x t ih =>
    have h1 := hv x (by simp)
    have h2 := ih (fun y hy => hv y (by simp [hy]))
    rw [List.all_cons, h2, List.contains_cons, Bool.not_or]
    congr 1
    unfold inRange
    obtain rfl | rfl | rfl : x = 0 ∨ x = 1 ∨ x = 2 := by omega
    · rfl
    · rfl
    · rfl
end WinnerOf
end Go.Proofs.Ytenaefpbjblmbaa.Pure

namespace Go.Proofs.Ytenaefpbjblmbaa.Pure
open Go.RowKit Go.Proofs.Ytenaefpbjblmbaa.Q Go.Proofs.Ytenaefpbjblmbaa.Given Go.Proofs.Ytenaefpbjblmbaa.Pz Go.Proofs.Ytenaefpbjblmbaa.Pm Go.Proofs.Ytenaefpbjblmbaa.Ph Go.Proofs.YtenaefpbjblmbaaW.PrintWords Go.Proofs.YtenaefpbjblmbaaW.PrintLast
set_option linter.unusedVariables false
set_option linter.unusedSimpArgs false

namespace PlacesNeeded
open Go.Proofs.Ytenaefpbjblmbaa.Pu Go.Proofs.Ytenaefpbjblmbaa.Pq Go.Proofs.Ytenaefpbjblmbaa.Pr Go.Proofs.Ytenaefpbjblmbaa.Pw Go.Proofs.Ytenaefpbjblmbaa.Px

/-- A board with its player. -/
structure Bo (a c : Int) (l : List Int) (p : Int) (r q : Nat) : Prop where
  hs : hshape a c = true
  hl : (l.length : Int) = wrap64 (a * c)
  hv : ∀ x ∈ l, 0 ≤ x ∧ x ≤ 2
  hp : p = 1 ∨ p = 2
  ea : a = (r : Int)
  ec : c = (q : Int)
  r1 : 1 ≤ r
  q1 : 1 ≤ q
  m30 : r * q ≤ 30
  len : l.length = r * q
section
variable {a c : Int} {l : List Int} {p : Int} {r q : Nat}
theorem Bo.isBoard (h : Bo a c l p r q) : impl_isBoard.f a c l = some true := by
  have h1 : (l.any fun x => !(inRange x 0 2)) = false := by
    rw [List.any_eq_false]
    intro x hx
    have := h.hv x hx
    unfold inRange
    simp [this.1, this.2]
  unfold impl_isBoard.f
  rw [isShape_f, h.hs, Option.bind_some, h.hl, h1]
  simp
theorem Bo.inr (h : Bo a c l p r q) : inRange p 1 2 = true := by
  rcases h.hp with rfl | rfl <;> decide
theorem Bo.val (h : Bo a c l p r q) : ∃ (K : Nat) (v : Int), (∀ k, K ≤ k → impl_need.f k a c l p = some v ∧ impl_NeedOf.f k a c l p = some (if v ≥ 1000 then (0, false) else (v, true)) ∧ impl_HasWon.f k a c l p = some (v == 0, true)) ∧
    ((v = 1000 ∧ ∀ cc, ¬ Cost r q l p cc) ∨ (∃ cc : Nat, v = cc ∧ cc ≤ r * q ∧ Cost r q l p cc ∧ ∀ c', Cost r q l p c' → cc ≤ c')) := by
  obtain ⟨r', q', e1, e2, _, _, _, _, _, K, v, u, hK, hvu⟩ := needs h.hs h.hl h.hv h.hp
  obtain rfl : r' = r := by have := h.ea; omega
  obtain rfl : q' = q := by have := h.ec; omega
  obtain ⟨p1, p2, p3⟩ := player_f p
  rw [h.inr] at p2
  refine ⟨K + 1, v, fun k hk => ?_, ?_⟩
  · obtain ⟨k, rfl⟩ : ∃ m, k = m + 1 := ⟨k - 1, by omega⟩
    refine ⟨(hK _ (by omega)).1, ?_, ?_⟩
    · unfold impl_NeedOf.f
      rw [h.isBoard]
      simp only [Option.bind_some, if_true, p2, Bool.not_true, impl_NeedOf.j0, Bool.false_eq_true, if_false, (hK k (by omega)).1]
      split <;> rfl
    · unfold impl_HasWon.f
      rw [h.isBoard]
      simp only [Option.bind_some, if_true, p2, (hK (k + 1) (by omega)).1]
  · rcases hvu with ⟨e1, _, n⟩ | ⟨cc, e1, _, b1, C, m⟩
    · exact .inl ⟨e1, n⟩
    · exact .inr ⟨cc, e1, b1, C, m⟩
theorem Bo.other (h : Bo a c l p r q) : Bo a c l (3 - p) r q := { h with hp := by rcases h.hp with rfl | rfl; exact .inr (by decide); exact .inl (by decide) }
theorem Bo.pl (h : Bo a c l p r q) {p' : Int} (hp : p' = 1 ∨ p' = 2) : Bo a c l p' r q := { h with hp := hp }
theorem Bo.not_both (h : Bo a c l p r q) {cc : Nat} (h1 : Cost r q l p cc) (h2 : Cost r q l (3 - p) 0) : False := by
  rcases h.hp with rfl | rfl
  · exact not_both2 h.q1 h1 h2
  · exact not_both1 h.q1 h2 h1
theorem Bo.set (h : Bo a c l p r q) (i : Nat) : Bo a c (l.set i p) p r q := { h with
  hl := by rw [List.length_set]; exact h.hl
  hv := by
    intro x hx
    rcases List.mem_or_eq_of_mem_set hx with hx | rfl
    · exact h.hv x hx
    · rcases h.hp with rfl | rfl <;> omega
  len := by rw [List.length_set]; exact h.len }
theorem Bo.p0 (h : Bo a c l p r q) : p ≠ 0 := by rcases h.hp with rfl | rfl <;> omega

theorem rd_fill (j : Nat) (hj : j < l.length) : rd (l.map (fillP p)) (j : Nat) = if rd l (j : Nat) = 0 then p else rd l (j : Nat) := by
  unfold rd
  rw [Int.toNat_natCast, List.getD_eq_getElem?_getD, List.getD_eq_getElem?_getD, List.getElem?_map, List.getElem?_eq_getElem hj]
  rfl
theorem Bo.fill (h : Bo a c l p r q) : Bo a c (l.map (fillP p)) p r q := { h with
  hl := by rw [List.length_map]; exact h.hl
  hv := by
    intro x hx
    obtain ⟨y, hy, rfl⟩ := List.mem_map.mp hx
    unfold fillP
    split
    · rcases h.hp with rfl | rfl <;> omega
    · exact h.hv y hy
  len := by rw [List.length_map]; exact h.len }
theorem Bo.no_free (h : Bo a c l p r q) : (l.map (fillP p)).contains 0 = false := by
  rw [← Bool.not_eq_true, List.contains_iff_mem]
  intro hx
  obtain ⟨y, hy, e⟩ := List.mem_map.mp hx
  unfold fillP at e
  split at e
  · exact h.p0 e
  · rename_i h0; exact h0 e
theorem Bo.full (h : Bo a c l p r q) : ∀ i : Nat, i < r * q → rd (l.map (fillP p)) i = 1 ∨ rd (l.map (fillP p)) i = 2 := by
  intro i hi
  have hil : i < l.length := by rw [h.len]; exact hi
  rw [rd_fill i hil]
  have hv := rd_val h.hv (i : Int)
  split
  · exact h.hp
  · omega
theorem winner_full {f : List Int} (h : Bo a c f 1 r q) (hno : f.contains 0 = false) (hfull : ∀ i : Nat, i < r * q → rd f i = 1 ∨ rd f i = 2) :
    ∃ (K : Nat) (w : Int), (∀ k, K ≤ k → impl_WinnerOf.f k a c f = some (w, true)) ∧ ((w = 1 ∧ Cost r q f 1 0 ∧ ¬ Cost r q f 2 0) ∨ (w = 2 ∧ Cost r q f 2 0 ∧ ¬ Cost r q f 1 0)) := by
  obtain ⟨K1, v1, hK1, h1⟩ := h.val
  obtain ⟨K2, v2, hK2, h2⟩ := (h.pl (p' := 2) (.inr rfl)).val
  have hone := one_won h.r1 h.q1 hfull
  have hlen : f.length ≤ 30 := by rw [h.len]; exact h.m30
  have hf2 : ∀ k, 31 ≤ k → impl_isFullBoard.f k a c f = some true := fun k hk => by
    unfold impl_isFullBoard.f
    rw [h.isBoard, Option.bind_some, if_pos rfl, WinnerOf.contains_f f 0 (Nat.le_trans hlen (by decide)) k (by omega), hno]
    rfl
  by_cases hc : Cost r q f 1 0
  · have hn2 : ¬ Cost r q f 2 0 := fun h2 => not_both2 h.q1 hc h2
    have hv : v1 = 0 := by
      rcases h1 with ⟨_, n1⟩ | ⟨cc, e1, _, _, m1⟩
      · exact absurd hc (n1 _)
      · have := m1 _ hc; omega
    refine ⟨K1 + K2 + 40, 1, fun k hk => ?_, .inl ⟨rfl, hc, hn2⟩⟩
    obtain ⟨k, rfl⟩ : ∃ m, k = m + 3 := ⟨k - 3, by omega⟩
    unfold impl_WinnerOf.f impl_winner.f
    rw [hf2 _ (by omega), Option.bind_some, if_pos rfl, impl_winner.l0, if_pos (by omega), (hK1 _ (by omega)).1, Option.bind_some, if_pos hv]
    rfl
  · have hc2 : Cost r q f 2 0 := by rcases hone with h | h; exact absurd h hc; exact h
    have hv : v1 ≠ 0 := by
      rcases h1 with ⟨e1, _⟩ | ⟨cc, e1, _, C, _⟩
      · omega
      · intro h0
        obtain rfl : cc = 0 := by omega
        exact hc C
    have hv2 : v2 = 0 := by
      rcases h2 with ⟨_, n1⟩ | ⟨cc, e1, _, _, m1⟩
      · exact absurd hc2 (n1 _)
      · have := m1 _ hc2; omega
    refine ⟨K1 + K2 + 40, 2, fun k hk => ?_, .inr ⟨rfl, hc2, hc⟩⟩
    obtain ⟨k, rfl⟩ : ∃ m, k = m + 3 := ⟨k - 3, by omega⟩
    unfold impl_WinnerOf.f impl_winner.f
    rw [hf2 _ (by omega), Option.bind_some, if_pos rfl, impl_winner.l0, if_pos (by omega), (hK1 _ (by omega)).1, Option.bind_some, if_neg hv, show wrap64 (1 + 1) = 2 from by unfold wrap64; omega, impl_winner.l0, if_pos (by omega), (hK2 _ (by omega)).1, Option.bind_some, if_pos hv2]
    rfl

theorem le_up (f : Nat → Nat) : ∀ (n i : Nat), i < n → f i ≤ up f n := by
  intro n
  induction n with
  | zero => intro i hi; omega
  | succ n ih =>
    intro i hi
    show f i ≤ up f n + f n
    by_cases e : i = n
    · subst e; omega
    · have := ih i (by omega); omega
theorem freeN_up (b : List Int) : ∀ n : Nat, freeN b n = ((up (free b) n : Nat) : Int) := by
  intro n
  induction n with
  | zero => rfl
  | succ n ih =>
    show (if rd b (n : Int) = 0 then freeN b n + 1 else freeN b n) = ((up (free b) n + free b n : Nat) : Int)
    unfold free at *
    rw [ih]
    split <;> simp
theorem found_true (less : Nat → Int) (b : List Int) (need : Int) : ∀ n : Nat, (∃ j, j < n ∧ rd b (j : Nat) = 0 ∧ less j = wrap64 (need - 1)) → foundN less b need n = true := by
  intro n
  induction n with
  | zero => rintro ⟨j, hj, _⟩; omega
  | succ n ih =>
    rintro ⟨j, hj, h0, h1⟩
    show (if rd b (n : Int) = 0 then (foundN less b need n || (less n == wrap64 (need - 1))) else foundN less b need n) = true
    by_cases e : j = n
    · subst e
      rw [if_pos h0, h1]
      simp
    · have := ih ⟨j, by omega, h0, h1⟩
      rw [this]
      split <;> rfl
/-- One place more, for all places at once. -/
theorem Bo.less (h : Bo a c l p r q) {cc : Nat} (C : Cost r q l p cc) (M : ∀ c', Cost r q l p c' → cc ≤ c') : ∃ (K : Nat) (less : Nat → Nat), ∀ i, i < l.length → rd l (i : Nat) = 0 →
    (∀ k, K ≤ k → impl_NeedOf.f k a c (l.set i p) p = some ((less i : Int), true)) ∧ cc ≤ less i + 1 ∧ less i ≤ cc ∧ ∀ c', Cost r q (l.set i p) p c' → less i ≤ c' := by
  have hone : ∀ i : Nat, ∃ dK : Nat × Nat, i < l.length → rd l (i : Nat) = 0 → (∀ k, dK.2 ≤ k → impl_NeedOf.f k a c (l.set i p) p = some ((dK.1 : Int), true)) ∧ cc ≤ dK.1 + 1 ∧ dK.1 ≤ cc ∧ ∀ c', Cost r q (l.set i p) p c' → dK.1 ≤ c' := by
    intro i
    by_cases hi : i < l.length
    · by_cases h0 : rd l (i : Nat) = 0
      · obtain ⟨K, v, hK, hv⟩ := (h.set i).val
        obtain ⟨c1, C1, l1⟩ := one_more h.p0 hi h0 C
        rcases hv with ⟨_, n⟩ | ⟨d, e1, b1, C2, m2⟩
        · exact absurd C1 (n _)
        · refine ⟨(d, K), fun _ _ => ⟨fun k hk => ?_, ?_, ?_, m2⟩⟩
          · have := h.m30
            rw [(hK k hk).2.1, if_neg (by omega), e1]
          · obtain ⟨c3, C3, l3⟩ := one_less h.p0 hi h0 C2
            have := M _ C3
            show cc ≤ d + 1
            omega
          · have := m2 _ C1
            show d ≤ cc
            omega
      · exact ⟨(0, 0), fun _ h1 => absurd h1 h0⟩
    · exact ⟨(0, 0), fun h1 => absurd h1 hi⟩
  obtain ⟨f, hf⟩ := Classical.skolem.mp hone
  refine ⟨up (fun i => (f i).2) l.length, fun i => (f i).1, fun i hi h0 => ?_⟩
  obtain ⟨h1, h2⟩ := hf i hi h0
  exact ⟨fun k hk => h1 k (Nat.le_trans (le_up (fun i => (f i).2) _ i hi) hk), h2⟩

theorem w3 (hp : p = 1 ∨ p = 2) : wrap64 (3 - p) = 3 - p := by rcases hp with rfl | rfl <;> (unfold wrap64; omega)
theorem w1 {n : Nat} (h : n ≤ 30) : wrap64 ((n : Int) - 1) = (n : Int) - 1 := by unfold wrap64; omega

theorem Bo.places (h : Bo a c l p r q) {K0 : Nat} {need : Int} {ok won one : Bool} (hn : ∀ k, K0 ≤ k → impl_NeedOf.f k a c l p = some (need, ok)) (hw : ∀ k, K0 ≤ k → impl_HasWon.f k a c l p = some (won, one)) :
    ∃ (K : Nat) (other : Bool) (winner : Int) (less : Nat → Int), ∀ k, K ≤ k → PlacesB k a c l p need ok won other winner less := by
  obtain ⟨K1, v, hK1, hv⟩ := h.val
  obtain ⟨K2, v', hK2, hv'⟩ := h.other.val
  obtain ⟨K3, w, hK3, hw3⟩ := winner_full (h.fill.pl (p' := 1) (.inl rfl)) h.no_free h.full
  have e1 := (hn (K0 + K1) (by omega)).symm.trans (hK1 (K0 + K1) (by omega)).2.1
  have e2 := (hw (K0 + K1) (by omega)).symm.trans (hK1 (K0 + K1) (by omega)).2.2
  injection e2 with e2
  injection e2 with e2 e3
  injection e1 with e1
  have h30 := h.m30
  have hfill : ∀ cc, Cost r q l p cc → Cost r q (l.map (fillP p)) p 0 := fun cc C => fill_to (fun j hj => rd_fill j (by rw [h.len]; exact hj)) C
  have hfrom : Cost r q (l.map (fillP p)) p 0 → ∃ cc, Cost r q l p cc := fun C => fill_from h.p0 (fun j hj => rd_fill j (by rw [h.len]; exact hj)) C
  have hwin : (w = p ↔ Cost r q (l.map (fillP p)) p 0) := by
    rcases h.hp with rfl | rfl
    · rcases hw3 with ⟨rfl, c1, c2⟩ | ⟨rfl, c1, c2⟩
      · exact ⟨fun _ => c1, fun _ => rfl⟩
      · exact ⟨fun h => by omega, fun h => absurd h c2⟩
    · rcases hw3 with ⟨rfl, c1, c2⟩ | ⟨rfl, c1, c2⟩
      · exact ⟨fun h => by omega, fun h => absurd h c2⟩
      · exact ⟨fun _ => c1, fun _ => rfl⟩
  have ho : ∀ k, K2 ≤ k → impl_HasWon.f k a c l (wrap64 (3 - p)) = some (v' == 0, true) := fun k hk => by rw [w3 h.hp]; exact (hK2 k hk).2.2
  rcases hv with ⟨f1, n1⟩ | ⟨cc, f1, f2, C, M⟩
  · -- there is no way
    rw [if_pos (by omega)] at e1
    injection e1 with e1 e4
    subst e1 e4
    have hwon : won = false := by rw [e2]; exact beq_eq_false_iff_ne.2 (by omega)
    refine ⟨K2 + K3, v' == 0, w, fun _ => 0, fun k hk => ?_⟩
    exact {
      n0 := Int.le_refl _
      ho := ho k (by omega)
      t1 := fun h => by rw [hwon] at h; cases h
      t2 := hwon
      t3 := fun h => by cases h
      wn := hK3 k (by omega)
      t4 := by
        refine beq_eq_false_iff_ne.2 (fun hwp => ?_)
        obtain ⟨cc, C⟩ := hfrom (hwin.mp hwp)
        exact n1 _ C
      t5 := fun h => by cases h
      se := fun h => by cases h
      fo := fun h => by cases h }
  · rw [if_neg (by omega)] at e1
    injection e1 with e1 e4
    subst e1 e4
    have hno : (v' == 0) = false := by
      refine beq_eq_false_iff_ne.2 (fun h0 => ?_)
      rcases hv' with ⟨f3, _⟩ | ⟨c2, f3, _, C2, _⟩
      · omega
      · obtain rfl : c2 = 0 := by omega
        exact h.not_both C C2
    obtain ⟨K4, less, hl⟩ := h.less C M
    subst f1
    refine ⟨K2 + K3 + K4, v' == 0, w, fun i => (less i : Int), fun k hk => ?_⟩
    exact {
      n0 := by omega
      ho := ho k (by omega)
      t1 := fun _ => hno
      t2 := by rw [e2]; simp
      t3 := fun _ => hno
      wn := hK3 k (by omega)
      t4 := beq_iff_eq.2 (hwin.mpr (hfill _ C))
      t5 := fun _ => by
        have := le_free h.p0 C M
        rw [freeN_up, h.len]
        omega
      se := fun _ hpos i hi h0 => by
        obtain ⟨g1, g2, g3, _⟩ := hl i hi h0
        refine ⟨g1 k (by omega), ?_, ?_⟩
        · rw [w1 (by omega)]; show (cc : Int) - 1 ≤ (less i : Int); omega
        · show (less i : Int) ≤ (cc : Int); omega
      fo := fun _ hpos => by
        obtain ⟨j, hj, h0, c', C', hc'⟩ := some_less h.p0 h.len C M (by omega)
        obtain ⟨_, g2, g3, g4⟩ := hl j hj h0
        have := g4 _ C'
        refine found_true _ _ _ _ ⟨j, hj, h0, ?_⟩
        rw [w1 (by omega)]
        show (less j : Int) = (cc : Int) - 1
        omega }
/-- Where the second result is true, there is a board with a player. -/
theorem bo_of (hm : l.length ≤ 31) {k : Nat} {won : Bool} (h : impl_HasWon.f k a c l p = some (won, true)) : ∃ r q, Bo a c l p r q := by
  obtain ⟨bb, _, h2, h3⟩ := board_f a c l (Nat.le_trans hm (by decide)) (l.length + 1) (by omega)
  obtain ⟨p1, p2, p3⟩ := player_f p
  unfold impl_HasWon.f at h
  rw [h2, Option.bind_some] at h
  cases bb with
  | false => rw [if_neg (by decide)] at h; injection h with h; injection h with _ h; cases h
  | true =>
    rw [if_pos rfl, p2, Option.bind_some] at h
    cases hp : inRange p 1 2 with
    | false => rw [hp, if_neg (by decide)] at h; injection h with h; injection h with _ h; cases h
    | true =>
      obtain ⟨a1, a2, a3⟩ := h3 rfl
      obtain ⟨r, q, g1, g2, g3, g4, g5, g6⟩ := shape_nat a1
      exact ⟨r, q, a1, a2, a3, p3 hp, g1, g2, g3, g4, g5, by omega⟩
theorem bo_of2 (hm : l.length ≤ 31) {k : Nat} {need : Int} (h : impl_NeedOf.f k a c l p = some (need, true)) : ∃ r q, Bo a c l p r q := by
  obtain ⟨bb, _, h2, h3⟩ := board_f a c l (Nat.le_trans hm (by decide)) (l.length + 1) (by omega)
  obtain ⟨p1, p2, p3⟩ := player_f p
  unfold impl_NeedOf.f at h
  rw [h2, Option.bind_some] at h
  cases bb with
  | false =>
    rw [if_neg (by decide)] at h
    cases k with
    | zero => simp [impl_NeedOf.j0] at h
    | succ k => simp [impl_NeedOf.j0] at h
  | true =>
    rw [if_pos rfl, p2, Option.bind_some] at h
    cases hp : inRange p 1 2 with
    | false =>
      rw [hp] at h
      cases k with
      | zero => simp [impl_NeedOf.j0] at h
      | succ k => simp [impl_NeedOf.j0] at h
    | true =>
      obtain ⟨a1, a2, a3⟩ := h3 rfl
      obtain ⟨r, q, g1, g2, g3, g4, g5, g6⟩ := shape_nat a1
      exact ⟨r, q, a1, a2, a3, p3 hp, g1, g2, g3, g4, g5, by omega⟩
end
end PlacesNeeded

open PlacesNeeded in
theorem FnPlacesNeeded : laws_FnPlacesNeeded.Pure := by
  intro l0 l1 hb0 hb1
  obtain ⟨K1, a, c, b, p, hb, h1⟩ := Go.Proofs.Ytenaefpbjblmbaa.Py.drawWon_tot (Go.Proofs.Ytenaefpbjblmbaa.Pj.bytes_of hb0) 6
  obtain ⟨K2, u, v, list, who, hb2, h2⟩ := Go.Proofs.Ytenaefpbjblmbaa.Py.drawWon_tot (Go.Proofs.Ytenaefpbjblmbaa.Pj.bytes_of hb1) 2
  obtain ⟨r, c', i, hd⟩ := Go.Proofs.Ytenaefpbjblmbaa.Py.drawNear_ok (Go.Proofs.Ytenaefpbjblmbaa.Pj.bytes_of hb1)
  have big : (31 : Nat) ≤ 1099511627776 := by decide
  obtain ⟨K3, ⟨need, ok⟩, h3⟩ := Go.Proofs.Ytenaefpbjblmbaa.Pu.needof_same a c b p (Nat.le_trans hb big)
  obtain ⟨K4, ⟨won, one⟩, h4⟩ := Go.Proofs.Ytenaefpbjblmbaa.Pu.haswon_same a c b p (Nat.le_trans hb big)
  obtain ⟨K5, ⟨won5, five⟩, h5⟩ := Go.Proofs.Ytenaefpbjblmbaa.Pu.haswon_same u v list who (Nat.le_trans hb2 big)
  obtain ⟨near, two, hl6, n1, n2, n3⟩ := Go.Proofs.Ytenaefpbjblmbaa.Pzn.near_f r c' i
  have hB : ∃ K6 : Nat, one = true → ∃ (other : Bool) (winner : Int) (less : Nat → Int), ∀ k, K6 ≤ k → PlacesB k a c b p need ok won other winner less := by
    cases one with
    | false => exact ⟨0, fun h => by cases h⟩
    | true =>
      obtain ⟨rr, qq, hbo⟩ := bo_of hb (h4 K4 (Nat.le_refl _)).2
      obtain ⟨K, o, wn, ls, hh⟩ := hbo.places (K0 := K3 + K4) (fun k hk => (h3 k (by omega)).2) (fun k hk => (h4 k (by omega)).2)
      exact ⟨K, fun _ => ⟨o, wn, ls, hh⟩⟩
  obtain ⟨K6, hB⟩ := hB
  have hoo : ok = true → one = true := by
    intro h
    subst h
    obtain ⟨rr, qq, hbo⟩ := bo_of2 hb (h3 K3 (Nat.le_refl _)).2
    obtain ⟨K, vv, hK, _⟩ := hbo.val
    have := (h4 (K4 + K) (by omega)).2.symm.trans (hK (K4 + K) (by omega)).2.2
    injection this with this
    injection this
  obtain ⟨k, hk⟩ : ∃ k, K1 + K2 + K3 + K4 + K5 + K6 + 40 ≤ k := ⟨_, Nat.le_refl _⟩
  refine ⟨k, a, c, b, p, need, ok, won, one, h1 k (by omega), ?_, ?_, r, c', i, near, two, u, v, list, who, won5, five, ?_⟩
  · exact { nI := (h3 k (by omega)).2, nS := (h3 k (by omega)).1, hw := (h4 k (by omega)).2, oo := hoo, len := by omega }
  · intro h
    obtain ⟨o, wn, ls, hh⟩ := hB h
    exact ⟨o, wn, ls, hh k (by omega)⟩
  · exact {
      dn := hd
      nI := n1
      nS := n2 k (by omega)
      zs := Go.Proofs.Ytenaefpbjblmbaa.Pzn.zSame_f near (by omega) k (by omega)
      nl := by omega
      each := fun t ht => by
        obtain ⟨back, m1, m2, m3, m4⟩ := n3 t ht
        exact ⟨back, m2, Go.Proofs.Ytenaefpbjblmbaa.Pzn.zHas_f back i (by omega) m3 k (by omega), m4⟩
      dh := h2 k (by omega)
      hI := (h5 k (by omega)).2
      hS := (h5 k (by omega)).1 }
end Go.Proofs.Ytenaefpbjblmbaa.Pure
