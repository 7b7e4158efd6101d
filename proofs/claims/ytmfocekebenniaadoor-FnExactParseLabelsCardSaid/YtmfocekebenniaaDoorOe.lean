/- impl.labelsText by hand; for all sides 1 to 8 and lists of so many labels. -/
import Derived.Test.YtmfocekebenniaaDoorOd
import Derived.Test.YtmfocekebenniaaDoorOt
namespace Go.Proofs.YtmfocekebenniaaDoor.Given
open Go.Proofs.YtmfocekebenniaaDoor.Q Go.RowKit Go.Shelf Go.Proofs.YtmfocekebenniaaDoorW.PrintWords Go.Proofs.YtmfocekebenniaaDoorW.PrintLast Go.Proofs.YtmfocekebenniaaDoorW.PrintMore
set_option linter.unusedVariables false
set_option linter.unusedSimpArgs false
def tri : Nat → Nat
  | 0 => 0
  | n + 1 => tri n + (n + 1)
def triRow (l : List Int) (j : Nat) : ByteArray := rowT ((l.drop (tri j)).take (j + 1))
def triRows (l : List Int) (k : Nat) : List ByteArray := (List.range k).map (triRow l)
theorem triRows_succ (l : List Int) (k : Nat) : triRows l (k + 1) = triRows l k ++ [triRow l k] := by unfold triRows; rw [List.range_succ, List.map_append, List.map_singleton]
theorem triRows_len (l : List Int) (k : Nat) : (triRows l k).length = k := by unfold triRows; simp
theorem tri_mono {a b : Nat} (h : a ≤ b) : tri a ≤ tri b := by
  induction b with
  | zero =>
    obtain rfl : a = 0 := by omega
    exact Nat.le_refl _
  | succ b ih =>
    by_cases e : a = b + 1
    · subst e; exact Nat.le_refl _
    · have := ih (by omega)
      show tri a ≤ tri b + (b + 1)
      omega
def digB (n : Nat) : ByteArray := ⟨#[UInt8.ofNat (48 + n)]⟩
theorem dec_digit (n : Nat) (h : n < 10) : (⟨(Lib.decDigits n).toArray⟩ : ByteArray) = digB n := by
  unfold Lib.decDigits
  rw [dif_pos h]
  rfl
def joinR (l : List Int) (k : Nat) : ByteArray := ⟨(Lib.join ((triRows l k).map (·.data.toList)) [47]).toArray⟩
def impl_labelsText.f (a0 : Int) (l1 : List Int) : Option ByteArray := if 1 ≤ a0 ∧ a0 ≤ 8 ∧ l1.length = tri (a0.toNat + 1) then some ((digB a0.toNat ++ ⟨#[58]⟩) ++ joinR l1 (a0.toNat + 1)) else none
theorem litS (w : World) (base : Nat) (ok : Nat → Prop) (h : base ≤ w.heap.size) (hk : ok w.heap.size) : Kd.R Kd.string 9 (w.alloc (.cells #[] 9)) base ok (.slice (some ⟨w.heap.size, 0, none⟩) 0 0) ([] : List ByteArray) := by
  refine ⟨fun k hk' => ?_, [], ?_, ⟨rfl, fun j p hj => by simp at hj⟩⟩
  · have : w.heap.size = k := by simpa [Value.ownBlock] using hk'
    subst this
    exact hk
  · have h2 := World.ownsRow_lit (base := base) (e := 9) (size := Kd.string.sz) w #[] 0 h (by decide) (by simp)
    simpa using h2
theorem itoa_call (n : Nat) (h : n < 10) (w : World) : Calls Tryd.prog 47 #[.int .i64 n] w fun e w' => e = .returned (.string (digB n)) ∧ w' = w := by
  rw [← dec_digit n h]
  exact Tryd.strconv_Itoa_small n (by omega) w
theorem str_cells {W : World} {base : Nat} {ok : Nat → Prop} {v : Value} {xs : List ByteArray} (h : Kd.R Kd.string 9 W base ok v xs) (hn : 0 < xs.length) : ∃ bk cap, v = .slice (some ⟨bk, 0, none⟩) xs.length cap ∧ bk < W.heap.size ∧ xs.length ≤ cap ∧ ∀ j u, xs[j]? = some u → W.cell? ⟨bk, 0 + j, none⟩ = some (.string u) := by
  obtain ⟨b, cap, rfl, _, hlt, cur, hh⟩ := Kd.R_form h hn
  obtain ⟨_, hcap, hC⟩ := Kd.R_reads' h
  refine ⟨b, cap, rfl, hlt, hcap, fun j u hj => ?_⟩
  have hjl : j < xs.length := by
    rcases Nat.lt_or_ge j xs.length with h' | h'
    · exact h'
    · rw [List.getElem?_eq_none h'] at hj; cases hj
  obtain ⟨ad, c, e, _, hK, hc0⟩ := Kd.C_get hC (⟨#[]⟩ : ByteArray) (j : Int) (by omega) (by omega)
  cases e
  have hk : c = [.string (xs.getD (j : Int).toNat ⟨#[]⟩)] := hK
  rw [hk] at hc0
  have h1 := hc0 0 _ rfl
  have e1 : ∀ a : Nat, (⟨b, 0, none⟩ : Addr).add a = ⟨b, a, none⟩ := fun a => by by_cases h : a = 0 <;> simp [Addr.add, h]
  have e2 : (j : Int).toNat * Kd.string.sz + 0 = j := by rw [Int.toNat_natCast]; exact Nat.mul_one j
  rw [e2, e1] at h1
  rw [Nat.zero_add, h1, Int.toNat_natCast, List.getD_eq_getElem?_getD, hj]
  rfl
set_option maxRecDepth 100000 in
set_option maxHeartbeats 4000000 in
theorem impl_labelsText.calls (a0 : Int) (A1 : Option Addr) (c1 : Nat) (l1 : List Int) (r : ByteArray) (w : World) (hr1 : Kd.C (Kd.int .i64) w A1 l1.length l1) (hc1 : l1.length ≤ c1) (h : impl_labelsText.f a0 l1 = some r) :
    Calls Tryd.prog 25 #[.int .i64 a0, .slice A1 l1.length c1] w fun e w' => e = .returned (.string r) ∧ Below w.heap.size w w' := by
  unfold impl_labelsText.f at h
  split at h
  case isFalse => cases h
  rename_i hcond
  obtain ⟨k1, k2, k3⟩ := hcond
  injection h with h
  obtain ⟨n, rfl⟩ := Int.eq_ofNat_of_zero_le (show 0 ≤ a0 by omega)
  rw [Int.toNat_natCast] at h k3
  have h0 : 0 < l1.length := by rw [k3]; show 0 < tri n + (n + 1); omega
  have hmax : l1.length ≤ 1000 := by
    rw [k3]
    have := tri_mono (a := n + 1) (b := 9) (by omega)
    exact Nat.le_trans this (by decide)
  obtain ⟨b, off, rfl, hb, hcells⟩ := addr_none hr1 h0
  obtain ⟨len, hlenl⟩ : ∃ len, len = l1.length := ⟨_, rfl⟩
  rw [← hlenl] at hcells h0 k3 hc1 hmax ⊢
  have HR := Aside0.mk hr1
  have HL := Aside0.mk hlenl
  have HH := Aside0.mk h
  have HC := Aside0.mk hcells
  have HK := Aside0.mk k3
  clear hr1 hlenl h hcells k3
  go_enter Tryd.func25, Tryd.ntmps25
  go_wp2
  have R0 := Aside0.mk (litS w w.heap.size (fun _ => True) (Nat.le_refl _) trivial)
  have B0 := Aside0.mk (below_alloc (Below.refl w.heap.size w) (.cells #[] 9))
  go_loopg [5, 6, 7] (n + 1) (fun gg s5 s6 s7 wr => ∃ kk : Nat, kk ≤ n + 1 ∧ n + 1 - kk ≤ gg ∧ s6 = .int .i64 (tri kk : Nat) ∧ s7 = .int .i64 (kk + 1 : Nat) ∧ Aside0 (Kd.R Kd.string 9 wr w.heap.size (fun _ => True) s5 (triRows l1 kk)) ∧ Aside0 (Below w.heap.size w wr))
  case atStart => exact ⟨0, by omega, by omega, rfl, rfl, R0, B0⟩
  case round =>
    clear R0 B0
    obtain ⟨kk, hkk, hg, rfl, rfl, RO, BB⟩ := hrel
    by_cases hlt : kk < n + 1
    · have ht : tri kk + (kk + 1) ≤ len := by rw [HK.out]; exact tri_mono (a := kk + 1) hlt
      obtain ⟨hrl, hrc⟩ := sub_row (W := wr) (fun j hj => (BB.out.cell (p := ⟨b, off + j, none⟩) hb).trans (HC.out j hj)) HL.out.symm hmax (tri kk) (kk + 1) ht
      have HD := Aside0.mk (digits_call2 b (off + tri kk) (kk + 1) (c1 - tri kk) _ hrl (by omega) (by omega) wr hrc)
      have EX := Aside0.mk (triRows_succ l1 kk)
      have TR := Aside0.mk (show tri (kk + 1) = tri kk + (kk + 1) from rfl)
      have LEN := Aside0.mk (triRows_len l1 kk)
      clear hrl hrc
      unfold triRow at EX
      generalize rowT ((l1.drop (tri kk)).take (kk + 1)) = row at HD EX
      generalize triRows l1 kk = rows at RO EX LEN
      generalize tri kk = tk at *
      have hle : ((kk + 1 : Nat) : Int) ≤ (n : Int) + 1 := by omega
      have FR : ∀ (W : World) k, W.heap.size ≤ k → True := fun _ _ _ => trivial
      go_wp2_with (first
        | (go_at_call 38; refine HD.out.mono ?_; rintro e w4 ⟨rfl, B4⟩; have RO4 := Aside0.mk (Kd.R_below RO.out B4); have BB4 := Aside0.mk (below_step BB.out B4); clear B4)
        | (at_builtin; go_loud (refine Kd.R_append Kd.string (w0 := w) w.heap.size rfl (.tmp 15) (.tmp 23) 34 9 (.string ⟨#[]⟩) 16 rfl Tryd.underlying34 infoStr rfl (by decide) (by omega) u5 rows row [.string row] (fun _ => True) (fun _ => False) rfl rfl ?aP (fun _ hk => hk.elim) ?aF ?aO ?aB ?aS ?aL ?_; (case aP => exact rfl); (case aB => exact BB4.out); (case aF => exact fun _ _ => trivial); (case aO => exact RO4.out); (case aS => exact BB4.out.size); (case aL => have := LEN.out; omega); intro v5 w5 ho hb5 hg5 hat; have HO := Aside0.mk ho; have HBB := Aside0.mk hb5; clear ho hb5 hg5 hat)))
      go_roundg (n + 1 - (kk + 1))
      case measure => omega
      case rel => exact ⟨kk + 1, by omega, by omega, by rw [TR.out]; go_num, by go_num, ⟨by rw [EX.out]; exact HO.out⟩, HBB⟩
    · have hk : kk = n + 1 := by omega
      subst hk
      have LEN := Aside0.mk (triRows_len l1 (n + 1))
      obtain ⟨bk, cap, rfl, hbl, hcp, hcl⟩ := str_cells RO.out (by rw [LEN.out]; omega)
      have hjl := join_len (xs := triRows l1 (n + 1)) (fun x hx => by
        unfold triRows at hx
        obtain ⟨j, hj, rfl⟩ := List.mem_map.mp hx
        exact rowT_len _ (by rw [List.length_take, List.length_drop, ← HL.out]; omega)) (by rw [LEN.out]; omega)
      have HJ := Aside0.mk (fun (W : World) (hW : Below wr.heap.size wr W) => join_call bk cap (n + 1) (triRows l1 (n + 1)) LEN.out (by rw [← LEN.out]; exact hcp) W (Nat.lt_of_lt_of_le hbl hW.size) (fun j x hx => (hW.cell (p := ⟨bk, 0 + j, none⟩) hbl).trans (hcl j x hx)) (joinR l1 (n + 1)) rfl (by omega) hjl)
      have hjs : (joinR l1 (n + 1)).size ≤ 140737488355328 := by
        have : (joinR l1 (n + 1)).size = (Lib.join ((triRows l1 (n + 1)).map (·.data.toList)) [47]).length := by simp [joinR, ByteArray.size]
        rw [this]; exact hjl
      have hds : (digB n).size = 1 := rfl
      rw [LEN.out]
      have hnot : ¬ (((n + 1 + 1 : Nat) : Int) ≤ (n : Int) + 1) := by omega
      have HRR := HH.out
      clear hcl hjl HR HC HK HH
      generalize joinR l1 (n + 1) = jr at HJ hjs HRR
      have hs1 : (digB n).size + 1 + jr.size ≤ 9223372036854775807 := by omega
      have hs2 : ¬ 9223372036854775807 < (digB n).size + 1 + jr.size := by omega
      have hs3 : (digB n).size + 1 ≤ 9223372036854775807 := by omega
      have hs4 : ¬ 9223372036854775807 < (digB n).size + 1 := by omega
      clear hds
      go_wp2_with (first
        | (go_at_call 47; refine (itoa_call n (by omega) _).mono ?_; rintro e w4 ⟨rfl, rfl⟩)
        | (go_at_call 39; refine (HJ.out _ (Below.refl _ _)).mono ?_; rintro e w4 ⟨rfl, B4⟩))
      go_ret
      subst HRR
      exact ⟨rfl, below_step BB.out B4⟩
end Go.Proofs.YtmfocekebenniaaDoor.Given
