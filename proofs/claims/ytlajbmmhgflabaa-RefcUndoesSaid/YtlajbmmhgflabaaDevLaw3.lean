/- Devices: reading what was written, in plain words. Nothing of the program stands here. -/
import Derived.Test.YtlajbmmhgflabaaDevLaw2
set_option linter.unusedVariables false
namespace Go.Proofs.Ytlajbmmhgflabaa
namespace Dk
def put (D : Dk) (k : Int) (s : List UInt8) : Dk := ({ D with cache := D.cache ++ [(k, s)] } : Dk).burnt
variable {D : Dk} {k : Int} {s : List UInt8}
theorem put_off (D : Dk) (k : Int) (s : List UInt8) : (D.put k s).off = D.off := rfl
theorem put_bad (D : Dk) (k : Int) (s : List UInt8) : (D.put k s).bad = D.bad := rfl
theorem put_data (D : Dk) (k : Int) (s : List UInt8) : (D.put k s).data = D.data := rfl
theorem put_cache (D : Dk) (k : Int) (s : List UInt8) : (D.put k s).cache = D.cache ++ [(k, s)] := rfl
theorem put_there (D : Dk) (k o : Int) (s : List UInt8) : (D.put k s).there o = D.there o := rfl
theorem put_sees (D : Dk) (k o : Int) (s : List UInt8) : (D.put k s).sees o = if k = o then s else D.sees o := by
  unfold sees
  rw [put_cache, seesIn_append]
  by_cases h : k = o
  · rw [if_pos h, if_pos h]; rfl
  · rw [if_neg h, if_neg h]; rfl
theorem put_read_same (h1 : D.off = false) (h2 : D.there k = true) (h3 : k ∉ D.bad) : (D.put k s).read k = (s, 0) := by
  unfold read
  rw [put_off, put_there, put_bad, if_neg (by simp [h1]), if_neg (by simp [h2]), if_neg h3, put_sees, if_pos rfl]
theorem put_read_other (D : Dk) (k o : Int) (s : List UInt8) : ((D.put k s).read o).2 = (D.read o).2 ∧ (o ≠ k → ((D.put k s).read o).1 = (D.read o).1) := by
  unfold read
  rw [put_off, put_there, put_bad, put_sees]
  split
  · exact ⟨rfl, fun _ => rfl⟩
  split
  · exact ⟨rfl, fun _ => rfl⟩
  split
  · exact ⟨rfl, fun _ => rfl⟩
  · exact ⟨rfl, fun h => if_neg (Ne.symm h)⟩
theorem flush_cases (W : Dk) (h : W.off = false) : W.flush = ({ W with off := true }, 12) ∨ W.flush = (({ W with data := W.last fun _ => true, cache := [] } : Dk).burnt, 0) := by
  unfold flush
  rw [if_neg (by simp [h])]
  by_cases h2 : W.fuse = 0
  · rw [if_pos h2]; exact .inl rfl
  · rw [if_neg h2]; exact .inr rfl
theorem flushed_fit {W : Dk} (h : W.fit = true) (keep : Nat → Bool) : (({ W with data := W.last keep, cache := [] } : Dk).burnt).fit = true := by
  refine fit_drop h ?_ rfl rfl
  have := lastN_length h keep W.cache.length
  obtain ⟨_, _, hl, _⟩ := fit_parts h
  show (W.last keep).length = _
  rw [hl]; exact this
theorem crash_empty {U : Dk} (h : U.cache = []) (keep : Nat → Bool) : U.crash keep = { U with fuse := -1, off := false } := by
  unfold crash last
  rw [h]
  simp only [List.length_nil, lastN]
theorem flushed_read {W : Dk} (hf : W.fit = true) (hk : W.there k = true) (hb : k ∉ W.bad) {U : Dk} (hU : U.data = W.last fun _ => true) (hc : U.cache = []) (ho : U.off = false) (hbad : U.bad = W.bad) : U.read k = (W.sees k, 0) := by
  obtain ⟨_, _, hl, _⟩ := fit_parts hf
  have hsz : U.sz = W.sz := by unfold sz; rw [hU]; have := lastN_length hf (fun _ => true) W.cache.length; rw [show (W.last fun _ => true).length = W.sz * 64 from this]; unfold sz; omega
  have ht : U.there k = true := by unfold there at hk ⊢; rw [hsz]; exact hk
  unfold read
  rw [if_neg (by simp [ho]), if_neg (by simp [ht]), hbad, if_neg hb]
  have hk' := hk
  simp only [there, Bool.and_eq_true, decide_eq_true_eq] at hk'
  obtain ⟨n, rfl⟩ := Int.eq_ofNat_of_zero_le hk'.1
  have e : U.sees (n : Int) = secOf (W.last fun _ => true) n := by
    unfold sees; rw [hc]; simp only [seesIn, Option.getD_none, Int.toNat_natCast, sector_eq]; rw [hU]
  rw [e, last_sees hf (by omega)]
end Dk
end Go.Proofs.Ytlajbmmhgflabaa
