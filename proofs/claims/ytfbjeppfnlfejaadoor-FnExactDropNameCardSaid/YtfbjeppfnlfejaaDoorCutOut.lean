/- 'append(xs[:i], xs[j:]...)' on a row of one's own, in its own place. No program, no statement. -/
import Derived.Test.YtfbjeppfnlfejaaDoorClear
namespace Go.Proofs.YtfbjeppfnlfejaaDoorW.PrintWords
open Go.RowKit
set_option linter.unusedVariables false
namespace Kd
theorem R_moved {α : Type} (d : Kd α) {W : World} {base : Nat} {e : TypeId} {n c i j g : Nat} {xs : List α} {ok : Nat → Prop} (HO : d.R e W base ok (.slice (some ⟨g, 0, none⟩) n c) xs) (hij : i ≤ j) (hj : j ≤ n) :
    ∃ news : List Value, news.length = (n - j) * d.sz ∧ (∀ q u, news[q]? = some u → W.cell? ⟨g, j * d.sz + q, none⟩ = some u) ∧ (∀ u ∈ news, u.oneCell' = true) ∧
      (∀ q, q < news.length → (W.cell? ⟨g, i * d.sz + q, none⟩).isSome = true ∧ W.frozen? ⟨g, i * d.sz + q, none⟩ = false) ∧
      d.R e (W.setCells g (i * d.sz) news) base ok (.slice (some ⟨g, 0, none⟩) n c) (xs.take i ++ xs.drop j ++ xs.drop (n - (j - i))) ∧ W.grownBy (W.setCells g (i * d.sz) news) (some g) := by
  obtain ⟨hn, hnc, _⟩ := R_reads' HO
  obtain ⟨hok, inner, hown, hr⟩ := HO
  have hin : inner.length = n * d.sz := by rw [hr.1, hn]
  have hgo : ∀ q, (Value.slice (some ⟨g, 0, none⟩) q c).ownBlock = some g := fun q => by simp [Value.ownBlock]
  rcases hown.2 with ⟨hv, _⟩ | ⟨g', cap', cur, hv, hb, hh, hcn, hcm, hcs, htake⟩
  · cases hv
  injection hv with ha _ hc
  injection ha with ha
  injection ha with ha _ _
  subst ha; subst hc
  rw [← hn] at htake
  have hnj : (n - j) * d.sz + j * d.sz = n * d.sz := by rw [← Nat.add_mul, Nat.sub_add_cancel hj]
  have hij' : i * d.sz ≤ j * d.sz := Nat.mul_le_mul_right _ hij
  have hnc' : n * d.sz ≤ c * d.sz := Nat.mul_le_mul_right _ hnc
  have hjn : j * d.sz ≤ n * d.sz := Nat.mul_le_mul_right _ hj
  have hicur : ∀ q, q < n * d.sz → inner[q]? = cur.toList[q]? := fun q hq => by rw [← htake, List.getElem?_take, if_pos hq]
  have hnl : (inner.drop (j * d.sz)).length = (n - j) * d.sz := by rw [List.length_drop, hin]; omega
  have hone : ∀ u ∈ inner, u.oneCell' = true := by
    intro u hu
    obtain ⟨q, hq, rfl⟩ := List.mem_iff_getElem.1 hu
    rw [hin] at hq
    rcases Nat.eq_zero_or_pos d.sz with h0 | h0
    · rw [h0, Nat.mul_zero] at hq; omega
    have hqd : q / d.sz < xs.length := by rw [← hn]; exact Nat.div_lt_of_lt_mul (by rw [Nat.mul_comm]; exact hq)
    obtain ⟨p, hp⟩ : ∃ p, xs[q / d.sz]? = some p := ⟨_, List.getElem?_eq_getElem hqd⟩
    have hM := hr.2 (q / d.sz) p hp
    refine d.K_one (d.K_of_M hM) _ ?_
    have hqm : q % d.sz < d.sz := Nat.mod_lt _ h0
    have hqe : q / d.sz * d.sz + q % d.sz = q := by rw [Nat.mul_comm]; exact Nat.div_add_mod q d.sz
    rw [List.mem_iff_getElem?]
    refine ⟨q % d.sz, ?_⟩
    rw [List.getElem?_take, if_pos hqm, List.getElem?_drop, hqe]
    exact List.getElem?_eq_getElem _
  obtain ⟨news, hnews⟩ : ∃ news, news = inner.drop (j * d.sz) := ⟨_, rfl⟩
  rw [← hnews] at hnl
  have hfit : i * d.sz + news.length ≤ cur.size := by omega
  obtain ⟨cur', h3, h4, h5⟩ := setCells_row news (i * d.sz) W cur hh hfit
  obtain ⟨s1, s2, s3, s4⟩ := setCells_same g news (i * d.sz) W
  have hfar : ∀ k', k' ≠ g → (W.setCells g (i * d.sz) news).heap[k']? = W.heap[k']? := fun k' hk' => setCells_far news _ k' hk'
  have hel : (xs.take i ++ xs.drop j ++ xs.drop (n - (j - i))).length = n := by
    rw [List.length_append, List.length_append, List.length_take, List.length_drop, List.length_drop]; omega
  have hms : (n - (j - i)) * d.sz = i * d.sz + (n - j) * d.sz := by rw [← Nat.add_mul]; congr 1; omega
  have hcat : (inner.take (i * d.sz) ++ news ++ inner.drop ((n - (j - i)) * d.sz)).length = n * d.sz := by
    rw [List.length_append, List.length_append, List.length_take, List.length_drop, hnl, hin, hms]; omega
  refine ⟨news, hnl, fun q u hu => ?_, fun u hu => hone u (by rw [hnews] at hu; exact List.mem_of_mem_drop hu), fun q hq => ⟨?_, blk_frozen hh _⟩, ⟨fun k' hk' => hok k' hk', inner.take (i * d.sz) ++ news ++ inner.drop ((n - (j - i)) * d.sz), ⟨?_, .inr ⟨g, c, cur', by rw [hel], hb, h3, by rw [hel]; omega, hcm, by rw [h4, hcs], ?_⟩⟩, ?_⟩, ⟨s1, s2, s3, by rw [s4]; exact Nat.le_refl _, fun k' _ hk' => hfar k' (fun he => hk' (by rw [he]))⟩⟩
  · rw [hnews, List.getElem?_drop] at hu
    have hq : j * d.sz + q < n * d.sz := by rw [← hin]; exact (List.getElem?_eq_some_iff.1 hu).1
    rw [hicur _ hq] at hu
    rw [blk_cell hh, ← hu, Array.getElem?_toList]
  · rw [blk_cell hh, Array.getElem?_eq_getElem (by omega)]; rfl
  · rw [hcat, hel]
  · rw [hel, h5]
    have h7 : cur.toList.take (i * d.sz) = inner.take (i * d.sz) := by
      rw [← htake, List.take_take, Nat.min_eq_left (by omega)]
    rw [h7, hnl, ← hms]
    have h8 : inner.drop ((n - (j - i)) * d.sz) = (cur.toList.drop ((n - (j - i)) * d.sz)).take (n * d.sz - (n - (j - i)) * d.sz) := by
      rw [← htake, List.drop_take]
    have h9 : (inner.take (i * d.sz) ++ news).length = (n - (j - i)) * d.sz := by rw [List.length_append, List.length_take, hnl, hin, hms]; omega
    rw [h8, List.take_append, h9, List.take_of_length_le (by rw [h9, hms]; omega)]
  · have hmv : ∀ p q, d.M W base (fun k' => ok k' ∧ some k' ≠ (Value.slice (some ⟨g, 0, none⟩) n c).ownBlock) p q → d.M (W.setCells g (i * d.sz) news) base (fun k' => ok k' ∧ some k' ≠ (Value.slice (some ⟨g, 0, none⟩) n c).ownBlock) p q := fun p q hp =>
      d.M_move (fun k' hk' => hfar k' (fun he => hk'.2 (by rw [hgo, he]))) hp
    have hd1 := reps_drop (m := j) hr
    rw [← hnews] at hd1
    exact reps_append (reps_append ((reps_take hr (by omega)).imp_ hmv) (hd1.imp_ hmv)) ((reps_drop hr).imp_ hmv)
theorem R_capm {α : Type} {d : Kd α} {W : World} {base : Nat} {e : TypeId} {A : Option Addr} {n c : Nat} {xs : List α} {ok : Nat → Prop} (HO : d.R e W base ok (.slice A n c) xs) (h : 0 < n) : c ≤ 9223372036854775807 := by
  obtain ⟨hn, _, _⟩ := R_reads' HO
  obtain ⟨_, inner, hown, hr⟩ := HO
  rcases hown.2 with ⟨_, h0⟩ | ⟨g', cap', cur, hv, _, _, _, hcm, _⟩
  · omega
  injection hv with _ _ hc
  subst hc
  exact hcm
end Kd
end Go.Proofs.YtfbjeppfnlfejaaDoorW.PrintWords
