-- Printed by a program of this session (drive.py, by way of the kit's print). Not trusted: Lean checks it.
import Derived.Test.YtojdlcbmbpgplaaG0
import Derived.Test.YtojdlcbmbpgplaaG3
import Derived.Test.YtojdlcbmbpgplaaG4
import Derived.Test.YtojdlcbmbpgplaaG5
import Derived.Test.YtojdlcbmbpgplaaG6
import Derived.Test.YtojdlcbmbpgplaaG7
import Derived.Test.YtojdlcbmbpgplaaG8
import Derived.Test.YtojdlcbmbpgplaaG9
import Derived.Test.YtojdlcbmbpgplaaG12
import Derived.Test.YtojdlcbmbpgplaaG13
namespace Go.Proofs.Ytojdlcbmbpgplaa.G
open Go.RowKit Go.Proofs.YtojdlcbmbpgplaaW.PrintWords Go.Proofs.YtojdlcbmbpgplaaW.PrintLast Go.Proofs.YtojdlcbmbpgplaaW.PrintMore
attribute [local go_sem] max2_int min2_int max_two min_two max_three min_three max_four min_four   -- for this text's walks alone
set_option linter.unusedVariables false
set_option linter.unusedSimpArgs false

/-! ### impl_PunchMap: function 40 -/
def impl_PunchMap.f (k : Nat) (l0_0 : List (S48)) (a1 : Int) (a2 : Int) : Option ((List (S48)) × (List (S61)) × Bool) := (impl_isRange.f k l0_0 a1 a2).bind fun t830 => (if t830 = true then ((impl_FileMap_cells.f k l0_0).bind fun t831 => (if 0 ≤ a1 then (if a1 ≤ (wrap64 (a1 + a2)) then (if (wrap64 (a1 + a2)) ≤ (t831.length : Int) then ((some ((t831.take ((wrap64 (a1 + a2)) : Int).toNat).drop (a1 : Int).toNat : List (S78))).bind fun y834 => ((impl_blocksIn.f k y834).bind fun t838 => ((impl_mapOf.f k (t831.take (a1 : Int).toNat ++ List.replicate y834.length z78 ++ t831.drop ((a1 : Int).toNat + y834.length))).bind fun bt842 => (if bt842.2 = true then (some (bt842.1, t838, true)) else (some (([] : List (S48)), ([] : List (S61)), false)))))) else (none)) else (none)) else (none))) else (some (([] : List (S48)), ([] : List (S61)), false)))
theorem impl_PunchMap.mono : ∀ a0 a1 a2 k, LeO (impl_PunchMap.f k a0 a1 a2) (impl_PunchMap.f (k + 1) a0 a1 a2) := by
 intro a0 a1 a2 k
 unfold impl_PunchMap.f
 repeat' first
   | (with_reducible exact impl_FileMap_cells.mono _ _)
   | (with_reducible exact impl_blocksIn.mono _ _)
   | (with_reducible exact impl_isRange.mono _ _ _ _)
   | (with_reducible exact impl_mapOf.mono _ _)
   | (with_reducible exact LeO.refl _)
   | (with_reducible exact LeO.none _)
   | (with_reducible refine LeO.ite ?_ ?_)
   | (with_reducible refine LeO.bind ?_ (fun _ => ?_))
   | exact impl_FileMap_cells.mono _ _
   | exact impl_blocksIn.mono _ _
   | exact impl_isRange.mono _ _ _ _
   | exact impl_mapOf.mono _ _
   | exact LeO.none _
   | refine LeO.ite ?_ ?_
   | refine LeO.bind ?_ (fun _ => ?_)
set_option maxHeartbeats 8000000 in
set_option maxRecDepth 100000 in
theorem impl_PunchMap.calls (k : Nat) (A0_0 : Option Addr) (c0_0 : Nat) (l0_0 : List (S48)) (a1 : Int) (a2 : Int) (r1 : List (S48)) (r2 : List (S61)) (r3 : Bool) (w : World) (hr0_0 : Kd.C k48 w A0_0 l0_0.length l0_0) (hc0_0 : l0_0.length ≤ c0_0) (h : impl_PunchMap.f k l0_0 a1 a2 = some (r1, r2, r3)) :
  Calls Try.prog 40 #[.agg #[.slice A0_0 l0_0.length c0_0], .int .i64 a1, .int .i64 a2] w fun e w' => ∃ v0_ v1_ : Value, e = .returned (.tuple #[.agg #[v0_], v1_, .bool r3]) ∧ Kd.R k48 48 w' w.heap.size (fun _ => True) v0_ r1 ∧ Kd.R k61 61 w' w.heap.size (fun _ => True) v1_ r2 ∧ Below w.heap.size w w' := by
 have hu29 := Try.underlying29
 have HR0_0 := Aside0.mk hr0_0
 have HC0_0 := Aside0.mk hc0_0
 clear hr0_0 hc0_0
 have HB := Aside0.mk (Below.refl w.heap.size w)
 have H : ((impl_isRange.f k l0_0 a1 a2).bind fun t830 => (if t830 = true then ((impl_FileMap_cells.f k l0_0).bind fun t831 => (if 0 ≤ a1 then (if a1 ≤ (wrap64 (a1 + a2)) then (if (wrap64 (a1 + a2)) ≤ (t831.length : Int) then ((some ((t831.take ((wrap64 (a1 + a2)) : Int).toNat).drop (a1 : Int).toNat : List (S78))).bind fun y834 => ((impl_blocksIn.f k y834).bind fun t838 => ((impl_mapOf.f k (t831.take (a1 : Int).toNat ++ List.replicate y834.length z78 ++ t831.drop ((a1 : Int).toNat + y834.length))).bind fun bt842 => (if bt842.2 = true then (some (bt842.1, t838, true)) else (some (([] : List (S48)), ([] : List (S61)), false)))))) else (none)) else (none)) else (none))) else (some (([] : List (S48)), ([] : List (S61)), false)))) = some (r1, r2, r3) := h
 clear h
 replace H := Option.bind_eq_some_iff.mp H
 obtain ⟨t830, A40, H⟩ := H
 replace H : (if t830 = true then ((impl_FileMap_cells.f k l0_0).bind fun t831 => (if 0 ≤ a1 then (if a1 ≤ (wrap64 (a1 + a2)) then (if (wrap64 (a1 + a2)) ≤ (t831.length : Int) then ((some ((t831.take ((wrap64 (a1 + a2)) : Int).toNat).drop (a1 : Int).toNat : List (S78))).bind fun y834 => ((impl_blocksIn.f k y834).bind fun t838 => ((impl_mapOf.f k (t831.take (a1 : Int).toNat ++ List.replicate y834.length z78 ++ t831.drop ((a1 : Int).toNat + y834.length))).bind fun bt842 => (if bt842.2 = true then (some (bt842.1, t838, true)) else (some (([] : List (S48)), ([] : List (S61)), false)))))) else (none)) else (none)) else (none))) else (some (([] : List (S48)), ([] : List (S61)), false))) = some (r1, r2, r3) := H
 have A4 := Aside0.mk A40
 clear A40
 by_cases c5 : t830 = true
 ·
  subst c5
  rw [if_pos rfl] at H
  replace H := Option.bind_eq_some_iff.mp H
  obtain ⟨t831, A60, H⟩ := H
  replace H : (if 0 ≤ a1 then (if a1 ≤ (wrap64 (a1 + a2)) then (if (wrap64 (a1 + a2)) ≤ (t831.length : Int) then ((some ((t831.take ((wrap64 (a1 + a2)) : Int).toNat).drop (a1 : Int).toNat : List (S78))).bind fun y834 => ((impl_blocksIn.f k y834).bind fun t838 => ((impl_mapOf.f k (t831.take (a1 : Int).toNat ++ List.replicate y834.length z78 ++ t831.drop ((a1 : Int).toNat + y834.length))).bind fun bt842 => (if bt842.2 = true then (some (bt842.1, t838, true)) else (some (([] : List (S48)), ([] : List (S61)), false)))))) else (none)) else (none)) else (none)) = some (r1, r2, r3) := H
  have A6 := Aside0.mk A60
  clear A60
  by_cases c7 : 0 ≤ a1
  ·
   rw [if_pos c7] at H
   have c7b0 := eq_true c7
   have c7b1 : decide (0 ≤ a1) = true := decide_eq_true c7
   clear c7
   by_cases c8 : a1 ≤ (wrap64 (a1 + a2))
   ·
    rw [if_pos c8] at H
    have c8b0 := eq_true c8
    have c8b1 : decide (a1 ≤ (wrap64 (a1 + a2))) = true := decide_eq_true c8
    by_cases c9 : (wrap64 (a1 + a2)) ≤ (t831.length : Int)
    ·
     rw [if_pos c9] at H
     have c9b0 := eq_true c9
     have c9b1 : decide ((wrap64 (a1 + a2)) ≤ (t831.length : Int)) = true := decide_eq_true c9
     obtain ⟨y834, hy834⟩ : ∃ y_ : List (S78), y_ = ((t831.take ((wrap64 (a1 + a2)) : Int).toNat).drop (a1 : Int).toNat) := ⟨_, rfl⟩
     replace H : ((impl_blocksIn.f k y834).bind fun t838 => ((impl_mapOf.f k (t831.take (a1 : Int).toNat ++ List.replicate y834.length z78 ++ t831.drop ((a1 : Int).toNat + y834.length))).bind fun bt842 => (if bt842.2 = true then (some (bt842.1, t838, true)) else (some (([] : List (S48)), ([] : List (S61)), false))))) = some (r1, r2, r3) := by first | (rw [hy834]; with_reducible exact H) | (have H2_ := (Option.bind_some _ _).symm.trans H; rw [hy834]; with_reducible exact H2_) | (have H2_ := (Option.bind_some _ _).symm.trans H; with_reducible exact H2_) | with_reducible exact H | (rw [hy834]; exact H) | exact H
     have Ny834 := Aside0.mk hy834
     clear hy834
     replace H := Option.bind_eq_some_iff.mp H
     obtain ⟨t838, A100, H⟩ := H
     replace H : ((impl_mapOf.f k (t831.take (a1 : Int).toNat ++ List.replicate y834.length z78 ++ t831.drop ((a1 : Int).toNat + y834.length))).bind fun bt842 => (if bt842.2 = true then (some (bt842.1, t838, true)) else (some (([] : List (S48)), ([] : List (S61)), false)))) = some (r1, r2, r3) := H
     have A10 := Aside0.mk A100
     clear A100
     obtain ⟨y841, hy841⟩ : ∃ y_ : List (S78), y_ = (t831.take (a1 : Int).toNat ++ List.replicate y834.length z78 ++ t831.drop ((a1 : Int).toNat + y834.length)) := ⟨_, rfl⟩
     replace H : ((impl_mapOf.f k y841).bind fun bt842 => (if bt842.2 = true then (some (bt842.1, t838, true)) else (some (([] : List (S48)), ([] : List (S61)), false)))) = some (r1, r2, r3) := by first | (rw [hy841]; with_reducible exact H) | (have H2_ := (Option.bind_some _ _).symm.trans H; rw [hy841]; with_reducible exact H2_) | (have H2_ := (Option.bind_some _ _).symm.trans H; with_reducible exact H2_) | with_reducible exact H | (rw [hy841]; exact H) | exact H
     have Ny841 := Aside0.mk hy841
     clear hy841
     replace H := Option.bind_eq_some_iff.mp H
     obtain ⟨⟨t842, t845⟩, A110, H⟩ := H
     replace H : (if t845 = true then (some (t842, t838, true)) else (some (([] : List (S48)), ([] : List (S61)), false))) = some (r1, r2, r3) := H
     have A11 := Aside0.mk A110
     clear A110
     by_cases c12 : t845 = true
     ·
      subst c12
      rw [if_pos rfl] at H
      simp only [Option.some.injEq, Prod.mk.injEq] at H
      obtain ⟨rfl, rfl, rfl⟩ := H
      go_enter Try.func40, Try.ntmps40
      go_wp2_with (first | ((with_reducible refine gate_dst (N := 3) rfl ?_); refine box_event ?hg (N := 3) ?hd (cs := #[.slice A0_0 l0_0.length c0_0]) (t := 29) ?hr ?_; (case hd => rfl); (case hg => rfl); (case hr => first | (go_simp; done) | (go_simp; rfl)); intro gb828 hg w13 hbox hb; have BK828 := Aside0.mk (hbox); have GW828 := Aside0.mk ((by rw [hg]; exact (below_size (bs HB)) : w.heap.size ≤ gb828)); have GE828 := Aside0.mk ((by rw [hg]; exact (below_size (bs HB)) : w.heap.size ≤ gb828)); replace HB := Aside0.mk (below_step (bs HB) hb); clear hb hbox hg) | ((with_reducible refine gate_dst (N := 6) rfl ?_); refine box_event ?hg (N := 6) ?hd (cs := #[.slice none 0 0]) (t := 29) ?hr ?_; (case hd => rfl); (case hg => rfl); (case hr => first | (go_simp; done) | (go_simp; rfl)); intro gb829 hg w14 hbox hb; have BK829 := Aside0.mk (hbox); have GW829 := Aside0.mk ((by rw [hg]; exact (below_size (bs1 HB GE828)) : w.heap.size ≤ gb829)); have GE829 := Aside0.mk ((by rw [hg]; exact (below_size (bs1 HB GE828)) : w.heap.size ≤ gb829)); replace HB := Aside0.mk (below_step (bs1 HB GE828) hb); have NB828_829 := Aside0.mk ((bn BK828 hg : gb828 ≠ gb829)); have NB829_828 := Aside0.mk ((bm BK828 hg : gb829 ≠ gb828)); replace BK828 := nb BK828 hb; clear hb hbox hg; have hnb15 := NB828_829.out; have hnc15 := NB829_828.out; have hcz16_0 := cz1 BK828; have hfz16_0 := fz1 BK828) | ((with_reducible refine gate_callee (f := 70) rfl ?_); refine gL (some 16) rfl rfl Try.func70 (by kernel_rfl) rfl #[.agg #[.slice A0_0 l0_0.length c0_0], .int .i64 a1, .int .i64 a2] rfl ?_; (with_reducible refine (impl_isRange.calls k _ _ l0_0 a1 a2 true _ ?side1 ?side2 A4.out).mono ?_); (case side1 => exact cb HR0_0 HB); (case side2 => exact HC0_0.out); rintro e w17 ⟨rfl, hb⟩; refine ⟨_, rfl, ?_⟩; replace BK828 := nb BK828 hb; replace BK829 := nb BK829 hb; replace HB := Aside0.mk (below_step (bs2 HB GE828 GE829) hb); (try clear hb); (try clear hb2); (try clear hk); (try clear hi); have hcz18_0 := cz1 BK828; have hfz18_0 := fz1 BK828) | ((with_reducible refine gate_callee (f := 57) rfl ?_); refine gL (some 20) rfl rfl Try.func57 (by kernel_rfl) rfl #[.agg #[.slice A0_0 l0_0.length c0_0]] rfl ?_; (with_reducible refine (impl_FileMap_cells.calls k _ _ l0_0 t831 _ ?side1 ?side2 A6.out).mono ?_); (case side1 => exact cb HR0_0 HB); (case side2 => exact HC0_0.out); rintro e w19 ⟨v832, rfl, ho0, hb⟩; refine ⟨_, rfl, ?_⟩; have HO833 := Aside0.mk (Kd.R_lower ho0 (below_size (bs2 HB GE828 GE829))); replace BK828 := nb BK828 hb; replace BK829 := nb BK829 hb; replace HB := Aside0.mk (below_step (bs2 HB GE828 GE829) hb); (try clear hb); (try clear hb2); (try clear hk); (try clear hi); (try clear ho0); obtain ⟨Ao21, co21, eo21⟩ := Kd.R_slice HO833.out; subst eo21; have q20 : ((wrap64 (a1 + a2)) : Int) ≤ ((t831.length : Int) : Int) := of_decide_eq_true (by first | (with_reducible assumption) | assumption); obtain ⟨i020, hi020, _, hsz20, _⟩ := info_parts info78; have hroom20 : t831.length ≤ co21 := (Kd.R_reads' HO833.out).2.1; have hC20 : Kd.C k78 _ Ao21 t831.length t831 := (Kd.R_reads' HO833.out).2.2; have ql20 : (a1 : Int) ≤ ((wrap64 (a1 + a2)) : Int) := of_decide_eq_true (by first | (with_reducible assumption) | assumption); have q020 : (0 : Int) ≤ (a1 : Int) := of_decide_eq_true (by first | (with_reducible assumption) | assumption); have hcut20 := cut_mid (P := Try.prog) 79 78 .i64 .i64 Try.underlying79 hi020 3 hsz20 Ao21 t831.length co21 a1 (wrap64 (a1 + a2)) q020 ql20 q20 hroom20; have hr20 := Kd.C_mid (lo := (a1 : Int).toNat) (hi := ((wrap64 (a1 + a2)) : Int).toNat) (c := co21) hC20 (by omega) (by omega) hroom20; obtain ⟨A20, hA20⟩ : ∃ A1, A1 = (if co21 = (a1 : Int).toNat then Ao21 else (Ao21 : Option Addr).map (·.add ((a1 : Int).toNat * 3))) := ⟨_, rfl⟩; obtain ⟨c20, hc20⟩ : ∃ c1, c1 = co21 - (a1 : Int).toNat := ⟨_, rfl⟩; have hy20 : y834.length = ((wrap64 (a1 + a2)) : Int).toNat - (a1 : Int).toNat := (by rw [Ny834.out, List.length_drop, List.length_take] <;> omega); rw [show ((t831).take ((wrap64 (a1 + a2)) : Int).toNat).drop (a1 : Int).toNat = y834 from Ny834.out.symm] at hr20; replace hr20 : Kd.C k78 _ A20 y834.length y834 := (by rw [hA20]; exact hr20); rw [← hy20, ← hA20, ← hc20] at hcut20; have HR837 := Aside0.mk hr20; have HC837 := Aside0.mk (show y834.length ≤ c20 from by rw [hy20, hc20]; exact Nat.sub_le_sub_right (Nat.le_trans (by omega) hroom20) _); clear hr20 hC20 hroom20 hi020 hsz20 hc20; have KY20 := Aside0.mk hy20; have KA20 := Aside0.mk hA20; clear hy20 hA20; have KL20 := Aside0.mk (show ((wrap64 (a1 + a2)) : Int).toNat ≤ t831.length from by omega); have KM20 := Aside0.mk (show (a1 : Int).toNat ≤ ((wrap64 (a1 + a2)) : Int).toNat from by omega); replace q20 := eq_true q20) | ((with_reducible refine gate_callee (f := 67) rfl ?_); refine gL (some 27) rfl rfl Try.func67 (by kernel_rfl) rfl #[.slice A20 y834.length c20] rfl ?_; (with_reducible refine (impl_blocksIn.calls k _ _ y834 t838 _ ?side1 ?side2 A10.out).mono ?_); (case side1 => repeat (first | exact (by repeat (first | (with_reducible exact HR837.out) | (with_reducible refine Kd.C_alloc ?_ _) | (with_reducible refine Kd.C_drewN ?_ _) | (with_reducible refine Kd.C_drew ?_) | exact HR837.out)) | (with_reducible refine Kd.C_alloc ?_ _) | (with_reducible refine Kd.C_drewN ?_ _) | (with_reducible refine Kd.C_drew ?_))); (case side2 => exact HC837.out); rintro e w22 ⟨v839, rfl, ho0, hb⟩; refine ⟨_, rfl, ?_⟩; replace HO833 := nr HO833 hb; have HO840 := Aside0.mk (Kd.R_lower ho0 (below_size (bs2 HB GE828 GE829))); replace BK828 := nb BK828 hb; replace BK829 := nb BK829 hb; replace HR837 := Aside0.mk (Kd.C_below (by repeat (first | (with_reducible exact HR837.out) | (with_reducible refine Kd.C_alloc ?_ _) | (with_reducible refine Kd.C_drewN ?_ _) | (with_reducible refine Kd.C_drew ?_) | exact HR837.out)) hb); replace HB := Aside0.mk (below_step (bs2 HB GE828 GE829) hb); (try clear hb); (try clear hb2); (try clear hk); (try clear hi); (try clear ho0)) | ((with_reducible refine gate_builtin (b := .clear) (xs := #[.tmp 33]) rfl ?_); refine Kd.R_clear k78 (w0 := w) w.heap.size rfl (.tmp 33) 79 78 rfl Try.underlying79 (.agg #[(.bool false), (.int .i64 0), (.bool false)]) 24 info78 rfl (by decide) z78 (k78_mkM _ _ _ z78 ) (n := t831.length) (c := co21) (k := (a1 : Int).toNat) (m := y834.length) rfl KA20.out (rr HO833.out) ?hkm (bs2 HB GE828 GE829) (below_size (bs2 HB GE828 GE829)) ?_; (case hkm => have h1_ := KY20.out; have h2_ := KL20.out; have h3_ := (Kd.R_reads' HO833.out).1; (try have h4_ := KM20.out); omega); intro w23 ho hb hg; rw [← Ny841.out] at ho; replace BK828 := Aside0.mk (blk_grown (bk BK828) hg (Kd.R_ne HO833.out BK828.out (by decide))); replace BK829 := Aside0.mk (blk_grown (bk BK829) hg (Kd.R_ne HO833.out BK829.out (by decide))); replace HO840 := Aside0.mk (Kd.R_over' (v := (.slice Ao21 t831.length co21)) (rr HO840.out) (Kd.R_typed HO833.out) (by decide) hg); replace HO833 := Aside0.mk (ho); replace HB := Aside0.mk (hb); clear ho hb hg) | ((with_reducible refine gate_callee (f := 64) rfl ?_); refine goesL_ (some 36) rfl rfl Try.func64 (by kernel_rfl) rfl #[.slice Ao21 y841.length co21] rfl (by (try simp only [List.map_toArray, List.map_cons, List.map_nil]); first | done | (rw [show y841.length = t831.length from (Kd.R_reads' HO833.out).1.symm] <;> rfl) | rfl | (simp only [List.length_drop, List.length_take]; rfl)) ?_; (with_reducible refine (impl_mapOf.calls k _ _ y841 t842 true _ ?side1 ?side2 A11.out).mono ?_); (case side1 => exact rc0 HO833); (case side2 => rw [show y841.length = t831.length from (Kd.R_reads' HO833.out).1.symm]; exact (Kd.R_reads' HO833.out).2.1); rintro e w25 ⟨v843, rfl, ho0, hb⟩; refine ⟨_, rfl, ?_⟩; replace HO833 := nr HO833 hb; replace HO840 := nr HO840 hb; have HO844 := Aside0.mk (Kd.R_lower ho0 (below_size (bs2 HB GE828 GE829))); replace BK828 := nb BK828 hb; replace BK829 := nb BK829 hb; replace HB := Aside0.mk (below_step (bs2 HB GE828 GE829) hb); (try clear hb); (try clear hb2); (try clear hk); (try clear hi); (try clear ho0)) | ((with_reducible refine gate_dst (N := 11) rfl ?_); refine box_event ?hg (N := 11) ?hd (cs := #[.slice none 0 0]) (t := 29) ?hr ?_; (case hd => rfl); (case hg => rfl); (case hr => first | (go_simp; done) | (go_simp; rfl)); intro gb846 hg w26 hbox hb; replace HO833 := nr HO833 hb; replace HO840 := nr HO840 hb; replace HO844 := nr HO844 hb; have BK846 := Aside0.mk (hbox); have GW846 := Aside0.mk ((by rw [hg]; exact (below_size (bs2 HB GE828 GE829)) : w.heap.size ≤ gb846)); have GE846 := Aside0.mk ((by rw [hg]; exact (below_size (bs2 HB GE828 GE829)) : w.heap.size ≤ gb846)); replace HB := Aside0.mk (below_step (bs2 HB GE828 GE829) hb); have NB828_846 := Aside0.mk ((bn BK828 hg : gb828 ≠ gb846)); have NB846_828 := Aside0.mk ((bm BK828 hg : gb846 ≠ gb828)); replace BK828 := nb BK828 hb; have NB829_846 := Aside0.mk ((bn BK829 hg : gb829 ≠ gb846)); have NB846_829 := Aside0.mk ((bm BK829 hg : gb846 ≠ gb829)); replace BK829 := nb BK829 hb; clear hb hbox hg; obtain ⟨Ao27, co27, eo27⟩ := Kd.R_slice HO844.out; subst eo27; have hnb28 := NB846_828.out; have hnc28 := NB828_846.out; have hnb29 := NB846_829.out; have hnc29 := NB829_846.out; have hcz30_0 := cz1 BK846; have hfz30_0 := fz1 BK846; have hcz31_0 := cz1 BK829; have hfz31_0 := fz1 BK829))
      refine bodyPost_ret (results_ctt rfl _ _ gb829 29 #[.slice Ao27 t842.length co27] (0, 0) _ rfl (by (with_reducible repeat (first | refine blk_drewN ?_ _ | refine blk_drew ?_ | refine blk_alloc ?_ _)); refine blk_put (cs := #[.slice none 0 0]) ?_ 0 _ rfl; (with_reducible repeat (first | refine blk_drewN ?_ _ | refine blk_drew ?_ | refine blk_alloc ?_ _)); refine blk_far ?_ NB829_846.out _; (with_reducible repeat (first | refine blk_drewN ?_ _ | refine blk_drew ?_ | refine blk_alloc ?_ _)); exact BK829.out) Try.underlying29 rfl (by kernel_rfl)) rfl ?_
      exact ⟨_, _, by first | rfl | (simp [errW_none, errW_some] <;> rfl) | (simp [*, errW_none, errW_some] <;> rfl), by (with_reducible repeat (first | apply Kd.R_alloc | apply Kd.R_drewN | apply Kd.R_drew)); exact Kd.R_mono (Kd.R_far (p := ⟨gb829, 0, none⟩) (Kd.R_far (p := ⟨gb846, 0, none⟩) (Kd.R_types (Kd.R_types HO844.out BK846.out (by decide)) BK829.out (by decide)) (fun _ hk => hk.1.2) (.slice Ao27 t842.length co27)) (fun _ hk => hk.2) (.slice Ao27 t842.length co27)) (fun _ hk => trivial), by (with_reducible repeat (first | apply Kd.R_alloc | apply Kd.R_drewN | apply Kd.R_drew)); exact Kd.R_mono (Kd.R_far (p := ⟨gb829, 0, none⟩) (Kd.R_far (p := ⟨gb846, 0, none⟩) (Kd.R_types (Kd.R_types HO840.out BK846.out (by decide)) BK829.out (by decide)) (fun _ hk => hk.1.2) (.slice Ao27 t842.length co27)) (fun _ hk => hk.2) (.slice Ao27 t842.length co27)) (fun _ hk => trivial), bs3 HB GE828 GE829 GE846⟩
     ·
      replace c12 := Bool.eq_false_iff.mpr c12
      subst c12
      rw [if_neg (show ¬ (false = true) by decide)] at H
      simp only [Option.some.injEq, Prod.mk.injEq] at H
      obtain ⟨rfl, rfl, rfl⟩ := H
      go_enter Try.func40, Try.ntmps40
      go_wp2_with (first | ((with_reducible refine gate_dst (N := 3) rfl ?_); refine box_event ?hg (N := 3) ?hd (cs := #[.slice A0_0 l0_0.length c0_0]) (t := 29) ?hr ?_; (case hd => rfl); (case hg => rfl); (case hr => first | (go_simp; done) | (go_simp; rfl)); intro gb828 hg w32 hbox hb; have BK828 := Aside0.mk (hbox); have GW828 := Aside0.mk ((by rw [hg]; exact (below_size (bs HB)) : w.heap.size ≤ gb828)); have GE828 := Aside0.mk ((by rw [hg]; exact (below_size (bs HB)) : w.heap.size ≤ gb828)); replace HB := Aside0.mk (below_step (bs HB) hb); clear hb hbox hg) | ((with_reducible refine gate_dst (N := 6) rfl ?_); refine box_event ?hg (N := 6) ?hd (cs := #[.slice none 0 0]) (t := 29) ?hr ?_; (case hd => rfl); (case hg => rfl); (case hr => first | (go_simp; done) | (go_simp; rfl)); intro gb829 hg w33 hbox hb; have BK829 := Aside0.mk (hbox); have GW829 := Aside0.mk ((by rw [hg]; exact (below_size (bs1 HB GE828)) : w.heap.size ≤ gb829)); have GE829 := Aside0.mk ((by rw [hg]; exact (below_size (bs1 HB GE828)) : w.heap.size ≤ gb829)); replace HB := Aside0.mk (below_step (bs1 HB GE828) hb); have NB828_829 := Aside0.mk ((bn BK828 hg : gb828 ≠ gb829)); have NB829_828 := Aside0.mk ((bm BK828 hg : gb829 ≠ gb828)); replace BK828 := nb BK828 hb; clear hb hbox hg; have hnb34 := NB828_829.out; have hnc34 := NB829_828.out; have hcz35_0 := cz1 BK828; have hfz35_0 := fz1 BK828) | ((with_reducible refine gate_callee (f := 70) rfl ?_); refine gL (some 16) rfl rfl Try.func70 (by kernel_rfl) rfl #[.agg #[.slice A0_0 l0_0.length c0_0], .int .i64 a1, .int .i64 a2] rfl ?_; (with_reducible refine (impl_isRange.calls k _ _ l0_0 a1 a2 true _ ?side1 ?side2 A4.out).mono ?_); (case side1 => exact cb HR0_0 HB); (case side2 => exact HC0_0.out); rintro e w36 ⟨rfl, hb⟩; refine ⟨_, rfl, ?_⟩; replace BK828 := nb BK828 hb; replace BK829 := nb BK829 hb; replace HB := Aside0.mk (below_step (bs2 HB GE828 GE829) hb); (try clear hb); (try clear hb2); (try clear hk); (try clear hi); have hcz37_0 := cz1 BK828; have hfz37_0 := fz1 BK828) | ((with_reducible refine gate_callee (f := 57) rfl ?_); refine gL (some 20) rfl rfl Try.func57 (by kernel_rfl) rfl #[.agg #[.slice A0_0 l0_0.length c0_0]] rfl ?_; (with_reducible refine (impl_FileMap_cells.calls k _ _ l0_0 t831 _ ?side1 ?side2 A6.out).mono ?_); (case side1 => exact cb HR0_0 HB); (case side2 => exact HC0_0.out); rintro e w38 ⟨v832, rfl, ho0, hb⟩; refine ⟨_, rfl, ?_⟩; have HO833 := Aside0.mk (Kd.R_lower ho0 (below_size (bs2 HB GE828 GE829))); replace BK828 := nb BK828 hb; replace BK829 := nb BK829 hb; replace HB := Aside0.mk (below_step (bs2 HB GE828 GE829) hb); (try clear hb); (try clear hb2); (try clear hk); (try clear hi); (try clear ho0); obtain ⟨Ao40, co40, eo40⟩ := Kd.R_slice HO833.out; subst eo40; have q39 : ((wrap64 (a1 + a2)) : Int) ≤ ((t831.length : Int) : Int) := of_decide_eq_true (by first | (with_reducible assumption) | assumption); obtain ⟨i039, hi039, _, hsz39, _⟩ := info_parts info78; have hroom39 : t831.length ≤ co40 := (Kd.R_reads' HO833.out).2.1; have hC39 : Kd.C k78 _ Ao40 t831.length t831 := (Kd.R_reads' HO833.out).2.2; have ql39 : (a1 : Int) ≤ ((wrap64 (a1 + a2)) : Int) := of_decide_eq_true (by first | (with_reducible assumption) | assumption); have q039 : (0 : Int) ≤ (a1 : Int) := of_decide_eq_true (by first | (with_reducible assumption) | assumption); have hcut39 := cut_mid (P := Try.prog) 79 78 .i64 .i64 Try.underlying79 hi039 3 hsz39 Ao40 t831.length co40 a1 (wrap64 (a1 + a2)) q039 ql39 q39 hroom39; have hr39 := Kd.C_mid (lo := (a1 : Int).toNat) (hi := ((wrap64 (a1 + a2)) : Int).toNat) (c := co40) hC39 (by omega) (by omega) hroom39; obtain ⟨A39, hA39⟩ : ∃ A1, A1 = (if co40 = (a1 : Int).toNat then Ao40 else (Ao40 : Option Addr).map (·.add ((a1 : Int).toNat * 3))) := ⟨_, rfl⟩; obtain ⟨c39, hc39⟩ : ∃ c1, c1 = co40 - (a1 : Int).toNat := ⟨_, rfl⟩; have hy39 : y834.length = ((wrap64 (a1 + a2)) : Int).toNat - (a1 : Int).toNat := (by rw [Ny834.out, List.length_drop, List.length_take] <;> omega); rw [show ((t831).take ((wrap64 (a1 + a2)) : Int).toNat).drop (a1 : Int).toNat = y834 from Ny834.out.symm] at hr39; replace hr39 : Kd.C k78 _ A39 y834.length y834 := (by rw [hA39]; exact hr39); rw [← hy39, ← hA39, ← hc39] at hcut39; have HR837 := Aside0.mk hr39; have HC837 := Aside0.mk (show y834.length ≤ c39 from by rw [hy39, hc39]; exact Nat.sub_le_sub_right (Nat.le_trans (by omega) hroom39) _); clear hr39 hC39 hroom39 hi039 hsz39 hc39; have KY39 := Aside0.mk hy39; have KA39 := Aside0.mk hA39; clear hy39 hA39; have KL39 := Aside0.mk (show ((wrap64 (a1 + a2)) : Int).toNat ≤ t831.length from by omega); have KM39 := Aside0.mk (show (a1 : Int).toNat ≤ ((wrap64 (a1 + a2)) : Int).toNat from by omega); replace q39 := eq_true q39) | ((with_reducible refine gate_callee (f := 67) rfl ?_); refine gL (some 27) rfl rfl Try.func67 (by kernel_rfl) rfl #[.slice A39 y834.length c39] rfl ?_; (with_reducible refine (impl_blocksIn.calls k _ _ y834 t838 _ ?side1 ?side2 A10.out).mono ?_); (case side1 => repeat (first | exact (by repeat (first | (with_reducible exact HR837.out) | (with_reducible refine Kd.C_alloc ?_ _) | (with_reducible refine Kd.C_drewN ?_ _) | (with_reducible refine Kd.C_drew ?_) | exact HR837.out)) | (with_reducible refine Kd.C_alloc ?_ _) | (with_reducible refine Kd.C_drewN ?_ _) | (with_reducible refine Kd.C_drew ?_))); (case side2 => exact HC837.out); rintro e w41 ⟨v839, rfl, ho0, hb⟩; refine ⟨_, rfl, ?_⟩; replace HO833 := nr HO833 hb; have HO840 := Aside0.mk (Kd.R_lower ho0 (below_size (bs2 HB GE828 GE829))); replace BK828 := nb BK828 hb; replace BK829 := nb BK829 hb; replace HR837 := Aside0.mk (Kd.C_below (by repeat (first | (with_reducible exact HR837.out) | (with_reducible refine Kd.C_alloc ?_ _) | (with_reducible refine Kd.C_drewN ?_ _) | (with_reducible refine Kd.C_drew ?_) | exact HR837.out)) hb); replace HB := Aside0.mk (below_step (bs2 HB GE828 GE829) hb); (try clear hb); (try clear hb2); (try clear hk); (try clear hi); (try clear ho0)) | ((with_reducible refine gate_builtin (b := .clear) (xs := #[.tmp 33]) rfl ?_); refine Kd.R_clear k78 (w0 := w) w.heap.size rfl (.tmp 33) 79 78 rfl Try.underlying79 (.agg #[(.bool false), (.int .i64 0), (.bool false)]) 24 info78 rfl (by decide) z78 (k78_mkM _ _ _ z78 ) (n := t831.length) (c := co40) (k := (a1 : Int).toNat) (m := y834.length) rfl KA39.out (rr HO833.out) ?hkm (bs2 HB GE828 GE829) (below_size (bs2 HB GE828 GE829)) ?_; (case hkm => have h1_ := KY39.out; have h2_ := KL39.out; have h3_ := (Kd.R_reads' HO833.out).1; (try have h4_ := KM39.out); omega); intro w42 ho hb hg; rw [← Ny841.out] at ho; replace BK828 := Aside0.mk (blk_grown (bk BK828) hg (Kd.R_ne HO833.out BK828.out (by decide))); replace BK829 := Aside0.mk (blk_grown (bk BK829) hg (Kd.R_ne HO833.out BK829.out (by decide))); replace HO840 := Aside0.mk (Kd.R_over' (v := (.slice Ao40 t831.length co40)) (rr HO840.out) (Kd.R_typed HO833.out) (by decide) hg); replace HO833 := Aside0.mk (ho); replace HB := Aside0.mk (hb); clear ho hb hg) | ((with_reducible refine gate_callee (f := 64) rfl ?_); refine goesL_ (some 36) rfl rfl Try.func64 (by kernel_rfl) rfl #[.slice Ao40 y841.length co40] rfl (by (try simp only [List.map_toArray, List.map_cons, List.map_nil]); first | done | (rw [show y841.length = t831.length from (Kd.R_reads' HO833.out).1.symm] <;> rfl) | rfl | (simp only [List.length_drop, List.length_take]; rfl)) ?_; (with_reducible refine (impl_mapOf.calls k _ _ y841 t842 false _ ?side1 ?side2 A11.out).mono ?_); (case side1 => exact rc0 HO833); (case side2 => rw [show y841.length = t831.length from (Kd.R_reads' HO833.out).1.symm]; exact (Kd.R_reads' HO833.out).2.1); rintro e w44 ⟨v843, rfl, ho0, hb⟩; refine ⟨_, rfl, ?_⟩; replace HO833 := nr HO833 hb; replace HO840 := nr HO840 hb; have HO844 := Aside0.mk (Kd.R_lower ho0 (below_size (bs2 HB GE828 GE829))); replace BK828 := nb BK828 hb; replace BK829 := nb BK829 hb; replace HB := Aside0.mk (below_step (bs2 HB GE828 GE829) hb); (try clear hb); (try clear hb2); (try clear hk); (try clear hi); (try clear ho0)) | ((with_reducible refine gate_dst (N := 11) rfl ?_); refine box_event ?hg (N := 11) ?hd (cs := #[.slice none 0 0]) (t := 29) ?hr ?_; (case hd => rfl); (case hg => rfl); (case hr => first | (go_simp; done) | (go_simp; rfl)); intro gb846 hg w45 hbox hb; replace HO833 := nr HO833 hb; replace HO840 := nr HO840 hb; replace HO844 := nr HO844 hb; have BK846 := Aside0.mk (hbox); have GW846 := Aside0.mk ((by rw [hg]; exact (below_size (bs2 HB GE828 GE829)) : w.heap.size ≤ gb846)); have GE846 := Aside0.mk ((by rw [hg]; exact (below_size (bs2 HB GE828 GE829)) : w.heap.size ≤ gb846)); replace HB := Aside0.mk (below_step (bs2 HB GE828 GE829) hb); have NB828_846 := Aside0.mk ((bn BK828 hg : gb828 ≠ gb846)); have NB846_828 := Aside0.mk ((bm BK828 hg : gb846 ≠ gb828)); replace BK828 := nb BK828 hb; have NB829_846 := Aside0.mk ((bn BK829 hg : gb829 ≠ gb846)); have NB846_829 := Aside0.mk ((bm BK829 hg : gb846 ≠ gb829)); replace BK829 := nb BK829 hb; clear hb hbox hg; obtain ⟨Ao46, co46, eo46⟩ := Kd.R_slice HO844.out; subst eo46; have hnb47 := NB846_828.out; have hnc47 := NB828_846.out; have hnb48 := NB846_829.out; have hnc48 := NB829_846.out; have hcz49_0 := cz1 BK846; have hfz49_0 := fz1 BK846; have hcz50_0 := cz1 BK829; have hfz50_0 := fz1 BK829))
      refine bodyPost_ret (results_ctt rfl _ _ gb829 29 #[.slice none 0 0] (0, 0) _ rfl (by (with_reducible repeat (first | refine blk_drewN ?_ _ | refine blk_drew ?_ | refine blk_alloc ?_ _)); refine blk_put (cs := #[.slice none 0 0]) ?_ 0 _ rfl; (with_reducible repeat (first | refine blk_drewN ?_ _ | refine blk_drew ?_ | refine blk_alloc ?_ _)); refine blk_far ?_ NB829_846.out _; (with_reducible repeat (first | refine blk_drewN ?_ _ | refine blk_drew ?_ | refine blk_alloc ?_ _)); exact BK829.out) Try.underlying29 rfl (by kernel_rfl)) rfl ?_
      exact ⟨_, _, by first | rfl | (simp [errW_none, errW_some] <;> rfl) | (simp [*, errW_none, errW_some] <;> rfl), by first | exact Kd.R_nil _ _ _ _ _ | exact Kd.N_nil _ _ _ _ _ | exact Kd.V_nil _ _ _ _ _ | exact Kd.Q_nil _ _ _ _ _ | exact Kd.S_nil _ _ _ _ _, by first | exact Kd.R_nil _ _ _ _ _ | exact Kd.N_nil _ _ _ _ _ | exact Kd.V_nil _ _ _ _ _ | exact Kd.Q_nil _ _ _ _ _ | exact Kd.S_nil _ _ _ _ _, bs3 HB GE828 GE829 GE846⟩
    ·
     rw [if_neg c9] at H
     exact absurd H (by simp)
   ·
    rw [if_neg c8] at H
    exact absurd H (by simp)
  ·
   rw [if_neg c7] at H
   exact absurd H (by simp)
 ·
  replace c5 := Bool.eq_false_iff.mpr c5
  subst c5
  rw [if_neg (show ¬ (false = true) by decide)] at H
  simp only [Option.some.injEq, Prod.mk.injEq] at H
  obtain ⟨rfl, rfl, rfl⟩ := H
  go_enter Try.func40, Try.ntmps40
  go_wp2_with (first | ((with_reducible refine gate_dst (N := 3) rfl ?_); refine box_event ?hg (N := 3) ?hd (cs := #[.slice A0_0 l0_0.length c0_0]) (t := 29) ?hr ?_; (case hd => rfl); (case hg => rfl); (case hr => first | (go_simp; done) | (go_simp; rfl)); intro gb828 hg w51 hbox hb; have BK828 := Aside0.mk (hbox); have GW828 := Aside0.mk ((by rw [hg]; exact (below_size (bs HB)) : w.heap.size ≤ gb828)); have GE828 := Aside0.mk ((by rw [hg]; exact (below_size (bs HB)) : w.heap.size ≤ gb828)); replace HB := Aside0.mk (below_step (bs HB) hb); clear hb hbox hg) | ((with_reducible refine gate_dst (N := 6) rfl ?_); refine box_event ?hg (N := 6) ?hd (cs := #[.slice none 0 0]) (t := 29) ?hr ?_; (case hd => rfl); (case hg => rfl); (case hr => first | (go_simp; done) | (go_simp; rfl)); intro gb829 hg w52 hbox hb; have BK829 := Aside0.mk (hbox); have GW829 := Aside0.mk ((by rw [hg]; exact (below_size (bs1 HB GE828)) : w.heap.size ≤ gb829)); have GE829 := Aside0.mk ((by rw [hg]; exact (below_size (bs1 HB GE828)) : w.heap.size ≤ gb829)); replace HB := Aside0.mk (below_step (bs1 HB GE828) hb); have NB828_829 := Aside0.mk ((bn BK828 hg : gb828 ≠ gb829)); have NB829_828 := Aside0.mk ((bm BK828 hg : gb829 ≠ gb828)); replace BK828 := nb BK828 hb; clear hb hbox hg; have hnb53 := NB828_829.out; have hnc53 := NB829_828.out; have hcz54_0 := cz1 BK828; have hfz54_0 := fz1 BK828) | ((with_reducible refine gate_callee (f := 70) rfl ?_); refine gL (some 16) rfl rfl Try.func70 (by kernel_rfl) rfl #[.agg #[.slice A0_0 l0_0.length c0_0], .int .i64 a1, .int .i64 a2] rfl ?_; (with_reducible refine (impl_isRange.calls k _ _ l0_0 a1 a2 false _ ?side1 ?side2 A4.out).mono ?_); (case side1 => exact cb HR0_0 HB); (case side2 => exact HC0_0.out); rintro e w55 ⟨rfl, hb⟩; refine ⟨_, rfl, ?_⟩; replace BK828 := nb BK828 hb; replace BK829 := nb BK829 hb; replace HB := Aside0.mk (below_step (bs2 HB GE828 GE829) hb); (try clear hb); (try clear hb2); (try clear hk); (try clear hi); have hcz56_0 := cz1 BK829; have hfz56_0 := fz1 BK829))
  refine bodyPost_ret (results_ctt rfl _ _ gb829 29 #[.slice none 0 0] (0, 0) _ rfl (by (with_reducible repeat (first | refine blk_drewN ?_ _ | refine blk_drew ?_ | refine blk_alloc ?_ _)); refine blk_put (cs := #[.slice none 0 0]) ?_ 0 _ rfl; (with_reducible repeat (first | refine blk_drewN ?_ _ | refine blk_drew ?_ | refine blk_alloc ?_ _)); exact BK829.out) Try.underlying29 rfl (by kernel_rfl)) rfl ?_
  exact ⟨_, _, by first | rfl | (simp [errW_none, errW_some] <;> rfl) | (simp [*, errW_none, errW_some] <;> rfl), by first | exact Kd.R_nil _ _ _ _ _ | exact Kd.N_nil _ _ _ _ _ | exact Kd.V_nil _ _ _ _ _ | exact Kd.Q_nil _ _ _ _ _ | exact Kd.S_nil _ _ _ _ _, by first | exact Kd.R_nil _ _ _ _ _ | exact Kd.N_nil _ _ _ _ _ | exact Kd.V_nil _ _ _ _ _ | exact Kd.Q_nil _ _ _ _ _ | exact Kd.S_nil _ _ _ _ _, bs2 HB GE828 GE829⟩

/-! ### laws_FnExactPunchMap: function 11 -/
mutual
def laws_FnExactPunchMap.j0 : Nat → Int → Int → List (S61) → Bool → List (S61) → Bool → Bool → List (S45) → List (S48) → List (S48) → List (S48) → Option (Bool)
 | 0, _, _, _, _, _, _, _, _, _, _, _ => none
 | k + 1, x1, x2, x9, x10, x13, x14, x59, x848000, x860000, x864000, x872000 => if x59 = true then (some false) else ((laws_toFileMap.f k x848000).bind fun t874 => ((laws_eqFileMap.f k x864000 t874).bind fun t877 => (if t877 = true then ((laws_markFileMap.f k x864000 1).bind fun bt878 => (if bt878.1 < 0 then (laws_FnExactPunchMap.j1 k x1 x2 x9 x10 x13 true x848000 x860000 x872000) else ((laws_eqFileMap.f k x872000 x860000).bind fun t880 => (if t880 = true then ((laws_eqExtentS.f k x13 x9).bind fun t881 => (if t881 = true then (laws_FnExactPunchMap.j1 k x1 x2 x9 x10 x13 (x14 != x10) x848000 x860000 x872000) else (laws_FnExactPunchMap.j1 k x1 x2 x9 x10 x13 true x848000 x860000 x872000))) else (laws_FnExactPunchMap.j1 k x1 x2 x9 x10 x13 true x848000 x860000 x872000))))) else (some false))))
def laws_FnExactPunchMap.j1 : Nat → Int → Int → List (S61) → Bool → List (S61) → Bool → List (S45) → List (S48) → List (S48) → Option (Bool)
 | 0, _, _, _, _, _, _, _, _, _ => none
 | k + 1, x1, x2, x9, x10, x13, x86, x848000, x860000, x872000 => if x86 = true then (some false) else ((laws_markFileMap.f k x872000 1).bind fun bt882 => ((laws_markExtentS.f k x13 bt882.1).bind fun bt884 => ((laws_heldFileMap.f k bt882.2 1).bind fun t886 => (if t886 < 0 then (some false) else ((laws_heldExtentS.f k bt884.2 t886).bind fun t887 => (if t887 < 0 then (some false) else (if t887 = bt884.1 then ((laws_toFileMap.f k x848000).bind fun t888 => ((impl_PunchMap.f k t888 x1 x2).bind fun bt891 => ((laws_eqFileMap.f k bt891.1 x860000).bind fun t899 => (if t899 = true then ((laws_eqExtentS.f k bt891.2.1 x9).bind fun t900 => (if t900 = true then (laws_FnExactPunchMap.j2 k bt884.2 bt884.1 (bt891.2.2 != x10) bt882.2) else (laws_FnExactPunchMap.j2 k bt884.2 bt884.1 true bt882.2))) else (laws_FnExactPunchMap.j2 k bt884.2 bt884.1 true bt882.2))))) else (some false))))))))
def laws_FnExactPunchMap.j2 : Nat → List (S61) → Int → Bool → List (S48) → Option (Bool)
 | 0, _, _, _, _ => none
 | k + 1, x13, x16, x129, x872000 => if x129 = true then (some false) else ((laws_heldFileMap.f k x872000 1).bind fun t901 => (if t901 < 0 then (some false) else ((laws_heldExtentS.f k x13 t901).bind fun t902 => (if t902 < 0 then (some false) else (if t902 = x16 then (some true) else (some false))))))
end
def laws_FnExactPunchMap.f (k : Nat) (l0_0 : List (S45)) (a1 : Int) (a2 : Int) : Option (Bool) := (laws_szFileMap.f l0_0 1048576).bind fun t848 => (if t848 < 0 then (some true) else ((laws_toFileMap.f k l0_0).bind fun t849 => ((spec_PunchMap.f k t849 a1 a2).bind fun bt852 => ((laws_toFileMap.f k l0_0).bind fun t860 => ((impl_PunchMap.f k t860 a1 a2).bind fun bt864 => ((laws_eqFileMap.f k bt864.1 bt852.1).bind fun t872 => (if t872 = true then ((laws_eqExtentS.f k bt864.2.1 bt852.2.1).bind fun t873 => (if t873 = true then (laws_FnExactPunchMap.j0 k a1 a2 bt852.2.1 bt852.2.2 bt864.2.1 bt864.2.2 (bt864.2.2 != bt852.2.2) l0_0 bt852.1 t860 bt864.1) else (laws_FnExactPunchMap.j0 k a1 a2 bt852.2.1 bt852.2.2 bt864.2.1 bt864.2.2 true l0_0 bt852.1 t860 bt864.1))) else (laws_FnExactPunchMap.j0 k a1 a2 bt852.2.1 bt852.2.2 bt864.2.1 bt864.2.2 true l0_0 bt852.1 t860 bt864.1))))))))
theorem laws_FnExactPunchMap.mono_l : ∀ k, (∀ y0 y1 y2 y3 y4 y5 y6 y7 y8 y9 y10, LeO (laws_FnExactPunchMap.j0 k y0 y1 y2 y3 y4 y5 y6 y7 y8 y9 y10) (laws_FnExactPunchMap.j0 (k + 1) y0 y1 y2 y3 y4 y5 y6 y7 y8 y9 y10)) ∧ (∀ y0 y1 y2 y3 y4 y5 y6 y7 y8, LeO (laws_FnExactPunchMap.j1 k y0 y1 y2 y3 y4 y5 y6 y7 y8) (laws_FnExactPunchMap.j1 (k + 1) y0 y1 y2 y3 y4 y5 y6 y7 y8)) ∧ (∀ y0 y1 y2 y3, LeO (laws_FnExactPunchMap.j2 k y0 y1 y2 y3) (laws_FnExactPunchMap.j2 (k + 1) y0 y1 y2 y3))
 | 0 => ⟨fun _ _ _ _ _ _ _ _ _ _ _ r h => by simp [laws_FnExactPunchMap.j0] at h, fun _ _ _ _ _ _ _ _ _ r h => by simp [laws_FnExactPunchMap.j1] at h, fun _ _ _ _ r h => by simp [laws_FnExactPunchMap.j2] at h⟩
 | k + 1 => by
  obtain ⟨ih0, ih1, ih2⟩ := laws_FnExactPunchMap.mono_l k
  refine ⟨?_, ?_, ?_⟩
  ·
   intro y0 y1 y2 y3 y4 y5 y6 y7 y8 y9 y10
   unfold laws_FnExactPunchMap.j0
   repeat' first
   | (with_reducible exact ih0 _ _ _ _ _ _ _ _ _ _ _)
   | (with_reducible exact ih1 _ _ _ _ _ _ _ _ _)
   | (with_reducible exact ih2 _ _ _ _)
   | (with_reducible exact impl_PunchMap.mono _ _ _ _)
   | (with_reducible exact laws_eqExtentS.mono _ _ _)
   | (with_reducible exact laws_eqFileMap.mono _ _ _)
   | (with_reducible exact laws_heldExtentS.mono _ _ _)
   | (with_reducible exact laws_heldFileMap.mono _ _ _)
   | (with_reducible exact laws_markExtentS.mono _ _ _)
   | (with_reducible exact laws_markFileMap.mono _ _ _)
   | (with_reducible exact laws_toFileMap.mono _ _)
   | (with_reducible exact spec_PunchMap.mono _ _ _ _)
   | (with_reducible exact LeO.refl _)
   | (with_reducible exact LeO.none _)
   | (with_reducible refine LeO.ite ?_ ?_)
   | (with_reducible refine LeO.bind ?_ (fun _ => ?_))
   | exact ih0 _ _ _ _ _ _ _ _ _ _ _
   | exact ih1 _ _ _ _ _ _ _ _ _
   | exact ih2 _ _ _ _
   | exact impl_PunchMap.mono _ _ _ _
   | exact laws_eqExtentS.mono _ _ _
   | exact laws_eqFileMap.mono _ _ _
   | exact laws_heldExtentS.mono _ _ _
   | exact laws_heldFileMap.mono _ _ _
   | exact laws_markExtentS.mono _ _ _
   | exact laws_markFileMap.mono _ _ _
   | exact laws_toFileMap.mono _ _
   | exact spec_PunchMap.mono _ _ _ _
   | exact LeO.none _
   | refine LeO.ite ?_ ?_
   | refine LeO.bind ?_ (fun _ => ?_)
  ·
   intro y0 y1 y2 y3 y4 y5 y6 y7 y8
   unfold laws_FnExactPunchMap.j1
   repeat' first
   | (with_reducible exact ih0 _ _ _ _ _ _ _ _ _ _ _)
   | (with_reducible exact ih1 _ _ _ _ _ _ _ _ _)
   | (with_reducible exact ih2 _ _ _ _)
   | (with_reducible exact impl_PunchMap.mono _ _ _ _)
   | (with_reducible exact laws_eqExtentS.mono _ _ _)
   | (with_reducible exact laws_eqFileMap.mono _ _ _)
   | (with_reducible exact laws_heldExtentS.mono _ _ _)
   | (with_reducible exact laws_heldFileMap.mono _ _ _)
   | (with_reducible exact laws_markExtentS.mono _ _ _)
   | (with_reducible exact laws_markFileMap.mono _ _ _)
   | (with_reducible exact laws_toFileMap.mono _ _)
   | (with_reducible exact spec_PunchMap.mono _ _ _ _)
   | (with_reducible exact LeO.refl _)
   | (with_reducible exact LeO.none _)
   | (with_reducible refine LeO.ite ?_ ?_)
   | (with_reducible refine LeO.bind ?_ (fun _ => ?_))
   | exact ih0 _ _ _ _ _ _ _ _ _ _ _
   | exact ih1 _ _ _ _ _ _ _ _ _
   | exact ih2 _ _ _ _
   | exact impl_PunchMap.mono _ _ _ _
   | exact laws_eqExtentS.mono _ _ _
   | exact laws_eqFileMap.mono _ _ _
   | exact laws_heldExtentS.mono _ _ _
   | exact laws_heldFileMap.mono _ _ _
   | exact laws_markExtentS.mono _ _ _
   | exact laws_markFileMap.mono _ _ _
   | exact laws_toFileMap.mono _ _
   | exact spec_PunchMap.mono _ _ _ _
   | exact LeO.none _
   | refine LeO.ite ?_ ?_
   | refine LeO.bind ?_ (fun _ => ?_)
  ·
   intro y0 y1 y2 y3
   unfold laws_FnExactPunchMap.j2
   repeat' first
   | (with_reducible exact ih0 _ _ _ _ _ _ _ _ _ _ _)
   | (with_reducible exact ih1 _ _ _ _ _ _ _ _ _)
   | (with_reducible exact ih2 _ _ _ _)
   | (with_reducible exact impl_PunchMap.mono _ _ _ _)
   | (with_reducible exact laws_eqExtentS.mono _ _ _)
   | (with_reducible exact laws_eqFileMap.mono _ _ _)
   | (with_reducible exact laws_heldExtentS.mono _ _ _)
   | (with_reducible exact laws_heldFileMap.mono _ _ _)
   | (with_reducible exact laws_markExtentS.mono _ _ _)
   | (with_reducible exact laws_markFileMap.mono _ _ _)
   | (with_reducible exact laws_toFileMap.mono _ _)
   | (with_reducible exact spec_PunchMap.mono _ _ _ _)
   | (with_reducible exact LeO.refl _)
   | (with_reducible exact LeO.none _)
   | (with_reducible refine LeO.ite ?_ ?_)
   | (with_reducible refine LeO.bind ?_ (fun _ => ?_))
   | exact ih0 _ _ _ _ _ _ _ _ _ _ _
   | exact ih1 _ _ _ _ _ _ _ _ _
   | exact ih2 _ _ _ _
   | exact impl_PunchMap.mono _ _ _ _
   | exact laws_eqExtentS.mono _ _ _
   | exact laws_eqFileMap.mono _ _ _
   | exact laws_heldExtentS.mono _ _ _
   | exact laws_heldFileMap.mono _ _ _
   | exact laws_markExtentS.mono _ _ _
   | exact laws_markFileMap.mono _ _ _
   | exact laws_toFileMap.mono _ _
   | exact spec_PunchMap.mono _ _ _ _
   | exact LeO.none _
   | refine LeO.ite ?_ ?_
   | refine LeO.bind ?_ (fun _ => ?_)
theorem laws_FnExactPunchMap.mono : ∀ a0 a1 a2 k, LeO (laws_FnExactPunchMap.f k a0 a1 a2) (laws_FnExactPunchMap.f (k + 1) a0 a1 a2) := by
 intro a0 a1 a2 k
 obtain ⟨ih0, ih1, ih2⟩ := laws_FnExactPunchMap.mono_l k
 unfold laws_FnExactPunchMap.f
 repeat' first
   | (with_reducible exact ih0 _ _ _ _ _ _ _ _ _ _ _)
   | (with_reducible exact ih1 _ _ _ _ _ _ _ _ _)
   | (with_reducible exact ih2 _ _ _ _)
   | (with_reducible exact impl_PunchMap.mono _ _ _ _)
   | (with_reducible exact laws_eqExtentS.mono _ _ _)
   | (with_reducible exact laws_eqFileMap.mono _ _ _)
   | (with_reducible exact laws_heldExtentS.mono _ _ _)
   | (with_reducible exact laws_heldFileMap.mono _ _ _)
   | (with_reducible exact laws_markExtentS.mono _ _ _)
   | (with_reducible exact laws_markFileMap.mono _ _ _)
   | (with_reducible exact laws_toFileMap.mono _ _)
   | (with_reducible exact spec_PunchMap.mono _ _ _ _)
   | (with_reducible exact LeO.refl _)
   | (with_reducible exact LeO.none _)
   | (with_reducible refine LeO.ite ?_ ?_)
   | (with_reducible refine LeO.bind ?_ (fun _ => ?_))
   | exact ih0 _ _ _ _ _ _ _ _ _ _ _
   | exact ih1 _ _ _ _ _ _ _ _ _
   | exact ih2 _ _ _ _
   | exact impl_PunchMap.mono _ _ _ _
   | exact laws_eqExtentS.mono _ _ _
   | exact laws_eqFileMap.mono _ _ _
   | exact laws_heldExtentS.mono _ _ _
   | exact laws_heldFileMap.mono _ _ _
   | exact laws_markExtentS.mono _ _ _
   | exact laws_markFileMap.mono _ _ _
   | exact laws_toFileMap.mono _ _
   | exact spec_PunchMap.mono _ _ _ _
   | exact LeO.none _
   | refine LeO.ite ?_ ?_
   | refine LeO.bind ?_ (fun _ => ?_)
set_option maxHeartbeats 8000000 in
set_option maxRecDepth 100000 in
theorem laws_FnExactPunchMap.calls (k : Nat) (A0_0 : Option Addr) (c0_0 : Nat) (l0_0 : List (S45)) (a1 : Int) (a2 : Int) (r : Bool) (w : World) (hr0_0 : Kd.C k45 w A0_0 l0_0.length l0_0) (hc0_0 : l0_0.length ≤ c0_0) (h : laws_FnExactPunchMap.f k l0_0 a1 a2 = some r) :
  Calls Try.prog 11 #[.agg #[.slice A0_0 l0_0.length c0_0], .int .i64 a1, .int .i64 a2] w fun e w' => e = .returned (.bool r) ∧ Below w.heap.size w w' := by
 have hu24 := Try.underlying24
 have hu29 := Try.underlying29
 have HR0_0 := Aside0.mk hr0_0
 have HC0_0 := Aside0.mk hc0_0
 clear hr0_0 hc0_0
 have HB := Aside0.mk (Below.refl w.heap.size w)
 have H : ((laws_szFileMap.f l0_0 1048576).bind fun t848 => (if t848 < 0 then (some true) else ((laws_toFileMap.f k l0_0).bind fun t849 => ((spec_PunchMap.f k t849 a1 a2).bind fun bt852 => ((laws_toFileMap.f k l0_0).bind fun t860 => ((impl_PunchMap.f k t860 a1 a2).bind fun bt864 => ((laws_eqFileMap.f k bt864.1 bt852.1).bind fun t872 => (if t872 = true then ((laws_eqExtentS.f k bt864.2.1 bt852.2.1).bind fun t873 => (if t873 = true then (laws_FnExactPunchMap.j0 k a1 a2 bt852.2.1 bt852.2.2 bt864.2.1 bt864.2.2 (bt864.2.2 != bt852.2.2) l0_0 bt852.1 t860 bt864.1) else (laws_FnExactPunchMap.j0 k a1 a2 bt852.2.1 bt852.2.2 bt864.2.1 bt864.2.2 true l0_0 bt852.1 t860 bt864.1))) else (laws_FnExactPunchMap.j0 k a1 a2 bt852.2.1 bt852.2.2 bt864.2.1 bt864.2.2 true l0_0 bt852.1 t860 bt864.1))))))))) = some r := h
 clear h
 replace H := Option.bind_eq_some_iff.mp H
 obtain ⟨t848, A40, H⟩ := H
 replace H : (if t848 < 0 then (some true) else ((laws_toFileMap.f k l0_0).bind fun t849 => ((spec_PunchMap.f k t849 a1 a2).bind fun bt852 => ((laws_toFileMap.f k l0_0).bind fun t860 => ((impl_PunchMap.f k t860 a1 a2).bind fun bt864 => ((laws_eqFileMap.f k bt864.1 bt852.1).bind fun t872 => (if t872 = true then ((laws_eqExtentS.f k bt864.2.1 bt852.2.1).bind fun t873 => (if t873 = true then (laws_FnExactPunchMap.j0 k a1 a2 bt852.2.1 bt852.2.2 bt864.2.1 bt864.2.2 (bt864.2.2 != bt852.2.2) l0_0 bt852.1 t860 bt864.1) else (laws_FnExactPunchMap.j0 k a1 a2 bt852.2.1 bt852.2.2 bt864.2.1 bt864.2.2 true l0_0 bt852.1 t860 bt864.1))) else (laws_FnExactPunchMap.j0 k a1 a2 bt852.2.1 bt852.2.2 bt864.2.1 bt864.2.2 true l0_0 bt852.1 t860 bt864.1)))))))) = some r := H
 have A4 := Aside0.mk A40
 clear A40
 by_cases c5 : t848 < 0
 ·
  rw [if_pos c5] at H
  have c5b0 : decide (t848 < 0) = true := decide_eq_true c5
  clear c5
  obtain rfl := Option.some.inj H
  go_enter Try.func11, Try.ntmps11
  go_wp2_with (first | ((with_reducible refine gate_dst (N := 3) rfl ?_); refine box_event ?hg (N := 3) ?hd (cs := #[.slice A0_0 l0_0.length c0_0]) (t := 24) ?hr ?_; (case hd => rfl); (case hg => rfl); (case hr => first | (go_simp; done) | (go_simp; rfl)); intro gb847 hg w6 hbox hb; have BK847 := Aside0.mk (hbox); have GW847 := Aside0.mk ((by rw [hg]; exact (below_size (bs HB)) : w.heap.size ≤ gb847)); have GE847 := Aside0.mk ((by rw [hg]; exact (below_size (bs HB)) : w.heap.size ≤ gb847)); replace HB := Aside0.mk (below_step (bs HB) hb); clear hb hbox hg; have hcz7_0 := cz1 BK847; have hfz7_0 := fz1 BK847) | ((with_reducible refine gate_callee (f := 14) rfl ?_); refine gL (some 23) rfl rfl Try.func14 (by kernel_rfl) rfl #[.agg #[.slice A0_0 l0_0.length c0_0], .int .i64 1048576] rfl ?_; (with_reducible refine (laws_szFileMap.calls _ _ l0_0 1048576 t848 _ ?side1 ?side2 A4.out).mono ?_); (case side1 => exact cb HR0_0 HB); (case side2 => exact HC0_0.out); rintro e w8 ⟨rfl, hb⟩; refine ⟨_, rfl, ?_⟩; replace BK847 := nb BK847 hb; replace HB := Aside0.mk (below_step (bs1 HB GE847) hb); (try clear hb); (try clear hb2); (try clear hk); (try clear hi)))
  go_ret
  exact ⟨by first | rfl | (simp [errW_none, errW_some] <;> rfl) | (simp [*, errW_none, errW_some] <;> rfl), bs1 HB GE847⟩
 ·
  rw [if_neg c5] at H
  have c5b0 : decide (t848 < 0) = false := decide_eq_false c5
  clear c5
  replace H := Option.bind_eq_some_iff.mp H
  obtain ⟨t849, A90, H⟩ := H
  replace H : ((spec_PunchMap.f k t849 a1 a2).bind fun bt852 => ((laws_toFileMap.f k l0_0).bind fun t860 => ((impl_PunchMap.f k t860 a1 a2).bind fun bt864 => ((laws_eqFileMap.f k bt864.1 bt852.1).bind fun t872 => (if t872 = true then ((laws_eqExtentS.f k bt864.2.1 bt852.2.1).bind fun t873 => (if t873 = true then (laws_FnExactPunchMap.j0 k a1 a2 bt852.2.1 bt852.2.2 bt864.2.1 bt864.2.2 (bt864.2.2 != bt852.2.2) l0_0 bt852.1 t860 bt864.1) else (laws_FnExactPunchMap.j0 k a1 a2 bt852.2.1 bt852.2.2 bt864.2.1 bt864.2.2 true l0_0 bt852.1 t860 bt864.1))) else (laws_FnExactPunchMap.j0 k a1 a2 bt852.2.1 bt852.2.2 bt864.2.1 bt864.2.2 true l0_0 bt852.1 t860 bt864.1)))))) = some r := H
  have A9 := Aside0.mk A90
  clear A90
  replace H := Option.bind_eq_some_iff.mp H
  obtain ⟨⟨t852, t855, t858⟩, A100, H⟩ := H
  replace H : ((laws_toFileMap.f k l0_0).bind fun t860 => ((impl_PunchMap.f k t860 a1 a2).bind fun bt864 => ((laws_eqFileMap.f k bt864.1 t852).bind fun t872 => (if t872 = true then ((laws_eqExtentS.f k bt864.2.1 t855).bind fun t873 => (if t873 = true then (laws_FnExactPunchMap.j0 k a1 a2 t855 t858 bt864.2.1 bt864.2.2 (bt864.2.2 != t858) l0_0 t852 t860 bt864.1) else (laws_FnExactPunchMap.j0 k a1 a2 t855 t858 bt864.2.1 bt864.2.2 true l0_0 t852 t860 bt864.1))) else (laws_FnExactPunchMap.j0 k a1 a2 t855 t858 bt864.2.1 bt864.2.2 true l0_0 t852 t860 bt864.1))))) = some r := H
  have A10 := Aside0.mk A100
  clear A100
  replace H := Option.bind_eq_some_iff.mp H
  obtain ⟨t860, A110, H⟩ := H
  replace H : ((impl_PunchMap.f k t860 a1 a2).bind fun bt864 => ((laws_eqFileMap.f k bt864.1 t852).bind fun t872 => (if t872 = true then ((laws_eqExtentS.f k bt864.2.1 t855).bind fun t873 => (if t873 = true then (laws_FnExactPunchMap.j0 k a1 a2 t855 t858 bt864.2.1 bt864.2.2 (bt864.2.2 != t858) l0_0 t852 t860 bt864.1) else (laws_FnExactPunchMap.j0 k a1 a2 t855 t858 bt864.2.1 bt864.2.2 true l0_0 t852 t860 bt864.1))) else (laws_FnExactPunchMap.j0 k a1 a2 t855 t858 bt864.2.1 bt864.2.2 true l0_0 t852 t860 bt864.1)))) = some r := H
  have A11 := Aside0.mk A110
  clear A110
  replace H := Option.bind_eq_some_iff.mp H
  obtain ⟨⟨t864, t867, t870⟩, A120, H⟩ := H
  replace H : ((laws_eqFileMap.f k t864 t852).bind fun t872 => (if t872 = true then ((laws_eqExtentS.f k t867 t855).bind fun t873 => (if t873 = true then (laws_FnExactPunchMap.j0 k a1 a2 t855 t858 t867 t870 (t870 != t858) l0_0 t852 t860 t864) else (laws_FnExactPunchMap.j0 k a1 a2 t855 t858 t867 t870 true l0_0 t852 t860 t864))) else (laws_FnExactPunchMap.j0 k a1 a2 t855 t858 t867 t870 true l0_0 t852 t860 t864))) = some r := H
  have A12 := Aside0.mk A120
  clear A120
  have HC13 := Aside0.mk H
  clear H
  go_enter Try.func11, Try.ntmps11
  go_upto_region 8 with (first | ((with_reducible refine gate_dst (N := 3) rfl ?_); refine box_event ?hg (N := 3) ?hd (cs := #[.slice A0_0 l0_0.length c0_0]) (t := 24) ?hr ?_; (case hd => rfl); (case hg => rfl); (case hr => first | (go_simp; done) | (go_simp; rfl)); intro gb847 hg w14 hbox hb; have BK847 := Aside0.mk (hbox); have GW847 := Aside0.mk ((by rw [hg]; exact (below_size (bs HB)) : w.heap.size ≤ gb847)); have GE847 := Aside0.mk ((by rw [hg]; exact (below_size (bs HB)) : w.heap.size ≤ gb847)); replace HB := Aside0.mk (below_step (bs HB) hb); clear hb hbox hg; have hcz15_0 := cz1 BK847; have hfz15_0 := fz1 BK847) | ((with_reducible refine gate_callee (f := 14) rfl ?_); refine gL (some 23) rfl rfl Try.func14 (by kernel_rfl) rfl #[.agg #[.slice A0_0 l0_0.length c0_0], .int .i64 1048576] rfl ?_; (with_reducible refine (laws_szFileMap.calls _ _ l0_0 1048576 t848 _ ?side1 ?side2 A4.out).mono ?_); (case side1 => exact cb HR0_0 HB); (case side2 => exact HC0_0.out); rintro e w16 ⟨rfl, hb⟩; refine ⟨_, rfl, ?_⟩; replace BK847 := nb BK847 hb; replace HB := Aside0.mk (below_step (bs1 HB GE847) hb); (try clear hb); (try clear hb2); (try clear hk); (try clear hi); have hcz17_0 := cz1 BK847; have hfz17_0 := fz1 BK847) | ((with_reducible refine gate_callee (f := 16) rfl ?_); refine gL (some 28) rfl rfl Try.func16 (by kernel_rfl) rfl #[.agg #[.slice A0_0 l0_0.length c0_0]] rfl ?_; (with_reducible refine (laws_toFileMap.calls k _ _ l0_0 t849 _ ?side1 ?side2 A9.out).mono ?_); (case side1 => exact cb HR0_0 HB); (case side2 => exact HC0_0.out); rintro e w18 ⟨v850, rfl, ho0, hb⟩; refine ⟨_, rfl, ?_⟩; have HO851 := Aside0.mk (Kd.R_lower ho0 (below_size (bs1 HB GE847))); replace BK847 := nb BK847 hb; replace HB := Aside0.mk (below_step (bs1 HB GE847) hb); (try clear hb); (try clear hb2); (try clear hk); (try clear hi); (try clear ho0); obtain ⟨Ao19, co19, eo19⟩ := Kd.R_slice HO851.out; subst eo19) | ((with_reducible refine gate_callee (f := 39) rfl ?_); refine gL (some 31) rfl rfl Try.func39 (by kernel_rfl) rfl #[.agg #[.slice Ao19 t849.length co19], .int .i64 a1, .int .i64 a2] rfl ?_; (with_reducible refine (spec_PunchMap.calls k _ _ t849 a1 a2 t852 t855 t858 _ ?side1 ?side2 A10.out).mono ?_); (case side1 => exact rc0 HO851); (case side2 => exact (Kd.R_reads' HO851.out).2.1); rintro e w20 ⟨v853, v856, rfl, ho0, ho1, hb⟩; refine ⟨_, rfl, ?_⟩; have HO854 := Aside0.mk (Kd.R_lower (Kd.R_new' ho0 (Kd.R_lt (rr HO851.out))) (below_size (bs1 HB GE847))); replace HO851 := Aside0.mk (Kd.R_elder' (rr HO851.out) (Kd.R_base ho0) hb); have HO857 := Aside0.mk (Kd.R_lower ho1 (below_size (bs1 HB GE847))); replace BK847 := nb BK847 hb; replace HB := Aside0.mk (below_step (bs1 HB GE847) hb); (try clear hb); (try clear hb2); (try clear hk); (try clear hi); (try clear ho0); (try clear ho1)) | ((with_reducible refine gate_dst (N := 8) rfl ?_); refine box_event ?hg (N := 8) ?hd (cs := #[.slice none 0 0]) (t := 29) ?hr ?_; (case hd => rfl); (case hg => rfl); (case hr => first | (go_simp; done) | (go_simp; rfl)); intro gb859 hg w21 hbox hb; replace HO851 := nr HO851 hb; replace HO854 := nr HO854 hb; replace HO857 := nr HO857 hb; have BK859 := Aside0.mk (hbox); have GW859 := Aside0.mk ((by rw [hg]; exact (below_size (bs1 HB GE847)) : w.heap.size ≤ gb859)); have GE859 := Aside0.mk ((by rw [hg]; exact (below_size (bs1 HB GE847)) : w.heap.size ≤ gb859)); replace HB := Aside0.mk (below_step (bs1 HB GE847) hb); have NB847_859 := Aside0.mk ((bn BK847 hg : gb847 ≠ gb859)); have NB859_847 := Aside0.mk ((bm BK847 hg : gb859 ≠ gb847)); replace BK847 := nb BK847 hb; clear hb hbox hg; obtain ⟨Ao22, co22, eo22⟩ := Kd.R_slice HO854.out; subst eo22; have hnb23 := NB859_847.out; have hnc23 := NB847_859.out; have hcz24_0 := cz1 BK859; have hfz24_0 := fz1 BK859; have hcz25_0 := cz1 BK847; have hfz25_0 := fz1 BK847) | ((with_reducible refine gate_callee (f := 16) rfl ?_); refine gL (some 36) rfl rfl Try.func16 (by kernel_rfl) rfl #[.agg #[.slice A0_0 l0_0.length c0_0]] rfl ?_; (with_reducible refine (laws_toFileMap.calls k _ _ l0_0 t860 _ ?side1 ?side2 A11.out).mono ?_); (case side1 => exact Kd.C_below HR0_0.out (bs2 HB GE847 GE859)); (case side2 => exact HC0_0.out); rintro e w26 ⟨v861, rfl, ho0, hb⟩; refine ⟨_, rfl, ?_⟩; replace HO857 := nf HO857 BK859 hb; have HO862 := Aside0.mk (Kd.R_lower (Kd.R_new' (Kd.R_new' ho0 (Kd.R_lt (rf HO851 BK859))) (Kd.R_lt (rf HO854 BK859))) (below_size (bs2 HB GE847 GE859))); replace HO851 := Aside0.mk (Kd.R_elder' (rf HO851 BK859) (Kd.R_base ho0) hb); replace HO854 := Aside0.mk (Kd.R_elder' (rf HO854 BK859) (Kd.R_base ho0) hb); replace BK847 := Aside0.mk (blk_below (bf BK847 NB847_859) hb); replace BK859 := Aside0.mk (blk_below (g := gb859) (o := .cells #[.slice Ao22 t852.length co22] 29 (0, 0)) (by (with_reducible repeat (first | refine blk_drewN ?_ _ | refine blk_drew ?_ | refine blk_alloc ?_ _)); refine blk_put (cs := #[.slice none 0 0]) ?_ 0 _ rfl; (with_reducible repeat (first | refine blk_drewN ?_ _ | refine blk_drew ?_ | refine blk_alloc ?_ _)); exact BK859.out) hb); replace HB := Aside0.mk (below_step (bs2 HB GE847 GE859) hb); (try clear hb); (try clear hb2); (try clear hk); (try clear hi); (try clear ho0)) | ((with_reducible refine gate_dst (N := 11) rfl ?_); refine box_event ?hg (N := 11) ?hd (cs := #[.slice none 0 0]) (t := 29) ?hr ?_; (case hd => rfl); (case hg => rfl); (case hr => first | (go_simp; done) | (go_simp; rfl)); intro gb863 hg w27 hbox hb; replace HO851 := nr HO851 hb; replace HO854 := nr HO854 hb; replace HO857 := nr HO857 hb; replace HO862 := nr HO862 hb; have BK863 := Aside0.mk (hbox); have GW863 := Aside0.mk ((by rw [hg]; exact (below_size (bs2 HB GE847 GE859)) : w.heap.size ≤ gb863)); have GE863 := Aside0.mk ((by rw [hg]; exact (below_size (bs2 HB GE847 GE859)) : w.heap.size ≤ gb863)); replace HB := Aside0.mk (below_step (bs2 HB GE847 GE859) hb); have NB847_863 := Aside0.mk ((bn BK847 hg : gb847 ≠ gb863)); have NB863_847 := Aside0.mk ((bm BK847 hg : gb863 ≠ gb847)); replace BK847 := nb BK847 hb; have NB859_863 := Aside0.mk ((bn BK859 hg : gb859 ≠ gb863)); have NB863_859 := Aside0.mk ((bm BK859 hg : gb863 ≠ gb859)); replace BK859 := nb BK859 hb; clear hb hbox hg; obtain ⟨Ao28, co28, eo28⟩ := Kd.R_slice HO862.out; subst eo28; have hnb29 := NB863_847.out; have hnc29 := NB847_863.out; have hnb30 := NB863_859.out; have hnc30 := NB859_863.out; have hcz31_0 := cz1 BK863; have hfz31_0 := fz1 BK863) | ((with_reducible refine gate_callee (f := 40) rfl ?_); refine gL (some 41) rfl rfl Try.func40 (by kernel_rfl) rfl #[.agg #[.slice Ao28 t860.length co28], .int .i64 a1, .int .i64 a2] rfl ?_; (with_reducible refine (impl_PunchMap.calls k _ _ t860 a1 a2 t864 t867 t870 _ ?side1 ?side2 A12.out).mono ?_); (case side1 => exact rc HO862 BK863); (case side2 => exact (Kd.R_reads' HO862.out).2.1); rintro e w32 ⟨v865, v868, rfl, ho0, ho1, hb⟩; refine ⟨_, rfl, ?_⟩; have HO866 := Aside0.mk (Kd.R_lower (Kd.R_new' (Kd.R_new' (Kd.R_new' ho0 (Kd.R_lt (rf HO851 BK863))) (Kd.R_lt (rf HO854 BK863))) (Kd.R_lt (rf HO862 BK863))) (below_size (bs3 HB GE847 GE859 GE863))); replace HO851 := Aside0.mk (Kd.R_elder' (rf HO851 BK863) (Kd.R_base ho0) hb); replace HO854 := Aside0.mk (Kd.R_elder' (rf HO854 BK863) (Kd.R_base ho0) hb); replace HO862 := Aside0.mk (Kd.R_elder' (rf HO862 BK863) (Kd.R_base ho0) hb); have HO869 := Aside0.mk (Kd.R_lower (Kd.R_new' ho1 (Kd.R_lt (rf HO857 BK863))) (below_size (bs3 HB GE847 GE859 GE863))); replace HO857 := Aside0.mk (Kd.R_elder' (rf HO857 BK863) (Kd.R_base ho1) hb); replace BK847 := Aside0.mk (blk_below (bf BK847 NB847_863) hb); replace BK859 := Aside0.mk (blk_below (bf BK859 NB859_863) hb); replace BK863 := Aside0.mk (blk_below (g := gb863) (o := .cells #[.slice Ao28 t860.length co28] 29 (0, 0)) (by (with_reducible repeat (first | refine blk_drewN ?_ _ | refine blk_drew ?_ | refine blk_alloc ?_ _)); refine blk_put (cs := #[.slice none 0 0]) ?_ 0 _ rfl; (with_reducible repeat (first | refine blk_drewN ?_ _ | refine blk_drew ?_ | refine blk_alloc ?_ _)); exact BK863.out) hb); replace HB := Aside0.mk (below_step (bs3 HB GE847 GE859 GE863) hb); (try clear hb); (try clear hb2); (try clear hk); (try clear hi); (try clear ho0); (try clear ho1)) | ((with_reducible refine gate_dst (N := 12) rfl ?_); refine box_event ?hg (N := 12) ?hd (cs := #[.slice none 0 0]) (t := 29) ?hr ?_; (case hd => rfl); (case hg => rfl); (case hr => first | (go_simp; done) | (go_simp; rfl)); intro gb871 hg w33 hbox hb; replace HO851 := nr HO851 hb; replace HO854 := nr HO854 hb; replace HO857 := nr HO857 hb; replace HO862 := nr HO862 hb; replace HO866 := nr HO866 hb; replace HO869 := nr HO869 hb; have BK871 := Aside0.mk (hbox); have GW871 := Aside0.mk ((by rw [hg]; exact (below_size (bs3 HB GE847 GE859 GE863)) : w.heap.size ≤ gb871)); have GE871 := Aside0.mk ((by rw [hg]; exact (below_size (bs3 HB GE847 GE859 GE863)) : w.heap.size ≤ gb871)); replace HB := Aside0.mk (below_step (bs3 HB GE847 GE859 GE863) hb); have NB847_871 := Aside0.mk ((bn BK847 hg : gb847 ≠ gb871)); have NB871_847 := Aside0.mk ((bm BK847 hg : gb871 ≠ gb847)); replace BK847 := nb BK847 hb; have NB859_871 := Aside0.mk ((bn BK859 hg : gb859 ≠ gb871)); have NB871_859 := Aside0.mk ((bm BK859 hg : gb871 ≠ gb859)); replace BK859 := nb BK859 hb; have NB863_871 := Aside0.mk ((bn BK863 hg : gb863 ≠ gb871)); have NB871_863 := Aside0.mk ((bm BK863 hg : gb871 ≠ gb863)); replace BK863 := nb BK863 hb; clear hb hbox hg; obtain ⟨Ao34, co34, eo34⟩ := Kd.R_slice HO866.out; subst eo34; have hnb35 := NB871_847.out; have hnc35 := NB847_871.out; have hnb36 := NB871_859.out; have hnc36 := NB859_871.out; have hnb37 := NB871_863.out; have hnc37 := NB863_871.out; have hcz38_0 := cz1 BK871; have hfz38_0 := fz1 BK871))
  (try simp only [Act.put, List.setIfInBounds_toArray, List.set_cons_zero, List.set_cons_succ])
  go_cut [59] (fun v59 wc => ∃ (kq : Nat) (x59_12 : Bool), v59 = .bool x59_12 ∧ Aside0 (laws_FnExactPunchMap.j0 kq a1 a2 t855 t858 t867 t870 x59_12 l0_0 t852 t860 t864 = some r) ∧ Aside0 (kq ≤ k) ∧ Aside0 (Kd.R k61 61 wc w.heap.size (fun k_ => some k_ ≠ (v868 : Value).ownBlock) v856 t855) ∧ Aside0 (Kd.R k61 61 wc w.heap.size (fun k_ => some k_ ≠ (v856 : Value).ownBlock) v868 t867) ∧ Aside0 (Kd.R k48 48 wc w.heap.size (fun k_ => some k_ ≠ ((.slice Ao28 t860.length co28) : Value).ownBlock ∧ some k_ ≠ ((.slice Ao34 t864.length co34) : Value).ownBlock) (.slice Ao22 t852.length co22) t852) ∧ Aside0 (Kd.R k48 48 wc w.heap.size (fun k_ => some k_ ≠ ((.slice Ao22 t852.length co22) : Value).ownBlock ∧ some k_ ≠ ((.slice Ao34 t864.length co34) : Value).ownBlock) (.slice Ao28 t860.length co28) t860) ∧ Aside0 (Kd.R k48 48 wc w.heap.size (fun k_ => some k_ ≠ ((.slice Ao22 t852.length co22) : Value).ownBlock ∧ some k_ ≠ ((.slice Ao28 t860.length co28) : Value).ownBlock) (.slice Ao34 t864.length co34) t864) ∧ Aside0 (wc.heap[gb847]? = some (.cells #[(.slice A0_0 l0_0.length c0_0)] 24 (0, 0))) ∧ Aside0 (wc.heap[gb859]? = some (.cells #[(.slice Ao22 t852.length co22)] 29 (0, 0))) ∧ Aside0 (wc.heap[gb863]? = some (.cells #[(.slice Ao28 t860.length co28)] 29 (0, 0))) ∧ Aside0 (wc.heap[gb871]? = some (.cells #[(.slice Ao34 t864.length co34)] 29 (0, 0))) ∧ Aside0 (Below w.heap.size w wc))
  case first =>
   have H := HC13.out
   clear HC13
   replace H := Option.bind_eq_some_iff.mp H
   obtain ⟨t872, A390, H⟩ := H
   replace H : (if t872 = true then ((laws_eqExtentS.f k t867 t855).bind fun t873 => (if t873 = true then (laws_FnExactPunchMap.j0 k a1 a2 t855 t858 t867 t870 (t870 != t858) l0_0 t852 t860 t864) else (laws_FnExactPunchMap.j0 k a1 a2 t855 t858 t867 t870 true l0_0 t852 t860 t864))) else (laws_FnExactPunchMap.j0 k a1 a2 t855 t858 t867 t870 true l0_0 t852 t860 t864)) = some r := H
   have A39 := Aside0.mk A390
   clear A390
   by_cases c40 : t872 = true
   ·
    subst c40
    rw [if_pos rfl] at H
    replace H := Option.bind_eq_some_iff.mp H
    obtain ⟨t873, A410, H⟩ := H
    replace H : (if t873 = true then (laws_FnExactPunchMap.j0 k a1 a2 t855 t858 t867 t870 (t870 != t858) l0_0 t852 t860 t864) else (laws_FnExactPunchMap.j0 k a1 a2 t855 t858 t867 t870 true l0_0 t852 t860 t864)) = some r := H
    have A41 := Aside0.mk A410
    clear A410
    by_cases c42 : t873 = true
    ·
     subst c42
     rw [if_pos rfl] at H
     have H' := Aside0.mk H
     clear H
     have hnb43 := NB871_847.out
     have hnc43 := NB847_871.out
     have hnb44 := NB871_859.out
     have hnc44 := NB859_871.out
     have hnb45 := NB871_863.out
     have hnc45 := NB863_871.out
     have hcz46_0 := cz1 BK871
     have hfz46_0 := fz1 BK871
     have hnb47 := NB859_847.out
     have hnc47 := NB847_859.out
     have hnb48 := NB859_863.out
     have hnc48 := NB863_859.out
     have hcz49_0 := cz1 BK859
     have hfz49_0 := fz1 BK859
     go_wp2_with (first | ((with_reducible refine gate_callee (f := 18) rfl ?_); refine gL (some 47) rfl rfl Try.func18 (by kernel_rfl) rfl #[.agg #[.slice Ao34 t864.length co34], .agg #[.slice Ao22 t852.length co22]] rfl ?_; (with_reducible refine (laws_eqFileMap.calls k _ _ t864 _ _ t852 true _ ?side1 ?side2 ?side3 ?side4 A39.out).mono ?_); (case side1 => exact rc HO866 BK871); (case side2 => exact (Kd.R_reads' HO866.out).2.1); (case side3 => exact rc HO854 BK871); (case side4 => exact (Kd.R_reads' HO854.out).2.1); rintro e w50 ⟨rfl, hb⟩; refine ⟨_, rfl, ?_⟩; replace HO851 := nf HO851 BK871 hb; replace HO854 := nf HO854 BK871 hb; replace HO857 := nf HO857 BK871 hb; replace HO862 := nf HO862 BK871 hb; replace HO866 := nf HO866 BK871 hb; replace HO869 := nf HO869 BK871 hb; replace BK847 := Aside0.mk (blk_below (bf BK847 NB847_871) hb); replace BK859 := Aside0.mk (blk_below (bf BK859 NB859_871) hb); replace BK863 := Aside0.mk (blk_below (bf BK863 NB863_871) hb); replace BK871 := Aside0.mk (blk_below (g := gb871) (o := .cells #[.slice Ao34 t864.length co34] 29 (0, 0)) (by (with_reducible repeat (first | refine blk_drewN ?_ _ | refine blk_drew ?_ | refine blk_alloc ?_ _)); refine blk_put (cs := #[.slice none 0 0]) ?_ 0 _ rfl; (with_reducible repeat (first | refine blk_drewN ?_ _ | refine blk_drew ?_ | refine blk_alloc ?_ _)); exact BK871.out) hb); replace HB := Aside0.mk (below_step (bs4 HB GE847 GE859 GE863 GE871) hb); (try clear hb); (try clear hb2); (try clear hk); (try clear hi); obtain ⟨Ao51, co51, eo51⟩ := Kd.R_slice HO869.out; subst eo51; obtain ⟨Ao52, co52, eo52⟩ := Kd.R_slice HO857.out; subst eo52) | (go_at_call 25; (with_reducible refine (laws_eqExtentS.calls k _ _ t867 _ _ t855 true _ ?side1 ?side2 ?side3 ?side4 A41.out).mono ?_); (case side1 => exact rc0 HO869); (case side2 => exact (Kd.R_reads' HO869.out).2.1); (case side3 => exact rc0 HO857); (case side4 => exact (Kd.R_reads' HO857.out).2.1); rintro e w53 ⟨rfl, hb⟩; replace HO851 := nr HO851 hb; replace HO854 := nr HO854 hb; replace HO857 := nr HO857 hb; replace HO862 := nr HO862 hb; replace HO866 := nr HO866 hb; replace HO869 := nr HO869 hb; replace BK847 := nb BK847 hb; replace BK859 := nb BK859 hb; replace BK863 := nb BK863 hb; replace BK871 := nb BK871 hb; replace HB := Aside0.mk (below_step (bs4 HB GE847 GE859 GE863 GE871) hb); (try clear hb); (try clear hb2); (try clear hk); (try clear hi)))
     go_meet
     case rel => exact ⟨_, ((t870 != t858)), (by first | rfl | (simp; done) | (simp [*]; done)), H', ⟨by first | omega | exact Nat.le_refl _⟩, rm HO857 (fun _ hk => hk.2), rm HO869 (fun _ hk => hk.2), rm HO854 (fun _ hk => ⟨hk.1.2, hk.2⟩), rm HO862 (fun _ hk => ⟨hk.1.2, hk.2⟩), rm HO866 (fun _ hk => ⟨hk.1.2, hk.2⟩), ⟨bk BK847⟩, ⟨bk BK859⟩, ⟨bk BK863⟩, ⟨bk BK871⟩, ⟨bs4 HB GE847 GE859 GE863 GE871⟩⟩
    ·
     replace c42 := Bool.eq_false_iff.mpr c42
     subst c42
     rw [if_neg (show ¬ (false = true) by decide)] at H
     have H' := Aside0.mk H
     clear H
     have hnb54 := NB871_847.out
     have hnc54 := NB847_871.out
     have hnb55 := NB871_859.out
     have hnc55 := NB859_871.out
     have hnb56 := NB871_863.out
     have hnc56 := NB863_871.out
     have hcz57_0 := cz1 BK871
     have hfz57_0 := fz1 BK871
     have hnb58 := NB859_847.out
     have hnc58 := NB847_859.out
     have hnb59 := NB859_863.out
     have hnc59 := NB863_859.out
     have hcz60_0 := cz1 BK859
     have hfz60_0 := fz1 BK859
     go_wp2_with (first | ((with_reducible refine gate_callee (f := 18) rfl ?_); refine gL (some 47) rfl rfl Try.func18 (by kernel_rfl) rfl #[.agg #[.slice Ao34 t864.length co34], .agg #[.slice Ao22 t852.length co22]] rfl ?_; (with_reducible refine (laws_eqFileMap.calls k _ _ t864 _ _ t852 true _ ?side1 ?side2 ?side3 ?side4 A39.out).mono ?_); (case side1 => exact rc HO866 BK871); (case side2 => exact (Kd.R_reads' HO866.out).2.1); (case side3 => exact rc HO854 BK871); (case side4 => exact (Kd.R_reads' HO854.out).2.1); rintro e w61 ⟨rfl, hb⟩; refine ⟨_, rfl, ?_⟩; replace HO851 := nf HO851 BK871 hb; replace HO854 := nf HO854 BK871 hb; replace HO857 := nf HO857 BK871 hb; replace HO862 := nf HO862 BK871 hb; replace HO866 := nf HO866 BK871 hb; replace HO869 := nf HO869 BK871 hb; replace BK847 := Aside0.mk (blk_below (bf BK847 NB847_871) hb); replace BK859 := Aside0.mk (blk_below (bf BK859 NB859_871) hb); replace BK863 := Aside0.mk (blk_below (bf BK863 NB863_871) hb); replace BK871 := Aside0.mk (blk_below (g := gb871) (o := .cells #[.slice Ao34 t864.length co34] 29 (0, 0)) (by (with_reducible repeat (first | refine blk_drewN ?_ _ | refine blk_drew ?_ | refine blk_alloc ?_ _)); refine blk_put (cs := #[.slice none 0 0]) ?_ 0 _ rfl; (with_reducible repeat (first | refine blk_drewN ?_ _ | refine blk_drew ?_ | refine blk_alloc ?_ _)); exact BK871.out) hb); replace HB := Aside0.mk (below_step (bs4 HB GE847 GE859 GE863 GE871) hb); (try clear hb); (try clear hb2); (try clear hk); (try clear hi); obtain ⟨Ao62, co62, eo62⟩ := Kd.R_slice HO869.out; subst eo62; obtain ⟨Ao63, co63, eo63⟩ := Kd.R_slice HO857.out; subst eo63) | (go_at_call 25; (with_reducible refine (laws_eqExtentS.calls k _ _ t867 _ _ t855 false _ ?side1 ?side2 ?side3 ?side4 A41.out).mono ?_); (case side1 => exact rc0 HO869); (case side2 => exact (Kd.R_reads' HO869.out).2.1); (case side3 => exact rc0 HO857); (case side4 => exact (Kd.R_reads' HO857.out).2.1); rintro e w64 ⟨rfl, hb⟩; replace HO851 := nr HO851 hb; replace HO854 := nr HO854 hb; replace HO857 := nr HO857 hb; replace HO862 := nr HO862 hb; replace HO866 := nr HO866 hb; replace HO869 := nr HO869 hb; replace BK847 := nb BK847 hb; replace BK859 := nb BK859 hb; replace BK863 := nb BK863 hb; replace BK871 := nb BK871 hb; replace HB := Aside0.mk (below_step (bs4 HB GE847 GE859 GE863 GE871) hb); (try clear hb); (try clear hb2); (try clear hk); (try clear hi)))
     go_meet
     case rel => exact ⟨_, (true), (by first | rfl | (simp; done) | (simp [*]; done)), H', ⟨by first | omega | exact Nat.le_refl _⟩, rm HO857 (fun _ hk => hk.2), rm HO869 (fun _ hk => hk.2), rm HO854 (fun _ hk => ⟨hk.1.2, hk.2⟩), rm HO862 (fun _ hk => ⟨hk.1.2, hk.2⟩), rm HO866 (fun _ hk => ⟨hk.1.2, hk.2⟩), ⟨bk BK847⟩, ⟨bk BK859⟩, ⟨bk BK863⟩, ⟨bk BK871⟩, ⟨bs4 HB GE847 GE859 GE863 GE871⟩⟩
   ·
    replace c40 := Bool.eq_false_iff.mpr c40
    subst c40
    rw [if_neg (show ¬ (false = true) by decide)] at H
    have H' := Aside0.mk H
    clear H
    have hnb65 := NB871_847.out
    have hnc65 := NB847_871.out
    have hnb66 := NB871_859.out
    have hnc66 := NB859_871.out
    have hnb67 := NB871_863.out
    have hnc67 := NB863_871.out
    have hcz68_0 := cz1 BK871
    have hfz68_0 := fz1 BK871
    have hnb69 := NB859_847.out
    have hnc69 := NB847_859.out
    have hnb70 := NB859_863.out
    have hnc70 := NB863_859.out
    have hcz71_0 := cz1 BK859
    have hfz71_0 := fz1 BK859
    go_wp2_with (first | ((with_reducible refine gate_callee (f := 18) rfl ?_); refine gL (some 47) rfl rfl Try.func18 (by kernel_rfl) rfl #[.agg #[.slice Ao34 t864.length co34], .agg #[.slice Ao22 t852.length co22]] rfl ?_; (with_reducible refine (laws_eqFileMap.calls k _ _ t864 _ _ t852 false _ ?side1 ?side2 ?side3 ?side4 A39.out).mono ?_); (case side1 => exact rc HO866 BK871); (case side2 => exact (Kd.R_reads' HO866.out).2.1); (case side3 => exact rc HO854 BK871); (case side4 => exact (Kd.R_reads' HO854.out).2.1); rintro e w72 ⟨rfl, hb⟩; refine ⟨_, rfl, ?_⟩; replace HO851 := nf HO851 BK871 hb; replace HO854 := nf HO854 BK871 hb; replace HO857 := nf HO857 BK871 hb; replace HO862 := nf HO862 BK871 hb; replace HO866 := nf HO866 BK871 hb; replace HO869 := nf HO869 BK871 hb; replace BK847 := Aside0.mk (blk_below (bf BK847 NB847_871) hb); replace BK859 := Aside0.mk (blk_below (bf BK859 NB859_871) hb); replace BK863 := Aside0.mk (blk_below (bf BK863 NB863_871) hb); replace BK871 := Aside0.mk (blk_below (g := gb871) (o := .cells #[.slice Ao34 t864.length co34] 29 (0, 0)) (by (with_reducible repeat (first | refine blk_drewN ?_ _ | refine blk_drew ?_ | refine blk_alloc ?_ _)); refine blk_put (cs := #[.slice none 0 0]) ?_ 0 _ rfl; (with_reducible repeat (first | refine blk_drewN ?_ _ | refine blk_drew ?_ | refine blk_alloc ?_ _)); exact BK871.out) hb); replace HB := Aside0.mk (below_step (bs4 HB GE847 GE859 GE863 GE871) hb); (try clear hb); (try clear hb2); (try clear hk); (try clear hi)))
    go_meet
    case rel => exact ⟨_, (true), (by first | rfl | (simp; done) | (simp [*]; done)), H', ⟨by first | omega | exact Nat.le_refl _⟩, rm HO857 (fun _ hk => hk.2), rm HO869 (fun _ hk => hk.2), rm HO854 (fun _ hk => ⟨hk.1.2, hk.2⟩), rm HO862 (fun _ hk => ⟨hk.1.2, hk.2⟩), rm HO866 (fun _ hk => ⟨hk.1.2, hk.2⟩), ⟨bk BK847⟩, ⟨bk BK859⟩, ⟨bk BK863⟩, ⟨bk BK871⟩, ⟨bs4 HB GE847 GE859 GE863 GE871⟩⟩
  case rest =>
   clear HC13
   try clear c1
   try clear c2
   try clear p2
   try clear c3
   try clear c4
   try clear c5
   try clear c5b0
   try clear c6
   try clear c7
   try clear c11
   try clear c14
   try clear c16
   try clear c18
   try clear c23
   try clear c29
   try clear c30
   try clear c35
   try clear c36
   try clear c37
   try clear c39
   try clear c40
   try clear c42
   try clear c43
   try clear c44
   try clear c45
   try clear c47
   try clear c48
   try clear c54
   try clear c55
   try clear c56
   try clear c58
   try clear c59
   try clear c65
   try clear c66
   try clear c67
   try clear c69
   try clear c70
   try clear hcz15_0
   try clear hcz17_0
   try clear hcz24_0
   try clear hcz25_0
   try clear hcz31_0
   try clear hcz38_0
   try clear hcz46_0
   try clear hcz49_0
   try clear hcz57_0
   try clear hcz60_0
   try clear hcz68_0
   try clear hcz71_0
   try clear hcz7_0
   try clear hfz15_0
   try clear hfz17_0
   try clear hfz24_0
   try clear hfz25_0
   try clear hfz31_0
   try clear hfz38_0
   try clear hfz46_0
   try clear hfz49_0
   try clear hfz57_0
   try clear hfz60_0
   try clear hfz68_0
   try clear hfz71_0
   try clear hfz7_0
   obtain ⟨kq, x59_12, rfl, HA, HJ12, HO_9, HO_13, HO_860000, HO_864000, HO_872000, BK847, BK859, BK863, BK871, HB⟩ := hcut
   cases kq with
   | zero => exact absurd HA.out (by simp [laws_FnExactPunchMap.j0])
   | succ kj12 =>
    have H := HA.out
    clear HA
    simp only [laws_FnExactPunchMap.j0] at H
    by_cases c73 : x59_12 = true
    ·
     subst c73
     rw [if_pos rfl] at H
     obtain rfl := Option.some.inj H
     go_wp2
     go_ret
     exact ⟨by first | rfl | (simp [errW_none, errW_some] <;> rfl) | (simp [*, errW_none, errW_some] <;> rfl), bs4 HB GE847 GE859 GE863 GE871⟩
    ·
     replace c73 := Bool.eq_false_iff.mpr c73
     subst c73
     rw [if_neg (show ¬ (false = true) by decide)] at H
     replace H := Option.bind_eq_some_iff.mp H
     obtain ⟨t874, A740, H⟩ := H
     replace H : ((laws_eqFileMap.f kj12 t860 t874).bind fun t877 => (if t877 = true then ((laws_markFileMap.f kj12 t860 1).bind fun bt878 => (if bt878.1 < 0 then (laws_FnExactPunchMap.j1 kj12 a1 a2 t855 t858 t867 true l0_0 t852 t864) else ((laws_eqFileMap.f kj12 t864 t852).bind fun t880 => (if t880 = true then ((laws_eqExtentS.f kj12 t867 t855).bind fun t881 => (if t881 = true then (laws_FnExactPunchMap.j1 kj12 a1 a2 t855 t858 t867 (t870 != t858) l0_0 t852 t864) else (laws_FnExactPunchMap.j1 kj12 a1 a2 t855 t858 t867 true l0_0 t852 t864))) else (laws_FnExactPunchMap.j1 kj12 a1 a2 t855 t858 t867 true l0_0 t852 t864))))) else (some false))) = some r := H
     have A74 := Aside0.mk A740
     clear A740
     replace H := Option.bind_eq_some_iff.mp H
     obtain ⟨t877, A750, H⟩ := H
     replace H : (if t877 = true then ((laws_markFileMap.f kj12 t860 1).bind fun bt878 => (if bt878.1 < 0 then (laws_FnExactPunchMap.j1 kj12 a1 a2 t855 t858 t867 true l0_0 t852 t864) else ((laws_eqFileMap.f kj12 t864 t852).bind fun t880 => (if t880 = true then ((laws_eqExtentS.f kj12 t867 t855).bind fun t881 => (if t881 = true then (laws_FnExactPunchMap.j1 kj12 a1 a2 t855 t858 t867 (t870 != t858) l0_0 t852 t864) else (laws_FnExactPunchMap.j1 kj12 a1 a2 t855 t858 t867 true l0_0 t852 t864))) else (laws_FnExactPunchMap.j1 kj12 a1 a2 t855 t858 t867 true l0_0 t852 t864))))) else (some false)) = some r := H
     have A75 := Aside0.mk A750
     clear A750
     by_cases c76 : t877 = true
     ·
      subst c76
      rw [if_pos rfl] at H
      replace H := Option.bind_eq_some_iff.mp H
      obtain ⟨⟨t878, t879⟩, A770, H⟩ := H
      replace H : (if t878 < 0 then (laws_FnExactPunchMap.j1 kj12 a1 a2 t855 t858 t867 true l0_0 t852 t864) else ((laws_eqFileMap.f kj12 t864 t852).bind fun t880 => (if t880 = true then ((laws_eqExtentS.f kj12 t867 t855).bind fun t881 => (if t881 = true then (laws_FnExactPunchMap.j1 kj12 a1 a2 t855 t858 t867 (t870 != t858) l0_0 t852 t864) else (laws_FnExactPunchMap.j1 kj12 a1 a2 t855 t858 t867 true l0_0 t852 t864))) else (laws_FnExactPunchMap.j1 kj12 a1 a2 t855 t858 t867 true l0_0 t852 t864)))) = some r := H
      have A77 := Aside0.mk A770
      clear A770
      have HC78 := Aside0.mk H
      clear H
      try go_wp2
      have n0_ := Aside0.mk (Kd.R_drew HO_9.out)
      have n1_ := Aside0.mk (Kd.R_drew HO_13.out)
      have n2_ := Aside0.mk (Kd.R_drew HO_860000.out)
      have n3_ := Aside0.mk (Kd.R_drew HO_864000.out)
      have n4_ := Aside0.mk (Kd.R_drew HO_872000.out)
      have n5_ := Aside0.mk (blk_drew BK847.out)
      have n6_ := Aside0.mk (blk_drew BK859.out)
      have n7_ := Aside0.mk (blk_drew BK863.out)
      have n8_ := Aside0.mk (blk_drew BK871.out)
      have n9_ := Aside0.mk (below_drew1 HB.out)
      clear HO_9
      clear HO_13
      clear HO_860000
      clear HO_864000
      clear HO_872000
      clear BK847
      clear BK859
      clear BK863
      clear BK871
      clear HB
      have HO_9 := n0_
      have HO_13 := n1_
      have HO_860000 := n2_
      have HO_864000 := n3_
      have HO_872000 := n4_
      have BK847 := n5_
      have BK859 := n6_
      have BK863 := n7_
      have BK871 := n8_
      have HB := n9_
      clear n0_ n1_ n2_ n3_ n4_ n5_ n6_ n7_ n8_ n9_
      refine start_ (n := 5) (S := fun w' => w'.cell? ⟨gb863, 0, none⟩ = some (.slice Ao28 t860.length co28) ∧ w'.cell? ⟨gb847, 0, none⟩ = some (.slice A0_0 l0_0.length c0_0)) (ds := []) #[false, false, false, false, false] (by kernel_rfl) rfl rfl ⟨(blk_cell BK863.out 0).trans rfl, (blk_cell BK847.out 0).trans rfl⟩ (fun hHeld => ?_)
      generalize wc.drew = w79 at HO_9 HO_13 HO_860000 HO_864000 HO_872000 BK847 BK859 BK863 BK871 HB hHeld ⊢
      refine take_ (i := 0) (N := some 60) (v := ?_) (a' := ?_) #[true, false, false, false, false] rfl rfl (by kernel_rfl) (fun _ _ _ h => h) (Or.inl ⟨by rfl, ?_⟩) hHeld ?_ ?_
      rotate_left
      ·
       rintro w' ⟨s0, s1⟩
       go_simp
       with_reducible rfl
      rotate_left
      ·
       simp only [Act.put, List.setIfInBounds_toArray, List.set_cons_zero, List.set_cons_succ, i64_w, i32_w]
       rfl
      refine take_ (i := 1) (N := some 61) (v := ?_) (a' := ?_) #[true, true, false, false, false] rfl rfl (by kernel_rfl) (fun _ _ _ h => h) (Or.inl ⟨by rfl, ?_⟩) hHeld ?_ ?_
      rotate_left
      ·
       rintro w' ⟨s0, s1⟩
       go_simp
       with_reducible rfl
      rotate_left
      ·
       simp only [Act.put, List.setIfInBounds_toArray, List.set_cons_zero, List.set_cons_succ, i64_w, i32_w]
       rfl
      refine one_ (i := 2) (N := some 62) #[true, true, true, false, false] rfl rfl (by kernel_rfl) (by decide) (fun K hK => ?_)
      refine goes_ Try.func16 (by kernel_rfl) rfl #[.agg #[.slice A0_0 l0_0.length c0_0]] (by rfl) rfl rfl (by (try simp only [List.map_toArray, List.map_cons, List.map_nil]); first | done | rfl | (simp only [List.length_drop, List.length_take]; rfl)) ?_
      with_reducible refine (laws_toFileMap.calls kj12 _ _ l0_0 t874 _ ?side1 ?side2 A74.out).mono ?_
      (case side1 => exact cb HR0_0 HB)
      (case side2 => exact HC0_0.out)
      rintro e w80 ⟨v875, rfl, ho0, hb⟩
      refine ⟨_, rfl, ?_⟩
      have n0_ := Aside0.mk (Kd.R_below (rr HO_9.out) hb)
      have n1_ := Aside0.mk (Kd.R_below (rr HO_13.out) hb)
      have n2_ := Aside0.mk (Kd.R_elder' (rr HO_860000.out) (Kd.R_base ho0) hb)
      have n3_ := Aside0.mk (Kd.R_elder' (rr HO_864000.out) (Kd.R_base ho0) hb)
      have n4_ := Aside0.mk (Kd.R_elder' (rr HO_872000.out) (Kd.R_base ho0) hb)
      have n5_ := Aside0.mk (Kd.R_lower (Kd.R_new' (Kd.R_new' (Kd.R_new' ho0 (Kd.R_lt (rr HO_860000.out))) (Kd.R_lt (rr HO_864000.out))) (Kd.R_lt (rr HO_872000.out))) (below_size (bs4 HB GE847 GE859 GE863 GE871)))
      have n6_ := Aside0.mk (bb BK847 hb)
      have n7_ := Aside0.mk (bb BK859 hb)
      have n8_ := Aside0.mk (bb BK863 hb)
      have n9_ := Aside0.mk (bb BK871 hb)
      have n10_ := Aside0.mk (below_step (bs4 HB GE847 GE859 GE863 GE871) hb)
      clear HO_9
      clear HO_13
      clear HO_860000
      clear HO_864000
      clear HO_872000
      clear BK847
      clear BK859
      clear BK863
      clear BK871
      clear HB
      have HO_9 := n0_
      have HO_13 := n1_
      have HO_860000 := n2_
      have HO_864000 := n3_
      have HO_872000 := n4_
      have HO876 := n5_
      have BK847 := n6_
      have BK859 := n7_
      have BK863 := n8_
      have BK871 := n9_
      have HB := n10_
      clear n0_ n1_ n2_ n3_ n4_ n5_ n6_ n7_ n8_ n9_ n10_
      (try clear hb)
      (try clear hb2)
      (try clear hk)
      (try clear hi)
      (try clear ho0)
      obtain ⟨Ao81, co81, eo81⟩ := Kd.R_slice HO876.out
      (first | subst eo81 | (injection eo81 with f1_ f2_ f3_; have f4_ := f1_.symm; have f5_ := f3_.symm; clear f1_ f2_ f3_; subst f4_; subst f5_))
      refine hK.out _ _ ⟨(blk_cell BK863.out 0).trans rfl, (blk_cell BK847.out 0).trans rfl⟩ (fun hHeld => ?_)
      clear hK K
      refine norm_ (a' := ?_) ?_ ?_
      rotate_left
      ·
       show Act.put _ (some 62) _ = _
       simp only [Act.put, List.setIfInBounds_toArray, List.set_cons_zero, List.set_cons_succ, i64_w, i32_w]
       rfl
      refine one_ (i := 3) (N := some 63) #[true, true, true, true, false] rfl rfl (by kernel_rfl) (by decide) (fun K hK => ?_)
      refine goes_ Try.func18 (by kernel_rfl) rfl #[.agg #[.slice Ao28 t860.length co28], .agg #[.slice Ao81 t874.length co81]] (by rfl) rfl rfl (by (try simp only [List.map_toArray, List.map_cons, List.map_nil]); first | done | rfl | (simp only [List.length_drop, List.length_take]; rfl)) ?_
      with_reducible refine (laws_eqFileMap.calls kj12 _ _ t860 _ _ t874 true _ ?side1 ?side2 ?side3 ?side4 A75.out).mono ?_
      (case side1 => exact rc0 HO_864000)
      (case side2 => exact (Kd.R_reads' HO_864000.out).2.1)
      (case side3 => exact rc0 HO876)
      (case side4 => exact (Kd.R_reads' HO876.out).2.1)
      rintro e w82 ⟨rfl, hb⟩
      refine ⟨_, rfl, ?_⟩
      have n0_ := Aside0.mk (Kd.R_below (rr HO_9.out) hb)
      have n1_ := Aside0.mk (Kd.R_below (rr HO_13.out) hb)
      have n2_ := Aside0.mk (Kd.R_below (rr HO_860000.out) hb)
      have n3_ := Aside0.mk (Kd.R_below (rr HO_864000.out) hb)
      have n4_ := Aside0.mk (Kd.R_below (rr HO_872000.out) hb)
      have n5_ := Aside0.mk (Kd.R_below (rr HO876.out) hb)
      have n6_ := Aside0.mk (bb BK847 hb)
      have n7_ := Aside0.mk (bb BK859 hb)
      have n8_ := Aside0.mk (bb BK863 hb)
      have n9_ := Aside0.mk (bb BK871 hb)
      have n10_ := Aside0.mk (below_step (bs4 HB GE847 GE859 GE863 GE871) hb)
      clear HO_9
      clear HO_13
      clear HO_860000
      clear HO_864000
      clear HO_872000
      clear HO876
      clear BK847
      clear BK859
      clear BK863
      clear BK871
      clear HB
      have HO_9 := n0_
      have HO_13 := n1_
      have HO_860000 := n2_
      have HO_864000 := n3_
      have HO_872000 := n4_
      have HO876 := n5_
      have BK847 := n6_
      have BK859 := n7_
      have BK863 := n8_
      have BK871 := n9_
      have HB := n10_
      clear n0_ n1_ n2_ n3_ n4_ n5_ n6_ n7_ n8_ n9_ n10_
      (try clear hb)
      (try clear hb2)
      (try clear hk)
      (try clear hi)
      refine hK.out _ _ ⟨(blk_cell BK863.out 0).trans rfl, (blk_cell BK847.out 0).trans rfl⟩ (fun hHeld => ?_)
      clear hK K
      refine norm_ (a' := ?_) ?_ ?_
      rotate_left
      ·
       show Act.put _ (some 63) _ = _
       simp only [Act.put, List.setIfInBounds_toArray, List.set_cons_zero, List.set_cons_succ, i64_w, i32_w]
       rfl
      refine pure_ (i := 4) (N := some 64) (v := ?_) (a' := ?_) #[true, true, true, true, true] rfl rfl (by kernel_rfl) (fun _ _ _ h => h) (Or.inl ⟨by rfl, ?_⟩) ?_ ?_
      rotate_left
      ·
       intro w'
       go_simp
       with_reducible rfl
      rotate_left
      ·
       simp only [Act.put, List.setIfInBounds_toArray, List.set_cons_zero, List.set_cons_succ, i64_w, i32_w]
       rfl
      refine done_ (by kernel_rfl) ?_
      have hnb83 := NB863_847.out
      have hnc83 := NB847_863.out
      have hnb84 := NB863_859.out
      have hnc84 := NB859_863.out
      have hnb85 := NB863_871.out
      have hnc85 := NB871_863.out
      have hcz86_0 := cz1 BK863
      have hfz86_0 := fz1 BK863
      go_upto_region 14 with (first | ((with_reducible refine gate_callee (f := 26) rfl ?_); refine gL (some 67) rfl rfl Try.func26 (by kernel_rfl) rfl #[.agg #[.slice Ao28 t860.length co28], .int .i64 1] rfl ?_; (with_reducible refine (laws_markFileMap.calls kj12 (fun k_ => some k_ = (.slice Ao28 t860.length co28 : Value).ownBlock) (.slice Ao28 t860.length co28) t860 1 t878 t879 w _ ?side1 ?side2 A77.out).mono ?_); (case side1 => repeat (first | (with_reducible first | exact HB.out | apply below_alloc | apply pw_below_drewN | apply below_drew1 | refine below_set ?_ GE847.out | refine below_set ?_ GE859.out | refine below_set ?_ GE863.out | refine below_set ?_ GE871.out) | exact HB.out)); (case side2 => exact Kd.R_tight rfl HO_864000.out); rintro e w87 ⟨rfl, hy0, hb, hkp⟩; refine ⟨_, rfl, ?_⟩; replace HO_9 := Aside0.mk (Kd.R_mono (ok' := fun k_ => some k_ ≠ (v868 : Value).ownBlock) (Kd.R_keptB ((Kd.R_apart' HO_9.out (Kd.R_typed HO_864000.out) (by decide))) hkp (fun k_ hk_ hs_ => (hk_.2) hs_)) (fun k_ hk_ => hk_.1.1)); replace HO_13 := Aside0.mk (Kd.R_mono (ok' := fun k_ => some k_ ≠ (v856 : Value).ownBlock) (Kd.R_keptB ((Kd.R_apart' HO_13.out (Kd.R_typed HO_864000.out) (by decide))) hkp (fun k_ hk_ hs_ => (hk_.2) hs_)) (fun k_ hk_ => hk_.1.1)); replace HO_860000 := Aside0.mk (Kd.R_mono (ok' := fun k_ => some k_ ≠ (.slice Ao28 t860.length co28 : Value).ownBlock ∧ some k_ ≠ (.slice Ao34 t864.length co34 : Value).ownBlock ∧ some k_ ≠ (.slice Ao81 t874.length co81 : Value).ownBlock) (Kd.R_keptB (HO_860000.out) hkp (fun k_ hk_ hs_ => (hk_.1.1) hs_)) (fun k_ hk_ => ⟨hk_.1.1.1, hk_.1.1.2, hk_.1.2⟩)); replace HO_872000 := Aside0.mk (Kd.R_mono (ok' := fun k_ => some k_ ≠ (.slice Ao22 t852.length co22 : Value).ownBlock ∧ some k_ ≠ (.slice Ao28 t860.length co28 : Value).ownBlock ∧ some k_ ≠ (.slice Ao81 t874.length co81 : Value).ownBlock) (Kd.R_keptB (HO_872000.out) hkp (fun k_ hk_ hs_ => (hk_.1.2) hs_)) (fun k_ hk_ => ⟨hk_.1.1.1, hk_.1.1.2, hk_.1.2⟩)); replace BK847 := Aside0.mk (blk_kept (bk BK847) hkp (fun hs_ => (fun e_ => (Kd.R_ne HO_864000.out BK847.out (by decide)) e_) hs_)); replace BK859 := Aside0.mk (blk_kept (bk BK859) hkp (fun hs_ => (fun e_ => (Kd.R_ne HO_864000.out BK859.out (by decide)) e_) hs_)); replace BK863 := Aside0.mk (blk_kept (bk BK863) hkp (fun hs_ => (fun e_ => (Kd.R_ne HO_864000.out BK863.out (by decide)) e_) hs_)); replace BK871 := Aside0.mk (blk_kept (bk BK871) hkp (fun hs_ => (fun e_ => (Kd.R_ne HO_864000.out BK871.out (by decide)) e_) hs_)); replace HO_864000 := Aside0.mk (Kd.R_reok rfl hy0 (fun k_ e_ => HO_864000.out.1 k_ e_)); replace HO876 := Aside0.mk (Kd.R_mono (ok' := fun k_ => some k_ ≠ (.slice Ao22 t852.length co22 : Value).ownBlock ∧ some k_ ≠ (.slice Ao28 t860.length co28 : Value).ownBlock ∧ some k_ ≠ (.slice Ao34 t864.length co34 : Value).ownBlock) (Kd.R_keptB (HO876.out) hkp (fun k_ hk_ hs_ => (hk_.1.2) hs_)) (fun k_ hk_ => ⟨hk_.1.1.1.2, hk_.1.1.2, hk_.1.2⟩)); replace HB := Aside0.mk (hb); (try clear hb); (try clear hkp); (try clear hy0)))
      (try simp only [Act.put, List.setIfInBounds_toArray, List.set_cons_zero, List.set_cons_succ])
      go_cut [86] (fun v86 wc => ∃ (kq : Nat) (x86_77 : Bool), v86 = .bool x86_77 ∧ Aside0 (laws_FnExactPunchMap.j1 kq a1 a2 t855 t858 t867 x86_77 l0_0 t852 t864 = some r) ∧ Aside0 (kq ≤ kj12) ∧ Aside0 (Kd.R k61 61 wc w.heap.size (fun k_ => some k_ ≠ (v868 : Value).ownBlock) v856 t855) ∧ Aside0 (Kd.R k61 61 wc w.heap.size (fun k_ => some k_ ≠ (v856 : Value).ownBlock) v868 t867) ∧ Aside0 (Kd.R k48 48 wc w.heap.size (fun k_ => some k_ ≠ ((.slice Ao28 t860.length co28) : Value).ownBlock ∧ some k_ ≠ ((.slice Ao34 t864.length co34) : Value).ownBlock) (.slice Ao22 t852.length co22) t852) ∧ Aside0 (Kd.R k48 48 wc w.heap.size (fun k_ => some k_ ≠ ((.slice Ao22 t852.length co22) : Value).ownBlock ∧ some k_ ≠ ((.slice Ao34 t864.length co34) : Value).ownBlock) (.slice Ao28 t860.length co28) t879) ∧ Aside0 (Kd.R k48 48 wc w.heap.size (fun k_ => some k_ ≠ ((.slice Ao22 t852.length co22) : Value).ownBlock ∧ some k_ ≠ ((.slice Ao28 t860.length co28) : Value).ownBlock) (.slice Ao34 t864.length co34) t864) ∧ Aside0 (wc.heap[gb847]? = some (.cells #[(.slice A0_0 l0_0.length c0_0)] 24 (0, 0))) ∧ Aside0 (wc.heap[gb859]? = some (.cells #[(.slice Ao22 t852.length co22)] 29 (0, 0))) ∧ Aside0 (wc.heap[gb863]? = some (.cells #[(.slice Ao28 t860.length co28)] 29 (0, 0))) ∧ Aside0 (wc.heap[gb871]? = some (.cells #[(.slice Ao34 t864.length co34)] 29 (0, 0))) ∧ Aside0 (Below w.heap.size w wc))
      case first =>
       have H := HC78.out
       clear HC78
       by_cases c88 : t878 < 0
       ·
        rw [if_pos c88] at H
        have c88b0 : decide (t878 < 0) = true := decide_eq_true c88
        clear c88
        (first | rw [c88b0] | (simp only [i64_w, i32_w]; rw [c88b0]) | (simp only [c88b2, Bool.not_false, Bool.not_true]) | skip)
        have H' := Aside0.mk H
        clear H
        go_wp2
        go_meet
        case rel => exact ⟨_, (true), (by first | rfl | (simp; done) | (simp [*]; done)), H', ⟨by have := HJ12.out; first | omega | exact Nat.le_refl _⟩, ⟨rr HO_9.out⟩, ⟨rr HO_13.out⟩, rm HO_860000 (fun _ hk => ⟨hk.1, hk.2.1⟩), rm HO_864000 (fun _ hk => ⟨hk.1.1, hk.1.2⟩), rm HO_872000 (fun _ hk => ⟨hk.1, hk.2.1⟩), ⟨bk BK847⟩, ⟨bk BK859⟩, ⟨bk BK863⟩, ⟨bk BK871⟩, ⟨bs4 HB GE847 GE859 GE863 GE871⟩⟩
       ·
        rw [if_neg c88] at H
        have c88b0 : decide (t878 < 0) = false := decide_eq_false c88
        clear c88
        (first | rw [c88b0] | (simp only [i64_w, i32_w]; rw [c88b0]) | (simp only [c88b2, Bool.not_false, Bool.not_true]) | skip)
        replace H := Option.bind_eq_some_iff.mp H
        obtain ⟨t880, A890, H⟩ := H
        replace H : (if t880 = true then ((laws_eqExtentS.f kj12 t867 t855).bind fun t881 => (if t881 = true then (laws_FnExactPunchMap.j1 kj12 a1 a2 t855 t858 t867 (t870 != t858) l0_0 t852 t864) else (laws_FnExactPunchMap.j1 kj12 a1 a2 t855 t858 t867 true l0_0 t852 t864))) else (laws_FnExactPunchMap.j1 kj12 a1 a2 t855 t858 t867 true l0_0 t852 t864)) = some r := H
        have A89 := Aside0.mk A890
        clear A890
        by_cases c90 : t880 = true
        ·
         subst c90
         rw [if_pos rfl] at H
         replace H := Option.bind_eq_some_iff.mp H
         obtain ⟨t881, A910, H⟩ := H
         replace H : (if t881 = true then (laws_FnExactPunchMap.j1 kj12 a1 a2 t855 t858 t867 (t870 != t858) l0_0 t852 t864) else (laws_FnExactPunchMap.j1 kj12 a1 a2 t855 t858 t867 true l0_0 t852 t864)) = some r := H
         have A91 := Aside0.mk A910
         clear A910
         by_cases c92 : t881 = true
         ·
          subst c92
          rw [if_pos rfl] at H
          have H' := Aside0.mk H
          clear H
          have hnb93 := NB871_847.out
          have hnc93 := NB847_871.out
          have hnb94 := NB871_859.out
          have hnc94 := NB859_871.out
          have hnb95 := NB871_863.out
          have hnc95 := NB863_871.out
          have hcz96_0 := cz1 BK871
          have hfz96_0 := fz1 BK871
          have hnb97 := NB859_847.out
          have hnc97 := NB847_859.out
          have hnb98 := NB859_863.out
          have hnc98 := NB863_859.out
          have hcz99_0 := cz1 BK859
          have hfz99_0 := fz1 BK859
          go_wp2_with (first | (go_at_call 18; (with_reducible refine (laws_eqFileMap.calls kj12 _ _ t864 _ _ t852 true _ ?side1 ?side2 ?side3 ?side4 A89.out).mono ?_); (case side1 => exact rc0 HO_872000); (case side2 => exact (Kd.R_reads' HO_872000.out).2.1); (case side3 => exact rc0 HO_860000); (case side4 => exact (Kd.R_reads' HO_860000.out).2.1); rintro e w100 ⟨rfl, hb⟩; replace HO_9 := nr HO_9 hb; replace HO_13 := nr HO_13 hb; replace HO_860000 := nr HO_860000 hb; replace HO_864000 := nr HO_864000 hb; replace HO_872000 := nr HO_872000 hb; replace HO876 := nr HO876 hb; replace BK847 := nb BK847 hb; replace BK859 := nb BK859 hb; replace BK863 := nb BK863 hb; replace BK871 := nb BK871 hb; replace HB := Aside0.mk (below_step (bs4 HB GE847 GE859 GE863 GE871) hb); (try clear hb); (try clear hb2); (try clear hk); (try clear hi); obtain ⟨Ao101, co101, eo101⟩ := Kd.R_slice HO_13.out; subst eo101; obtain ⟨Ao102, co102, eo102⟩ := Kd.R_slice HO_9.out; subst eo102) | (go_at_call 25; (with_reducible refine (laws_eqExtentS.calls kj12 _ _ t867 _ _ t855 true _ ?side1 ?side2 ?side3 ?side4 A91.out).mono ?_); (case side1 => exact rc0 HO_13); (case side2 => exact (Kd.R_reads' HO_13.out).2.1); (case side3 => exact rc0 HO_9); (case side4 => exact (Kd.R_reads' HO_9.out).2.1); rintro e w103 ⟨rfl, hb⟩; replace HO_9 := nr HO_9 hb; replace HO_13 := nr HO_13 hb; replace HO_860000 := nr HO_860000 hb; replace HO_864000 := nr HO_864000 hb; replace HO_872000 := nr HO_872000 hb; replace HO876 := nr HO876 hb; replace BK847 := nb BK847 hb; replace BK859 := nb BK859 hb; replace BK863 := nb BK863 hb; replace BK871 := nb BK871 hb; replace HB := Aside0.mk (below_step (bs4 HB GE847 GE859 GE863 GE871) hb); (try clear hb); (try clear hb2); (try clear hk); (try clear hi)))
          go_meet
          case rel => exact ⟨_, ((t870 != t858)), (by first | rfl | (simp; done) | (simp [*]; done)), H', ⟨by have := HJ12.out; first | omega | exact Nat.le_refl _⟩, ⟨rr HO_9.out⟩, ⟨rr HO_13.out⟩, rm HO_860000 (fun _ hk => ⟨hk.1, hk.2.1⟩), rm HO_864000 (fun _ hk => ⟨hk.1.1, hk.1.2⟩), rm HO_872000 (fun _ hk => ⟨hk.1, hk.2.1⟩), ⟨bk BK847⟩, ⟨bk BK859⟩, ⟨bk BK863⟩, ⟨bk BK871⟩, ⟨bs4 HB GE847 GE859 GE863 GE871⟩⟩
         ·
          replace c92 := Bool.eq_false_iff.mpr c92
          subst c92
          rw [if_neg (show ¬ (false = true) by decide)] at H
          have H' := Aside0.mk H
          clear H
          have hnb104 := NB871_847.out
          have hnc104 := NB847_871.out
          have hnb105 := NB871_859.out
          have hnc105 := NB859_871.out
          have hnb106 := NB871_863.out
          have hnc106 := NB863_871.out
          have hcz107_0 := cz1 BK871
          have hfz107_0 := fz1 BK871
          have hnb108 := NB859_847.out
          have hnc108 := NB847_859.out
          have hnb109 := NB859_863.out
          have hnc109 := NB863_859.out
          have hcz110_0 := cz1 BK859
          have hfz110_0 := fz1 BK859
          go_wp2_with (first | (go_at_call 18; (with_reducible refine (laws_eqFileMap.calls kj12 _ _ t864 _ _ t852 true _ ?side1 ?side2 ?side3 ?side4 A89.out).mono ?_); (case side1 => exact rc0 HO_872000); (case side2 => exact (Kd.R_reads' HO_872000.out).2.1); (case side3 => exact rc0 HO_860000); (case side4 => exact (Kd.R_reads' HO_860000.out).2.1); rintro e w111 ⟨rfl, hb⟩; replace HO_9 := nr HO_9 hb; replace HO_13 := nr HO_13 hb; replace HO_860000 := nr HO_860000 hb; replace HO_864000 := nr HO_864000 hb; replace HO_872000 := nr HO_872000 hb; replace HO876 := nr HO876 hb; replace BK847 := nb BK847 hb; replace BK859 := nb BK859 hb; replace BK863 := nb BK863 hb; replace BK871 := nb BK871 hb; replace HB := Aside0.mk (below_step (bs4 HB GE847 GE859 GE863 GE871) hb); (try clear hb); (try clear hb2); (try clear hk); (try clear hi); obtain ⟨Ao112, co112, eo112⟩ := Kd.R_slice HO_13.out; subst eo112; obtain ⟨Ao113, co113, eo113⟩ := Kd.R_slice HO_9.out; subst eo113) | (go_at_call 25; (with_reducible refine (laws_eqExtentS.calls kj12 _ _ t867 _ _ t855 false _ ?side1 ?side2 ?side3 ?side4 A91.out).mono ?_); (case side1 => exact rc0 HO_13); (case side2 => exact (Kd.R_reads' HO_13.out).2.1); (case side3 => exact rc0 HO_9); (case side4 => exact (Kd.R_reads' HO_9.out).2.1); rintro e w114 ⟨rfl, hb⟩; replace HO_9 := nr HO_9 hb; replace HO_13 := nr HO_13 hb; replace HO_860000 := nr HO_860000 hb; replace HO_864000 := nr HO_864000 hb; replace HO_872000 := nr HO_872000 hb; replace HO876 := nr HO876 hb; replace BK847 := nb BK847 hb; replace BK859 := nb BK859 hb; replace BK863 := nb BK863 hb; replace BK871 := nb BK871 hb; replace HB := Aside0.mk (below_step (bs4 HB GE847 GE859 GE863 GE871) hb); (try clear hb); (try clear hb2); (try clear hk); (try clear hi)))
          go_meet
          case rel => exact ⟨_, (true), (by first | rfl | (simp; done) | (simp [*]; done)), H', ⟨by have := HJ12.out; first | omega | exact Nat.le_refl _⟩, ⟨rr HO_9.out⟩, ⟨rr HO_13.out⟩, rm HO_860000 (fun _ hk => ⟨hk.1, hk.2.1⟩), rm HO_864000 (fun _ hk => ⟨hk.1.1, hk.1.2⟩), rm HO_872000 (fun _ hk => ⟨hk.1, hk.2.1⟩), ⟨bk BK847⟩, ⟨bk BK859⟩, ⟨bk BK863⟩, ⟨bk BK871⟩, ⟨bs4 HB GE847 GE859 GE863 GE871⟩⟩
        ·
         replace c90 := Bool.eq_false_iff.mpr c90
         subst c90
         rw [if_neg (show ¬ (false = true) by decide)] at H
         have H' := Aside0.mk H
         clear H
         have hnb115 := NB871_847.out
         have hnc115 := NB847_871.out
         have hnb116 := NB871_859.out
         have hnc116 := NB859_871.out
         have hnb117 := NB871_863.out
         have hnc117 := NB863_871.out
         have hcz118_0 := cz1 BK871
         have hfz118_0 := fz1 BK871
         have hnb119 := NB859_847.out
         have hnc119 := NB847_859.out
         have hnb120 := NB859_863.out
         have hnc120 := NB863_859.out
         have hcz121_0 := cz1 BK859
         have hfz121_0 := fz1 BK859
         go_wp2_with (first | (go_at_call 18; (with_reducible refine (laws_eqFileMap.calls kj12 _ _ t864 _ _ t852 false _ ?side1 ?side2 ?side3 ?side4 A89.out).mono ?_); (case side1 => exact rc0 HO_872000); (case side2 => exact (Kd.R_reads' HO_872000.out).2.1); (case side3 => exact rc0 HO_860000); (case side4 => exact (Kd.R_reads' HO_860000.out).2.1); rintro e w122 ⟨rfl, hb⟩; replace HO_9 := nr HO_9 hb; replace HO_13 := nr HO_13 hb; replace HO_860000 := nr HO_860000 hb; replace HO_864000 := nr HO_864000 hb; replace HO_872000 := nr HO_872000 hb; replace HO876 := nr HO876 hb; replace BK847 := nb BK847 hb; replace BK859 := nb BK859 hb; replace BK863 := nb BK863 hb; replace BK871 := nb BK871 hb; replace HB := Aside0.mk (below_step (bs4 HB GE847 GE859 GE863 GE871) hb); (try clear hb); (try clear hb2); (try clear hk); (try clear hi)))
         go_meet
         case rel => exact ⟨_, (true), (by first | rfl | (simp; done) | (simp [*]; done)), H', ⟨by have := HJ12.out; first | omega | exact Nat.le_refl _⟩, ⟨rr HO_9.out⟩, ⟨rr HO_13.out⟩, rm HO_860000 (fun _ hk => ⟨hk.1, hk.2.1⟩), rm HO_864000 (fun _ hk => ⟨hk.1.1, hk.1.2⟩), rm HO_872000 (fun _ hk => ⟨hk.1, hk.2.1⟩), ⟨bk BK847⟩, ⟨bk BK859⟩, ⟨bk BK863⟩, ⟨bk BK871⟩, ⟨bs4 HB GE847 GE859 GE863 GE871⟩⟩
      case rest =>
       clear HC78
       try clear c1
       try clear c2
       try clear p2
       try clear c3
       try clear c4
       try clear c5
       try clear c5b0
       try clear c6
       try clear c7
       try clear c8
       try clear c9
       try clear c10
       try clear c11
       try clear c12
       try clear c14
       try clear c16
       try clear c18
       try clear c23
       try clear c26
       try clear c29
       try clear c30
       try clear c35
       try clear c36
       try clear c37
       try clear c39
       try clear c40
       try clear c42
       try clear c43
       try clear c44
       try clear c45
       try clear c47
       try clear c48
       try clear c54
       try clear c55
       try clear c56
       try clear c58
       try clear c59
       try clear c65
       try clear c66
       try clear c67
       try clear c69
       try clear c70
       try clear c73
       try clear c76
       try clear c83
       try clear c84
       try clear c85
       try clear c88
       try clear c88b0
       try clear c90
       try clear c92
       try clear c93
       try clear c94
       try clear c95
       try clear c97
       try clear c98
       try clear c104
       try clear c105
       try clear c106
       try clear c108
       try clear c109
       try clear c115
       try clear c116
       try clear c117
       try clear c119
       try clear c120
       try clear hcz107_0
       try clear hcz110_0
       try clear hcz118_0
       try clear hcz121_0
       try clear hcz15_0
       try clear hcz17_0
       try clear hcz24_0
       try clear hcz25_0
       try clear hcz31_0
       try clear hcz38_0
       try clear hcz46_0
       try clear hcz49_0
       try clear hcz57_0
       try clear hcz60_0
       try clear hcz68_0
       try clear hcz71_0
       try clear hcz7_0
       try clear hcz86_0
       try clear hcz96_0
       try clear hcz99_0
       try clear hfz107_0
       try clear hfz110_0
       try clear hfz118_0
       try clear hfz121_0
       try clear hfz15_0
       try clear hfz17_0
       try clear hfz24_0
       try clear hfz25_0
       try clear hfz31_0
       try clear hfz38_0
       try clear hfz46_0
       try clear hfz49_0
       try clear hfz57_0
       try clear hfz60_0
       try clear hfz68_0
       try clear hfz71_0
       try clear hfz7_0
       try clear hfz86_0
       try clear hfz96_0
       try clear hfz99_0
       try clear p2
       obtain ⟨kq, x86_77, rfl, HA, HJ77, HO_9, HO_13, HO_860000, HO_864000, HO_872000, BK847, BK859, BK863, BK871, HB⟩ := hcut
       have hl864000_77 := (Kd.R_reads' HO_864000.out).1
       rw [hl864000_77] at HO_864000
       (try simp only [hl864000_77])
       (try simp only [hl864000_77] at BK847)
       (try simp only [hl864000_77] at BK859)
       (try simp only [hl864000_77] at BK863)
       (try simp only [hl864000_77] at BK871)
       (try simp only [hl864000_77] at HO_9)
       (try simp only [hl864000_77] at HO_13)
       (try simp only [hl864000_77] at HO_860000)
       (try simp only [hl864000_77] at HO_872000)
       cases kq with
       | zero => exact absurd HA.out (by simp [laws_FnExactPunchMap.j1])
       | succ kj77 =>
        have H := HA.out
        clear HA
        simp only [laws_FnExactPunchMap.j1] at H
        by_cases c123 : x86_77 = true
        ·
         subst c123
         rw [if_pos rfl] at H
         obtain rfl := Option.some.inj H
         go_wp2
         go_ret
         exact ⟨by first | rfl | (simp [errW_none, errW_some] <;> rfl) | (simp [*, errW_none, errW_some] <;> rfl), bs4 HB GE847 GE859 GE863 GE871⟩
        ·
         replace c123 := Bool.eq_false_iff.mpr c123
         subst c123
         rw [if_neg (show ¬ (false = true) by decide)] at H
         replace H := Option.bind_eq_some_iff.mp H
         obtain ⟨⟨t882, t883⟩, A1240, H⟩ := H
         replace H : ((laws_markExtentS.f kj77 t867 t882).bind fun bt884 => ((laws_heldFileMap.f kj77 t883 1).bind fun t886 => (if t886 < 0 then (some false) else ((laws_heldExtentS.f kj77 bt884.2 t886).bind fun t887 => (if t887 < 0 then (some false) else (if t887 = bt884.1 then ((laws_toFileMap.f kj77 l0_0).bind fun t888 => ((impl_PunchMap.f kj77 t888 a1 a2).bind fun bt891 => ((laws_eqFileMap.f kj77 bt891.1 t852).bind fun t899 => (if t899 = true then ((laws_eqExtentS.f kj77 bt891.2.1 t855).bind fun t900 => (if t900 = true then (laws_FnExactPunchMap.j2 kj77 bt884.2 bt884.1 (bt891.2.2 != t858) t883) else (laws_FnExactPunchMap.j2 kj77 bt884.2 bt884.1 true t883))) else (laws_FnExactPunchMap.j2 kj77 bt884.2 bt884.1 true t883))))) else (some false))))))) = some r := H
         have A124 := Aside0.mk A1240
         clear A1240
         replace H := Option.bind_eq_some_iff.mp H
         obtain ⟨⟨t884, t885⟩, A1250, H⟩ := H
         replace H : ((laws_heldFileMap.f kj77 t883 1).bind fun t886 => (if t886 < 0 then (some false) else ((laws_heldExtentS.f kj77 t885 t886).bind fun t887 => (if t887 < 0 then (some false) else (if t887 = t884 then ((laws_toFileMap.f kj77 l0_0).bind fun t888 => ((impl_PunchMap.f kj77 t888 a1 a2).bind fun bt891 => ((laws_eqFileMap.f kj77 bt891.1 t852).bind fun t899 => (if t899 = true then ((laws_eqExtentS.f kj77 bt891.2.1 t855).bind fun t900 => (if t900 = true then (laws_FnExactPunchMap.j2 kj77 t885 t884 (bt891.2.2 != t858) t883) else (laws_FnExactPunchMap.j2 kj77 t885 t884 true t883))) else (laws_FnExactPunchMap.j2 kj77 t885 t884 true t883))))) else (some false)))))) = some r := H
         have A125 := Aside0.mk A1250
         clear A1250
         replace H := Option.bind_eq_some_iff.mp H
         obtain ⟨t886, A1260, H⟩ := H
         replace H : (if t886 < 0 then (some false) else ((laws_heldExtentS.f kj77 t885 t886).bind fun t887 => (if t887 < 0 then (some false) else (if t887 = t884 then ((laws_toFileMap.f kj77 l0_0).bind fun t888 => ((impl_PunchMap.f kj77 t888 a1 a2).bind fun bt891 => ((laws_eqFileMap.f kj77 bt891.1 t852).bind fun t899 => (if t899 = true then ((laws_eqExtentS.f kj77 bt891.2.1 t855).bind fun t900 => (if t900 = true then (laws_FnExactPunchMap.j2 kj77 t885 t884 (bt891.2.2 != t858) t883) else (laws_FnExactPunchMap.j2 kj77 t885 t884 true t883))) else (laws_FnExactPunchMap.j2 kj77 t885 t884 true t883))))) else (some false))))) = some r := H
         have A126 := Aside0.mk A1260
         clear A1260
         by_cases c127 : t886 < 0
         ·
          rw [if_pos c127] at H
          have c127b0 : decide (t886 < 0) = true := decide_eq_true c127
          clear c127
          obtain rfl := Option.some.inj H
          have hnb128 := NB871_847.out
          have hnc128 := NB847_871.out
          have hnb129 := NB871_859.out
          have hnc129 := NB859_871.out
          have hnb130 := NB871_863.out
          have hnc130 := NB863_871.out
          have hcz131_0 := cz1 BK871
          have hfz131_0 := fz1 BK871
          go_wp2_with (first | ((with_reducible refine gate_callee (f := 26) rfl ?_); refine gL (some 89) rfl rfl Try.func26 (by kernel_rfl) rfl #[.agg #[.slice Ao34 t864.length co34], .int .i64 1] rfl ?_; (with_reducible refine (laws_markFileMap.calls kj77 (fun k_ => some k_ = (.slice Ao34 t864.length co34 : Value).ownBlock) (.slice Ao34 t864.length co34) t864 1 t882 t883 w _ ?side1 ?side2 A124.out).mono ?_); (case side1 => repeat (first | (with_reducible first | exact HB.out | apply below_alloc | apply pw_below_drewN | apply below_drew1 | refine below_set ?_ GE847.out | refine below_set ?_ GE859.out | refine below_set ?_ GE863.out | refine below_set ?_ GE871.out) | exact HB.out)); (case side2 => exact Kd.R_tight rfl HO_872000.out); rintro e w132 ⟨rfl, hy0, hb, hkp⟩; refine ⟨_, rfl, ?_⟩; replace HO_9 := Aside0.mk (Kd.R_mono (ok' := fun k_ => some k_ ≠ (v868 : Value).ownBlock) (Kd.R_keptB ((Kd.R_apart' HO_9.out (Kd.R_typed HO_872000.out) (by decide))) hkp (fun k_ hk_ hs_ => (hk_.2) hs_)) (fun k_ hk_ => hk_.1.1)); replace HO_13 := Aside0.mk (Kd.R_mono (ok' := fun k_ => some k_ ≠ (v856 : Value).ownBlock) (Kd.R_keptB ((Kd.R_apart' HO_13.out (Kd.R_typed HO_872000.out) (by decide))) hkp (fun k_ hk_ hs_ => (hk_.2) hs_)) (fun k_ hk_ => hk_.1.1)); replace HO_860000 := Aside0.mk (Kd.R_mono (ok' := fun k_ => some k_ ≠ (.slice Ao28 t879.length co28 : Value).ownBlock ∧ some k_ ≠ (.slice Ao34 t864.length co34 : Value).ownBlock) (Kd.R_keptB (HO_860000.out) hkp (fun k_ hk_ hs_ => (hk_.2) hs_)) (fun k_ hk_ => ⟨hk_.1.1, hk_.1.2⟩)); replace HO_864000 := Aside0.mk (Kd.R_mono (ok' := fun k_ => some k_ ≠ (.slice Ao22 t852.length co22 : Value).ownBlock ∧ some k_ ≠ (.slice Ao34 t864.length co34 : Value).ownBlock) (Kd.R_keptB (HO_864000.out) hkp (fun k_ hk_ hs_ => (hk_.2) hs_)) (fun k_ hk_ => ⟨hk_.1.1, hk_.1.2⟩)); replace BK847 := Aside0.mk (blk_kept (bk BK847) hkp (fun hs_ => (fun e_ => (Kd.R_ne HO_872000.out BK847.out (by decide)) e_) hs_)); replace BK859 := Aside0.mk (blk_kept (bk BK859) hkp (fun hs_ => (fun e_ => (Kd.R_ne HO_872000.out BK859.out (by decide)) e_) hs_)); replace BK863 := Aside0.mk (blk_kept (bk BK863) hkp (fun hs_ => (fun e_ => (Kd.R_ne HO_872000.out BK863.out (by decide)) e_) hs_)); replace BK871 := Aside0.mk (blk_kept (bk BK871) hkp (fun hs_ => (fun e_ => (Kd.R_ne HO_872000.out BK871.out (by decide)) e_) hs_)); replace HO_872000 := Aside0.mk (Kd.R_reok rfl hy0 (fun k_ e_ => HO_872000.out.1 k_ e_)); replace HB := Aside0.mk (hb); (try clear hb); (try clear hkp); (try clear hy0); obtain ⟨Ao133, co133, eo133⟩ := Kd.R_slice HO_13.out; subst eo133) | ((with_reducible refine gate_callee (f := 27) rfl ?_); refine gL (some 92) rfl rfl Try.func27 (by kernel_rfl) rfl #[.slice Ao133 t867.length co133, .int .i64 t882] rfl ?_; (with_reducible refine (laws_markExtentS.calls kj77 (fun k_ => some k_ = (.slice Ao133 t867.length co133 : Value).ownBlock) (.slice Ao133 t867.length co133) t867 t882 t884 t885 w _ ?side1 ?side2 A125.out).mono ?_); (case side1 => repeat (first | (with_reducible first | exact HB.out | apply below_alloc | apply pw_below_drewN | apply below_drew1 | refine below_set ?_ GE847.out | refine below_set ?_ GE859.out | refine below_set ?_ GE863.out | refine below_set ?_ GE871.out) | exact HB.out)); (case side2 => exact Kd.R_tight rfl HO_13.out); rintro e w134 ⟨rfl, hy0, hb, hkp⟩; refine ⟨_, rfl, ?_⟩; replace HO_9 := Aside0.mk (Kd.R_mono (ok' := fun k_ => some k_ ≠ (.slice Ao133 t867.length co133 : Value).ownBlock) (Kd.R_keptB (HO_9.out) hkp (fun k_ hk_ hs_ => (hk_) hs_)) (fun k_ hk_ => hk_.1)); replace HO_860000 := Aside0.mk (Kd.R_mono (ok' := fun k_ => some k_ ≠ (.slice Ao28 t879.length co28 : Value).ownBlock ∧ some k_ ≠ (.slice Ao34 t864.length co34 : Value).ownBlock) (Kd.R_keptB ((Kd.R_apart' HO_860000.out (Kd.R_typed HO_13.out) (by decide))) hkp (fun k_ hk_ hs_ => (hk_.2) hs_)) (fun k_ hk_ => ⟨hk_.1.1.1, hk_.1.1.2⟩)); replace HO_864000 := Aside0.mk (Kd.R_mono (ok' := fun k_ => some k_ ≠ (.slice Ao22 t852.length co22 : Value).ownBlock ∧ some k_ ≠ (.slice Ao34 t864.length co34 : Value).ownBlock) (Kd.R_keptB ((Kd.R_apart' HO_864000.out (Kd.R_typed HO_13.out) (by decide))) hkp (fun k_ hk_ hs_ => (hk_.2) hs_)) (fun k_ hk_ => ⟨hk_.1.1.1, hk_.1.1.2⟩)); replace HO_872000 := Aside0.mk (Kd.R_mono (ok' := fun k_ => some k_ ≠ (.slice Ao22 t852.length co22 : Value).ownBlock ∧ some k_ ≠ (.slice Ao28 t879.length co28 : Value).ownBlock) (Kd.R_keptB ((Kd.R_apart' HO_872000.out (Kd.R_typed HO_13.out) (by decide))) hkp (fun k_ hk_ hs_ => (hk_.2) hs_)) (fun k_ hk_ => ⟨hk_.1.1.1, hk_.1.1.2⟩)); replace BK847 := Aside0.mk (blk_kept (bk BK847) hkp (fun hs_ => (fun e_ => (Kd.R_ne HO_13.out BK847.out (by decide)) e_) hs_)); replace BK859 := Aside0.mk (blk_kept (bk BK859) hkp (fun hs_ => (fun e_ => (Kd.R_ne HO_13.out BK859.out (by decide)) e_) hs_)); replace BK863 := Aside0.mk (blk_kept (bk BK863) hkp (fun hs_ => (fun e_ => (Kd.R_ne HO_13.out BK863.out (by decide)) e_) hs_)); replace BK871 := Aside0.mk (blk_kept (bk BK871) hkp (fun hs_ => (fun e_ => (Kd.R_ne HO_13.out BK871.out (by decide)) e_) hs_)); replace HO_13 := Aside0.mk (Kd.R_reok rfl hy0 (fun k_ e_ => HO_13.out.1 k_ e_)); replace HB := Aside0.mk (hb); (try clear hb); (try clear hkp); (try clear hy0); have hcz135_0 := cz1 BK871; have hfz135_0 := fz1 BK871) | ((with_reducible refine gate_callee (f := 32) rfl ?_); refine goesL_ (some 95) rfl rfl Try.func32 (by kernel_rfl) rfl #[.agg #[.slice Ao34 t883.length co34], .int .i64 1] rfl (by (try simp only [List.map_toArray, List.map_cons, List.map_nil]); first | done | (rw [show t883.length = t864.length from (Kd.R_reads' HO_872000.out).1.symm] <;> rfl) | rfl | (simp only [List.length_drop, List.length_take]; rfl)) ?_; (with_reducible refine (laws_heldFileMap.calls kj77 _ _ t883 1 t886 _ ?side1 ?side2 A126.out).mono ?_); (case side1 => exact rc0 HO_872000); (case side2 => rw [show t883.length = t864.length from (Kd.R_reads' HO_872000.out).1.symm]; exact (Kd.R_reads' HO_872000.out).2.1); rintro e w136 ⟨rfl, hb⟩; refine ⟨_, rfl, ?_⟩; replace HO_9 := nr HO_9 hb; replace HO_13 := nr HO_13 hb; replace HO_860000 := nr HO_860000 hb; replace HO_864000 := nr HO_864000 hb; replace HO_872000 := nr HO_872000 hb; replace BK847 := nb BK847 hb; replace BK859 := nb BK859 hb; replace BK863 := nb BK863 hb; replace BK871 := nb BK871 hb; replace HB := Aside0.mk (below_step (bs4 HB GE847 GE859 GE863 GE871) hb); (try clear hb); (try clear hb2); (try clear hk); (try clear hi)))
          go_ret
          exact ⟨by first | rfl | (simp [errW_none, errW_some] <;> rfl) | (simp [*, errW_none, errW_some] <;> rfl), bs4 HB GE847 GE859 GE863 GE871⟩
         ·
          rw [if_neg c127] at H
          have c127b0 : decide (t886 < 0) = false := decide_eq_false c127
          clear c127
          replace H := Option.bind_eq_some_iff.mp H
          obtain ⟨t887, A1370, H⟩ := H
          replace H : (if t887 < 0 then (some false) else (if t887 = t884 then ((laws_toFileMap.f kj77 l0_0).bind fun t888 => ((impl_PunchMap.f kj77 t888 a1 a2).bind fun bt891 => ((laws_eqFileMap.f kj77 bt891.1 t852).bind fun t899 => (if t899 = true then ((laws_eqExtentS.f kj77 bt891.2.1 t855).bind fun t900 => (if t900 = true then (laws_FnExactPunchMap.j2 kj77 t885 t884 (bt891.2.2 != t858) t883) else (laws_FnExactPunchMap.j2 kj77 t885 t884 true t883))) else (laws_FnExactPunchMap.j2 kj77 t885 t884 true t883))))) else (some false))) = some r := H
          have A137 := Aside0.mk A1370
          clear A1370
          by_cases c138 : t887 < 0
          ·
           rw [if_pos c138] at H
           have c138b0 : decide (t887 < 0) = true := decide_eq_true c138
           clear c138
           obtain rfl := Option.some.inj H
           have hnb139 := NB871_847.out
           have hnc139 := NB847_871.out
           have hnb140 := NB871_859.out
           have hnc140 := NB859_871.out
           have hnb141 := NB871_863.out
           have hnc141 := NB863_871.out
           have hcz142_0 := cz1 BK871
           have hfz142_0 := fz1 BK871
           go_wp2_with (first | ((with_reducible refine gate_callee (f := 26) rfl ?_); refine gL (some 89) rfl rfl Try.func26 (by kernel_rfl) rfl #[.agg #[.slice Ao34 t864.length co34], .int .i64 1] rfl ?_; (with_reducible refine (laws_markFileMap.calls kj77 (fun k_ => some k_ = (.slice Ao34 t864.length co34 : Value).ownBlock) (.slice Ao34 t864.length co34) t864 1 t882 t883 w _ ?side1 ?side2 A124.out).mono ?_); (case side1 => repeat (first | (with_reducible first | exact HB.out | apply below_alloc | apply pw_below_drewN | apply below_drew1 | refine below_set ?_ GE847.out | refine below_set ?_ GE859.out | refine below_set ?_ GE863.out | refine below_set ?_ GE871.out) | exact HB.out)); (case side2 => exact Kd.R_tight rfl HO_872000.out); rintro e w143 ⟨rfl, hy0, hb, hkp⟩; refine ⟨_, rfl, ?_⟩; replace HO_9 := Aside0.mk (Kd.R_mono (ok' := fun k_ => some k_ ≠ (v868 : Value).ownBlock) (Kd.R_keptB ((Kd.R_apart' HO_9.out (Kd.R_typed HO_872000.out) (by decide))) hkp (fun k_ hk_ hs_ => (hk_.2) hs_)) (fun k_ hk_ => hk_.1.1)); replace HO_13 := Aside0.mk (Kd.R_mono (ok' := fun k_ => some k_ ≠ (v856 : Value).ownBlock) (Kd.R_keptB ((Kd.R_apart' HO_13.out (Kd.R_typed HO_872000.out) (by decide))) hkp (fun k_ hk_ hs_ => (hk_.2) hs_)) (fun k_ hk_ => hk_.1.1)); replace HO_860000 := Aside0.mk (Kd.R_mono (ok' := fun k_ => some k_ ≠ (.slice Ao28 t879.length co28 : Value).ownBlock ∧ some k_ ≠ (.slice Ao34 t864.length co34 : Value).ownBlock) (Kd.R_keptB (HO_860000.out) hkp (fun k_ hk_ hs_ => (hk_.2) hs_)) (fun k_ hk_ => ⟨hk_.1.1, hk_.1.2⟩)); replace HO_864000 := Aside0.mk (Kd.R_mono (ok' := fun k_ => some k_ ≠ (.slice Ao22 t852.length co22 : Value).ownBlock ∧ some k_ ≠ (.slice Ao34 t864.length co34 : Value).ownBlock) (Kd.R_keptB (HO_864000.out) hkp (fun k_ hk_ hs_ => (hk_.2) hs_)) (fun k_ hk_ => ⟨hk_.1.1, hk_.1.2⟩)); replace BK847 := Aside0.mk (blk_kept (bk BK847) hkp (fun hs_ => (fun e_ => (Kd.R_ne HO_872000.out BK847.out (by decide)) e_) hs_)); replace BK859 := Aside0.mk (blk_kept (bk BK859) hkp (fun hs_ => (fun e_ => (Kd.R_ne HO_872000.out BK859.out (by decide)) e_) hs_)); replace BK863 := Aside0.mk (blk_kept (bk BK863) hkp (fun hs_ => (fun e_ => (Kd.R_ne HO_872000.out BK863.out (by decide)) e_) hs_)); replace BK871 := Aside0.mk (blk_kept (bk BK871) hkp (fun hs_ => (fun e_ => (Kd.R_ne HO_872000.out BK871.out (by decide)) e_) hs_)); replace HO_872000 := Aside0.mk (Kd.R_reok rfl hy0 (fun k_ e_ => HO_872000.out.1 k_ e_)); replace HB := Aside0.mk (hb); (try clear hb); (try clear hkp); (try clear hy0); obtain ⟨Ao144, co144, eo144⟩ := Kd.R_slice HO_13.out; subst eo144) | ((with_reducible refine gate_callee (f := 27) rfl ?_); refine gL (some 92) rfl rfl Try.func27 (by kernel_rfl) rfl #[.slice Ao144 t867.length co144, .int .i64 t882] rfl ?_; (with_reducible refine (laws_markExtentS.calls kj77 (fun k_ => some k_ = (.slice Ao144 t867.length co144 : Value).ownBlock) (.slice Ao144 t867.length co144) t867 t882 t884 t885 w _ ?side1 ?side2 A125.out).mono ?_); (case side1 => repeat (first | (with_reducible first | exact HB.out | apply below_alloc | apply pw_below_drewN | apply below_drew1 | refine below_set ?_ GE847.out | refine below_set ?_ GE859.out | refine below_set ?_ GE863.out | refine below_set ?_ GE871.out) | exact HB.out)); (case side2 => exact Kd.R_tight rfl HO_13.out); rintro e w145 ⟨rfl, hy0, hb, hkp⟩; refine ⟨_, rfl, ?_⟩; replace HO_9 := Aside0.mk (Kd.R_mono (ok' := fun k_ => some k_ ≠ (.slice Ao144 t867.length co144 : Value).ownBlock) (Kd.R_keptB (HO_9.out) hkp (fun k_ hk_ hs_ => (hk_) hs_)) (fun k_ hk_ => hk_.1)); replace HO_860000 := Aside0.mk (Kd.R_mono (ok' := fun k_ => some k_ ≠ (.slice Ao28 t879.length co28 : Value).ownBlock ∧ some k_ ≠ (.slice Ao34 t864.length co34 : Value).ownBlock) (Kd.R_keptB ((Kd.R_apart' HO_860000.out (Kd.R_typed HO_13.out) (by decide))) hkp (fun k_ hk_ hs_ => (hk_.2) hs_)) (fun k_ hk_ => ⟨hk_.1.1.1, hk_.1.1.2⟩)); replace HO_864000 := Aside0.mk (Kd.R_mono (ok' := fun k_ => some k_ ≠ (.slice Ao22 t852.length co22 : Value).ownBlock ∧ some k_ ≠ (.slice Ao34 t864.length co34 : Value).ownBlock) (Kd.R_keptB ((Kd.R_apart' HO_864000.out (Kd.R_typed HO_13.out) (by decide))) hkp (fun k_ hk_ hs_ => (hk_.2) hs_)) (fun k_ hk_ => ⟨hk_.1.1.1, hk_.1.1.2⟩)); replace HO_872000 := Aside0.mk (Kd.R_mono (ok' := fun k_ => some k_ ≠ (.slice Ao22 t852.length co22 : Value).ownBlock ∧ some k_ ≠ (.slice Ao28 t879.length co28 : Value).ownBlock) (Kd.R_keptB ((Kd.R_apart' HO_872000.out (Kd.R_typed HO_13.out) (by decide))) hkp (fun k_ hk_ hs_ => (hk_.2) hs_)) (fun k_ hk_ => ⟨hk_.1.1.1, hk_.1.1.2⟩)); replace BK847 := Aside0.mk (blk_kept (bk BK847) hkp (fun hs_ => (fun e_ => (Kd.R_ne HO_13.out BK847.out (by decide)) e_) hs_)); replace BK859 := Aside0.mk (blk_kept (bk BK859) hkp (fun hs_ => (fun e_ => (Kd.R_ne HO_13.out BK859.out (by decide)) e_) hs_)); replace BK863 := Aside0.mk (blk_kept (bk BK863) hkp (fun hs_ => (fun e_ => (Kd.R_ne HO_13.out BK863.out (by decide)) e_) hs_)); replace BK871 := Aside0.mk (blk_kept (bk BK871) hkp (fun hs_ => (fun e_ => (Kd.R_ne HO_13.out BK871.out (by decide)) e_) hs_)); replace HO_13 := Aside0.mk (Kd.R_reok rfl hy0 (fun k_ e_ => HO_13.out.1 k_ e_)); replace HB := Aside0.mk (hb); (try clear hb); (try clear hkp); (try clear hy0); have hcz146_0 := cz1 BK871; have hfz146_0 := fz1 BK871) | ((with_reducible refine gate_callee (f := 32) rfl ?_); refine goesL_ (some 95) rfl rfl Try.func32 (by kernel_rfl) rfl #[.agg #[.slice Ao34 t883.length co34], .int .i64 1] rfl (by (try simp only [List.map_toArray, List.map_cons, List.map_nil]); first | done | (rw [show t883.length = t864.length from (Kd.R_reads' HO_872000.out).1.symm] <;> rfl) | rfl | (simp only [List.length_drop, List.length_take]; rfl)) ?_; (with_reducible refine (laws_heldFileMap.calls kj77 _ _ t883 1 t886 _ ?side1 ?side2 A126.out).mono ?_); (case side1 => exact rc0 HO_872000); (case side2 => rw [show t883.length = t864.length from (Kd.R_reads' HO_872000.out).1.symm]; exact (Kd.R_reads' HO_872000.out).2.1); rintro e w147 ⟨rfl, hb⟩; refine ⟨_, rfl, ?_⟩; replace HO_9 := nr HO_9 hb; replace HO_13 := nr HO_13 hb; replace HO_860000 := nr HO_860000 hb; replace HO_864000 := nr HO_864000 hb; replace HO_872000 := nr HO_872000 hb; replace BK847 := nb BK847 hb; replace BK859 := nb BK859 hb; replace BK863 := nb BK863 hb; replace BK871 := nb BK871 hb; replace HB := Aside0.mk (below_step (bs4 HB GE847 GE859 GE863 GE871) hb); (try clear hb); (try clear hb2); (try clear hk); (try clear hi)) | ((with_reducible refine gate_callee (f := 28) rfl ?_); refine goesL_ (some 100) rfl rfl Try.func28 (by kernel_rfl) rfl #[.slice Ao144 t885.length co144, .int .i64 t886] rfl (by (try simp only [List.map_toArray, List.map_cons, List.map_nil]); first | done | (rw [show t885.length = t867.length from (Kd.R_reads' HO_13.out).1.symm] <;> rfl) | rfl | (simp only [List.length_drop, List.length_take]; rfl)) ?_; (with_reducible refine (laws_heldExtentS.calls kj77 _ _ t885 t886 t887 _ ?side1 ?side2 A137.out).mono ?_); (case side1 => exact rc0 HO_13); (case side2 => rw [show t885.length = t867.length from (Kd.R_reads' HO_13.out).1.symm]; exact (Kd.R_reads' HO_13.out).2.1); rintro e w' ⟨rfl, ⟨nd, rfl⟩⟩; refine ⟨_, rfl, ?_⟩))
           go_ret
           exact ⟨by first | rfl | (simp [errW_none, errW_some] <;> rfl) | (simp [*, errW_none, errW_some] <;> rfl), bs4 HB GE847 GE859 GE863 GE871⟩
          ·
           rw [if_neg c138] at H
           have c138b0 : decide (t887 < 0) = false := decide_eq_false c138
           clear c138
           by_cases c148 : t887 = t884
           ·
            rw [if_pos c148] at H
            have c148b0 : (t887 == t884) = true := beq_iff_eq.mpr c148
            have c148b1 : (t887 != t884) = false := bne_eq_false_iff_eq.mpr c148
            clear c148
            replace H := Option.bind_eq_some_iff.mp H
            obtain ⟨t888, A1490, H⟩ := H
            replace H : ((impl_PunchMap.f kj77 t888 a1 a2).bind fun bt891 => ((laws_eqFileMap.f kj77 bt891.1 t852).bind fun t899 => (if t899 = true then ((laws_eqExtentS.f kj77 bt891.2.1 t855).bind fun t900 => (if t900 = true then (laws_FnExactPunchMap.j2 kj77 t885 t884 (bt891.2.2 != t858) t883) else (laws_FnExactPunchMap.j2 kj77 t885 t884 true t883))) else (laws_FnExactPunchMap.j2 kj77 t885 t884 true t883)))) = some r := H
            have A149 := Aside0.mk A1490
            clear A1490
            replace H := Option.bind_eq_some_iff.mp H
            obtain ⟨⟨t891, t894, t897⟩, A1500, H⟩ := H
            replace H : ((laws_eqFileMap.f kj77 t891 t852).bind fun t899 => (if t899 = true then ((laws_eqExtentS.f kj77 t894 t855).bind fun t900 => (if t900 = true then (laws_FnExactPunchMap.j2 kj77 t885 t884 (t897 != t858) t883) else (laws_FnExactPunchMap.j2 kj77 t885 t884 true t883))) else (laws_FnExactPunchMap.j2 kj77 t885 t884 true t883))) = some r := H
            have A150 := Aside0.mk A1500
            clear A1500
            have HC151 := Aside0.mk H
            clear H
            have hnb152 := NB871_847.out
            have hnc152 := NB847_871.out
            have hnb153 := NB871_859.out
            have hnc153 := NB859_871.out
            have hnb154 := NB871_863.out
            have hnc154 := NB863_871.out
            have hcz155_0 := cz1 BK871
            have hfz155_0 := fz1 BK871
            go_upto_region 29 with (first | ((with_reducible refine gate_callee (f := 26) rfl ?_); refine gL (some 89) rfl rfl Try.func26 (by kernel_rfl) rfl #[.agg #[.slice Ao34 t864.length co34], .int .i64 1] rfl ?_; (with_reducible refine (laws_markFileMap.calls kj77 (fun k_ => some k_ = (.slice Ao34 t864.length co34 : Value).ownBlock) (.slice Ao34 t864.length co34) t864 1 t882 t883 w _ ?side1 ?side2 A124.out).mono ?_); (case side1 => repeat (first | (with_reducible first | exact HB.out | apply below_alloc | apply pw_below_drewN | apply below_drew1 | refine below_set ?_ GE847.out | refine below_set ?_ GE859.out | refine below_set ?_ GE863.out | refine below_set ?_ GE871.out) | exact HB.out)); (case side2 => exact Kd.R_tight rfl HO_872000.out); rintro e w156 ⟨rfl, hy0, hb, hkp⟩; refine ⟨_, rfl, ?_⟩; replace HO_9 := Aside0.mk (Kd.R_mono (ok' := fun k_ => some k_ ≠ (v868 : Value).ownBlock) (Kd.R_keptB ((Kd.R_apart' HO_9.out (Kd.R_typed HO_872000.out) (by decide))) hkp (fun k_ hk_ hs_ => (hk_.2) hs_)) (fun k_ hk_ => hk_.1.1)); replace HO_13 := Aside0.mk (Kd.R_mono (ok' := fun k_ => some k_ ≠ (v856 : Value).ownBlock) (Kd.R_keptB ((Kd.R_apart' HO_13.out (Kd.R_typed HO_872000.out) (by decide))) hkp (fun k_ hk_ hs_ => (hk_.2) hs_)) (fun k_ hk_ => hk_.1.1)); replace HO_860000 := Aside0.mk (Kd.R_mono (ok' := fun k_ => some k_ ≠ (.slice Ao28 t879.length co28 : Value).ownBlock ∧ some k_ ≠ (.slice Ao34 t864.length co34 : Value).ownBlock) (Kd.R_keptB (HO_860000.out) hkp (fun k_ hk_ hs_ => (hk_.2) hs_)) (fun k_ hk_ => ⟨hk_.1.1, hk_.1.2⟩)); replace HO_864000 := Aside0.mk (Kd.R_mono (ok' := fun k_ => some k_ ≠ (.slice Ao22 t852.length co22 : Value).ownBlock ∧ some k_ ≠ (.slice Ao34 t864.length co34 : Value).ownBlock) (Kd.R_keptB (HO_864000.out) hkp (fun k_ hk_ hs_ => (hk_.2) hs_)) (fun k_ hk_ => ⟨hk_.1.1, hk_.1.2⟩)); replace BK847 := Aside0.mk (blk_kept (bk BK847) hkp (fun hs_ => (fun e_ => (Kd.R_ne HO_872000.out BK847.out (by decide)) e_) hs_)); replace BK859 := Aside0.mk (blk_kept (bk BK859) hkp (fun hs_ => (fun e_ => (Kd.R_ne HO_872000.out BK859.out (by decide)) e_) hs_)); replace BK863 := Aside0.mk (blk_kept (bk BK863) hkp (fun hs_ => (fun e_ => (Kd.R_ne HO_872000.out BK863.out (by decide)) e_) hs_)); replace BK871 := Aside0.mk (blk_kept (bk BK871) hkp (fun hs_ => (fun e_ => (Kd.R_ne HO_872000.out BK871.out (by decide)) e_) hs_)); replace HO_872000 := Aside0.mk (Kd.R_reok rfl hy0 (fun k_ e_ => HO_872000.out.1 k_ e_)); replace HB := Aside0.mk (hb); (try clear hb); (try clear hkp); (try clear hy0); obtain ⟨Ao157, co157, eo157⟩ := Kd.R_slice HO_13.out; subst eo157) | ((with_reducible refine gate_callee (f := 27) rfl ?_); refine gL (some 92) rfl rfl Try.func27 (by kernel_rfl) rfl #[.slice Ao157 t867.length co157, .int .i64 t882] rfl ?_; (with_reducible refine (laws_markExtentS.calls kj77 (fun k_ => some k_ = (.slice Ao157 t867.length co157 : Value).ownBlock) (.slice Ao157 t867.length co157) t867 t882 t884 t885 w _ ?side1 ?side2 A125.out).mono ?_); (case side1 => repeat (first | (with_reducible first | exact HB.out | apply below_alloc | apply pw_below_drewN | apply below_drew1 | refine below_set ?_ GE847.out | refine below_set ?_ GE859.out | refine below_set ?_ GE863.out | refine below_set ?_ GE871.out) | exact HB.out)); (case side2 => exact Kd.R_tight rfl HO_13.out); rintro e w158 ⟨rfl, hy0, hb, hkp⟩; refine ⟨_, rfl, ?_⟩; replace HO_9 := Aside0.mk (Kd.R_mono (ok' := fun k_ => some k_ ≠ (.slice Ao157 t867.length co157 : Value).ownBlock) (Kd.R_keptB (HO_9.out) hkp (fun k_ hk_ hs_ => (hk_) hs_)) (fun k_ hk_ => hk_.1)); replace HO_860000 := Aside0.mk (Kd.R_mono (ok' := fun k_ => some k_ ≠ (.slice Ao28 t879.length co28 : Value).ownBlock ∧ some k_ ≠ (.slice Ao34 t864.length co34 : Value).ownBlock) (Kd.R_keptB ((Kd.R_apart' HO_860000.out (Kd.R_typed HO_13.out) (by decide))) hkp (fun k_ hk_ hs_ => (hk_.2) hs_)) (fun k_ hk_ => ⟨hk_.1.1.1, hk_.1.1.2⟩)); replace HO_864000 := Aside0.mk (Kd.R_mono (ok' := fun k_ => some k_ ≠ (.slice Ao22 t852.length co22 : Value).ownBlock ∧ some k_ ≠ (.slice Ao34 t864.length co34 : Value).ownBlock) (Kd.R_keptB ((Kd.R_apart' HO_864000.out (Kd.R_typed HO_13.out) (by decide))) hkp (fun k_ hk_ hs_ => (hk_.2) hs_)) (fun k_ hk_ => ⟨hk_.1.1.1, hk_.1.1.2⟩)); replace HO_872000 := Aside0.mk (Kd.R_mono (ok' := fun k_ => some k_ ≠ (.slice Ao22 t852.length co22 : Value).ownBlock ∧ some k_ ≠ (.slice Ao28 t879.length co28 : Value).ownBlock) (Kd.R_keptB ((Kd.R_apart' HO_872000.out (Kd.R_typed HO_13.out) (by decide))) hkp (fun k_ hk_ hs_ => (hk_.2) hs_)) (fun k_ hk_ => ⟨hk_.1.1.1, hk_.1.1.2⟩)); replace BK847 := Aside0.mk (blk_kept (bk BK847) hkp (fun hs_ => (fun e_ => (Kd.R_ne HO_13.out BK847.out (by decide)) e_) hs_)); replace BK859 := Aside0.mk (blk_kept (bk BK859) hkp (fun hs_ => (fun e_ => (Kd.R_ne HO_13.out BK859.out (by decide)) e_) hs_)); replace BK863 := Aside0.mk (blk_kept (bk BK863) hkp (fun hs_ => (fun e_ => (Kd.R_ne HO_13.out BK863.out (by decide)) e_) hs_)); replace BK871 := Aside0.mk (blk_kept (bk BK871) hkp (fun hs_ => (fun e_ => (Kd.R_ne HO_13.out BK871.out (by decide)) e_) hs_)); replace HO_13 := Aside0.mk (Kd.R_reok rfl hy0 (fun k_ e_ => HO_13.out.1 k_ e_)); replace HB := Aside0.mk (hb); (try clear hb); (try clear hkp); (try clear hy0); have hcz159_0 := cz1 BK871; have hfz159_0 := fz1 BK871) | ((with_reducible refine gate_callee (f := 32) rfl ?_); refine goesL_ (some 95) rfl rfl Try.func32 (by kernel_rfl) rfl #[.agg #[.slice Ao34 t883.length co34], .int .i64 1] rfl (by (try simp only [List.map_toArray, List.map_cons, List.map_nil]); first | done | (rw [show t883.length = t864.length from (Kd.R_reads' HO_872000.out).1.symm] <;> rfl) | rfl | (simp only [List.length_drop, List.length_take]; rfl)) ?_; (with_reducible refine (laws_heldFileMap.calls kj77 _ _ t883 1 t886 _ ?side1 ?side2 A126.out).mono ?_); (case side1 => exact rc0 HO_872000); (case side2 => rw [show t883.length = t864.length from (Kd.R_reads' HO_872000.out).1.symm]; exact (Kd.R_reads' HO_872000.out).2.1); rintro e w160 ⟨rfl, hb⟩; refine ⟨_, rfl, ?_⟩; replace HO_9 := nr HO_9 hb; replace HO_13 := nr HO_13 hb; replace HO_860000 := nr HO_860000 hb; replace HO_864000 := nr HO_864000 hb; replace HO_872000 := nr HO_872000 hb; replace BK847 := nb BK847 hb; replace BK859 := nb BK859 hb; replace BK863 := nb BK863 hb; replace BK871 := nb BK871 hb; replace HB := Aside0.mk (below_step (bs4 HB GE847 GE859 GE863 GE871) hb); (try clear hb); (try clear hb2); (try clear hk); (try clear hi)) | ((with_reducible refine gate_callee (f := 28) rfl ?_); refine goesL_ (some 100) rfl rfl Try.func28 (by kernel_rfl) rfl #[.slice Ao157 t885.length co157, .int .i64 t886] rfl (by (try simp only [List.map_toArray, List.map_cons, List.map_nil]); first | done | (rw [show t885.length = t867.length from (Kd.R_reads' HO_13.out).1.symm] <;> rfl) | rfl | (simp only [List.length_drop, List.length_take]; rfl)) ?_; (with_reducible refine (laws_heldExtentS.calls kj77 _ _ t885 t886 t887 _ ?side1 ?side2 A137.out).mono ?_); (case side1 => exact rc0 HO_13); (case side2 => rw [show t885.length = t867.length from (Kd.R_reads' HO_13.out).1.symm]; exact (Kd.R_reads' HO_13.out).2.1); rintro e w' ⟨rfl, ⟨nd, rfl⟩⟩; refine ⟨_, rfl, ?_⟩; (try (rw [drewN_self w160]; generalize hq_ : World.drewN w160 _ = w160; have n0_ : Aside0 (Kd.R k61 61 w160 w.heap.size (fun k_ => some k_ ≠ (v856 : Value).ownBlock) (.slice Ao157 t867.length co157) t885) := ⟨by rw [← hq_]; exact (rr HO_13.out)⟩; have n1_ : Aside0 (Kd.R k48 48 w160 w.heap.size (fun k_ => some k_ ≠ (.slice Ao28 t879.length co28 : Value).ownBlock ∧ some k_ ≠ (.slice Ao34 t864.length co34 : Value).ownBlock) (.slice Ao22 t852.length co22) t852) := ⟨by rw [← hq_]; exact (rr HO_860000.out)⟩; have n2_ : Aside0 (Kd.R k48 48 w160 w.heap.size (fun k_ => some k_ ≠ (.slice Ao22 t852.length co22 : Value).ownBlock ∧ some k_ ≠ (.slice Ao34 t864.length co34 : Value).ownBlock) (.slice Ao28 t879.length co28) t879) := ⟨by rw [← hq_]; exact (rr HO_864000.out)⟩; have n3_ : Aside0 (Kd.R k48 48 w160 w.heap.size (fun k_ => some k_ ≠ (.slice Ao22 t852.length co22 : Value).ownBlock ∧ some k_ ≠ (.slice Ao28 t879.length co28 : Value).ownBlock) (.slice Ao34 t864.length co34) t883) := ⟨by rw [← hq_]; exact (rr HO_872000.out)⟩; have n4_ : Aside0 (Kd.R k61 61 w160 w.heap.size (fun k_ => some k_ ≠ (.slice Ao157 t867.length co157 : Value).ownBlock) v856 t855) := ⟨by rw [← hq_]; exact (rr HO_9.out)⟩; have n5_ : Aside0 (w160.heap[gb847]? = some (.cells #[.slice A0_0 l0_0.length c0_0] 24 (0, 0))) := ⟨by rw [← hq_]; exact (bk BK847)⟩; have n6_ : Aside0 (w160.heap[gb859]? = some (.cells #[.slice Ao22 t852.length co22] 29 (0, 0))) := ⟨by rw [← hq_]; exact (bk BK859)⟩; have n7_ : Aside0 (w160.heap[gb863]? = some (.cells #[.slice Ao28 t879.length co28] 29 (0, 0))) := ⟨by rw [← hq_]; exact (bk BK863)⟩; have n8_ : Aside0 (w160.heap[gb871]? = some (.cells #[.slice Ao34 t864.length co34] 29 (0, 0))) := ⟨by rw [← hq_]; exact (bk BK871)⟩; have n9_ : Aside0 (Below w.heap.size w w160) := ⟨by rw [← hq_]; exact (bs4 HB GE847 GE859 GE863 GE871)⟩; clear HO_13 HO_860000 HO_864000 HO_872000 HO_9 BK847 BK859 BK863 BK871 HB hq_; have HO_13 := n0_; have HO_860000 := n1_; have HO_864000 := n2_; have HO_872000 := n3_; have HO_9 := n4_; have BK847 := n5_; have BK859 := n6_; have BK863 := n7_; have BK871 := n8_; have HB := n9_; clear n0_ n1_ n2_ n3_ n4_ n5_ n6_ n7_ n8_ n9_)); have hnb161 := NB847_859.out; have hnc161 := NB859_847.out; have hnb162 := NB847_863.out; have hnc162 := NB863_847.out; have hcz163_0 := cz1 BK847; have hfz163_0 := fz1 BK847) | ((with_reducible refine gate_callee (f := 16) rfl ?_); refine gL (some 108) rfl rfl Try.func16 (by kernel_rfl) rfl #[.agg #[.slice A0_0 l0_0.length c0_0]] rfl ?_; (with_reducible refine (laws_toFileMap.calls kj77 _ _ l0_0 t888 _ ?side1 ?side2 A149.out).mono ?_); (case side1 => exact cb HR0_0 HB); (case side2 => exact HC0_0.out); rintro e w164 ⟨v889, rfl, ho0, hb⟩; refine ⟨_, rfl, ?_⟩; replace HO_9 := nr HO_9 hb; replace HO_13 := nr HO_13 hb; have HO890 := Aside0.mk (Kd.R_lower (Kd.R_new' (Kd.R_new' (Kd.R_new' ho0 (Kd.R_lt (rr HO_860000.out))) (Kd.R_lt (rr HO_864000.out))) (Kd.R_lt (rr HO_872000.out))) (below_size (bs4 HB GE847 GE859 GE863 GE871))); replace HO_860000 := Aside0.mk (Kd.R_elder' (rr HO_860000.out) (Kd.R_base ho0) hb); replace HO_864000 := Aside0.mk (Kd.R_elder' (rr HO_864000.out) (Kd.R_base ho0) hb); replace HO_872000 := Aside0.mk (Kd.R_elder' (rr HO_872000.out) (Kd.R_base ho0) hb); replace BK847 := nb BK847 hb; replace BK859 := nb BK859 hb; replace BK863 := nb BK863 hb; replace BK871 := nb BK871 hb; replace HB := Aside0.mk (below_step (bs4 HB GE847 GE859 GE863 GE871) hb); (try clear hb); (try clear hb2); (try clear hk); (try clear hi); (try clear ho0); obtain ⟨Ao165, co165, eo165⟩ := Kd.R_slice HO890.out; subst eo165) | ((with_reducible refine gate_callee (f := 40) rfl ?_); refine gL (some 111) rfl rfl Try.func40 (by kernel_rfl) rfl #[.agg #[.slice Ao165 t888.length co165], .int .i64 a1, .int .i64 a2] rfl ?_; (with_reducible refine (impl_PunchMap.calls kj77 _ _ t888 a1 a2 t891 t894 t897 _ ?side1 ?side2 A150.out).mono ?_); (case side1 => exact rc0 HO890); (case side2 => exact (Kd.R_reads' HO890.out).2.1); rintro e w166 ⟨v892, v895, rfl, ho0, ho1, hb⟩; refine ⟨_, rfl, ?_⟩; have HO893 := Aside0.mk (Kd.R_lower (Kd.R_new' (Kd.R_new' (Kd.R_new' (Kd.R_new' ho0 (Kd.R_lt (rr HO_860000.out))) (Kd.R_lt (rr HO_864000.out))) (Kd.R_lt (rr HO_872000.out))) (Kd.R_lt (rr HO890.out))) (below_size (bs4 HB GE847 GE859 GE863 GE871))); replace HO_860000 := Aside0.mk (Kd.R_elder' (rr HO_860000.out) (Kd.R_base ho0) hb); replace HO_864000 := Aside0.mk (Kd.R_elder' (rr HO_864000.out) (Kd.R_base ho0) hb); replace HO_872000 := Aside0.mk (Kd.R_elder' (rr HO_872000.out) (Kd.R_base ho0) hb); replace HO890 := Aside0.mk (Kd.R_elder' (rr HO890.out) (Kd.R_base ho0) hb); have HO896 := Aside0.mk (Kd.R_lower (Kd.R_new' (Kd.R_new' ho1 (Kd.R_lt (rr HO_9.out))) (Kd.R_lt (rr HO_13.out))) (below_size (bs4 HB GE847 GE859 GE863 GE871))); replace HO_9 := Aside0.mk (Kd.R_elder' (rr HO_9.out) (Kd.R_base ho1) hb); replace HO_13 := Aside0.mk (Kd.R_elder' (rr HO_13.out) (Kd.R_base ho1) hb); replace BK847 := nb BK847 hb; replace BK859 := nb BK859 hb; replace BK863 := nb BK863 hb; replace BK871 := nb BK871 hb; replace HB := Aside0.mk (below_step (bs4 HB GE847 GE859 GE863 GE871) hb); (try clear hb); (try clear hb2); (try clear hk); (try clear hi); (try clear ho0); (try clear ho1)) | ((with_reducible refine gate_dst (N := 18) rfl ?_); refine box_event ?hg (N := 18) ?hd (cs := #[.slice none 0 0]) (t := 29) ?hr ?_; (case hd => rfl); (case hg => rfl); (case hr => first | (go_simp; done) | (go_simp; rfl)); intro gb898 hg w167 hbox hb; replace HO_9 := nr HO_9 hb; replace HO_13 := nr HO_13 hb; replace HO_860000 := nr HO_860000 hb; replace HO_864000 := nr HO_864000 hb; replace HO_872000 := nr HO_872000 hb; replace HO890 := nr HO890 hb; replace HO893 := nr HO893 hb; replace HO896 := nr HO896 hb; have BK898 := Aside0.mk (hbox); have GW898 := Aside0.mk ((by rw [hg]; exact (below_size (bs4 HB GE847 GE859 GE863 GE871)) : w.heap.size ≤ gb898)); have GE898 := Aside0.mk ((by rw [hg]; exact (below_size (bs4 HB GE847 GE859 GE863 GE871)) : w.heap.size ≤ gb898)); replace HB := Aside0.mk (below_step (bs4 HB GE847 GE859 GE863 GE871) hb); have NB847_898 := Aside0.mk ((bn BK847 hg : gb847 ≠ gb898)); have NB898_847 := Aside0.mk ((bm BK847 hg : gb898 ≠ gb847)); replace BK847 := nb BK847 hb; have NB859_898 := Aside0.mk ((bn BK859 hg : gb859 ≠ gb898)); have NB898_859 := Aside0.mk ((bm BK859 hg : gb898 ≠ gb859)); replace BK859 := nb BK859 hb; have NB863_898 := Aside0.mk ((bn BK863 hg : gb863 ≠ gb898)); have NB898_863 := Aside0.mk ((bm BK863 hg : gb898 ≠ gb863)); replace BK863 := nb BK863 hb; have NB871_898 := Aside0.mk ((bn BK871 hg : gb871 ≠ gb898)); have NB898_871 := Aside0.mk ((bm BK871 hg : gb898 ≠ gb871)); replace BK871 := nb BK871 hb; clear hb hbox hg; obtain ⟨Ao168, co168, eo168⟩ := Kd.R_slice HO893.out; subst eo168; have hnb169 := NB898_847.out; have hnc169 := NB847_898.out; have hnb170 := NB898_859.out; have hnc170 := NB859_898.out; have hnb171 := NB898_863.out; have hnc171 := NB863_898.out; have hnb172 := NB898_871.out; have hnc172 := NB871_898.out; have hcz173_0 := cz1 BK898; have hfz173_0 := fz1 BK898))
            (try simp only [Act.put, List.setIfInBounds_toArray, List.set_cons_zero, List.set_cons_succ])
            go_cut [129] (fun v129 wc => ∃ (kq : Nat) (x129_150 : Bool), v129 = .bool x129_150 ∧ Aside0 (laws_FnExactPunchMap.j2 kq t885 t884 x129_150 t883 = some r) ∧ Aside0 (kq ≤ kj77) ∧ Aside0 (Kd.R k61 61 wc w.heap.size (fun _ => True) (.slice Ao157 t867.length co157) t885) ∧ Aside0 (Kd.R k48 48 wc w.heap.size (fun k_ => some k_ ≠ ((.slice Ao28 t879.length co28) : Value).ownBlock ∧ some k_ ≠ ((.slice Ao34 t864.length co34) : Value).ownBlock ∧ some k_ ≠ ((.slice Ao168 t891.length co168) : Value).ownBlock) (.slice Ao22 t852.length co22) t852) ∧ Aside0 (Kd.R k48 48 wc w.heap.size (fun k_ => some k_ ≠ ((.slice Ao22 t852.length co22) : Value).ownBlock ∧ some k_ ≠ ((.slice Ao34 t864.length co34) : Value).ownBlock ∧ some k_ ≠ ((.slice Ao168 t891.length co168) : Value).ownBlock) (.slice Ao28 t879.length co28) t879) ∧ Aside0 (Kd.R k48 48 wc w.heap.size (fun k_ => some k_ ≠ ((.slice Ao22 t852.length co22) : Value).ownBlock ∧ some k_ ≠ ((.slice Ao28 t879.length co28) : Value).ownBlock ∧ some k_ ≠ ((.slice Ao168 t891.length co168) : Value).ownBlock) (.slice Ao34 t864.length co34) t883) ∧ Aside0 (Kd.R k48 48 wc w.heap.size (fun k_ => some k_ ≠ ((.slice Ao22 t852.length co22) : Value).ownBlock ∧ some k_ ≠ ((.slice Ao28 t879.length co28) : Value).ownBlock ∧ some k_ ≠ ((.slice Ao34 t864.length co34) : Value).ownBlock) (.slice Ao168 t891.length co168) t891) ∧ Aside0 (wc.heap[gb847]? = some (.cells #[(.slice A0_0 l0_0.length c0_0)] 24 (0, 0))) ∧ Aside0 (wc.heap[gb859]? = some (.cells #[(.slice Ao22 t852.length co22)] 29 (0, 0))) ∧ Aside0 (wc.heap[gb863]? = some (.cells #[(.slice Ao28 t879.length co28)] 29 (0, 0))) ∧ Aside0 (wc.heap[gb871]? = some (.cells #[(.slice Ao34 t864.length co34)] 29 (0, 0))) ∧ Aside0 (wc.heap[gb898]? = some (.cells #[(.slice Ao168 t891.length co168)] 29 (0, 0))) ∧ Aside0 (Below w.heap.size w wc))
            case first =>
             have H := HC151.out
             clear HC151
             replace H := Option.bind_eq_some_iff.mp H
             obtain ⟨t899, A1740, H⟩ := H
             replace H : (if t899 = true then ((laws_eqExtentS.f kj77 t894 t855).bind fun t900 => (if t900 = true then (laws_FnExactPunchMap.j2 kj77 t885 t884 (t897 != t858) t883) else (laws_FnExactPunchMap.j2 kj77 t885 t884 true t883))) else (laws_FnExactPunchMap.j2 kj77 t885 t884 true t883)) = some r := H
             have A174 := Aside0.mk A1740
             clear A1740
             by_cases c175 : t899 = true
             ·
              subst c175
              rw [if_pos rfl] at H
              replace H := Option.bind_eq_some_iff.mp H
              obtain ⟨t900, A1760, H⟩ := H
              replace H : (if t900 = true then (laws_FnExactPunchMap.j2 kj77 t885 t884 (t897 != t858) t883) else (laws_FnExactPunchMap.j2 kj77 t885 t884 true t883)) = some r := H
              have A176 := Aside0.mk A1760
              clear A1760
              by_cases c177 : t900 = true
              ·
               subst c177
               rw [if_pos rfl] at H
               have H' := Aside0.mk H
               clear H
               have hnb178 := NB898_847.out
               have hnc178 := NB847_898.out
               have hnb179 := NB898_859.out
               have hnc179 := NB859_898.out
               have hnb180 := NB898_863.out
               have hnc180 := NB863_898.out
               have hnb181 := NB898_871.out
               have hnc181 := NB871_898.out
               have hcz182_0 := cz1 BK898
               have hfz182_0 := fz1 BK898
               have hnb183 := NB859_847.out
               have hnc183 := NB847_859.out
               have hnb184 := NB859_863.out
               have hnc184 := NB863_859.out
               have hnb185 := NB859_871.out
               have hnc185 := NB871_859.out
               have hcz186_0 := cz1 BK859
               have hfz186_0 := fz1 BK859
               go_wp2_with (first | ((with_reducible refine gate_callee (f := 18) rfl ?_); refine gL (some 117) rfl rfl Try.func18 (by kernel_rfl) rfl #[.agg #[.slice Ao168 t891.length co168], .agg #[.slice Ao22 t852.length co22]] rfl ?_; (with_reducible refine (laws_eqFileMap.calls kj77 _ _ t891 _ _ t852 true _ ?side1 ?side2 ?side3 ?side4 A174.out).mono ?_); (case side1 => exact rc HO893 BK898); (case side2 => exact (Kd.R_reads' HO893.out).2.1); (case side3 => exact rc HO_860000 BK898); (case side4 => exact (Kd.R_reads' HO_860000.out).2.1); rintro e w187 ⟨rfl, hb⟩; refine ⟨_, rfl, ?_⟩; replace HO_9 := nf HO_9 BK898 hb; replace HO_13 := nf HO_13 BK898 hb; replace HO_860000 := nf HO_860000 BK898 hb; replace HO_864000 := nf HO_864000 BK898 hb; replace HO_872000 := nf HO_872000 BK898 hb; replace HO890 := nf HO890 BK898 hb; replace HO893 := nf HO893 BK898 hb; replace HO896 := nf HO896 BK898 hb; replace BK847 := Aside0.mk (blk_below (bf BK847 NB847_898) hb); replace BK859 := Aside0.mk (blk_below (bf BK859 NB859_898) hb); replace BK863 := Aside0.mk (blk_below (bf BK863 NB863_898) hb); replace BK871 := Aside0.mk (blk_below (bf BK871 NB871_898) hb); replace BK898 := Aside0.mk (blk_below (g := gb898) (o := .cells #[.slice Ao168 t891.length co168] 29 (0, 0)) (by (with_reducible repeat (first | refine blk_drewN ?_ _ | refine blk_drew ?_ | refine blk_alloc ?_ _)); refine blk_put (cs := #[.slice none 0 0]) ?_ 0 _ rfl; (with_reducible repeat (first | refine blk_drewN ?_ _ | refine blk_drew ?_ | refine blk_alloc ?_ _)); exact BK898.out) hb); replace HB := Aside0.mk (below_step (bs5 HB GE847 GE859 GE863 GE871 GE898) hb); (try clear hb); (try clear hb2); (try clear hk); (try clear hi); obtain ⟨Ao188, co188, eo188⟩ := Kd.R_slice HO896.out; subst eo188; obtain ⟨Ao189, co189, eo189⟩ := Kd.R_slice HO_9.out; subst eo189) | (go_at_call 25; (with_reducible refine (laws_eqExtentS.calls kj77 _ _ t894 _ _ t855 true _ ?side1 ?side2 ?side3 ?side4 A176.out).mono ?_); (case side1 => exact rc0 HO896); (case side2 => exact (Kd.R_reads' HO896.out).2.1); (case side3 => exact rc0 HO_9); (case side4 => exact (Kd.R_reads' HO_9.out).2.1); rintro e w190 ⟨rfl, hb⟩; replace HO_9 := nr HO_9 hb; replace HO_13 := nr HO_13 hb; replace HO_860000 := nr HO_860000 hb; replace HO_864000 := nr HO_864000 hb; replace HO_872000 := nr HO_872000 hb; replace HO890 := nr HO890 hb; replace HO893 := nr HO893 hb; replace HO896 := nr HO896 hb; replace BK847 := nb BK847 hb; replace BK859 := nb BK859 hb; replace BK863 := nb BK863 hb; replace BK871 := nb BK871 hb; replace BK898 := nb BK898 hb; replace HB := Aside0.mk (below_step (bs5 HB GE847 GE859 GE863 GE871 GE898) hb); (try clear hb); (try clear hb2); (try clear hk); (try clear hi)))
               go_meet
               case rel => exact ⟨_, ((t897 != t858)), (by first | rfl | (simp; done) | (simp [*]; done)), H', ⟨by have := HJ12.out; have := HJ77.out; first | omega | exact Nat.le_refl _⟩, ⟨by (try simp only [hl864000_77]); (with_reducible repeat (first | apply Kd.R_alloc | apply Kd.R_drewN | apply Kd.R_drew)); exact Kd.R_mono HO_13.out (fun _ hk => trivial)⟩, ⟨by (try simp only [hl864000_77]); (with_reducible repeat (first | apply Kd.R_alloc | apply Kd.R_drewN | apply Kd.R_drew)); exact Kd.R_mono HO_860000.out (fun _ hk => ⟨hk.1.1.1, ⟨hk.1.1.2, hk.2⟩⟩)⟩, ⟨by (try simp only [hl864000_77]); (with_reducible repeat (first | apply Kd.R_alloc | apply Kd.R_drewN | apply Kd.R_drew)); exact Kd.R_mono HO_864000.out (fun _ hk => ⟨hk.1.1.1, ⟨hk.1.1.2, hk.2⟩⟩)⟩, ⟨by (try simp only [hl864000_77]); (with_reducible repeat (first | apply Kd.R_alloc | apply Kd.R_drewN | apply Kd.R_drew)); exact Kd.R_mono HO_872000.out (fun _ hk => ⟨hk.1.1.1, ⟨hk.1.1.2, hk.2⟩⟩)⟩, ⟨by (try simp only [hl864000_77]); (with_reducible repeat (first | apply Kd.R_alloc | apply Kd.R_drewN | apply Kd.R_drew)); exact Kd.R_mono HO893.out (fun _ hk => ⟨hk.1.1.1.2, ⟨hk.1.1.2, hk.1.2⟩⟩)⟩, ⟨by (try simp only [hl864000_77]); (with_reducible repeat (first | refine blk_drewN ?_ _ | refine blk_drew ?_ | refine blk_alloc ?_ _)); exact BK847.out⟩, ⟨by (try simp only [hl864000_77]); (with_reducible repeat (first | refine blk_drewN ?_ _ | refine blk_drew ?_ | refine blk_alloc ?_ _)); exact BK859.out⟩, ⟨by (try simp only [hl864000_77]); (with_reducible repeat (first | refine blk_drewN ?_ _ | refine blk_drew ?_ | refine blk_alloc ?_ _)); exact BK863.out⟩, ⟨by (try simp only [hl864000_77]); (with_reducible repeat (first | refine blk_drewN ?_ _ | refine blk_drew ?_ | refine blk_alloc ?_ _)); exact BK871.out⟩, ⟨by (try simp only [hl864000_77]); (with_reducible repeat (first | refine blk_drewN ?_ _ | refine blk_drew ?_ | refine blk_alloc ?_ _)); exact BK898.out⟩, ⟨bs5 HB GE847 GE859 GE863 GE871 GE898⟩⟩
              ·
               replace c177 := Bool.eq_false_iff.mpr c177
               subst c177
               rw [if_neg (show ¬ (false = true) by decide)] at H
               have H' := Aside0.mk H
               clear H
               have hnb191 := NB898_847.out
               have hnc191 := NB847_898.out
               have hnb192 := NB898_859.out
               have hnc192 := NB859_898.out
               have hnb193 := NB898_863.out
               have hnc193 := NB863_898.out
               have hnb194 := NB898_871.out
               have hnc194 := NB871_898.out
               have hcz195_0 := cz1 BK898
               have hfz195_0 := fz1 BK898
               have hnb196 := NB859_847.out
               have hnc196 := NB847_859.out
               have hnb197 := NB859_863.out
               have hnc197 := NB863_859.out
               have hnb198 := NB859_871.out
               have hnc198 := NB871_859.out
               have hcz199_0 := cz1 BK859
               have hfz199_0 := fz1 BK859
               go_wp2_with (first | ((with_reducible refine gate_callee (f := 18) rfl ?_); refine gL (some 117) rfl rfl Try.func18 (by kernel_rfl) rfl #[.agg #[.slice Ao168 t891.length co168], .agg #[.slice Ao22 t852.length co22]] rfl ?_; (with_reducible refine (laws_eqFileMap.calls kj77 _ _ t891 _ _ t852 true _ ?side1 ?side2 ?side3 ?side4 A174.out).mono ?_); (case side1 => exact rc HO893 BK898); (case side2 => exact (Kd.R_reads' HO893.out).2.1); (case side3 => exact rc HO_860000 BK898); (case side4 => exact (Kd.R_reads' HO_860000.out).2.1); rintro e w200 ⟨rfl, hb⟩; refine ⟨_, rfl, ?_⟩; replace HO_9 := nf HO_9 BK898 hb; replace HO_13 := nf HO_13 BK898 hb; replace HO_860000 := nf HO_860000 BK898 hb; replace HO_864000 := nf HO_864000 BK898 hb; replace HO_872000 := nf HO_872000 BK898 hb; replace HO890 := nf HO890 BK898 hb; replace HO893 := nf HO893 BK898 hb; replace HO896 := nf HO896 BK898 hb; replace BK847 := Aside0.mk (blk_below (bf BK847 NB847_898) hb); replace BK859 := Aside0.mk (blk_below (bf BK859 NB859_898) hb); replace BK863 := Aside0.mk (blk_below (bf BK863 NB863_898) hb); replace BK871 := Aside0.mk (blk_below (bf BK871 NB871_898) hb); replace BK898 := Aside0.mk (blk_below (g := gb898) (o := .cells #[.slice Ao168 t891.length co168] 29 (0, 0)) (by (with_reducible repeat (first | refine blk_drewN ?_ _ | refine blk_drew ?_ | refine blk_alloc ?_ _)); refine blk_put (cs := #[.slice none 0 0]) ?_ 0 _ rfl; (with_reducible repeat (first | refine blk_drewN ?_ _ | refine blk_drew ?_ | refine blk_alloc ?_ _)); exact BK898.out) hb); replace HB := Aside0.mk (below_step (bs5 HB GE847 GE859 GE863 GE871 GE898) hb); (try clear hb); (try clear hb2); (try clear hk); (try clear hi); obtain ⟨Ao201, co201, eo201⟩ := Kd.R_slice HO896.out; subst eo201; obtain ⟨Ao202, co202, eo202⟩ := Kd.R_slice HO_9.out; subst eo202) | (go_at_call 25; (with_reducible refine (laws_eqExtentS.calls kj77 _ _ t894 _ _ t855 false _ ?side1 ?side2 ?side3 ?side4 A176.out).mono ?_); (case side1 => exact rc0 HO896); (case side2 => exact (Kd.R_reads' HO896.out).2.1); (case side3 => exact rc0 HO_9); (case side4 => exact (Kd.R_reads' HO_9.out).2.1); rintro e w203 ⟨rfl, hb⟩; replace HO_9 := nr HO_9 hb; replace HO_13 := nr HO_13 hb; replace HO_860000 := nr HO_860000 hb; replace HO_864000 := nr HO_864000 hb; replace HO_872000 := nr HO_872000 hb; replace HO890 := nr HO890 hb; replace HO893 := nr HO893 hb; replace HO896 := nr HO896 hb; replace BK847 := nb BK847 hb; replace BK859 := nb BK859 hb; replace BK863 := nb BK863 hb; replace BK871 := nb BK871 hb; replace BK898 := nb BK898 hb; replace HB := Aside0.mk (below_step (bs5 HB GE847 GE859 GE863 GE871 GE898) hb); (try clear hb); (try clear hb2); (try clear hk); (try clear hi)))
               go_meet
               case rel => exact ⟨_, (true), (by first | rfl | (simp; done) | (simp [*]; done)), H', ⟨by have := HJ12.out; have := HJ77.out; first | omega | exact Nat.le_refl _⟩, ⟨by (try simp only [hl864000_77]); (with_reducible repeat (first | apply Kd.R_alloc | apply Kd.R_drewN | apply Kd.R_drew)); exact Kd.R_mono HO_13.out (fun _ hk => trivial)⟩, ⟨by (try simp only [hl864000_77]); (with_reducible repeat (first | apply Kd.R_alloc | apply Kd.R_drewN | apply Kd.R_drew)); exact Kd.R_mono HO_860000.out (fun _ hk => ⟨hk.1.1.1, ⟨hk.1.1.2, hk.2⟩⟩)⟩, ⟨by (try simp only [hl864000_77]); (with_reducible repeat (first | apply Kd.R_alloc | apply Kd.R_drewN | apply Kd.R_drew)); exact Kd.R_mono HO_864000.out (fun _ hk => ⟨hk.1.1.1, ⟨hk.1.1.2, hk.2⟩⟩)⟩, ⟨by (try simp only [hl864000_77]); (with_reducible repeat (first | apply Kd.R_alloc | apply Kd.R_drewN | apply Kd.R_drew)); exact Kd.R_mono HO_872000.out (fun _ hk => ⟨hk.1.1.1, ⟨hk.1.1.2, hk.2⟩⟩)⟩, ⟨by (try simp only [hl864000_77]); (with_reducible repeat (first | apply Kd.R_alloc | apply Kd.R_drewN | apply Kd.R_drew)); exact Kd.R_mono HO893.out (fun _ hk => ⟨hk.1.1.1.2, ⟨hk.1.1.2, hk.1.2⟩⟩)⟩, ⟨by (try simp only [hl864000_77]); (with_reducible repeat (first | refine blk_drewN ?_ _ | refine blk_drew ?_ | refine blk_alloc ?_ _)); exact BK847.out⟩, ⟨by (try simp only [hl864000_77]); (with_reducible repeat (first | refine blk_drewN ?_ _ | refine blk_drew ?_ | refine blk_alloc ?_ _)); exact BK859.out⟩, ⟨by (try simp only [hl864000_77]); (with_reducible repeat (first | refine blk_drewN ?_ _ | refine blk_drew ?_ | refine blk_alloc ?_ _)); exact BK863.out⟩, ⟨by (try simp only [hl864000_77]); (with_reducible repeat (first | refine blk_drewN ?_ _ | refine blk_drew ?_ | refine blk_alloc ?_ _)); exact BK871.out⟩, ⟨by (try simp only [hl864000_77]); (with_reducible repeat (first | refine blk_drewN ?_ _ | refine blk_drew ?_ | refine blk_alloc ?_ _)); exact BK898.out⟩, ⟨bs5 HB GE847 GE859 GE863 GE871 GE898⟩⟩
             ·
              replace c175 := Bool.eq_false_iff.mpr c175
              subst c175
              rw [if_neg (show ¬ (false = true) by decide)] at H
              have H' := Aside0.mk H
              clear H
              have hnb204 := NB898_847.out
              have hnc204 := NB847_898.out
              have hnb205 := NB898_859.out
              have hnc205 := NB859_898.out
              have hnb206 := NB898_863.out
              have hnc206 := NB863_898.out
              have hnb207 := NB898_871.out
              have hnc207 := NB871_898.out
              have hcz208_0 := cz1 BK898
              have hfz208_0 := fz1 BK898
              have hnb209 := NB859_847.out
              have hnc209 := NB847_859.out
              have hnb210 := NB859_863.out
              have hnc210 := NB863_859.out
              have hnb211 := NB859_871.out
              have hnc211 := NB871_859.out
              have hcz212_0 := cz1 BK859
              have hfz212_0 := fz1 BK859
              go_wp2_with (first | ((with_reducible refine gate_callee (f := 18) rfl ?_); refine gL (some 117) rfl rfl Try.func18 (by kernel_rfl) rfl #[.agg #[.slice Ao168 t891.length co168], .agg #[.slice Ao22 t852.length co22]] rfl ?_; (with_reducible refine (laws_eqFileMap.calls kj77 _ _ t891 _ _ t852 false _ ?side1 ?side2 ?side3 ?side4 A174.out).mono ?_); (case side1 => exact rc HO893 BK898); (case side2 => exact (Kd.R_reads' HO893.out).2.1); (case side3 => exact rc HO_860000 BK898); (case side4 => exact (Kd.R_reads' HO_860000.out).2.1); rintro e w213 ⟨rfl, hb⟩; refine ⟨_, rfl, ?_⟩; replace HO_9 := nf HO_9 BK898 hb; replace HO_13 := nf HO_13 BK898 hb; replace HO_860000 := nf HO_860000 BK898 hb; replace HO_864000 := nf HO_864000 BK898 hb; replace HO_872000 := nf HO_872000 BK898 hb; replace HO890 := nf HO890 BK898 hb; replace HO893 := nf HO893 BK898 hb; replace HO896 := nf HO896 BK898 hb; replace BK847 := Aside0.mk (blk_below (bf BK847 NB847_898) hb); replace BK859 := Aside0.mk (blk_below (bf BK859 NB859_898) hb); replace BK863 := Aside0.mk (blk_below (bf BK863 NB863_898) hb); replace BK871 := Aside0.mk (blk_below (bf BK871 NB871_898) hb); replace BK898 := Aside0.mk (blk_below (g := gb898) (o := .cells #[.slice Ao168 t891.length co168] 29 (0, 0)) (by (with_reducible repeat (first | refine blk_drewN ?_ _ | refine blk_drew ?_ | refine blk_alloc ?_ _)); refine blk_put (cs := #[.slice none 0 0]) ?_ 0 _ rfl; (with_reducible repeat (first | refine blk_drewN ?_ _ | refine blk_drew ?_ | refine blk_alloc ?_ _)); exact BK898.out) hb); replace HB := Aside0.mk (below_step (bs5 HB GE847 GE859 GE863 GE871 GE898) hb); (try clear hb); (try clear hb2); (try clear hk); (try clear hi)))
              go_meet
              case rel => exact ⟨_, (true), (by first | rfl | (simp; done) | (simp [*]; done)), H', ⟨by have := HJ12.out; have := HJ77.out; first | omega | exact Nat.le_refl _⟩, ⟨by (try simp only [hl864000_77]); (with_reducible repeat (first | apply Kd.R_alloc | apply Kd.R_drewN | apply Kd.R_drew)); exact Kd.R_mono HO_13.out (fun _ hk => trivial)⟩, ⟨by (try simp only [hl864000_77]); (with_reducible repeat (first | apply Kd.R_alloc | apply Kd.R_drewN | apply Kd.R_drew)); exact Kd.R_mono HO_860000.out (fun _ hk => ⟨hk.1.1.1, ⟨hk.1.1.2, hk.2⟩⟩)⟩, ⟨by (try simp only [hl864000_77]); (with_reducible repeat (first | apply Kd.R_alloc | apply Kd.R_drewN | apply Kd.R_drew)); exact Kd.R_mono HO_864000.out (fun _ hk => ⟨hk.1.1.1, ⟨hk.1.1.2, hk.2⟩⟩)⟩, ⟨by (try simp only [hl864000_77]); (with_reducible repeat (first | apply Kd.R_alloc | apply Kd.R_drewN | apply Kd.R_drew)); exact Kd.R_mono HO_872000.out (fun _ hk => ⟨hk.1.1.1, ⟨hk.1.1.2, hk.2⟩⟩)⟩, ⟨by (try simp only [hl864000_77]); (with_reducible repeat (first | apply Kd.R_alloc | apply Kd.R_drewN | apply Kd.R_drew)); exact Kd.R_mono HO893.out (fun _ hk => ⟨hk.1.1.1.2, ⟨hk.1.1.2, hk.1.2⟩⟩)⟩, ⟨by (try simp only [hl864000_77]); (with_reducible repeat (first | refine blk_drewN ?_ _ | refine blk_drew ?_ | refine blk_alloc ?_ _)); exact BK847.out⟩, ⟨by (try simp only [hl864000_77]); (with_reducible repeat (first | refine blk_drewN ?_ _ | refine blk_drew ?_ | refine blk_alloc ?_ _)); exact BK859.out⟩, ⟨by (try simp only [hl864000_77]); (with_reducible repeat (first | refine blk_drewN ?_ _ | refine blk_drew ?_ | refine blk_alloc ?_ _)); exact BK863.out⟩, ⟨by (try simp only [hl864000_77]); (with_reducible repeat (first | refine blk_drewN ?_ _ | refine blk_drew ?_ | refine blk_alloc ?_ _)); exact BK871.out⟩, ⟨by (try simp only [hl864000_77]); (with_reducible repeat (first | refine blk_drewN ?_ _ | refine blk_drew ?_ | refine blk_alloc ?_ _)); exact BK898.out⟩, ⟨bs5 HB GE847 GE859 GE863 GE871 GE898⟩⟩
            case rest =>
             clear HC151
             try clear c1
             try clear c2
             try clear p2
             try clear c3
             try clear c4
             try clear c5
             try clear c5b0
             try clear c6
             try clear c7
             try clear c8
             try clear c9
             try clear c10
             try clear c11
             try clear c12
             try clear c13
             try clear c14
             try clear c15
             try clear c16
             try clear c17
             try clear c18
             try clear c19
             try clear c20
             try clear c21
             try clear c23
             try clear c26
             try clear c27
             try clear c28
             try clear c29
             try clear c30
             try clear c32
             try clear c35
             try clear c36
             try clear c37
             try clear c39
             try clear c40
             try clear c42
             try clear c43
             try clear c44
             try clear c45
             try clear c47
             try clear c48
             try clear c54
             try clear c55
             try clear c56
             try clear c58
             try clear c59
             try clear c65
             try clear c66
             try clear c67
             try clear c69
             try clear c70
             try clear c73
             try clear c76
             try clear c83
             try clear c84
             try clear c85
             try clear c88
             try clear c88b0
             try clear c90
             try clear c92
             try clear c93
             try clear c94
             try clear c95
             try clear c97
             try clear c98
             try clear c104
             try clear c105
             try clear c106
             try clear c108
             try clear c109
             try clear c115
             try clear c116
             try clear c117
             try clear c119
             try clear c120
             try clear c123
             try clear c127
             try clear c127b0
             try clear c128
             try clear c129
             try clear c130
             try clear c138
             try clear c138b0
             try clear c139
             try clear c140
             try clear c141
             try clear c148
             try clear c148b0
             try clear c148b1
             try clear c152
             try clear c153
             try clear c154
             try clear c161
             try clear c162
             try clear c169
             try clear c170
             try clear c171
             try clear c172
             try clear c175
             try clear c177
             try clear c178
             try clear c179
             try clear c180
             try clear c181
             try clear c183
             try clear c184
             try clear c185
             try clear c191
             try clear c192
             try clear c193
             try clear c194
             try clear c196
             try clear c197
             try clear c198
             try clear c204
             try clear c205
             try clear c206
             try clear c207
             try clear c209
             try clear c210
             try clear c211
             try clear hcz107_0
             try clear hcz110_0
             try clear hcz118_0
             try clear hcz121_0
             try clear hcz131_0
             try clear hcz135_0
             try clear hcz142_0
             try clear hcz146_0
             try clear hcz155_0
             try clear hcz159_0
             try clear hcz15_0
             try clear hcz163_0
             try clear hcz173_0
             try clear hcz17_0
             try clear hcz182_0
             try clear hcz186_0
             try clear hcz195_0
             try clear hcz199_0
             try clear hcz208_0
             try clear hcz212_0
             try clear hcz24_0
             try clear hcz25_0
             try clear hcz31_0
             try clear hcz38_0
             try clear hcz46_0
             try clear hcz49_0
             try clear hcz57_0
             try clear hcz60_0
             try clear hcz68_0
             try clear hcz71_0
             try clear hcz7_0
             try clear hcz86_0
             try clear hcz96_0
             try clear hcz99_0
             try clear hfz107_0
             try clear hfz110_0
             try clear hfz118_0
             try clear hfz121_0
             try clear hfz131_0
             try clear hfz135_0
             try clear hfz142_0
             try clear hfz146_0
             try clear hfz155_0
             try clear hfz159_0
             try clear hfz15_0
             try clear hfz163_0
             try clear hfz173_0
             try clear hfz17_0
             try clear hfz182_0
             try clear hfz186_0
             try clear hfz195_0
             try clear hfz199_0
             try clear hfz208_0
             try clear hfz212_0
             try clear hfz24_0
             try clear hfz25_0
             try clear hfz31_0
             try clear hfz38_0
             try clear hfz46_0
             try clear hfz49_0
             try clear hfz57_0
             try clear hfz60_0
             try clear hfz68_0
             try clear hfz71_0
             try clear hfz7_0
             try clear hfz86_0
             try clear hfz96_0
             try clear hfz99_0
             try clear p2
             obtain ⟨kq, x129_150, rfl, HA, HJ150, HO_13, HO_860000, HO_864000, HO_872000, HO_899000, BK847, BK859, BK863, BK871, BK898, HB⟩ := hcut
             have hl13_150 := (Kd.R_reads' HO_13.out).1
             rw [hl13_150] at HO_13
             (try simp only [hl13_150])
             (try simp only [hl13_150] at BK847)
             (try simp only [hl13_150] at BK859)
             (try simp only [hl13_150] at BK863)
             (try simp only [hl13_150] at BK871)
             (try simp only [hl13_150] at BK898)
             (try simp only [hl13_150] at HO_860000)
             (try simp only [hl13_150] at HO_864000)
             (try simp only [hl13_150] at HO_872000)
             (try simp only [hl13_150] at HO_899000)
             have hl872000_150 := (Kd.R_reads' HO_872000.out).1
             rw [hl872000_150] at HO_872000
             (try simp only [hl872000_150])
             (try simp only [hl872000_150] at BK847)
             (try simp only [hl872000_150] at BK859)
             (try simp only [hl872000_150] at BK863)
             (try simp only [hl872000_150] at BK871)
             (try simp only [hl872000_150] at BK898)
             (try simp only [hl872000_150] at HO_13)
             (try simp only [hl872000_150] at HO_860000)
             (try simp only [hl872000_150] at HO_864000)
             (try simp only [hl872000_150] at HO_899000)
             cases kq with
             | zero => exact absurd HA.out (by simp [laws_FnExactPunchMap.j2])
             | succ kj150 =>
              have H := HA.out
              clear HA
              simp only [laws_FnExactPunchMap.j2] at H
              by_cases c214 : x129_150 = true
              ·
               subst c214
               rw [if_pos rfl] at H
               obtain rfl := Option.some.inj H
               go_wp2
               go_ret
               exact ⟨by first | rfl | (simp [errW_none, errW_some] <;> rfl) | (simp [*, errW_none, errW_some] <;> rfl), bs5 HB GE847 GE859 GE863 GE871 GE898⟩
              ·
               replace c214 := Bool.eq_false_iff.mpr c214
               subst c214
               rw [if_neg (show ¬ (false = true) by decide)] at H
               replace H := Option.bind_eq_some_iff.mp H
               obtain ⟨t901, A2150, H⟩ := H
               replace H : (if t901 < 0 then (some false) else ((laws_heldExtentS.f kj150 t885 t901).bind fun t902 => (if t902 < 0 then (some false) else (if t902 = t884 then (some true) else (some false))))) = some r := H
               have A215 := Aside0.mk A2150
               clear A2150
               by_cases c216 : t901 < 0
               ·
                rw [if_pos c216] at H
                have c216b0 : decide (t901 < 0) = true := decide_eq_true c216
                clear c216
                obtain rfl := Option.some.inj H
                have hnb217 := NB871_847.out
                have hnc217 := NB847_871.out
                have hnb218 := NB871_859.out
                have hnc218 := NB859_871.out
                have hnb219 := NB871_863.out
                have hnc219 := NB863_871.out
                have hnb220 := NB871_898.out
                have hnc220 := NB898_871.out
                have hcz221_0 := cz1 BK871
                have hfz221_0 := fz1 BK871
                go_wp2_with (first | ((with_reducible refine gate_callee (f := 32) rfl ?_); refine gL (some 132) rfl rfl Try.func32 (by kernel_rfl) rfl #[.agg #[.slice Ao34 t883.length co34], .int .i64 1] rfl ?_; (with_reducible refine (laws_heldFileMap.calls kj150 _ _ t883 1 t901 _ ?side1 ?side2 A215.out).mono ?_); (case side1 => exact rc0 HO_872000); (case side2 => exact (Kd.R_reads' HO_872000.out).2.1); rintro e w222 ⟨rfl, hb⟩; refine ⟨_, rfl, ?_⟩; replace HO_13 := nr HO_13 hb; replace HO_860000 := nr HO_860000 hb; replace HO_864000 := nr HO_864000 hb; replace HO_872000 := nr HO_872000 hb; replace HO_899000 := nr HO_899000 hb; replace BK847 := nb BK847 hb; replace BK859 := nb BK859 hb; replace BK863 := nb BK863 hb; replace BK871 := nb BK871 hb; replace BK898 := nb BK898 hb; replace HB := Aside0.mk (below_step (bs5 HB GE847 GE859 GE863 GE871 GE898) hb); (try clear hb); (try clear hb2); (try clear hk); (try clear hi)))
                go_ret
                exact ⟨by first | rfl | (simp [errW_none, errW_some] <;> rfl) | (simp [*, errW_none, errW_some] <;> rfl), bs5 HB GE847 GE859 GE863 GE871 GE898⟩
               ·
                rw [if_neg c216] at H
                have c216b0 : decide (t901 < 0) = false := decide_eq_false c216
                clear c216
                replace H := Option.bind_eq_some_iff.mp H
                obtain ⟨t902, A2230, H⟩ := H
                replace H : (if t902 < 0 then (some false) else (if t902 = t884 then (some true) else (some false))) = some r := H
                have A223 := Aside0.mk A2230
                clear A2230
                by_cases c224 : t902 < 0
                ·
                 rw [if_pos c224] at H
                 have c224b0 : decide (t902 < 0) = true := decide_eq_true c224
                 clear c224
                 obtain rfl := Option.some.inj H
                 have hnb225 := NB871_847.out
                 have hnc225 := NB847_871.out
                 have hnb226 := NB871_859.out
                 have hnc226 := NB859_871.out
                 have hnb227 := NB871_863.out
                 have hnc227 := NB863_871.out
                 have hnb228 := NB871_898.out
                 have hnc228 := NB898_871.out
                 have hcz229_0 := cz1 BK871
                 have hfz229_0 := fz1 BK871
                 go_wp2_with (first | ((with_reducible refine gate_callee (f := 32) rfl ?_); refine gL (some 132) rfl rfl Try.func32 (by kernel_rfl) rfl #[.agg #[.slice Ao34 t883.length co34], .int .i64 1] rfl ?_; (with_reducible refine (laws_heldFileMap.calls kj150 _ _ t883 1 t901 _ ?side1 ?side2 A215.out).mono ?_); (case side1 => exact rc0 HO_872000); (case side2 => exact (Kd.R_reads' HO_872000.out).2.1); rintro e w230 ⟨rfl, hb⟩; refine ⟨_, rfl, ?_⟩; replace HO_13 := nr HO_13 hb; replace HO_860000 := nr HO_860000 hb; replace HO_864000 := nr HO_864000 hb; replace HO_872000 := nr HO_872000 hb; replace HO_899000 := nr HO_899000 hb; replace BK847 := nb BK847 hb; replace BK859 := nb BK859 hb; replace BK863 := nb BK863 hb; replace BK871 := nb BK871 hb; replace BK898 := nb BK898 hb; replace HB := Aside0.mk (below_step (bs5 HB GE847 GE859 GE863 GE871 GE898) hb); (try clear hb); (try clear hb2); (try clear hk); (try clear hi)) | ((with_reducible refine gate_callee (f := 28) rfl ?_); refine gL (some 137) rfl rfl Try.func28 (by kernel_rfl) rfl #[.slice Ao157 t885.length co157, .int .i64 t901] rfl ?_; (with_reducible refine (laws_heldExtentS.calls kj150 _ _ t885 t901 t902 _ ?side1 ?side2 A223.out).mono ?_); (case side1 => exact rc0 HO_13); (case side2 => exact (Kd.R_reads' HO_13.out).2.1); rintro e w' ⟨rfl, ⟨nd, rfl⟩⟩; refine ⟨_, rfl, ?_⟩))
                 go_ret
                 exact ⟨by first | rfl | (simp [errW_none, errW_some] <;> rfl) | (simp [*, errW_none, errW_some] <;> rfl), bs5 HB GE847 GE859 GE863 GE871 GE898⟩
                ·
                 rw [if_neg c224] at H
                 have c224b0 : decide (t902 < 0) = false := decide_eq_false c224
                 clear c224
                 by_cases c231 : t902 = t884
                 ·
                  rw [if_pos c231] at H
                  have c231b0 : (t902 == t884) = true := beq_iff_eq.mpr c231
                  have c231b1 : (t902 != t884) = false := bne_eq_false_iff_eq.mpr c231
                  clear c231
                  obtain rfl := Option.some.inj H
                  have hnb232 := NB871_847.out
                  have hnc232 := NB847_871.out
                  have hnb233 := NB871_859.out
                  have hnc233 := NB859_871.out
                  have hnb234 := NB871_863.out
                  have hnc234 := NB863_871.out
                  have hnb235 := NB871_898.out
                  have hnc235 := NB898_871.out
                  have hcz236_0 := cz1 BK871
                  have hfz236_0 := fz1 BK871
                  go_wp2_with (first | ((with_reducible refine gate_callee (f := 32) rfl ?_); refine gL (some 132) rfl rfl Try.func32 (by kernel_rfl) rfl #[.agg #[.slice Ao34 t883.length co34], .int .i64 1] rfl ?_; (with_reducible refine (laws_heldFileMap.calls kj150 _ _ t883 1 t901 _ ?side1 ?side2 A215.out).mono ?_); (case side1 => exact rc0 HO_872000); (case side2 => exact (Kd.R_reads' HO_872000.out).2.1); rintro e w237 ⟨rfl, hb⟩; refine ⟨_, rfl, ?_⟩; replace HO_13 := nr HO_13 hb; replace HO_860000 := nr HO_860000 hb; replace HO_864000 := nr HO_864000 hb; replace HO_872000 := nr HO_872000 hb; replace HO_899000 := nr HO_899000 hb; replace BK847 := nb BK847 hb; replace BK859 := nb BK859 hb; replace BK863 := nb BK863 hb; replace BK871 := nb BK871 hb; replace BK898 := nb BK898 hb; replace HB := Aside0.mk (below_step (bs5 HB GE847 GE859 GE863 GE871 GE898) hb); (try clear hb); (try clear hb2); (try clear hk); (try clear hi)) | ((with_reducible refine gate_callee (f := 28) rfl ?_); refine gL (some 137) rfl rfl Try.func28 (by kernel_rfl) rfl #[.slice Ao157 t885.length co157, .int .i64 t901] rfl ?_; (with_reducible refine (laws_heldExtentS.calls kj150 _ _ t885 t901 t902 _ ?side1 ?side2 A223.out).mono ?_); (case side1 => exact rc0 HO_13); (case side2 => exact (Kd.R_reads' HO_13.out).2.1); rintro e w' ⟨rfl, ⟨nd, rfl⟩⟩; refine ⟨_, rfl, ?_⟩))
                  go_ret
                  exact ⟨by first | rfl | (simp [errW_none, errW_some] <;> rfl) | (simp [*, errW_none, errW_some] <;> rfl), bs5 HB GE847 GE859 GE863 GE871 GE898⟩
                 ·
                  rw [if_neg c231] at H
                  have c231b0 : (t902 == t884) = false := beq_eq_false_iff_ne.mpr c231
                  have c231b1 : (t902 != t884) = true := bne_iff_ne.mpr c231
                  obtain rfl := Option.some.inj H
                  have hnb238 := NB871_847.out
                  have hnc238 := NB847_871.out
                  have hnb239 := NB871_859.out
                  have hnc239 := NB859_871.out
                  have hnb240 := NB871_863.out
                  have hnc240 := NB863_871.out
                  have hnb241 := NB871_898.out
                  have hnc241 := NB898_871.out
                  have hcz242_0 := cz1 BK871
                  have hfz242_0 := fz1 BK871
                  go_wp2_with (first | ((with_reducible refine gate_callee (f := 32) rfl ?_); refine gL (some 132) rfl rfl Try.func32 (by kernel_rfl) rfl #[.agg #[.slice Ao34 t883.length co34], .int .i64 1] rfl ?_; (with_reducible refine (laws_heldFileMap.calls kj150 _ _ t883 1 t901 _ ?side1 ?side2 A215.out).mono ?_); (case side1 => exact rc0 HO_872000); (case side2 => exact (Kd.R_reads' HO_872000.out).2.1); rintro e w243 ⟨rfl, hb⟩; refine ⟨_, rfl, ?_⟩; replace HO_13 := nr HO_13 hb; replace HO_860000 := nr HO_860000 hb; replace HO_864000 := nr HO_864000 hb; replace HO_872000 := nr HO_872000 hb; replace HO_899000 := nr HO_899000 hb; replace BK847 := nb BK847 hb; replace BK859 := nb BK859 hb; replace BK863 := nb BK863 hb; replace BK871 := nb BK871 hb; replace BK898 := nb BK898 hb; replace HB := Aside0.mk (below_step (bs5 HB GE847 GE859 GE863 GE871 GE898) hb); (try clear hb); (try clear hb2); (try clear hk); (try clear hi)) | ((with_reducible refine gate_callee (f := 28) rfl ?_); refine gL (some 137) rfl rfl Try.func28 (by kernel_rfl) rfl #[.slice Ao157 t885.length co157, .int .i64 t901] rfl ?_; (with_reducible refine (laws_heldExtentS.calls kj150 _ _ t885 t901 t902 _ ?side1 ?side2 A223.out).mono ?_); (case side1 => exact rc0 HO_13); (case side2 => exact (Kd.R_reads' HO_13.out).2.1); rintro e w' ⟨rfl, ⟨nd, rfl⟩⟩; refine ⟨_, rfl, ?_⟩))
                  go_ret
                  exact ⟨by first | rfl | (simp [errW_none, errW_some] <;> rfl) | (simp [*, errW_none, errW_some] <;> rfl), bs5 HB GE847 GE859 GE863 GE871 GE898⟩
           ·
            rw [if_neg c148] at H
            have c148b0 : (t887 == t884) = false := beq_eq_false_iff_ne.mpr c148
            have c148b1 : (t887 != t884) = true := bne_iff_ne.mpr c148
            obtain rfl := Option.some.inj H
            have hnb244 := NB871_847.out
            have hnc244 := NB847_871.out
            have hnb245 := NB871_859.out
            have hnc245 := NB859_871.out
            have hnb246 := NB871_863.out
            have hnc246 := NB863_871.out
            have hcz247_0 := cz1 BK871
            have hfz247_0 := fz1 BK871
            go_wp2_with (first | ((with_reducible refine gate_callee (f := 26) rfl ?_); refine gL (some 89) rfl rfl Try.func26 (by kernel_rfl) rfl #[.agg #[.slice Ao34 t864.length co34], .int .i64 1] rfl ?_; (with_reducible refine (laws_markFileMap.calls kj77 (fun k_ => some k_ = (.slice Ao34 t864.length co34 : Value).ownBlock) (.slice Ao34 t864.length co34) t864 1 t882 t883 w _ ?side1 ?side2 A124.out).mono ?_); (case side1 => repeat (first | (with_reducible first | exact HB.out | apply below_alloc | apply pw_below_drewN | apply below_drew1 | refine below_set ?_ GE847.out | refine below_set ?_ GE859.out | refine below_set ?_ GE863.out | refine below_set ?_ GE871.out) | exact HB.out)); (case side2 => exact Kd.R_tight rfl HO_872000.out); rintro e w248 ⟨rfl, hy0, hb, hkp⟩; refine ⟨_, rfl, ?_⟩; replace HO_9 := Aside0.mk (Kd.R_mono (ok' := fun k_ => some k_ ≠ (v868 : Value).ownBlock) (Kd.R_keptB ((Kd.R_apart' HO_9.out (Kd.R_typed HO_872000.out) (by decide))) hkp (fun k_ hk_ hs_ => (hk_.2) hs_)) (fun k_ hk_ => hk_.1.1)); replace HO_13 := Aside0.mk (Kd.R_mono (ok' := fun k_ => some k_ ≠ (v856 : Value).ownBlock) (Kd.R_keptB ((Kd.R_apart' HO_13.out (Kd.R_typed HO_872000.out) (by decide))) hkp (fun k_ hk_ hs_ => (hk_.2) hs_)) (fun k_ hk_ => hk_.1.1)); replace HO_860000 := Aside0.mk (Kd.R_mono (ok' := fun k_ => some k_ ≠ (.slice Ao28 t879.length co28 : Value).ownBlock ∧ some k_ ≠ (.slice Ao34 t864.length co34 : Value).ownBlock) (Kd.R_keptB (HO_860000.out) hkp (fun k_ hk_ hs_ => (hk_.2) hs_)) (fun k_ hk_ => ⟨hk_.1.1, hk_.1.2⟩)); replace HO_864000 := Aside0.mk (Kd.R_mono (ok' := fun k_ => some k_ ≠ (.slice Ao22 t852.length co22 : Value).ownBlock ∧ some k_ ≠ (.slice Ao34 t864.length co34 : Value).ownBlock) (Kd.R_keptB (HO_864000.out) hkp (fun k_ hk_ hs_ => (hk_.2) hs_)) (fun k_ hk_ => ⟨hk_.1.1, hk_.1.2⟩)); replace BK847 := Aside0.mk (blk_kept (bk BK847) hkp (fun hs_ => (fun e_ => (Kd.R_ne HO_872000.out BK847.out (by decide)) e_) hs_)); replace BK859 := Aside0.mk (blk_kept (bk BK859) hkp (fun hs_ => (fun e_ => (Kd.R_ne HO_872000.out BK859.out (by decide)) e_) hs_)); replace BK863 := Aside0.mk (blk_kept (bk BK863) hkp (fun hs_ => (fun e_ => (Kd.R_ne HO_872000.out BK863.out (by decide)) e_) hs_)); replace BK871 := Aside0.mk (blk_kept (bk BK871) hkp (fun hs_ => (fun e_ => (Kd.R_ne HO_872000.out BK871.out (by decide)) e_) hs_)); replace HO_872000 := Aside0.mk (Kd.R_reok rfl hy0 (fun k_ e_ => HO_872000.out.1 k_ e_)); replace HB := Aside0.mk (hb); (try clear hb); (try clear hkp); (try clear hy0); obtain ⟨Ao249, co249, eo249⟩ := Kd.R_slice HO_13.out; subst eo249) | ((with_reducible refine gate_callee (f := 27) rfl ?_); refine gL (some 92) rfl rfl Try.func27 (by kernel_rfl) rfl #[.slice Ao249 t867.length co249, .int .i64 t882] rfl ?_; (with_reducible refine (laws_markExtentS.calls kj77 (fun k_ => some k_ = (.slice Ao249 t867.length co249 : Value).ownBlock) (.slice Ao249 t867.length co249) t867 t882 t884 t885 w _ ?side1 ?side2 A125.out).mono ?_); (case side1 => repeat (first | (with_reducible first | exact HB.out | apply below_alloc | apply pw_below_drewN | apply below_drew1 | refine below_set ?_ GE847.out | refine below_set ?_ GE859.out | refine below_set ?_ GE863.out | refine below_set ?_ GE871.out) | exact HB.out)); (case side2 => exact Kd.R_tight rfl HO_13.out); rintro e w250 ⟨rfl, hy0, hb, hkp⟩; refine ⟨_, rfl, ?_⟩; replace HO_9 := Aside0.mk (Kd.R_mono (ok' := fun k_ => some k_ ≠ (.slice Ao249 t867.length co249 : Value).ownBlock) (Kd.R_keptB (HO_9.out) hkp (fun k_ hk_ hs_ => (hk_) hs_)) (fun k_ hk_ => hk_.1)); replace HO_860000 := Aside0.mk (Kd.R_mono (ok' := fun k_ => some k_ ≠ (.slice Ao28 t879.length co28 : Value).ownBlock ∧ some k_ ≠ (.slice Ao34 t864.length co34 : Value).ownBlock) (Kd.R_keptB ((Kd.R_apart' HO_860000.out (Kd.R_typed HO_13.out) (by decide))) hkp (fun k_ hk_ hs_ => (hk_.2) hs_)) (fun k_ hk_ => ⟨hk_.1.1.1, hk_.1.1.2⟩)); replace HO_864000 := Aside0.mk (Kd.R_mono (ok' := fun k_ => some k_ ≠ (.slice Ao22 t852.length co22 : Value).ownBlock ∧ some k_ ≠ (.slice Ao34 t864.length co34 : Value).ownBlock) (Kd.R_keptB ((Kd.R_apart' HO_864000.out (Kd.R_typed HO_13.out) (by decide))) hkp (fun k_ hk_ hs_ => (hk_.2) hs_)) (fun k_ hk_ => ⟨hk_.1.1.1, hk_.1.1.2⟩)); replace HO_872000 := Aside0.mk (Kd.R_mono (ok' := fun k_ => some k_ ≠ (.slice Ao22 t852.length co22 : Value).ownBlock ∧ some k_ ≠ (.slice Ao28 t879.length co28 : Value).ownBlock) (Kd.R_keptB ((Kd.R_apart' HO_872000.out (Kd.R_typed HO_13.out) (by decide))) hkp (fun k_ hk_ hs_ => (hk_.2) hs_)) (fun k_ hk_ => ⟨hk_.1.1.1, hk_.1.1.2⟩)); replace BK847 := Aside0.mk (blk_kept (bk BK847) hkp (fun hs_ => (fun e_ => (Kd.R_ne HO_13.out BK847.out (by decide)) e_) hs_)); replace BK859 := Aside0.mk (blk_kept (bk BK859) hkp (fun hs_ => (fun e_ => (Kd.R_ne HO_13.out BK859.out (by decide)) e_) hs_)); replace BK863 := Aside0.mk (blk_kept (bk BK863) hkp (fun hs_ => (fun e_ => (Kd.R_ne HO_13.out BK863.out (by decide)) e_) hs_)); replace BK871 := Aside0.mk (blk_kept (bk BK871) hkp (fun hs_ => (fun e_ => (Kd.R_ne HO_13.out BK871.out (by decide)) e_) hs_)); replace HO_13 := Aside0.mk (Kd.R_reok rfl hy0 (fun k_ e_ => HO_13.out.1 k_ e_)); replace HB := Aside0.mk (hb); (try clear hb); (try clear hkp); (try clear hy0); have hcz251_0 := cz1 BK871; have hfz251_0 := fz1 BK871) | ((with_reducible refine gate_callee (f := 32) rfl ?_); refine goesL_ (some 95) rfl rfl Try.func32 (by kernel_rfl) rfl #[.agg #[.slice Ao34 t883.length co34], .int .i64 1] rfl (by (try simp only [List.map_toArray, List.map_cons, List.map_nil]); first | done | (rw [show t883.length = t864.length from (Kd.R_reads' HO_872000.out).1.symm] <;> rfl) | rfl | (simp only [List.length_drop, List.length_take]; rfl)) ?_; (with_reducible refine (laws_heldFileMap.calls kj77 _ _ t883 1 t886 _ ?side1 ?side2 A126.out).mono ?_); (case side1 => exact rc0 HO_872000); (case side2 => rw [show t883.length = t864.length from (Kd.R_reads' HO_872000.out).1.symm]; exact (Kd.R_reads' HO_872000.out).2.1); rintro e w252 ⟨rfl, hb⟩; refine ⟨_, rfl, ?_⟩; replace HO_9 := nr HO_9 hb; replace HO_13 := nr HO_13 hb; replace HO_860000 := nr HO_860000 hb; replace HO_864000 := nr HO_864000 hb; replace HO_872000 := nr HO_872000 hb; replace BK847 := nb BK847 hb; replace BK859 := nb BK859 hb; replace BK863 := nb BK863 hb; replace BK871 := nb BK871 hb; replace HB := Aside0.mk (below_step (bs4 HB GE847 GE859 GE863 GE871) hb); (try clear hb); (try clear hb2); (try clear hk); (try clear hi)) | ((with_reducible refine gate_callee (f := 28) rfl ?_); refine goesL_ (some 100) rfl rfl Try.func28 (by kernel_rfl) rfl #[.slice Ao249 t885.length co249, .int .i64 t886] rfl (by (try simp only [List.map_toArray, List.map_cons, List.map_nil]); first | done | (rw [show t885.length = t867.length from (Kd.R_reads' HO_13.out).1.symm] <;> rfl) | rfl | (simp only [List.length_drop, List.length_take]; rfl)) ?_; (with_reducible refine (laws_heldExtentS.calls kj77 _ _ t885 t886 t887 _ ?side1 ?side2 A137.out).mono ?_); (case side1 => exact rc0 HO_13); (case side2 => rw [show t885.length = t867.length from (Kd.R_reads' HO_13.out).1.symm]; exact (Kd.R_reads' HO_13.out).2.1); rintro e w' ⟨rfl, ⟨nd, rfl⟩⟩; refine ⟨_, rfl, ?_⟩))
            go_ret
            exact ⟨by first | rfl | (simp [errW_none, errW_some] <;> rfl) | (simp [*, errW_none, errW_some] <;> rfl), bs4 HB GE847 GE859 GE863 GE871⟩
     ·
      replace c76 := Bool.eq_false_iff.mpr c76
      subst c76
      rw [if_neg (show ¬ (false = true) by decide)] at H
      obtain rfl := Option.some.inj H
      try go_wp2
      have n0_ := Aside0.mk (Kd.R_drew HO_9.out)
      have n1_ := Aside0.mk (Kd.R_drew HO_13.out)
      have n2_ := Aside0.mk (Kd.R_drew HO_860000.out)
      have n3_ := Aside0.mk (Kd.R_drew HO_864000.out)
      have n4_ := Aside0.mk (Kd.R_drew HO_872000.out)
      have n5_ := Aside0.mk (blk_drew BK847.out)
      have n6_ := Aside0.mk (blk_drew BK859.out)
      have n7_ := Aside0.mk (blk_drew BK863.out)
      have n8_ := Aside0.mk (blk_drew BK871.out)
      have n9_ := Aside0.mk (below_drew1 HB.out)
      clear HO_9
      clear HO_13
      clear HO_860000
      clear HO_864000
      clear HO_872000
      clear BK847
      clear BK859
      clear BK863
      clear BK871
      clear HB
      have HO_9 := n0_
      have HO_13 := n1_
      have HO_860000 := n2_
      have HO_864000 := n3_
      have HO_872000 := n4_
      have BK847 := n5_
      have BK859 := n6_
      have BK863 := n7_
      have BK871 := n8_
      have HB := n9_
      clear n0_ n1_ n2_ n3_ n4_ n5_ n6_ n7_ n8_ n9_
      refine start_ (n := 5) (S := fun w' => w'.cell? ⟨gb863, 0, none⟩ = some (.slice Ao28 t860.length co28) ∧ w'.cell? ⟨gb847, 0, none⟩ = some (.slice A0_0 l0_0.length c0_0)) (ds := []) #[false, false, false, false, false] (by kernel_rfl) rfl rfl ⟨(blk_cell BK863.out 0).trans rfl, (blk_cell BK847.out 0).trans rfl⟩ (fun hHeld => ?_)
      generalize wc.drew = w253 at HO_9 HO_13 HO_860000 HO_864000 HO_872000 BK847 BK859 BK863 BK871 HB hHeld ⊢
      refine take_ (i := 0) (N := some 60) (v := ?_) (a' := ?_) #[true, false, false, false, false] rfl rfl (by kernel_rfl) (fun _ _ _ h => h) (Or.inl ⟨by rfl, ?_⟩) hHeld ?_ ?_
      rotate_left
      ·
       rintro w' ⟨s0, s1⟩
       go_simp
       with_reducible rfl
      rotate_left
      ·
       simp only [Act.put, List.setIfInBounds_toArray, List.set_cons_zero, List.set_cons_succ, i64_w, i32_w]
       rfl
      refine take_ (i := 1) (N := some 61) (v := ?_) (a' := ?_) #[true, true, false, false, false] rfl rfl (by kernel_rfl) (fun _ _ _ h => h) (Or.inl ⟨by rfl, ?_⟩) hHeld ?_ ?_
      rotate_left
      ·
       rintro w' ⟨s0, s1⟩
       go_simp
       with_reducible rfl
      rotate_left
      ·
       simp only [Act.put, List.setIfInBounds_toArray, List.set_cons_zero, List.set_cons_succ, i64_w, i32_w]
       rfl
      refine one_ (i := 2) (N := some 62) #[true, true, true, false, false] rfl rfl (by kernel_rfl) (by decide) (fun K hK => ?_)
      refine goes_ Try.func16 (by kernel_rfl) rfl #[.agg #[.slice A0_0 l0_0.length c0_0]] (by rfl) rfl rfl (by (try simp only [List.map_toArray, List.map_cons, List.map_nil]); first | done | rfl | (simp only [List.length_drop, List.length_take]; rfl)) ?_
      with_reducible refine (laws_toFileMap.calls kj12 _ _ l0_0 t874 _ ?side1 ?side2 A74.out).mono ?_
      (case side1 => exact cb HR0_0 HB)
      (case side2 => exact HC0_0.out)
      rintro e w254 ⟨v875, rfl, ho0, hb⟩
      refine ⟨_, rfl, ?_⟩
      have n0_ := Aside0.mk (Kd.R_below (rr HO_9.out) hb)
      have n1_ := Aside0.mk (Kd.R_below (rr HO_13.out) hb)
      have n2_ := Aside0.mk (Kd.R_elder' (rr HO_860000.out) (Kd.R_base ho0) hb)
      have n3_ := Aside0.mk (Kd.R_elder' (rr HO_864000.out) (Kd.R_base ho0) hb)
      have n4_ := Aside0.mk (Kd.R_elder' (rr HO_872000.out) (Kd.R_base ho0) hb)
      have n5_ := Aside0.mk (Kd.R_lower (Kd.R_new' (Kd.R_new' (Kd.R_new' ho0 (Kd.R_lt (rr HO_860000.out))) (Kd.R_lt (rr HO_864000.out))) (Kd.R_lt (rr HO_872000.out))) (below_size (bs4 HB GE847 GE859 GE863 GE871)))
      have n6_ := Aside0.mk (bb BK847 hb)
      have n7_ := Aside0.mk (bb BK859 hb)
      have n8_ := Aside0.mk (bb BK863 hb)
      have n9_ := Aside0.mk (bb BK871 hb)
      have n10_ := Aside0.mk (below_step (bs4 HB GE847 GE859 GE863 GE871) hb)
      clear HO_9
      clear HO_13
      clear HO_860000
      clear HO_864000
      clear HO_872000
      clear BK847
      clear BK859
      clear BK863
      clear BK871
      clear HB
      have HO_9 := n0_
      have HO_13 := n1_
      have HO_860000 := n2_
      have HO_864000 := n3_
      have HO_872000 := n4_
      have HO876 := n5_
      have BK847 := n6_
      have BK859 := n7_
      have BK863 := n8_
      have BK871 := n9_
      have HB := n10_
      clear n0_ n1_ n2_ n3_ n4_ n5_ n6_ n7_ n8_ n9_ n10_
      (try clear hb)
      (try clear hb2)
      (try clear hk)
      (try clear hi)
      (try clear ho0)
      obtain ⟨Ao255, co255, eo255⟩ := Kd.R_slice HO876.out
      (first | subst eo255 | (injection eo255 with f1_ f2_ f3_; have f4_ := f1_.symm; have f5_ := f3_.symm; clear f1_ f2_ f3_; subst f4_; subst f5_))
      refine hK.out _ _ ⟨(blk_cell BK863.out 0).trans rfl, (blk_cell BK847.out 0).trans rfl⟩ (fun hHeld => ?_)
      clear hK K
      refine norm_ (a' := ?_) ?_ ?_
      rotate_left
      ·
       show Act.put _ (some 62) _ = _
       simp only [Act.put, List.setIfInBounds_toArray, List.set_cons_zero, List.set_cons_succ, i64_w, i32_w]
       rfl
      refine one_ (i := 3) (N := some 63) #[true, true, true, true, false] rfl rfl (by kernel_rfl) (by decide) (fun K hK => ?_)
      refine goes_ Try.func18 (by kernel_rfl) rfl #[.agg #[.slice Ao28 t860.length co28], .agg #[.slice Ao255 t874.length co255]] (by rfl) rfl rfl (by (try simp only [List.map_toArray, List.map_cons, List.map_nil]); first | done | rfl | (simp only [List.length_drop, List.length_take]; rfl)) ?_
      with_reducible refine (laws_eqFileMap.calls kj12 _ _ t860 _ _ t874 false _ ?side1 ?side2 ?side3 ?side4 A75.out).mono ?_
      (case side1 => exact rc0 HO_864000)
      (case side2 => exact (Kd.R_reads' HO_864000.out).2.1)
      (case side3 => exact rc0 HO876)
      (case side4 => exact (Kd.R_reads' HO876.out).2.1)
      rintro e w256 ⟨rfl, hb⟩
      refine ⟨_, rfl, ?_⟩
      have n0_ := Aside0.mk (Kd.R_below (rr HO_9.out) hb)
      have n1_ := Aside0.mk (Kd.R_below (rr HO_13.out) hb)
      have n2_ := Aside0.mk (Kd.R_below (rr HO_860000.out) hb)
      have n3_ := Aside0.mk (Kd.R_below (rr HO_864000.out) hb)
      have n4_ := Aside0.mk (Kd.R_below (rr HO_872000.out) hb)
      have n5_ := Aside0.mk (Kd.R_below (rr HO876.out) hb)
      have n6_ := Aside0.mk (bb BK847 hb)
      have n7_ := Aside0.mk (bb BK859 hb)
      have n8_ := Aside0.mk (bb BK863 hb)
      have n9_ := Aside0.mk (bb BK871 hb)
      have n10_ := Aside0.mk (below_step (bs4 HB GE847 GE859 GE863 GE871) hb)
      clear HO_9
      clear HO_13
      clear HO_860000
      clear HO_864000
      clear HO_872000
      clear HO876
      clear BK847
      clear BK859
      clear BK863
      clear BK871
      clear HB
      have HO_9 := n0_
      have HO_13 := n1_
      have HO_860000 := n2_
      have HO_864000 := n3_
      have HO_872000 := n4_
      have HO876 := n5_
      have BK847 := n6_
      have BK859 := n7_
      have BK863 := n8_
      have BK871 := n9_
      have HB := n10_
      clear n0_ n1_ n2_ n3_ n4_ n5_ n6_ n7_ n8_ n9_ n10_
      (try clear hb)
      (try clear hb2)
      (try clear hk)
      (try clear hi)
      refine hK.out _ _ ⟨(blk_cell BK863.out 0).trans rfl, (blk_cell BK847.out 0).trans rfl⟩ (fun hHeld => ?_)
      clear hK K
      refine norm_ (a' := ?_) ?_ ?_
      rotate_left
      ·
       show Act.put _ (some 63) _ = _
       simp only [Act.put, List.setIfInBounds_toArray, List.set_cons_zero, List.set_cons_succ, i64_w, i32_w]
       rfl
      refine pure_ (i := 4) (N := some 64) (v := ?_) (a' := ?_) #[true, true, true, true, true] rfl rfl (by kernel_rfl) (fun _ _ _ h => h) (Or.inl ⟨by rfl, ?_⟩) ?_ ?_
      rotate_left
      ·
       intro w'
       go_simp
       with_reducible rfl
      rotate_left
      ·
       simp only [Act.put, List.setIfInBounds_toArray, List.set_cons_zero, List.set_cons_succ, i64_w, i32_w]
       rfl
      refine done_ (by kernel_rfl) ?_
      try go_wp2
      go_ret
      exact ⟨by first | rfl | (simp [errW_none, errW_some] <;> rfl) | (simp [*, errW_none, errW_some] <;> rfl), bs4 HB GE847 GE859 GE863 GE871⟩

/-- THE ONE PURE STATEMENT of laws_FnExactPunchMap. -/
def laws_FnExactPunchMap.Pure : Prop := ∀ (l0_0 : List (S45)) (a1 : Int) (a2 : Int), ok24 (⟨l0_0⟩ : S24) → (Lit.int .i64 a1).wf = true → (Lit.int .i64 a2).wf = true → ∃ k, laws_FnExactPunchMap.f k l0_0 a1 a2 = some true

end Go.Proofs.Ytojdlcbmbpgplaa.G
