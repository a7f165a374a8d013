/- The walk of the law on copies that are read; the library's errors, as what is laid gives them. -/
import Derived.Test.YticnemjjjceiaaaDoorRdcD
import Derived.Test.YticnemjjjceiaaaDoorLawB
import Derived.Test.YticnemjjjceiaaaDoorOpen
import Derived.Stop.LaidErr
namespace Go.Proofs.YticnemjjjceiaaaDoor
open Go Go.Gw
set_option linter.unusedVariables false
set_option linter.unusedSimpArgs false
theorem starErr : "*" ++ "errors.errorString" = "*errors.errorString" := by decide
theorem rowErr (u : TypeId) (h : Tryd.prog.typeName? 3 u = some "*errors.errorString") : u = 98 :=
  typeName_ptr_named (nm := "errors.errorString") (by rw [starErr]; kernel_rfl) (by kernel_rfl) (by decide) u (by rw [starErr]; exact h)
theorem gRng : Tryd.prog.globalNamed "strconv.ErrRange" = some 2 := by kernel_rfl
theorem gSyn : Tryd.prog.globalNamed "strconv.ErrSyntax" = some 1 := by kernel_rfl
theorem ers_of {W : World} {r1 r2 : List (String × DataW Unit)} (h1 : laidMet Tryd.prog (("strconv.ErrRange", Rows.laid_strconv_ErrRange) :: r1) W) (h2 : laidMet Tryd.prog (("strconv.ErrSyntax", Rows.laid_strconv_ErrSyntax) :: r2) W) : Ers W.heap.size W := by
  obtain ⟨a, s, hv, _⟩ := laid_sentinel h1 gRng (by kernel_rfl) Tryd.underlying45 rowErr Tryd.underlying98 Tryd.underlying100 rfl rfl Tryd.underlying9 (by kernel_rfl) (by kernel_rfl)
  obtain ⟨a', s', hv', _⟩ := laid_sentinel h2 gSyn (by kernel_rfl) Tryd.underlying45 rowErr Tryd.underlying98 Tryd.underlying100 rfl rfl Tryd.underlying9 (by kernel_rfl) (by kernel_rfl)
  have c1 : W.cell? ⟨2, 0, none⟩ = some (.iface 98 (.pointer (some a))) := by simpa using World.var?_cell gRng hv 0
  have c2 : W.cell? ⟨1, 0, none⟩ = some (.iface 98 (.pointer (some a'))) := by simpa using World.var?_cell gSyn hv' 0
  exact ⟨⟨_, c2, .inr ⟨_, _, rfl⟩⟩, ⟨_, c1, .inr ⟨_, _, rfl⟩⟩, ⟨World.block_lt_of_cell? W _ c2, World.block_lt_of_cell? W _ c1⟩, Nat.le_refl _⟩
theorem resRd_len (s : List UInt8) : (resRd s).1.length ≤ 20 := by
  unfold resRd
  split
  · simp
  · split
    · split
      · rename_i h; exact pln_len h
      · simp
    · simp
section
theorem lReadCopies (w0 : World) (hT : Tab w0.heap.size w0) (hE : Ers w0.heap.size w0) (a : ByteArray) (ha : a.size ≤ maxLen) : Ret Tryd.prog 3 [.string a] w0 fun u w' => u = .bool true ∧ Ext w0 w' := by
  obtain ⟨⟨s⟩⟩ := a
  show Ret _ _ [str s] _ _
  have hm : s.length ≤ maxLen := ha
  unfold maxLen at hm
  have hb := resRd_len s
  have E : Since 0 0 w0 w0 := Since.refl 0 0 w0
  refine ret_enter Tryd.func3 rfl Tryd.ntmps3 rfl ?_
  focus
    refine c_seq ?_
    refine c_region ?_
    refine w_pure (y_assign rfl) rfl ?_
    refine w_nil ?_
    refine x_next ?_
    refine c_seq ?_
    refine c_seq ?_
    refine c_region ?_
    refine w_pure (y_move rfl) rfl ?_
    refine w_pure (y_slen rfl) rfl ?_
    refine w_pure (y_gt rfl rfl) rfl ?_
    refine w_nil ?_
    refine x_next ?_
    (refine c_dec rfl (fun hc13 => ?_) (fun hc13 => ?_) <;> try (first | exact absurd rfl hc13 | contradiction | exact Bool.noConfusion (show false = true from hc13.symm.trans (by assumption)) | exact Bool.noConfusion (show true = false from hc13.symm.trans (by assumption)) | (exfalso; omega) | (exfalso; simp only [*, Bool.not_true, Bool.not_false, reduceCtorEq] at hc13; done)))
    refine c_seq ?_
    refine c_region ?_
    refine w_pure (y_assign rfl) rfl ?_
    refine w_nil ?_
    refine x_next ?_
    refine c_ret ?_
    refine x_then_ret ?_
    exact x_retv [_] rfl ⟨rfl, trivial⟩ ⟨rfl, E.go⟩
    refine c_skip ?_
    refine x_next ?_
    refine c_seq ?_
    refine c_region ?_
    refine w_pure (y_move rfl) rfl ?_
    (refine w_call rfl rfl rfl (sReadCopies_c _) rfl ?_; rintro _ w16 ⟨d16, ⟨rfl, ⟨hp1_16, hx16⟩⟩⟩)
    have hz_hx16 := hx16.size
    replace hT := hT.ext hx16
    replace hE := hE.ext hx16
    replace E := E.trans hx16
    replace hp1_16 := hp1_16.fresh
    refine w_pure (y_move rfl) rfl ?_
    refine w_pure (y_extract rfl rfl) rfl ?_
    refine w_pure (y_extract rfl rfl) rfl ?_
    refine w_pure (y_assign rfl) rfl ?_
    refine w_pure (y_assign rfl) rfl ?_
    refine w_nil ?_
    refine x_next ?_
    refine c_seq ?_
    refine c_region ?_
    refine w_pure (y_move rfl) rfl ?_
    (refine w_call rfl rfl rfl (iReadCopies_c _) rfl ?_; rintro _ w21 ⟨d21, ⟨rfl, ⟨hp1_21, hx21⟩⟩⟩)
    have hz_hx21 := hx21.size
    replace hT := hT.ext hx21
    replace hE := hE.ext hx21
    replace E := E.trans hx21
    replace hp1_16 := hp1_16.ext hx21
    replace hp1_21 := hp1_21.fresh
    refine w_pure (y_move rfl) rfl ?_
    refine w_pure (y_extract rfl rfl) rfl ?_
    refine w_pure (y_extract rfl rfl) rfl ?_
    refine w_pure (y_assign rfl) rfl ?_
    refine w_pure (y_assign rfl) rfl ?_
    refine w_nil ?_
    refine x_next ?_
    refine c_seq ?_
    refine c_seq ?_
    refine c_region ?_
    refine w_pure (y_move rfl) rfl ?_
    refine w_pure (y_move rfl) rfl ?_
    refine w_val rfl rfl rfl (eqCopyS_c) rfl (fun w26 hx26 hz26 => ?_)
    have hz_hx26 := hx26.size
    replace hT := hT.ext hx26
    replace hE := hE.ext hx26
    replace E := E.trans hx26
    replace hp1_16 := hp1_16.ext hx26
    replace hp1_21 := hp1_21.ext hx26
    refine w_pure (y_not_dec rfl) rfl ?_
    refine w_pure (y_move rfl) rfl ?_
    (refine w_part_dec rfl rfl (fun hc29 => ?_) (fun hc29 => ?_) <;> try (first | exact absurd rfl hc29 | contradiction | exact Bool.noConfusion (show false = true from hc29.symm.trans (by assumption)) | exact Bool.noConfusion (show true = false from hc29.symm.trans (by assumption)) | (exfalso; omega) | (exfalso; simp only [*, Bool.not_true, Bool.not_false, reduceCtorEq] at hc29; done)))
    refine w_yes rfl rfl ?_
    refine w_pure (y_move rfl) rfl ?_
    refine w_yes rfl rfl ?_
    refine w_pure (y_move rfl) rfl ?_
    refine w_yes rfl rfl ?_
    refine w_pure (y_neb rfl rfl) rfl ?_
    refine w_pure (y_pick_f rfl rfl) rfl ?_
    refine w_nil ?_
    refine x_next ?_
    refine c_nsame rfl ?_
    refine c_skip ?_
    refine x_next ?_
    refine c_seq ?_
    refine c_region ?_
    refine w_pure (y_assign rfl) rfl ?_
    refine w_nil ?_
    refine x_next ?_
    refine c_seq ?_
    refine c_region ?_
    refine w_pure (y_move rfl) rfl ?_
    refine w_pure (y_move rfl) rfl ?_
    (refine w_call rfl rfl rfl (markCopyS_c _) rfl ?_; rintro _ w35 ⟨rfl, ⟨hp1_35, hx35⟩⟩)
    have hz_hx35 := hx35.size
    replace hT := hT.chg hx35 (by omega)
    replace hE := hE.chg hx35 (by omega)
    replace E := E.next hx35 (by omega)
    replace hp1_16 := hp1_16.chg hx35 (by omega)
    refine w_pure (y_assign rfl) rfl ?_
    refine w_nil ?_
    refine x_next ?_
    refine c_seq ?_
    refine c_region ?_
    refine w_pure (y_assign rfl) rfl ?_
    refine w_nil ?_
    refine x_next ?_
    refine c_seq ?_
    refine c_region ?_
    refine w_pure (y_move rfl) rfl ?_
    refine w_pure (y_move rfl) rfl ?_
    refine w_val rfl rfl rfl (heldCopyS_c) rfl (fun w38 hx38 hz38 => ?_)
    have hz_hx38 := hx38.size
    replace hp1_35 := hp1_35.ext hx38
    replace hT := hT.ext hx38
    replace hE := hE.ext hx38
    replace E := E.trans hx38
    replace hp1_16 := hp1_16.ext hx38
    refine w_pure (y_assign rfl) rfl ?_
    refine w_nil ?_
    refine x_next ?_
    refine c_seq ?_
    refine c_seq ?_
    refine c_region ?_
    refine w_pure (y_move rfl) rfl ?_
    refine w_pure (y_lt rfl rfl) rfl ?_
    refine w_nil ?_
    refine x_next ?_
    refine c_false rfl ?_
    refine c_skip ?_
    refine x_next ?_
    refine c_seq ?_
    refine c_seq ?_
    refine c_region ?_
    refine w_pure (y_move rfl) rfl ?_
    refine w_pure (y_move rfl) rfl ?_
    refine w_pure (y_ne rfl rfl) rfl ?_
    refine w_nil ?_
    refine x_next ?_
    refine c_nsame rfl ?_
    refine c_skip ?_
    refine x_next ?_
    refine c_seq ?_
    refine c_region ?_
    refine w_pure (y_move rfl) rfl ?_
    (refine w_call rfl rfl rfl (iReadCopies_c _) rfl ?_; rintro _ w46 ⟨d46, ⟨rfl, ⟨hp1_46, hx46⟩⟩⟩)
    have hz_hx46 := hx46.size
    replace hp1_35 := hp1_35.ext hx46
    replace hT := hT.ext hx46
    replace hE := hE.ext hx46
    replace E := E.trans hx46
    replace hp1_16 := hp1_16.ext hx46
    replace hp1_46 := hp1_46.fresh
    refine w_pure (y_move rfl) rfl ?_
    refine w_pure (y_extract rfl rfl) rfl ?_
    refine w_pure (y_extract rfl rfl) rfl ?_
    refine w_pure (y_assign rfl) rfl ?_
    refine w_pure (y_assign rfl) rfl ?_
    refine w_nil ?_
    refine x_next ?_
    refine c_seq ?_
    refine c_seq ?_
    refine c_region ?_
    refine w_pure (y_move rfl) rfl ?_
    refine w_pure (y_move rfl) rfl ?_
    refine w_val rfl rfl rfl (eqCopyS_c) rfl (fun w51 hx51 hz51 => ?_)
    have hz_hx51 := hx51.size
    replace hp1_35 := hp1_35.ext hx51
    replace hT := hT.ext hx51
    replace hE := hE.ext hx51
    replace E := E.trans hx51
    replace hp1_16 := hp1_16.ext hx51
    replace hp1_46 := hp1_46.ext hx51
    refine w_pure (y_not_dec rfl) rfl ?_
    refine w_pure (y_move rfl) rfl ?_
    (refine w_part_dec rfl rfl (fun hc54 => ?_) (fun hc54 => ?_) <;> try (first | exact absurd rfl hc54 | contradiction | exact Bool.noConfusion (show false = true from hc54.symm.trans (by assumption)) | exact Bool.noConfusion (show true = false from hc54.symm.trans (by assumption)) | (exfalso; omega) | (exfalso; simp only [*, Bool.not_true, Bool.not_false, reduceCtorEq] at hc54; done)))
    refine w_yes rfl rfl ?_
    refine w_pure (y_move rfl) rfl ?_
    refine w_yes rfl rfl ?_
    refine w_pure (y_move rfl) rfl ?_
    refine w_yes rfl rfl ?_
    refine w_pure (y_neb rfl rfl) rfl ?_
    refine w_pure (y_pick_f rfl rfl) rfl ?_
    refine w_nil ?_
    refine x_next ?_
    refine c_nsame rfl ?_
    refine c_skip ?_
    refine x_next ?_
    refine c_seq ?_
    refine c_region ?_
    refine w_pure (y_assign rfl) rfl ?_
    refine w_nil ?_
    refine x_next ?_
    refine c_seq ?_
    refine c_region ?_
    refine w_pure (y_move rfl) rfl ?_
    refine w_pure (y_move rfl) rfl ?_
    refine w_val rfl rfl rfl (heldCopyS_c) rfl (fun w60 hx60 hz60 => ?_)
    have hz_hx60 := hx60.size
    replace hp1_35 := hp1_35.ext hx60
    replace hT := hT.ext hx60
    replace hE := hE.ext hx60
    replace E := E.trans hx60
    replace hp1_16 := hp1_16.ext hx60
    replace hp1_46 := hp1_46.ext hx60
    refine w_pure (y_assign rfl) rfl ?_
    refine w_nil ?_
    refine x_next ?_
    refine c_seq ?_
    refine c_seq ?_
    refine c_region ?_
    refine w_pure (y_move rfl) rfl ?_
    refine w_pure (y_lt rfl rfl) rfl ?_
    refine w_nil ?_
    refine x_next ?_
    refine c_false rfl ?_
    refine c_skip ?_
    refine x_next ?_
    refine c_seq ?_
    refine c_seq ?_
    refine c_region ?_
    refine w_pure (y_move rfl) rfl ?_
    refine w_pure (y_move rfl) rfl ?_
    refine w_pure (y_ne rfl rfl) rfl ?_
    refine w_nil ?_
    refine x_next ?_
    refine c_nsame rfl ?_
    refine c_skip ?_
    refine x_next ?_
    refine c_seq ?_
    refine c_region ?_
    refine w_pure (y_assign rfl) rfl ?_
    refine w_nil ?_
    refine x_next ?_
    refine c_ret ?_
    exact x_retv [_] rfl ⟨rfl, trivial⟩ ⟨rfl, E.go⟩
end
end Go.Proofs.YticnemjjjceiaaaDoor
