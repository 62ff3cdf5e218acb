/- What a world in which the listed variables read as listed, and that has its shape, gives to the walks. -/
import Derived.Test.YtnegdimhejldfaaGreatDoorEv
import Derived.Test.YtnegdimhejldfaaGreatDoorRows
import Derived.Stop.LaidErr
import Derived.Shelf.Vars
namespace Go.Proofs.YtnegdimhejldfaaGreatDoor.cw
open Go Go.RowKit Go.Shelf Go.Lib Go.Proofs Go.Proofs.YtnegdimhejldfaaGreatDoor
set_option linter.unusedVariables false
set_option maxRecDepth 100000
theorem gES : Tryz.prog.globalNamed "strconv.ErrSyntax" = some 4 := by kernel_rfl
theorem gEST : (Tryz.prog.globals[4]?).map (·.type) = some 67 := by kernel_rfl
theorem gER : Tryz.prog.globalNamed "strconv.ErrRange" = some 5 := by kernel_rfl
theorem gERT : (Tryz.prog.globals[5]?).map (·.type) = some 67 := by kernel_rfl
theorem cells190 : Tryz.prog.cellsOf 190 = 1 := by kernel_rfl
theorem cells9 : Tryz.prog.cellsOf 9 = 1 := by kernel_rfl
theorem star : "*" ++ "errors.errorString" = "*errors.errorString" := by decide
theorem row188 (u : TypeId) (h : Tryz.prog.typeName? 3 u = some "*errors.errorString") : u = 188 :=
  typeName_ptr_named (nm := "errors.errorString") (by rw [star]; kernel_rfl) (by kernel_rfl) (by decide) u (by rw [star]; exact h)
theorem t1 : (Rows.laid_internal_strconv_uint64pow10 : DataW Unit) = Lib.tabData .u64 Lib.pow10Tab := by kernel_rfl
theorem t2 : (Rows.laid_strings_asciiSpace : DataW Unit) = Lib.tabData .u8 Lib.asciiSpaceTab := by kernel_rfl
theorem ev_of {W : World} (h : laidMet Tryz.prog Rows.codeBackRow.laid W) (hs : W.ShapedOpen Tryz.prog) : Ev W := by
  have h1 : laidMet Tryz.prog (("internal/strconv.uint64pow10", Lib.tabData .u64 Lib.pow10Tab) :: [("strconv.ErrRange", Rows.laid_strconv_ErrRange), ("strconv.ErrSyntax", Rows.laid_strconv_ErrSyntax), ("unicode.White_Space", Rows.laid_unicode_White_Space), ("strings.asciiSpace", Lib.tabData .u8 Lib.asciiSpaceTab)]) W := by
    rw [← t1, ← t2]
    exact laidMet.tail (laidMet.tail h)
  clear h
  obtain ⟨a1, s1, hv1, -, -, -⟩ := laid_sentinel (nm := "*errors.errorString") (text := [118, 97, 108, 117, 101, 32, 111, 117, 116, 32, 111, 102, 32, 114, 97, 110, 103, 101]) h1.tail gER gERT Tryz.underlying67 row188 Tryz.underlying188 Tryz.underlying190 rfl rfl Tryz.underlying9 cells190 cells9
  obtain ⟨a0, s0, hv0, -, -, -⟩ := laid_sentinel (nm := "*errors.errorString") (text := [105, 110, 118, 97, 108, 105, 100, 32, 115, 121, 110, 116, 97, 120]) h1.tail.tail gES gEST Tryz.underlying67 row188 Tryz.underlying188 Tryz.underlying190 rfl rfl Tryz.underlying9 cells190 cells9
  have hm := cell_of_shapedOpen_int (P := Tryz.prog) (g := 2) (t := 3) (zero := #[.int .i64 0]) hs (of_decide_eq_true (by kernel_rfl)) (by kernel_rfl) rfl (by kernel_rfl) (by kernel_rfl) Tryz.underlying3
  exact ⟨tabIs_of_head (g := 3) (t := 168) (e := 64) (n := 20) (by kernel_rfl) (by kernel_rfl) (by kernel_rfl) (by kernel_rfl) (by kernel_rfl) (by kernel_rfl) h1,
    tabIs_of_head (g := 0) (t := 83) (e := 5) (n := 256) (by kernel_rfl) (by kernel_rfl) (by kernel_rfl) (by kernel_rfl) (by kernel_rfl) (by kernel_rfl) h1.tail.tail.tail.tail,
    ⟨_, _, hv0⟩, ⟨_, _, hv1⟩, hm⟩
end Go.Proofs.YtnegdimhejldfaaGreatDoor.cw
