/- The chapter's examples, in plain words. -/
import Derived.Test.YtjieagpfnnbiiaaAHLin15
namespace Go.Proofs.Ytjieagpfnnbiiaa.XLin
open Go Go.RowKit Go.Proofs.YtjieagpfnnbiiaaW.PrintWords Go.Proofs.YtjieagpfnnbiiaaW.PrintLast Go.Proofs.YtjieagpfnnbiiaaW.PrintMore
open Go.Proofs.Ytjieagpfnnbiiaa
def sA : ByteArray := ⟨#[97]⟩
def s1 : ByteArray := ⟨#[49]⟩
def xPut : S32 := ⟨1, [⟨1, sA, s1⟩], ⟨#[]⟩, ⟨#[]⟩, 0⟩
def xGet : S32 := ⟨2, [], sA, ⟨#[]⟩, 0⟩
def xW : S36 := ⟨xPut, 0, 3, 0, 1, []⟩
def xOpen : S36 := ⟨xPut, 0, -1, 0, 1, []⟩
def xEarly : S36 := ⟨xGet, 1, 2, 0, 0, []⟩
def xYes : S36 := ⟨xGet, 1, 2, 0, 0, [⟨sA, s1⟩]⟩
def xLate : S36 := ⟨xGet, 4, 5, 0, 0, []⟩
def xThen : S36 := ⟨xGet, 4, 5, 0, 0, [⟨sA, s1⟩]⟩
set_option maxRecDepth 100000
theorem aw1 : legalP [] [xW, xEarly] = true := by kernel_rfl
theorem aw2 : legalP [] [xW, xYes] = true := by kernel_rfl
theorem aw3 : legalP [] [xW, xLate] = false := by kernel_rfl
theorem aw4 : legalP [] [xW, xThen] = true := by kernel_rfl
theorem aw5 : legalP [] [xOpen, xYes] = true := by kernel_rfl
theorem aw6 : legalP [] [xOpen, xYes, xLate] = false := by kernel_rfl
theorem aw7 : legalP [] [] = true := by kernel_rfl
theorem aw8 : fitsP [] [xW, xThen] [0, 1] = true := by kernel_rfl

end Go.Proofs.Ytjieagpfnnbiiaa.XLin
