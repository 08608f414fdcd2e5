/- Rules that step at the head of what is left to show. No condition. -/
import Derived.Test.YtiejkbmobmgdkaaPxD
namespace Go.Am
open Go
set_option linter.all false
theorem jn_r {j : AV → H → Prop} {b : (AV → H → Prop) → Prop} (q : b j) : J0.jn j b := q
theorem jb_r {j : Bool → AV → Prop} {b : (Bool → AV → Prop) → Prop} (q : b j) : J0.jb j b := q
theorem jd_r {α : Type} {j : α → List Dfr → H → Prop} {b : (α → List Dfr → H → Prop) → Prop} (q : b j) : J0.jd j b := q
theorem brT_r {a b : Prop} (q : a) : br true a b := q
theorem brF_r {a b : Prop} (q : b) : br false a b := q
theorem pickT_r {x y : AV} {k : Bool → Prop} (q : asB x k) : pickB (.bool true) x y k := by rw [pickB_t]; exact q
theorem pickF_r {x y : AV} {k : Bool → Prop} (q : asB y k) : pickB (.bool false) x y k := by rw [pickB_f]; exact q
theorem asB_r {b : Bool} {k : Bool → Prop} (q : k b) : asB (.bool b) k := by rw [asB_bool]; exact q
theorem asI_r {kk : IntKind} {n : Int} {k : Int → Prop} (q : k n) : asI kk (.int kk n) k := by rw [asI_int]; exact q
theorem asS_r {s : Str} {k : Str → Prop} (q : k s) : asS (.str s) k := by rw [asS_str]; exact q
theorem fB_r {b : Bool} {k : Bool → Prop} (q : k b) : fB b k := by rw [fB_eq]; exact q
theorem fI_r {b : Int} {k : Int → Prop} (q : k b) : fI b k := by rw [fI_eq]; exact q
theorem asBUb_r {b : Bool} {k : Bool → Prop} {n : Prop} (q : k b) : asBU (.bool b) k n := by rw [asBU_bool]; exact q
theorem asBUs_r {k : Bool → Prop} {n : Prop} (q : n) : asBU skipV k n := by rw [asBU_skip]; exact q
theorem fBE_r {c d : Bool} {k : Bool → Prop} (e : c = d) (q : k d) : fB c k := by rw [e]; exact fB_r q
theorem okNil_r {i o : Nat} {k : Prop} (q : k) : okNil (.ptr i o) k := by rw [okNil_ptr]; exact q
end Go.Am
