/- Facts on the types and functions of this translation. -/
import Derived.Test.YtegmeopbpifeeaaArr
import Derived.Test.YtegmeopbpifeeaaProg
import Derived.KernelRfl
namespace Go.Proofs
set_option linter.unusedVariables false
set_option linter.unusedSimpArgs false
open Go.Bs
instance : PlainT Try.prog 1 := ⟨Try.isAgg1, Try.sizeOf1⟩
instance : ElT Try.prog 1 .nilFunc 1 8 := ⟨by kernel_rfl⟩
instance : IntT Try.prog 2 .i64 := ⟨Try.underlying2⟩
instance : PlainT Try.prog 2 := ⟨Try.isAgg2, Try.sizeOf2⟩
instance : ZeroT Try.prog 2 (.int .i64 0) := ⟨Try.zeroValue2⟩
instance : ElT Try.prog 2 (.int .i64 0) 1 8 := ⟨by kernel_rfl⟩
instance : IntT Try.prog 3 .i64 := ⟨Try.underlying3⟩
instance : PlainT Try.prog 3 := ⟨Try.isAgg3, Try.sizeOf3⟩
instance : ZeroT Try.prog 3 (.int .i64 0) := ⟨Try.zeroValue3⟩
instance : ElT Try.prog 3 (.int .i64 0) 1 8 := ⟨by kernel_rfl⟩
instance : BoolT Try.prog 4 := ⟨Try.underlying4⟩
instance : PlainT Try.prog 4 := ⟨Try.isAgg4, Try.sizeOf4⟩
instance : ZeroT Try.prog 4 (.bool false) := ⟨Try.zeroValue4⟩
instance : ElT Try.prog 4 (.bool false) 1 1 := ⟨by kernel_rfl⟩
instance : IntT Try.prog 5 .u8 := ⟨Try.underlying5⟩
instance : PlainT Try.prog 5 := ⟨Try.isAgg5, Try.sizeOf5⟩
instance : ZeroT Try.prog 5 (.int .u8 0) := ⟨Try.zeroValue5⟩
instance : ElT Try.prog 5 (.int .u8 0) 1 1 := ⟨by kernel_rfl⟩
instance : IntT Try.prog 6 .u8 := ⟨Try.underlying6⟩
instance : PlainT Try.prog 6 := ⟨Try.isAgg6, Try.sizeOf6⟩
instance : ZeroT Try.prog 6 (.int .u8 0) := ⟨Try.zeroValue6⟩
instance : ElT Try.prog 6 (.int .u8 0) 1 1 := ⟨by kernel_rfl⟩
instance : AggT Try.prog 7 4 := ⟨Try.isAgg7, Try.sizeOf7⟩
instance : FieldT Try.prog 7 0 0 := ⟨fun _ _ _ => by kernel_rfl⟩
instance : FieldT Try.prog 7 1 1 := ⟨fun _ _ _ => by kernel_rfl⟩
instance : FieldT Try.prog 7 2 2 := ⟨fun _ _ _ => by kernel_rfl⟩
instance : FieldT Try.prog 7 3 3 := ⟨fun _ _ _ => by kernel_rfl⟩
instance : ZeroT Try.prog 7 (.agg #[(.int .i64 0), (.int .i64 0), (.bool false), (.int .u8 0)]) := ⟨Try.zeroValue7⟩
instance : ElT Try.prog 7 (.agg #[(.int .i64 0), (.int .i64 0), (.bool false), (.int .u8 0)]) 4 24 := ⟨by kernel_rfl⟩
instance : AggT Try.prog 8 4 := ⟨Try.isAgg8, Try.sizeOf8⟩
instance : FieldT Try.prog 8 0 0 := ⟨fun _ _ _ => by kernel_rfl⟩
instance : FieldT Try.prog 8 1 1 := ⟨fun _ _ _ => by kernel_rfl⟩
instance : FieldT Try.prog 8 2 2 := ⟨fun _ _ _ => by kernel_rfl⟩
instance : FieldT Try.prog 8 3 3 := ⟨fun _ _ _ => by kernel_rfl⟩
instance : ZeroT Try.prog 8 (.agg #[(.int .i64 0), (.int .i64 0), (.bool false), (.int .u8 0)]) := ⟨Try.zeroValue8⟩
instance : ElT Try.prog 8 (.agg #[(.int .i64 0), (.int .i64 0), (.bool false), (.int .u8 0)]) 4 24 := ⟨by kernel_rfl⟩
instance : StrT Try.prog 9 := ⟨Try.underlying9⟩
instance : PlainT Try.prog 9 := ⟨Try.isAgg9, Try.sizeOf9⟩
instance : ZeroT Try.prog 9 (.string ByteArray.empty) := ⟨Try.zeroValue9⟩
instance : ElT Try.prog 9 (.string ByteArray.empty) 1 16 := ⟨by kernel_rfl⟩
instance : StrT Try.prog 10 := ⟨Try.underlying10⟩
instance : PlainT Try.prog 10 := ⟨Try.isAgg10, Try.sizeOf10⟩
instance : ZeroT Try.prog 10 (.string ByteArray.empty) := ⟨Try.zeroValue10⟩
instance : ElT Try.prog 10 (.string ByteArray.empty) 1 16 := ⟨by kernel_rfl⟩
instance : StrT Try.prog 11 := ⟨Try.underlying11⟩
instance : PlainT Try.prog 11 := ⟨Try.isAgg11, Try.sizeOf11⟩
instance : ZeroT Try.prog 11 (.string ByteArray.empty) := ⟨Try.zeroValue11⟩
instance : ElT Try.prog 11 (.string ByteArray.empty) 1 16 := ⟨by kernel_rfl⟩
instance : IntT Try.prog 12 .u64 := ⟨Try.underlying12⟩
instance : PlainT Try.prog 12 := ⟨Try.isAgg12, Try.sizeOf12⟩
instance : ZeroT Try.prog 12 (.int .u64 0) := ⟨Try.zeroValue12⟩
instance : ElT Try.prog 12 (.int .u64 0) 1 8 := ⟨by kernel_rfl⟩
instance : AggT Try.prog 13 2 := ⟨Try.isAgg13, Try.sizeOf13⟩
instance : FieldT Try.prog 13 0 0 := ⟨fun _ _ _ => by kernel_rfl⟩
instance : FieldT Try.prog 13 1 1 := ⟨fun _ _ _ => by kernel_rfl⟩
instance : ZeroT Try.prog 13 (.agg #[(.string ByteArray.empty), (.int .u64 0)]) := ⟨Try.zeroValue13⟩
instance : ElT Try.prog 13 (.agg #[(.string ByteArray.empty), (.int .u64 0)]) 2 24 := ⟨by kernel_rfl⟩
instance : AggT Try.prog 14 2 := ⟨Try.isAgg14, Try.sizeOf14⟩
instance : FieldT Try.prog 14 0 0 := ⟨fun _ _ _ => by kernel_rfl⟩
instance : FieldT Try.prog 14 1 1 := ⟨fun _ _ _ => by kernel_rfl⟩
instance : ZeroT Try.prog 14 (.agg #[(.string ByteArray.empty), (.int .u64 0)]) := ⟨Try.zeroValue14⟩
instance : ElT Try.prog 14 (.agg #[(.string ByteArray.empty), (.int .u64 0)]) 2 24 := ⟨by kernel_rfl⟩
instance : PtrT Try.prog 15 78 := ⟨Try.underlying15⟩
instance : PlainT Try.prog 15 := ⟨Try.isAgg15, Try.sizeOf15⟩
instance : ZeroT Try.prog 15 (.pointer none) := ⟨Try.zeroValue15⟩
instance : ElT Try.prog 15 (.pointer none) 1 8 := ⟨by kernel_rfl⟩
instance : PtrT Try.prog 16 81 := ⟨Try.underlying16⟩
instance : PlainT Try.prog 16 := ⟨Try.isAgg16, Try.sizeOf16⟩
instance : ZeroT Try.prog 16 (.pointer none) := ⟨Try.zeroValue16⟩
instance : ElT Try.prog 16 (.pointer none) 1 8 := ⟨by kernel_rfl⟩
instance : PtrT Try.prog 17 89 := ⟨Try.underlying17⟩
instance : PlainT Try.prog 17 := ⟨Try.isAgg17, Try.sizeOf17⟩
instance : ZeroT Try.prog 17 (.pointer none) := ⟨Try.zeroValue17⟩
instance : ElT Try.prog 17 (.pointer none) 1 8 := ⟨by kernel_rfl⟩
instance : AggT Try.prog 18 1 := ⟨Try.isAgg18, Try.sizeOf18⟩
instance : FieldT Try.prog 18 0 0 := ⟨fun _ _ _ => by kernel_rfl⟩
instance : ZeroT Try.prog 18 (.agg #[(.pointer none)]) := ⟨Try.zeroValue18⟩
instance : ElT Try.prog 18 (.agg #[(.pointer none)]) 1 8 := ⟨by kernel_rfl⟩
instance : AggT Try.prog 19 1 := ⟨Try.isAgg19, Try.sizeOf19⟩
instance : FieldT Try.prog 19 0 0 := ⟨fun _ _ _ => by kernel_rfl⟩
instance : ZeroT Try.prog 19 (.agg #[(.pointer none)]) := ⟨Try.zeroValue19⟩
instance : ElT Try.prog 19 (.agg #[(.pointer none)]) 1 8 := ⟨by kernel_rfl⟩
instance : PlainT Try.prog 20 := ⟨Try.isAgg20, Try.sizeOf20⟩
instance : ZeroT Try.prog 20 .nilIface := ⟨Try.zeroValue20⟩
instance : ElT Try.prog 20 .nilIface 1 16 := ⟨by kernel_rfl⟩
instance : IntT Try.prog 21 .i32 := ⟨Try.underlying21⟩
instance : PlainT Try.prog 21 := ⟨Try.isAgg21, Try.sizeOf21⟩
instance : ZeroT Try.prog 21 (.int .i32 0) := ⟨Try.zeroValue21⟩
instance : ElT Try.prog 21 (.int .i32 0) 1 4 := ⟨by kernel_rfl⟩
instance : SlT Try.prog 22 25 1 := ⟨Try.underlying22, Try.sizeOf25⟩
instance : PlainT Try.prog 22 := ⟨Try.isAgg22, Try.sizeOf22⟩
instance : ZeroT Try.prog 22 (.slice none 0 0) := ⟨Try.zeroValue22⟩
instance : ElT Try.prog 22 (.slice none 0 0) 1 24 := ⟨by kernel_rfl⟩
instance : PlainT Try.prog 23 := ⟨Try.isAgg23, Try.sizeOf23⟩
instance : ElT Try.prog 23 .nilFunc 1 8 := ⟨by kernel_rfl⟩
instance : IntT Try.prog 24 .i64 := ⟨Try.underlying24⟩
instance : PlainT Try.prog 24 := ⟨Try.isAgg24, Try.sizeOf24⟩
instance : ZeroT Try.prog 24 (.int .i64 0) := ⟨Try.zeroValue24⟩
instance : ElT Try.prog 24 (.int .i64 0) 1 8 := ⟨by kernel_rfl⟩
instance : SlT Try.prog 25 5 1 := ⟨Try.underlying25, Try.sizeOf5⟩
instance : PlainT Try.prog 25 := ⟨Try.isAgg25, Try.sizeOf25⟩
instance : ZeroT Try.prog 25 (.slice none 0 0) := ⟨Try.zeroValue25⟩
instance : ElT Try.prog 25 (.slice none 0 0) 1 24 := ⟨by kernel_rfl⟩
instance : PtrT Try.prog 26 49 := ⟨Try.underlying26⟩
instance : PlainT Try.prog 26 := ⟨Try.isAgg26, Try.sizeOf26⟩
instance : ZeroT Try.prog 26 (.pointer none) := ⟨Try.zeroValue26⟩
instance : ElT Try.prog 26 (.pointer none) 1 8 := ⟨by kernel_rfl⟩
instance : PlainT Try.prog 28 := ⟨Try.isAgg28, Try.sizeOf28⟩
instance : ElT Try.prog 28 .nilFunc 1 8 := ⟨by kernel_rfl⟩
instance : PlainT Try.prog 29 := ⟨Try.isAgg29, Try.sizeOf29⟩
instance : ElT Try.prog 29 .nilFunc 1 8 := ⟨by kernel_rfl⟩
instance : PlainT Try.prog 30 := ⟨Try.isAgg30, Try.sizeOf30⟩
instance : ElT Try.prog 30 .nilFunc 1 8 := ⟨by kernel_rfl⟩
instance : PlainT Try.prog 31 := ⟨Try.isAgg31, Try.sizeOf31⟩
instance : ElT Try.prog 31 .nilFunc 1 8 := ⟨by kernel_rfl⟩
instance : PlainT Try.prog 32 := ⟨Try.isAgg32, Try.sizeOf32⟩
instance : ElT Try.prog 32 .nilFunc 1 8 := ⟨by kernel_rfl⟩
instance : PlainT Try.prog 33 := ⟨Try.isAgg33, Try.sizeOf33⟩
instance : ElT Try.prog 33 .nilFunc 1 8 := ⟨by kernel_rfl⟩
instance : PlainT Try.prog 34 := ⟨Try.isAgg34, Try.sizeOf34⟩
instance : ElT Try.prog 34 .nilFunc 1 8 := ⟨by kernel_rfl⟩
instance : PlainT Try.prog 35 := ⟨Try.isAgg35, Try.sizeOf35⟩
instance : ElT Try.prog 35 .nilFunc 1 8 := ⟨by kernel_rfl⟩
instance : PlainT Try.prog 36 := ⟨Try.isAgg36, Try.sizeOf36⟩
instance : ElT Try.prog 36 .nilFunc 1 8 := ⟨by kernel_rfl⟩
instance : PlainT Try.prog 37 := ⟨Try.isAgg37, Try.sizeOf37⟩
instance : ElT Try.prog 37 .nilFunc 1 8 := ⟨by kernel_rfl⟩
instance : PlainT Try.prog 38 := ⟨Try.isAgg38, Try.sizeOf38⟩
instance : ElT Try.prog 38 .nilFunc 1 8 := ⟨by kernel_rfl⟩
instance : PlainT Try.prog 39 := ⟨Try.isAgg39, Try.sizeOf39⟩
instance : ElT Try.prog 39 .nilFunc 1 8 := ⟨by kernel_rfl⟩
instance : SlT Try.prog 40 3 1 := ⟨Try.underlying40, Try.sizeOf3⟩
instance : PlainT Try.prog 40 := ⟨Try.isAgg40, Try.sizeOf40⟩
instance : ZeroT Try.prog 40 (.slice none 0 0) := ⟨Try.zeroValue40⟩
instance : ElT Try.prog 40 (.slice none 0 0) 1 24 := ⟨by kernel_rfl⟩
instance : PlainT Try.prog 41 := ⟨Try.isAgg41, Try.sizeOf41⟩
instance : ElT Try.prog 41 .nilFunc 1 8 := ⟨by kernel_rfl⟩
instance : PlainT Try.prog 42 := ⟨Try.isAgg42, Try.sizeOf42⟩
instance : ElT Try.prog 42 .nilFunc 1 8 := ⟨by kernel_rfl⟩
instance : PlainT Try.prog 43 := ⟨Try.isAgg43, Try.sizeOf43⟩
instance : ElT Try.prog 43 .nilFunc 1 8 := ⟨by kernel_rfl⟩
instance : PlainT Try.prog 44 := ⟨Try.isAgg44, Try.sizeOf44⟩
instance : ElT Try.prog 44 .nilFunc 1 8 := ⟨by kernel_rfl⟩
instance : PlainT Try.prog 45 := ⟨Try.isAgg45, Try.sizeOf45⟩
instance : ElT Try.prog 45 .nilFunc 1 8 := ⟨by kernel_rfl⟩
instance : PlainT Try.prog 46 := ⟨Try.isAgg46, Try.sizeOf46⟩
instance : ElT Try.prog 46 .nilFunc 1 8 := ⟨by kernel_rfl⟩
instance : IntT Try.prog 47 .u64 := ⟨Try.underlying47⟩
instance : PlainT Try.prog 47 := ⟨Try.isAgg47, Try.sizeOf47⟩
instance : ZeroT Try.prog 47 (.int .u64 0) := ⟨Try.zeroValue47⟩
instance : ElT Try.prog 47 (.int .u64 0) 1 8 := ⟨by kernel_rfl⟩
instance : AggT Try.prog 48 2 := ⟨Try.isAgg48, Try.sizeOf48⟩
instance : FieldT Try.prog 48 0 0 := ⟨fun _ _ _ => by kernel_rfl⟩
instance : FieldT Try.prog 48 1 1 := ⟨fun _ _ _ => by kernel_rfl⟩
instance : BuildT Try.prog 48 #[(0, 1), (1, 1)] #[(.int .i64 0), (.slice none 0 0)] := ⟨fun pv cells w h => by
  simp [Instr.build, Try.zeroValue48, Try.runUnderlying48, Value.cells, Try.sizeOf3, Try.sizeOf22]
  (try simp at h)
  (try simp only [show (ByteArray.empty : ByteArray) = ⟨#[]⟩ from rfl] at h)
  simp [h]⟩
instance : ZeroT Try.prog 48 (.agg #[(.int .i64 0), (.slice none 0 0)]) := ⟨Try.zeroValue48⟩
instance : ElT Try.prog 48 (.agg #[(.int .i64 0), (.slice none 0 0)]) 2 32 := ⟨by kernel_rfl⟩
instance : AggT Try.prog 49 2 := ⟨Try.isAgg49, Try.sizeOf49⟩
instance : FieldT Try.prog 49 0 0 := ⟨fun _ _ _ => by kernel_rfl⟩
instance : FieldT Try.prog 49 1 1 := ⟨fun _ _ _ => by kernel_rfl⟩
instance : BuildT Try.prog 49 #[(0, 1), (1, 1)] #[(.int .i64 0), (.slice none 0 0)] := ⟨fun pv cells w h => by
  simp [Instr.build, Try.zeroValue49, Try.runUnderlying49, Value.cells, Try.sizeOf3, Try.sizeOf22]
  (try simp at h)
  (try simp only [show (ByteArray.empty : ByteArray) = ⟨#[]⟩ from rfl] at h)
  simp [h]⟩
instance : ZeroT Try.prog 49 (.agg #[(.int .i64 0), (.slice none 0 0)]) := ⟨Try.zeroValue49⟩
instance : ElT Try.prog 49 (.agg #[(.int .i64 0), (.slice none 0 0)]) 2 32 := ⟨by kernel_rfl⟩
instance : PlainT Try.prog 50 := ⟨Try.isAgg50, Try.sizeOf50⟩
instance : ElT Try.prog 50 .nilFunc 1 8 := ⟨by kernel_rfl⟩
instance : AggT Try.prog 51 1 := ⟨Try.isAgg51, Try.sizeOf51⟩
instance : FieldT Try.prog 51 0 0 := ⟨fun _ _ _ => by kernel_rfl⟩
instance : BuildT Try.prog 51 #[(0, 1)] #[(.slice none 0 0)] := ⟨fun pv cells w h => by
  simp [Instr.build, Try.zeroValue51, Try.runUnderlying51, Value.cells, Try.sizeOf22]
  (try simp at h)
  (try simp only [show (ByteArray.empty : ByteArray) = ⟨#[]⟩ from rfl] at h)
  simp [h]⟩
instance : ZeroT Try.prog 51 (.agg #[(.slice none 0 0)]) := ⟨Try.zeroValue51⟩
instance : ElT Try.prog 51 (.agg #[(.slice none 0 0)]) 1 24 := ⟨by kernel_rfl⟩
instance : AggT Try.prog 52 1 := ⟨Try.isAgg52, Try.sizeOf52⟩
instance : FieldT Try.prog 52 0 0 := ⟨fun _ _ _ => by kernel_rfl⟩
instance : BuildT Try.prog 52 #[(0, 1)] #[(.slice none 0 0)] := ⟨fun pv cells w h => by
  simp [Instr.build, Try.zeroValue52, Try.runUnderlying52, Value.cells, Try.sizeOf22]
  (try simp at h)
  (try simp only [show (ByteArray.empty : ByteArray) = ⟨#[]⟩ from rfl] at h)
  simp [h]⟩
instance : ZeroT Try.prog 52 (.agg #[(.slice none 0 0)]) := ⟨Try.zeroValue52⟩
instance : ElT Try.prog 52 (.agg #[(.slice none 0 0)]) 1 24 := ⟨by kernel_rfl⟩
instance : PlainT Try.prog 53 := ⟨Try.isAgg53, Try.sizeOf53⟩
instance : ElT Try.prog 53 .nilFunc 1 8 := ⟨by kernel_rfl⟩
instance : PlainT Try.prog 54 := ⟨Try.isAgg54, Try.sizeOf54⟩
instance : ElT Try.prog 54 .nilFunc 1 8 := ⟨by kernel_rfl⟩
instance : PlainT Try.prog 55 := ⟨Try.isAgg55, Try.sizeOf55⟩
instance : ElT Try.prog 55 .nilFunc 1 8 := ⟨by kernel_rfl⟩
instance : PlainT Try.prog 56 := ⟨Try.isAgg56, Try.sizeOf56⟩
instance : ElT Try.prog 56 .nilFunc 1 8 := ⟨by kernel_rfl⟩
instance : IntT Try.prog 57 .u32 := ⟨Try.underlying57⟩
instance : PlainT Try.prog 57 := ⟨Try.isAgg57, Try.sizeOf57⟩
instance : ZeroT Try.prog 57 (.int .u32 0) := ⟨Try.zeroValue57⟩
instance : ElT Try.prog 57 (.int .u32 0) 1 4 := ⟨by kernel_rfl⟩
instance : PlainT Try.prog 58 := ⟨Try.isAgg58, Try.sizeOf58⟩
instance : ElT Try.prog 58 .nilFunc 1 8 := ⟨by kernel_rfl⟩
instance : IntT Try.prog 59 .u64 := ⟨Try.underlying59⟩
instance : PlainT Try.prog 59 := ⟨Try.isAgg59, Try.sizeOf59⟩
instance : ZeroT Try.prog 59 (.int .u64 0) := ⟨Try.zeroValue59⟩
instance : ElT Try.prog 59 (.int .u64 0) 1 8 := ⟨by kernel_rfl⟩
instance : PtrT Try.prog 60 52 := ⟨Try.underlying60⟩
instance : PlainT Try.prog 60 := ⟨Try.isAgg60, Try.sizeOf60⟩
instance : ZeroT Try.prog 60 (.pointer none) := ⟨Try.zeroValue60⟩
instance : ElT Try.prog 60 (.pointer none) 1 8 := ⟨by kernel_rfl⟩
instance : PlainT Try.prog 61 := ⟨Try.isAgg61, Try.sizeOf61⟩
instance : ElT Try.prog 61 .nilFunc 1 8 := ⟨by kernel_rfl⟩
instance : PlainT Try.prog 62 := ⟨Try.isAgg62, Try.sizeOf62⟩
instance : ElT Try.prog 62 .nilFunc 1 8 := ⟨by kernel_rfl⟩
instance : ArrT Try.prog 63 8 57 1 := ⟨Try.underlying63, Try.sizeOf57⟩
instance : AggT Try.prog 63 8 := ⟨Try.isAgg63, Try.sizeOf63⟩
instance : ZeroT Try.prog 63 (.agg #[(.int .u32 0), (.int .u32 0), (.int .u32 0), (.int .u32 0), (.int .u32 0), (.int .u32 0), (.int .u32 0), (.int .u32 0)]) := ⟨Try.zeroValue63⟩
instance : ElT Try.prog 63 (.agg #[(.int .u32 0), (.int .u32 0), (.int .u32 0), (.int .u32 0), (.int .u32 0), (.int .u32 0), (.int .u32 0), (.int .u32 0)]) 8 32 := ⟨by kernel_rfl⟩
instance : ArrT Try.prog 64 64 57 1 := ⟨Try.underlying64, Try.sizeOf57⟩
instance : AggT Try.prog 64 64 := ⟨Try.isAgg64, Try.sizeOf64⟩
instance : ZeroT Try.prog 64 (.agg #[(.int .u32 0), (.int .u32 0), (.int .u32 0), (.int .u32 0), (.int .u32 0), (.int .u32 0), (.int .u32 0), (.int .u32 0), (.int .u32 0), (.int .u32 0), (.int .u32 0), (.int .u32 0), (.int .u32 0), (.int .u32 0), (.int .u32 0), (.int .u32 0), (.int .u32 0), (.int .u32 0), (.int .u32 0), (.int .u32 0), (.int .u32 0), (.int .u32 0), (.int .u32 0), (.int .u32 0), (.int .u32 0), (.int .u32 0), (.int .u32 0), (.int .u32 0), (.int .u32 0), (.int .u32 0), (.int .u32 0), (.int .u32 0), (.int .u32 0), (.int .u32 0), (.int .u32 0), (.int .u32 0), (.int .u32 0), (.int .u32 0), (.int .u32 0), (.int .u32 0), (.int .u32 0), (.int .u32 0), (.int .u32 0), (.int .u32 0), (.int .u32 0), (.int .u32 0), (.int .u32 0), (.int .u32 0), (.int .u32 0), (.int .u32 0), (.int .u32 0), (.int .u32 0), (.int .u32 0), (.int .u32 0), (.int .u32 0), (.int .u32 0), (.int .u32 0), (.int .u32 0), (.int .u32 0), (.int .u32 0), (.int .u32 0), (.int .u32 0), (.int .u32 0), (.int .u32 0)]) := ⟨Try.zeroValue64⟩
instance : ElT Try.prog 64 (.agg #[(.int .u32 0), (.int .u32 0), (.int .u32 0), (.int .u32 0), (.int .u32 0), (.int .u32 0), (.int .u32 0), (.int .u32 0), (.int .u32 0), (.int .u32 0), (.int .u32 0), (.int .u32 0), (.int .u32 0), (.int .u32 0), (.int .u32 0), (.int .u32 0), (.int .u32 0), (.int .u32 0), (.int .u32 0), (.int .u32 0), (.int .u32 0), (.int .u32 0), (.int .u32 0), (.int .u32 0), (.int .u32 0), (.int .u32 0), (.int .u32 0), (.int .u32 0), (.int .u32 0), (.int .u32 0), (.int .u32 0), (.int .u32 0), (.int .u32 0), (.int .u32 0), (.int .u32 0), (.int .u32 0), (.int .u32 0), (.int .u32 0), (.int .u32 0), (.int .u32 0), (.int .u32 0), (.int .u32 0), (.int .u32 0), (.int .u32 0), (.int .u32 0), (.int .u32 0), (.int .u32 0), (.int .u32 0), (.int .u32 0), (.int .u32 0), (.int .u32 0), (.int .u32 0), (.int .u32 0), (.int .u32 0), (.int .u32 0), (.int .u32 0), (.int .u32 0), (.int .u32 0), (.int .u32 0), (.int .u32 0), (.int .u32 0), (.int .u32 0), (.int .u32 0), (.int .u32 0)]) 64 256 := ⟨by kernel_rfl⟩
instance : PlainT Try.prog 65 := ⟨Try.isAgg65, Try.sizeOf65⟩
instance : ElT Try.prog 65 .nilFunc 1 8 := ⟨by kernel_rfl⟩
instance : PlainT Try.prog 66 := ⟨Try.isAgg66, Try.sizeOf66⟩
instance : ElT Try.prog 66 .nilFunc 1 8 := ⟨by kernel_rfl⟩
instance : PlainT Try.prog 67 := ⟨Try.isAgg67, Try.sizeOf67⟩
instance : ZeroT Try.prog 67 .nilFunc := ⟨Try.zeroValue67⟩
instance : ElT Try.prog 67 .nilFunc 1 8 := ⟨by kernel_rfl⟩
instance : PlainT Try.prog 68 := ⟨Try.isAgg68, Try.sizeOf68⟩
instance : ElT Try.prog 68 .nilFunc 1 8 := ⟨by kernel_rfl⟩
instance : PlainT Try.prog 69 := ⟨Try.isAgg69, Try.sizeOf69⟩
instance : ElT Try.prog 69 .nilFunc 1 8 := ⟨by kernel_rfl⟩
instance : PtrT Try.prog 70 64 := ⟨Try.underlying70⟩
instance : PlainT Try.prog 70 := ⟨Try.isAgg70, Try.sizeOf70⟩
instance : ZeroT Try.prog 70 (.pointer none) := ⟨Try.zeroValue70⟩
instance : ElT Try.prog 70 (.pointer none) 1 8 := ⟨by kernel_rfl⟩
instance : PlainT Try.prog 71 := ⟨Try.isAgg71, Try.sizeOf71⟩
instance : ElT Try.prog 71 .nilFunc 1 8 := ⟨by kernel_rfl⟩
instance : PlainT Try.prog 72 := ⟨Try.isAgg72, Try.sizeOf72⟩
instance : ElT Try.prog 72 .nilFunc 1 8 := ⟨by kernel_rfl⟩
instance : PlainT Try.prog 73 := ⟨Try.isAgg73, Try.sizeOf73⟩
instance : ElT Try.prog 73 .nilFunc 1 8 := ⟨by kernel_rfl⟩
instance : PlainT Try.prog 74 := ⟨Try.isAgg74, Try.sizeOf74⟩
instance : ElT Try.prog 74 .nilFunc 1 8 := ⟨by kernel_rfl⟩
instance : PlainT Try.prog 75 := ⟨Try.isAgg75, Try.sizeOf75⟩
instance : ElT Try.prog 75 .nilFunc 1 8 := ⟨by kernel_rfl⟩
instance : PlainT Try.prog 76 := ⟨Try.isAgg76, Try.sizeOf76⟩
instance : ElT Try.prog 76 .nilFunc 1 8 := ⟨by kernel_rfl⟩
instance : AggT Try.prog 77 4 := ⟨Try.isAgg77, Try.sizeOf77⟩
instance : FieldT Try.prog 77 0 0 := ⟨fun _ _ _ => by kernel_rfl⟩
instance : FieldT Try.prog 77 1 1 := ⟨fun _ _ _ => by kernel_rfl⟩
instance : FieldT Try.prog 77 2 2 := ⟨fun _ _ _ => by kernel_rfl⟩
instance : FieldT Try.prog 77 3 3 := ⟨fun _ _ _ => by kernel_rfl⟩
instance : ZeroT Try.prog 77 (.agg #[(.pointer none), (.pointer none), (.pointer none), (.string ByteArray.empty)]) := ⟨Try.zeroValue77⟩
instance : ElT Try.prog 77 (.agg #[(.pointer none), (.pointer none), (.pointer none), (.string ByteArray.empty)]) 4 40 := ⟨by kernel_rfl⟩
instance : AggT Try.prog 78 4 := ⟨Try.isAgg78, Try.sizeOf78⟩
instance : FieldT Try.prog 78 0 0 := ⟨fun _ _ _ => by kernel_rfl⟩
instance : FieldT Try.prog 78 1 1 := ⟨fun _ _ _ => by kernel_rfl⟩
instance : FieldT Try.prog 78 2 2 := ⟨fun _ _ _ => by kernel_rfl⟩
instance : FieldT Try.prog 78 3 3 := ⟨fun _ _ _ => by kernel_rfl⟩
instance : ZeroT Try.prog 78 (.agg #[(.pointer none), (.pointer none), (.pointer none), (.string ByteArray.empty)]) := ⟨Try.zeroValue78⟩
instance : ElT Try.prog 78 (.agg #[(.pointer none), (.pointer none), (.pointer none), (.string ByteArray.empty)]) 4 40 := ⟨by kernel_rfl⟩
instance : AggT Try.prog 79 0 := ⟨Try.isAgg79, Try.sizeOf79⟩
instance : ZeroT Try.prog 79 (.agg #[]) := ⟨Try.zeroValue79⟩
instance : ElT Try.prog 79 (.agg #[]) 0 0 := ⟨by kernel_rfl⟩
instance : AggT Try.prog 80 0 := ⟨Try.isAgg80, Try.sizeOf80⟩
instance : ZeroT Try.prog 80 (.agg #[]) := ⟨Try.zeroValue80⟩
instance : ElT Try.prog 80 (.agg #[]) 0 0 := ⟨by kernel_rfl⟩
instance : AggT Try.prog 81 0 := ⟨Try.isAgg81, Try.sizeOf81⟩
instance : ZeroT Try.prog 81 (.agg #[]) := ⟨Try.zeroValue81⟩
instance : ElT Try.prog 81 (.agg #[]) 0 0 := ⟨by kernel_rfl⟩
instance : IntT Try.prog 82 .u8 := ⟨Try.underlying82⟩
instance : PlainT Try.prog 82 := ⟨Try.isAgg82, Try.sizeOf82⟩
instance : ZeroT Try.prog 82 (.int .u8 0) := ⟨Try.zeroValue82⟩
instance : ElT Try.prog 82 (.int .u8 0) 1 1 := ⟨by kernel_rfl⟩
instance : IntT Try.prog 83 .u8 := ⟨Try.underlying83⟩
instance : PlainT Try.prog 83 := ⟨Try.isAgg83, Try.sizeOf83⟩
instance : ZeroT Try.prog 83 (.int .u8 0) := ⟨Try.zeroValue83⟩
instance : ElT Try.prog 83 (.int .u8 0) 1 1 := ⟨by kernel_rfl⟩
instance : PlainT Try.prog 84 := ⟨Try.isAgg84, Try.sizeOf84⟩
instance : ElT Try.prog 84 .nilFunc 1 8 := ⟨by kernel_rfl⟩
instance : PtrT Try.prog 85 5 := ⟨Try.underlying85⟩
instance : PlainT Try.prog 85 := ⟨Try.isAgg85, Try.sizeOf85⟩
instance : ZeroT Try.prog 85 (.pointer none) := ⟨Try.zeroValue85⟩
instance : ElT Try.prog 85 (.pointer none) 1 8 := ⟨by kernel_rfl⟩
instance : IntT Try.prog 86 .i32 := ⟨Try.underlying86⟩
instance : PlainT Try.prog 86 := ⟨Try.isAgg86, Try.sizeOf86⟩
instance : ZeroT Try.prog 86 (.int .i32 0) := ⟨Try.zeroValue86⟩
instance : ElT Try.prog 86 (.int .i32 0) 1 4 := ⟨by kernel_rfl⟩
instance : IntT Try.prog 87 .i32 := ⟨Try.underlying87⟩
instance : PlainT Try.prog 87 := ⟨Try.isAgg87, Try.sizeOf87⟩
instance : ZeroT Try.prog 87 (.int .i32 0) := ⟨Try.zeroValue87⟩
instance : ElT Try.prog 87 (.int .i32 0) 1 4 := ⟨by kernel_rfl⟩
instance : AggT Try.prog 88 11 := ⟨Try.isAgg88, Try.sizeOf88⟩
instance : FieldT Try.prog 88 0 0 := ⟨fun _ _ _ => by kernel_rfl⟩
instance : FieldT Try.prog 88 1 1 := ⟨fun _ _ _ => by kernel_rfl⟩
instance : FieldT Try.prog 88 2 2 := ⟨fun _ _ _ => by kernel_rfl⟩
instance : FieldT Try.prog 88 3 3 := ⟨fun _ _ _ => by kernel_rfl⟩
instance : FieldT Try.prog 88 4 4 := ⟨fun _ _ _ => by kernel_rfl⟩
instance : FieldT Try.prog 88 5 5 := ⟨fun _ _ _ => by kernel_rfl⟩
instance : FieldT Try.prog 88 6 6 := ⟨fun _ _ _ => by kernel_rfl⟩
instance : FieldT Try.prog 88 7 7 := ⟨fun _ _ _ => by kernel_rfl⟩
instance : FieldT Try.prog 88 8 8 := ⟨fun _ _ _ => by kernel_rfl⟩
instance : FieldT Try.prog 88 9 9 := ⟨fun _ _ _ => by kernel_rfl⟩
instance : FieldT Try.prog 88 10 10 := ⟨fun _ _ _ => by kernel_rfl⟩
instance : ZeroT Try.prog 88 (.agg #[(.int .u64 0), (.int .u64 0), (.int .u32 0), (.int .u8 0), (.int .u8 0), (.int .u8 0), (.int .u8 0), .nilFunc, (.pointer none), (.int .i32 0), (.int .i32 0)]) := ⟨Try.zeroValue88⟩
instance : ElT Try.prog 88 (.agg #[(.int .u64 0), (.int .u64 0), (.int .u32 0), (.int .u8 0), (.int .u8 0), (.int .u8 0), (.int .u8 0), .nilFunc, (.pointer none), (.int .i32 0), (.int .i32 0)]) 11 48 := ⟨by kernel_rfl⟩
instance : AggT Try.prog 89 11 := ⟨Try.isAgg89, Try.sizeOf89⟩
instance : FieldT Try.prog 89 0 0 := ⟨fun _ _ _ => by kernel_rfl⟩
instance : FieldT Try.prog 89 1 1 := ⟨fun _ _ _ => by kernel_rfl⟩
instance : FieldT Try.prog 89 2 2 := ⟨fun _ _ _ => by kernel_rfl⟩
instance : FieldT Try.prog 89 3 3 := ⟨fun _ _ _ => by kernel_rfl⟩
instance : FieldT Try.prog 89 4 4 := ⟨fun _ _ _ => by kernel_rfl⟩
instance : FieldT Try.prog 89 5 5 := ⟨fun _ _ _ => by kernel_rfl⟩
instance : FieldT Try.prog 89 6 6 := ⟨fun _ _ _ => by kernel_rfl⟩
instance : FieldT Try.prog 89 7 7 := ⟨fun _ _ _ => by kernel_rfl⟩
instance : FieldT Try.prog 89 8 8 := ⟨fun _ _ _ => by kernel_rfl⟩
instance : FieldT Try.prog 89 9 9 := ⟨fun _ _ _ => by kernel_rfl⟩
instance : FieldT Try.prog 89 10 10 := ⟨fun _ _ _ => by kernel_rfl⟩
instance : ZeroT Try.prog 89 (.agg #[(.int .u64 0), (.int .u64 0), (.int .u32 0), (.int .u8 0), (.int .u8 0), (.int .u8 0), (.int .u8 0), .nilFunc, (.pointer none), (.int .i32 0), (.int .i32 0)]) := ⟨Try.zeroValue89⟩
instance : ElT Try.prog 89 (.agg #[(.int .u64 0), (.int .u64 0), (.int .u32 0), (.int .u8 0), (.int .u8 0), (.int .u8 0), (.int .u8 0), .nilFunc, (.pointer none), (.int .i32 0), (.int .i32 0)]) 11 48 := ⟨by kernel_rfl⟩
instance : ZeroT Try.prog 90 (.pointer none) := ⟨Try.zeroValue90⟩
instance : ElT Try.prog 90 (.pointer none) 1 8 := ⟨by kernel_rfl⟩
instance : CallT Try.prog 3 3 := ⟨Try.call3⟩
instance : CallT Try.prog 4 4 := ⟨Try.call4⟩
instance : CallT Try.prog 5 5 := ⟨Try.call5⟩
instance : CallT Try.prog 6 6 := ⟨Try.call6⟩
instance : CallT Try.prog 7 7 := ⟨Try.call7⟩
instance : CallT Try.prog 8 8 := ⟨Try.call8⟩
instance : CallT Try.prog 9 9 := ⟨Try.call9⟩
instance : CallT Try.prog 10 10 := ⟨Try.call10⟩
instance : CallT Try.prog 11 11 := ⟨Try.call11⟩
instance : CallT Try.prog 12 12 := ⟨Try.call12⟩
instance : CallT Try.prog 13 13 := ⟨Try.call13⟩
instance : CallT Try.prog 14 14 := ⟨Try.call14⟩
instance : CallT Try.prog 15 15 := ⟨Try.call15⟩
instance : CallT Try.prog 16 16 := ⟨Try.call16⟩
instance : CallT Try.prog 17 17 := ⟨Try.call17⟩
instance : CallT Try.prog 18 18 := ⟨Try.call18⟩
instance : CallT Try.prog 19 19 := ⟨Try.call19⟩
instance : CallT Try.prog 20 20 := ⟨Try.call20⟩
instance : CallT Try.prog 21 21 := ⟨Try.call21⟩
instance : CallT Try.prog 22 22 := ⟨Try.call22⟩
instance : CallT Try.prog 23 23 := ⟨Try.call23⟩
instance : CallT Try.prog 24 24 := ⟨Try.call24⟩
instance : CallT Try.prog 25 25 := ⟨Try.call25⟩
instance : CallT Try.prog 26 26 := ⟨Try.call26⟩
instance : CallT Try.prog 27 27 := ⟨Try.call27⟩
instance : CallT Try.prog 28 28 := ⟨Try.call28⟩
instance : CallT Try.prog 29 29 := ⟨Try.call29⟩
instance : CallT Try.prog 30 30 := ⟨Try.call30⟩
instance : CallT Try.prog 31 31 := ⟨Try.call31⟩
instance : CallT Try.prog 32 32 := ⟨Try.call32⟩
instance : CallT Try.prog 33 33 := ⟨Try.call33⟩
instance : CallT Try.prog 34 34 := ⟨Try.call34⟩
instance : CallT Try.prog 35 35 := ⟨Try.call35⟩
instance : CallT Try.prog 36 36 := ⟨Try.call36⟩
instance : CallT Try.prog 37 37 := ⟨Try.call37⟩
instance : CallT Try.prog 38 38 := ⟨Try.call38⟩
instance : CallT Try.prog 39 39 := ⟨Try.call39⟩
instance : CallT Try.prog 40 40 := ⟨Try.call40⟩
instance : CallT Try.prog 41 41 := ⟨Try.call41⟩
instance : CallT Try.prog 42 42 := ⟨Try.call42⟩
instance : CallT Try.prog 43 43 := ⟨Try.call43⟩
instance : CallT Try.prog 44 44 := ⟨Try.call44⟩
instance : CallT Try.prog 45 45 := ⟨Try.call45⟩
instance : CallT Try.prog 46 46 := ⟨Try.call46⟩
instance : CallT Try.prog 47 47 := ⟨Try.call47⟩
instance : CallT Try.prog 48 48 := ⟨Try.call48⟩
theorem Try.mixed : Try.prog.follows .mixedOrders = true := by kernel_rfl
end Go.Proofs
