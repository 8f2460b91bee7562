/- Facts on the types and functions of this translation. -/
import Derived.Test.YtaghckfpnfkihaaArr
import Derived.Test.YtaghckfpnfkihaaProg
import Derived.KernelRfl
namespace Go.Proofs
set_option linter.unusedVariables false
set_option linter.unusedSimpArgs false
open Go.Bs
instance : PlainT Try.prog 1 := ⟨Try.isAgg1, Try.sizeOf1⟩
instance : ElT Try.prog 1 .nilFunc 1 8 := ⟨by kernel_rfl⟩
instance : IntT Try.prog 2 .i64 := ⟨Try.underlying2⟩
instance : PlainT Try.prog 2 := ⟨Try.isAgg2, Try.sizeOf2⟩
instance : ZeroT Try.prog 2 (.int .i64 0) := ⟨Try.zeroValue2⟩
instance : ElT Try.prog 2 (.int .i64 0) 1 8 := ⟨by kernel_rfl⟩
instance : IntT Try.prog 3 .i64 := ⟨Try.underlying3⟩
instance : PlainT Try.prog 3 := ⟨Try.isAgg3, Try.sizeOf3⟩
instance : ZeroT Try.prog 3 (.int .i64 0) := ⟨Try.zeroValue3⟩
instance : ElT Try.prog 3 (.int .i64 0) 1 8 := ⟨by kernel_rfl⟩
instance : BoolT Try.prog 4 := ⟨Try.underlying4⟩
instance : PlainT Try.prog 4 := ⟨Try.isAgg4, Try.sizeOf4⟩
instance : ZeroT Try.prog 4 (.bool false) := ⟨Try.zeroValue4⟩
instance : ElT Try.prog 4 (.bool false) 1 1 := ⟨by kernel_rfl⟩
instance : IntT Try.prog 5 .u8 := ⟨Try.underlying5⟩
instance : PlainT Try.prog 5 := ⟨Try.isAgg5, Try.sizeOf5⟩
instance : ZeroT Try.prog 5 (.int .u8 0) := ⟨Try.zeroValue5⟩
instance : ElT Try.prog 5 (.int .u8 0) 1 1 := ⟨by kernel_rfl⟩
instance : IntT Try.prog 6 .u8 := ⟨Try.underlying6⟩
instance : PlainT Try.prog 6 := ⟨Try.isAgg6, Try.sizeOf6⟩
instance : ZeroT Try.prog 6 (.int .u8 0) := ⟨Try.zeroValue6⟩
instance : ElT Try.prog 6 (.int .u8 0) 1 1 := ⟨by kernel_rfl⟩
instance : AggT Try.prog 7 4 := ⟨Try.isAgg7, Try.sizeOf7⟩
instance : FieldT Try.prog 7 0 0 := ⟨fun _ _ _ => by kernel_rfl⟩
instance : FieldT Try.prog 7 1 1 := ⟨fun _ _ _ => by kernel_rfl⟩
instance : FieldT Try.prog 7 2 2 := ⟨fun _ _ _ => by kernel_rfl⟩
instance : FieldT Try.prog 7 3 3 := ⟨fun _ _ _ => by kernel_rfl⟩
instance : ZeroT Try.prog 7 (.agg #[(.int .i64 0), (.int .i64 0), (.bool false), (.int .u8 0)]) := ⟨Try.zeroValue7⟩
instance : ElT Try.prog 7 (.agg #[(.int .i64 0), (.int .i64 0), (.bool false), (.int .u8 0)]) 4 24 := ⟨by kernel_rfl⟩
instance : AggT Try.prog 8 4 := ⟨Try.isAgg8, Try.sizeOf8⟩
instance : FieldT Try.prog 8 0 0 := ⟨fun _ _ _ => by kernel_rfl⟩
instance : FieldT Try.prog 8 1 1 := ⟨fun _ _ _ => by kernel_rfl⟩
instance : FieldT Try.prog 8 2 2 := ⟨fun _ _ _ => by kernel_rfl⟩
instance : FieldT Try.prog 8 3 3 := ⟨fun _ _ _ => by kernel_rfl⟩
instance : ZeroT Try.prog 8 (.agg #[(.int .i64 0), (.int .i64 0), (.bool false), (.int .u8 0)]) := ⟨Try.zeroValue8⟩
instance : ElT Try.prog 8 (.agg #[(.int .i64 0), (.int .i64 0), (.bool false), (.int .u8 0)]) 4 24 := ⟨by kernel_rfl⟩
instance : StrT Try.prog 9 := ⟨Try.underlying9⟩
instance : PlainT Try.prog 9 := ⟨Try.isAgg9, Try.sizeOf9⟩
instance : ZeroT Try.prog 9 (.string ByteArray.empty) := ⟨Try.zeroValue9⟩
instance : ElT Try.prog 9 (.string ByteArray.empty) 1 16 := ⟨by kernel_rfl⟩
instance : StrT Try.prog 10 := ⟨Try.underlying10⟩
instance : PlainT Try.prog 10 := ⟨Try.isAgg10, Try.sizeOf10⟩
instance : ZeroT Try.prog 10 (.string ByteArray.empty) := ⟨Try.zeroValue10⟩
instance : ElT Try.prog 10 (.string ByteArray.empty) 1 16 := ⟨by kernel_rfl⟩
instance : StrT Try.prog 11 := ⟨Try.underlying11⟩
instance : PlainT Try.prog 11 := ⟨Try.isAgg11, Try.sizeOf11⟩
instance : ZeroT Try.prog 11 (.string ByteArray.empty) := ⟨Try.zeroValue11⟩
instance : ElT Try.prog 11 (.string ByteArray.empty) 1 16 := ⟨by kernel_rfl⟩
instance : IntT Try.prog 12 .u64 := ⟨Try.underlying12⟩
instance : PlainT Try.prog 12 := ⟨Try.isAgg12, Try.sizeOf12⟩
instance : ZeroT Try.prog 12 (.int .u64 0) := ⟨Try.zeroValue12⟩
instance : ElT Try.prog 12 (.int .u64 0) 1 8 := ⟨by kernel_rfl⟩
instance : AggT Try.prog 13 2 := ⟨Try.isAgg13, Try.sizeOf13⟩
instance : FieldT Try.prog 13 0 0 := ⟨fun _ _ _ => by kernel_rfl⟩
instance : FieldT Try.prog 13 1 1 := ⟨fun _ _ _ => by kernel_rfl⟩
instance : ZeroT Try.prog 13 (.agg #[(.string ByteArray.empty), (.int .u64 0)]) := ⟨Try.zeroValue13⟩
instance : ElT Try.prog 13 (.agg #[(.string ByteArray.empty), (.int .u64 0)]) 2 24 := ⟨by kernel_rfl⟩
instance : AggT Try.prog 14 2 := ⟨Try.isAgg14, Try.sizeOf14⟩
instance : FieldT Try.prog 14 0 0 := ⟨fun _ _ _ => by kernel_rfl⟩
instance : FieldT Try.prog 14 1 1 := ⟨fun _ _ _ => by kernel_rfl⟩
instance : ZeroT Try.prog 14 (.agg #[(.string ByteArray.empty), (.int .u64 0)]) := ⟨Try.zeroValue14⟩
instance : ElT Try.prog 14 (.agg #[(.string ByteArray.empty), (.int .u64 0)]) 2 24 := ⟨by kernel_rfl⟩
instance : PtrT Try.prog 15 97 := ⟨Try.underlying15⟩
instance : PlainT Try.prog 15 := ⟨Try.isAgg15, Try.sizeOf15⟩
instance : ZeroT Try.prog 15 (.pointer none) := ⟨Try.zeroValue15⟩
instance : ElT Try.prog 15 (.pointer none) 1 8 := ⟨by kernel_rfl⟩
instance : PtrT Try.prog 16 100 := ⟨Try.underlying16⟩
instance : PlainT Try.prog 16 := ⟨Try.isAgg16, Try.sizeOf16⟩
instance : ZeroT Try.prog 16 (.pointer none) := ⟨Try.zeroValue16⟩
instance : ElT Try.prog 16 (.pointer none) 1 8 := ⟨by kernel_rfl⟩
instance : PtrT Try.prog 17 109 := ⟨Try.underlying17⟩
instance : PlainT Try.prog 17 := ⟨Try.isAgg17, Try.sizeOf17⟩
instance : ZeroT Try.prog 17 (.pointer none) := ⟨Try.zeroValue17⟩
instance : ElT Try.prog 17 (.pointer none) 1 8 := ⟨by kernel_rfl⟩
instance : AggT Try.prog 18 1 := ⟨Try.isAgg18, Try.sizeOf18⟩
instance : FieldT Try.prog 18 0 0 := ⟨fun _ _ _ => by kernel_rfl⟩
instance : ZeroT Try.prog 18 (.agg #[(.pointer none)]) := ⟨Try.zeroValue18⟩
instance : ElT Try.prog 18 (.agg #[(.pointer none)]) 1 8 := ⟨by kernel_rfl⟩
instance : AggT Try.prog 19 1 := ⟨Try.isAgg19, Try.sizeOf19⟩
instance : FieldT Try.prog 19 0 0 := ⟨fun _ _ _ => by kernel_rfl⟩
instance : ZeroT Try.prog 19 (.agg #[(.pointer none)]) := ⟨Try.zeroValue19⟩
instance : ElT Try.prog 19 (.agg #[(.pointer none)]) 1 8 := ⟨by kernel_rfl⟩
instance : PlainT Try.prog 20 := ⟨Try.isAgg20, Try.sizeOf20⟩
instance : ZeroT Try.prog 20 .nilIface := ⟨Try.zeroValue20⟩
instance : ElT Try.prog 20 .nilIface 1 16 := ⟨by kernel_rfl⟩
instance : IntT Try.prog 21 .i32 := ⟨Try.underlying21⟩
instance : PlainT Try.prog 21 := ⟨Try.isAgg21, Try.sizeOf21⟩
instance : ZeroT Try.prog 21 (.int .i32 0) := ⟨Try.zeroValue21⟩
instance : ElT Try.prog 21 (.int .i32 0) 1 4 := ⟨by kernel_rfl⟩
instance : SlT Try.prog 22 23 1 := ⟨Try.underlying22, Try.sizeOf23⟩
instance : PlainT Try.prog 22 := ⟨Try.isAgg22, Try.sizeOf22⟩
instance : ZeroT Try.prog 22 (.slice none 0 0) := ⟨Try.zeroValue22⟩
instance : ElT Try.prog 22 (.slice none 0 0) 1 24 := ⟨by kernel_rfl⟩
instance : SlT Try.prog 23 5 1 := ⟨Try.underlying23, Try.sizeOf5⟩
instance : PlainT Try.prog 23 := ⟨Try.isAgg23, Try.sizeOf23⟩
instance : ZeroT Try.prog 23 (.slice none 0 0) := ⟨Try.zeroValue23⟩
instance : ElT Try.prog 23 (.slice none 0 0) 1 24 := ⟨by kernel_rfl⟩
instance : PlainT Try.prog 24 := ⟨Try.isAgg24, Try.sizeOf24⟩
instance : ElT Try.prog 24 .nilFunc 1 8 := ⟨by kernel_rfl⟩
instance : PlainT Try.prog 25 := ⟨Try.isAgg25, Try.sizeOf25⟩
instance : ElT Try.prog 25 .nilFunc 1 8 := ⟨by kernel_rfl⟩
instance : AggT Try.prog 26 3 := ⟨Try.isAgg26, Try.sizeOf26⟩
instance : FieldT Try.prog 26 0 0 := ⟨fun _ _ _ => by kernel_rfl⟩
instance : FieldT Try.prog 26 1 1 := ⟨fun _ _ _ => by kernel_rfl⟩
instance : FieldT Try.prog 26 2 2 := ⟨fun _ _ _ => by kernel_rfl⟩
instance : BuildT Try.prog 26 #[(0, 1), (1, 1), (2, 1)] #[(.int .i64 0), (.int .i64 0), (.slice none 0 0)] := ⟨fun pv cells w h => by
  simp [Instr.build, Try.zeroValue26, Try.runUnderlying26, Value.cells, Try.sizeOf3, Try.sizeOf22]
  (try simp at h)
  (try simp only [show (ByteArray.empty : ByteArray) = ⟨#[]⟩ from rfl] at h)
  simp [h]⟩
instance : ZeroT Try.prog 26 (.agg #[(.int .i64 0), (.int .i64 0), (.slice none 0 0)]) := ⟨Try.zeroValue26⟩
instance : ElT Try.prog 26 (.agg #[(.int .i64 0), (.int .i64 0), (.slice none 0 0)]) 3 40 := ⟨by kernel_rfl⟩
instance : AggT Try.prog 27 3 := ⟨Try.isAgg27, Try.sizeOf27⟩
instance : FieldT Try.prog 27 0 0 := ⟨fun _ _ _ => by kernel_rfl⟩
instance : FieldT Try.prog 27 1 1 := ⟨fun _ _ _ => by kernel_rfl⟩
instance : FieldT Try.prog 27 2 2 := ⟨fun _ _ _ => by kernel_rfl⟩
instance : BuildT Try.prog 27 #[(0, 1), (1, 1), (2, 1)] #[(.int .i64 0), (.int .i64 0), (.slice none 0 0)] := ⟨fun pv cells w h => by
  simp [Instr.build, Try.zeroValue27, Try.runUnderlying27, Value.cells, Try.sizeOf3, Try.sizeOf22]
  (try simp at h)
  (try simp only [show (ByteArray.empty : ByteArray) = ⟨#[]⟩ from rfl] at h)
  simp [h]⟩
instance : ZeroT Try.prog 27 (.agg #[(.int .i64 0), (.int .i64 0), (.slice none 0 0)]) := ⟨Try.zeroValue27⟩
instance : ElT Try.prog 27 (.agg #[(.int .i64 0), (.int .i64 0), (.slice none 0 0)]) 3 40 := ⟨by kernel_rfl⟩
instance : PlainT Try.prog 28 := ⟨Try.isAgg28, Try.sizeOf28⟩
instance : ElT Try.prog 28 .nilFunc 1 8 := ⟨by kernel_rfl⟩
instance : PlainT Try.prog 29 := ⟨Try.isAgg29, Try.sizeOf29⟩
instance : ElT Try.prog 29 .nilFunc 1 8 := ⟨by kernel_rfl⟩
instance : PlainT Try.prog 30 := ⟨Try.isAgg30, Try.sizeOf30⟩
instance : ElT Try.prog 30 .nilFunc 1 8 := ⟨by kernel_rfl⟩
instance : PlainT Try.prog 31 := ⟨Try.isAgg31, Try.sizeOf31⟩
instance : ElT Try.prog 31 .nilFunc 1 8 := ⟨by kernel_rfl⟩
instance : PlainT Try.prog 32 := ⟨Try.isAgg32, Try.sizeOf32⟩
instance : ElT Try.prog 32 .nilFunc 1 8 := ⟨by kernel_rfl⟩
instance : PlainT Try.prog 33 := ⟨Try.isAgg33, Try.sizeOf33⟩
instance : ElT Try.prog 33 .nilFunc 1 8 := ⟨by kernel_rfl⟩
instance : PlainT Try.prog 34 := ⟨Try.isAgg34, Try.sizeOf34⟩
instance : ElT Try.prog 34 .nilFunc 1 8 := ⟨by kernel_rfl⟩
instance : IntT Try.prog 35 .i64 := ⟨Try.underlying35⟩
instance : PlainT Try.prog 35 := ⟨Try.isAgg35, Try.sizeOf35⟩
instance : ZeroT Try.prog 35 (.int .i64 0) := ⟨Try.zeroValue35⟩
instance : ElT Try.prog 35 (.int .i64 0) 1 8 := ⟨by kernel_rfl⟩
instance : PlainT Try.prog 37 := ⟨Try.isAgg37, Try.sizeOf37⟩
instance : ElT Try.prog 37 .nilFunc 1 8 := ⟨by kernel_rfl⟩
instance : PlainT Try.prog 39 := ⟨Try.isAgg39, Try.sizeOf39⟩
instance : ElT Try.prog 39 .nilFunc 1 8 := ⟨by kernel_rfl⟩
instance : PlainT Try.prog 40 := ⟨Try.isAgg40, Try.sizeOf40⟩
instance : ElT Try.prog 40 .nilFunc 1 8 := ⟨by kernel_rfl⟩
instance : PlainT Try.prog 41 := ⟨Try.isAgg41, Try.sizeOf41⟩
instance : ElT Try.prog 41 .nilFunc 1 8 := ⟨by kernel_rfl⟩
instance : AggT Try.prog 42 3 := ⟨Try.isAgg42, Try.sizeOf42⟩
instance : FieldT Try.prog 42 0 0 := ⟨fun _ _ _ => by kernel_rfl⟩
instance : FieldT Try.prog 42 1 1 := ⟨fun _ _ _ => by kernel_rfl⟩
instance : FieldT Try.prog 42 2 2 := ⟨fun _ _ _ => by kernel_rfl⟩
instance : BuildT Try.prog 42 #[(0, 1), (1, 1), (2, 1)] #[(.int .i64 0), (.int .i64 0), (.slice none 0 0)] := ⟨fun pv cells w h => by
  simp [Instr.build, Try.zeroValue42, Try.runUnderlying42, Value.cells, Try.sizeOf3, Try.sizeOf22]
  (try simp at h)
  (try simp only [show (ByteArray.empty : ByteArray) = ⟨#[]⟩ from rfl] at h)
  simp [h]⟩
instance : ZeroT Try.prog 42 (.agg #[(.int .i64 0), (.int .i64 0), (.slice none 0 0)]) := ⟨Try.zeroValue42⟩
instance : ElT Try.prog 42 (.agg #[(.int .i64 0), (.int .i64 0), (.slice none 0 0)]) 3 40 := ⟨by kernel_rfl⟩
instance : AggT Try.prog 43 3 := ⟨Try.isAgg43, Try.sizeOf43⟩
instance : FieldT Try.prog 43 0 0 := ⟨fun _ _ _ => by kernel_rfl⟩
instance : FieldT Try.prog 43 1 1 := ⟨fun _ _ _ => by kernel_rfl⟩
instance : FieldT Try.prog 43 2 2 := ⟨fun _ _ _ => by kernel_rfl⟩
instance : BuildT Try.prog 43 #[(0, 1), (1, 1), (2, 1)] #[(.int .i64 0), (.int .i64 0), (.slice none 0 0)] := ⟨fun pv cells w h => by
  simp [Instr.build, Try.zeroValue43, Try.runUnderlying43, Value.cells, Try.sizeOf3, Try.sizeOf22]
  (try simp at h)
  (try simp only [show (ByteArray.empty : ByteArray) = ⟨#[]⟩ from rfl] at h)
  simp [h]⟩
instance : ZeroT Try.prog 43 (.agg #[(.int .i64 0), (.int .i64 0), (.slice none 0 0)]) := ⟨Try.zeroValue43⟩
instance : ElT Try.prog 43 (.agg #[(.int .i64 0), (.int .i64 0), (.slice none 0 0)]) 3 40 := ⟨by kernel_rfl⟩
instance : PlainT Try.prog 44 := ⟨Try.isAgg44, Try.sizeOf44⟩
instance : ElT Try.prog 44 .nilFunc 1 8 := ⟨by kernel_rfl⟩
instance : PlainT Try.prog 45 := ⟨Try.isAgg45, Try.sizeOf45⟩
instance : ElT Try.prog 45 .nilFunc 1 8 := ⟨by kernel_rfl⟩
instance : PlainT Try.prog 46 := ⟨Try.isAgg46, Try.sizeOf46⟩
instance : ElT Try.prog 46 .nilFunc 1 8 := ⟨by kernel_rfl⟩
instance : PlainT Try.prog 47 := ⟨Try.isAgg47, Try.sizeOf47⟩
instance : ElT Try.prog 47 .nilFunc 1 8 := ⟨by kernel_rfl⟩
instance : PlainT Try.prog 48 := ⟨Try.isAgg48, Try.sizeOf48⟩
instance : ElT Try.prog 48 .nilFunc 1 8 := ⟨by kernel_rfl⟩
instance : SlT Try.prog 49 3 1 := ⟨Try.underlying49, Try.sizeOf3⟩
instance : PlainT Try.prog 49 := ⟨Try.isAgg49, Try.sizeOf49⟩
instance : ZeroT Try.prog 49 (.slice none 0 0) := ⟨Try.zeroValue49⟩
instance : ElT Try.prog 49 (.slice none 0 0) 1 24 := ⟨by kernel_rfl⟩
instance : PlainT Try.prog 51 := ⟨Try.isAgg51, Try.sizeOf51⟩
instance : ElT Try.prog 51 .nilFunc 1 8 := ⟨by kernel_rfl⟩
instance : PlainT Try.prog 52 := ⟨Try.isAgg52, Try.sizeOf52⟩
instance : ElT Try.prog 52 .nilFunc 1 8 := ⟨by kernel_rfl⟩
instance : PlainT Try.prog 54 := ⟨Try.isAgg54, Try.sizeOf54⟩
instance : ElT Try.prog 54 .nilFunc 1 8 := ⟨by kernel_rfl⟩
instance : PlainT Try.prog 55 := ⟨Try.isAgg55, Try.sizeOf55⟩
instance : ElT Try.prog 55 .nilFunc 1 8 := ⟨by kernel_rfl⟩
instance : PlainT Try.prog 56 := ⟨Try.isAgg56, Try.sizeOf56⟩
instance : ElT Try.prog 56 .nilFunc 1 8 := ⟨by kernel_rfl⟩
instance : IntT Try.prog 57 .u64 := ⟨Try.underlying57⟩
instance : PlainT Try.prog 57 := ⟨Try.isAgg57, Try.sizeOf57⟩
instance : ZeroT Try.prog 57 (.int .u64 0) := ⟨Try.zeroValue57⟩
instance : ElT Try.prog 57 (.int .u64 0) 1 8 := ⟨by kernel_rfl⟩
instance : PlainT Try.prog 58 := ⟨Try.isAgg58, Try.sizeOf58⟩
instance : ElT Try.prog 58 .nilFunc 1 8 := ⟨by kernel_rfl⟩
instance : PlainT Try.prog 59 := ⟨Try.isAgg59, Try.sizeOf59⟩
instance : ElT Try.prog 59 .nilFunc 1 8 := ⟨by kernel_rfl⟩
instance : PlainT Try.prog 60 := ⟨Try.isAgg60, Try.sizeOf60⟩
instance : ElT Try.prog 60 .nilFunc 1 8 := ⟨by kernel_rfl⟩
instance : PlainT Try.prog 61 := ⟨Try.isAgg61, Try.sizeOf61⟩
instance : ElT Try.prog 61 .nilFunc 1 8 := ⟨by kernel_rfl⟩
instance : PlainT Try.prog 62 := ⟨Try.isAgg62, Try.sizeOf62⟩
instance : ElT Try.prog 62 .nilFunc 1 8 := ⟨by kernel_rfl⟩
instance : PlainT Try.prog 63 := ⟨Try.isAgg63, Try.sizeOf63⟩
instance : ElT Try.prog 63 .nilFunc 1 8 := ⟨by kernel_rfl⟩
instance : PlainT Try.prog 64 := ⟨Try.isAgg64, Try.sizeOf64⟩
instance : ElT Try.prog 64 .nilFunc 1 8 := ⟨by kernel_rfl⟩
instance : PlainT Try.prog 65 := ⟨Try.isAgg65, Try.sizeOf65⟩
instance : ElT Try.prog 65 .nilFunc 1 8 := ⟨by kernel_rfl⟩
instance : PlainT Try.prog 66 := ⟨Try.isAgg66, Try.sizeOf66⟩
instance : ElT Try.prog 66 .nilFunc 1 8 := ⟨by kernel_rfl⟩
instance : PlainT Try.prog 67 := ⟨Try.isAgg67, Try.sizeOf67⟩
instance : ElT Try.prog 67 .nilFunc 1 8 := ⟨by kernel_rfl⟩
instance : PlainT Try.prog 68 := ⟨Try.isAgg68, Try.sizeOf68⟩
instance : ElT Try.prog 68 .nilFunc 1 8 := ⟨by kernel_rfl⟩
instance : PlainT Try.prog 69 := ⟨Try.isAgg69, Try.sizeOf69⟩
instance : ElT Try.prog 69 .nilFunc 1 8 := ⟨by kernel_rfl⟩
instance : PlainT Try.prog 70 := ⟨Try.isAgg70, Try.sizeOf70⟩
instance : ElT Try.prog 70 .nilFunc 1 8 := ⟨by kernel_rfl⟩
instance : IntT Try.prog 71 .u32 := ⟨Try.underlying71⟩
instance : PlainT Try.prog 71 := ⟨Try.isAgg71, Try.sizeOf71⟩
instance : ZeroT Try.prog 71 (.int .u32 0) := ⟨Try.zeroValue71⟩
instance : ElT Try.prog 71 (.int .u32 0) 1 4 := ⟨by kernel_rfl⟩
instance : ArrT Try.prog 72 8 71 1 := ⟨Try.underlying72, Try.sizeOf71⟩
instance : AggT Try.prog 72 8 := ⟨Try.isAgg72, Try.sizeOf72⟩
instance : ZeroT Try.prog 72 (.agg #[(.int .u32 0), (.int .u32 0), (.int .u32 0), (.int .u32 0), (.int .u32 0), (.int .u32 0), (.int .u32 0), (.int .u32 0)]) := ⟨Try.zeroValue72⟩
instance : ElT Try.prog 72 (.agg #[(.int .u32 0), (.int .u32 0), (.int .u32 0), (.int .u32 0), (.int .u32 0), (.int .u32 0), (.int .u32 0), (.int .u32 0)]) 8 32 := ⟨by kernel_rfl⟩
instance : ArrT Try.prog 73 64 71 1 := ⟨Try.underlying73, Try.sizeOf71⟩
instance : AggT Try.prog 73 64 := ⟨Try.isAgg73, Try.sizeOf73⟩
instance : ZeroT Try.prog 73 (.agg #[(.int .u32 0), (.int .u32 0), (.int .u32 0), (.int .u32 0), (.int .u32 0), (.int .u32 0), (.int .u32 0), (.int .u32 0), (.int .u32 0), (.int .u32 0), (.int .u32 0), (.int .u32 0), (.int .u32 0), (.int .u32 0), (.int .u32 0), (.int .u32 0), (.int .u32 0), (.int .u32 0), (.int .u32 0), (.int .u32 0), (.int .u32 0), (.int .u32 0), (.int .u32 0), (.int .u32 0), (.int .u32 0), (.int .u32 0), (.int .u32 0), (.int .u32 0), (.int .u32 0), (.int .u32 0), (.int .u32 0), (.int .u32 0), (.int .u32 0), (.int .u32 0), (.int .u32 0), (.int .u32 0), (.int .u32 0), (.int .u32 0), (.int .u32 0), (.int .u32 0), (.int .u32 0), (.int .u32 0), (.int .u32 0), (.int .u32 0), (.int .u32 0), (.int .u32 0), (.int .u32 0), (.int .u32 0), (.int .u32 0), (.int .u32 0), (.int .u32 0), (.int .u32 0), (.int .u32 0), (.int .u32 0), (.int .u32 0), (.int .u32 0), (.int .u32 0), (.int .u32 0), (.int .u32 0), (.int .u32 0), (.int .u32 0), (.int .u32 0), (.int .u32 0), (.int .u32 0)]) := ⟨Try.zeroValue73⟩
instance : ElT Try.prog 73 (.agg #[(.int .u32 0), (.int .u32 0), (.int .u32 0), (.int .u32 0), (.int .u32 0), (.int .u32 0), (.int .u32 0), (.int .u32 0), (.int .u32 0), (.int .u32 0), (.int .u32 0), (.int .u32 0), (.int .u32 0), (.int .u32 0), (.int .u32 0), (.int .u32 0), (.int .u32 0), (.int .u32 0), (.int .u32 0), (.int .u32 0), (.int .u32 0), (.int .u32 0), (.int .u32 0), (.int .u32 0), (.int .u32 0), (.int .u32 0), (.int .u32 0), (.int .u32 0), (.int .u32 0), (.int .u32 0), (.int .u32 0), (.int .u32 0), (.int .u32 0), (.int .u32 0), (.int .u32 0), (.int .u32 0), (.int .u32 0), (.int .u32 0), (.int .u32 0), (.int .u32 0), (.int .u32 0), (.int .u32 0), (.int .u32 0), (.int .u32 0), (.int .u32 0), (.int .u32 0), (.int .u32 0), (.int .u32 0), (.int .u32 0), (.int .u32 0), (.int .u32 0), (.int .u32 0), (.int .u32 0), (.int .u32 0), (.int .u32 0), (.int .u32 0), (.int .u32 0), (.int .u32 0), (.int .u32 0), (.int .u32 0), (.int .u32 0), (.int .u32 0), (.int .u32 0), (.int .u32 0)]) 64 256 := ⟨by kernel_rfl⟩
instance : PlainT Try.prog 74 := ⟨Try.isAgg74, Try.sizeOf74⟩
instance : ElT Try.prog 74 .nilFunc 1 8 := ⟨by kernel_rfl⟩
instance : PlainT Try.prog 75 := ⟨Try.isAgg75, Try.sizeOf75⟩
instance : ElT Try.prog 75 .nilFunc 1 8 := ⟨by kernel_rfl⟩
instance : PtrT Try.prog 76 73 := ⟨Try.underlying76⟩
instance : PlainT Try.prog 76 := ⟨Try.isAgg76, Try.sizeOf76⟩
instance : ZeroT Try.prog 76 (.pointer none) := ⟨Try.zeroValue76⟩
instance : ElT Try.prog 76 (.pointer none) 1 8 := ⟨by kernel_rfl⟩
instance : IntT Try.prog 77 .u64 := ⟨Try.underlying77⟩
instance : PlainT Try.prog 77 := ⟨Try.isAgg77, Try.sizeOf77⟩
instance : ZeroT Try.prog 77 (.int .u64 0) := ⟨Try.zeroValue77⟩
instance : ElT Try.prog 77 (.int .u64 0) 1 8 := ⟨by kernel_rfl⟩
instance : PlainT Try.prog 78 := ⟨Try.isAgg78, Try.sizeOf78⟩
instance : ElT Try.prog 78 .nilFunc 1 8 := ⟨by kernel_rfl⟩
instance : PlainT Try.prog 80 := ⟨Try.isAgg80, Try.sizeOf80⟩
instance : ElT Try.prog 80 .nilFunc 1 8 := ⟨by kernel_rfl⟩
instance : PlainT Try.prog 81 := ⟨Try.isAgg81, Try.sizeOf81⟩
instance : ElT Try.prog 81 .nilFunc 1 8 := ⟨by kernel_rfl⟩
instance : PlainT Try.prog 83 := ⟨Try.isAgg83, Try.sizeOf83⟩
instance : ElT Try.prog 83 .nilFunc 1 8 := ⟨by kernel_rfl⟩
instance : PlainT Try.prog 84 := ⟨Try.isAgg84, Try.sizeOf84⟩
instance : ElT Try.prog 84 .nilFunc 1 8 := ⟨by kernel_rfl⟩
instance : PlainT Try.prog 85 := ⟨Try.isAgg85, Try.sizeOf85⟩
instance : ZeroT Try.prog 85 .nilFunc := ⟨Try.zeroValue85⟩
instance : ElT Try.prog 85 .nilFunc 1 8 := ⟨by kernel_rfl⟩
instance : PlainT Try.prog 86 := ⟨Try.isAgg86, Try.sizeOf86⟩
instance : ElT Try.prog 86 .nilFunc 1 8 := ⟨by kernel_rfl⟩
instance : PlainT Try.prog 87 := ⟨Try.isAgg87, Try.sizeOf87⟩
instance : ElT Try.prog 87 .nilFunc 1 8 := ⟨by kernel_rfl⟩
instance : PlainT Try.prog 88 := ⟨Try.isAgg88, Try.sizeOf88⟩
instance : ElT Try.prog 88 .nilFunc 1 8 := ⟨by kernel_rfl⟩
instance : PlainT Try.prog 89 := ⟨Try.isAgg89, Try.sizeOf89⟩
instance : ElT Try.prog 89 .nilFunc 1 8 := ⟨by kernel_rfl⟩
instance : PlainT Try.prog 90 := ⟨Try.isAgg90, Try.sizeOf90⟩
instance : ElT Try.prog 90 .nilFunc 1 8 := ⟨by kernel_rfl⟩
instance : PlainT Try.prog 91 := ⟨Try.isAgg91, Try.sizeOf91⟩
instance : ElT Try.prog 91 .nilFunc 1 8 := ⟨by kernel_rfl⟩
instance : PlainT Try.prog 92 := ⟨Try.isAgg92, Try.sizeOf92⟩
instance : ElT Try.prog 92 .nilFunc 1 8 := ⟨by kernel_rfl⟩
instance : PlainT Try.prog 93 := ⟨Try.isAgg93, Try.sizeOf93⟩
instance : ElT Try.prog 93 .nilFunc 1 8 := ⟨by kernel_rfl⟩
instance : PlainT Try.prog 94 := ⟨Try.isAgg94, Try.sizeOf94⟩
instance : ElT Try.prog 94 .nilFunc 1 8 := ⟨by kernel_rfl⟩
instance : PlainT Try.prog 95 := ⟨Try.isAgg95, Try.sizeOf95⟩
instance : ElT Try.prog 95 .nilFunc 1 8 := ⟨by kernel_rfl⟩
instance : AggT Try.prog 96 4 := ⟨Try.isAgg96, Try.sizeOf96⟩
instance : FieldT Try.prog 96 0 0 := ⟨fun _ _ _ => by kernel_rfl⟩
instance : FieldT Try.prog 96 1 1 := ⟨fun _ _ _ => by kernel_rfl⟩
instance : FieldT Try.prog 96 2 2 := ⟨fun _ _ _ => by kernel_rfl⟩
instance : FieldT Try.prog 96 3 3 := ⟨fun _ _ _ => by kernel_rfl⟩
instance : ZeroT Try.prog 96 (.agg #[(.pointer none), (.pointer none), (.pointer none), (.string ByteArray.empty)]) := ⟨Try.zeroValue96⟩
instance : ElT Try.prog 96 (.agg #[(.pointer none), (.pointer none), (.pointer none), (.string ByteArray.empty)]) 4 40 := ⟨by kernel_rfl⟩
instance : AggT Try.prog 97 4 := ⟨Try.isAgg97, Try.sizeOf97⟩
instance : FieldT Try.prog 97 0 0 := ⟨fun _ _ _ => by kernel_rfl⟩
instance : FieldT Try.prog 97 1 1 := ⟨fun _ _ _ => by kernel_rfl⟩
instance : FieldT Try.prog 97 2 2 := ⟨fun _ _ _ => by kernel_rfl⟩
instance : FieldT Try.prog 97 3 3 := ⟨fun _ _ _ => by kernel_rfl⟩
instance : ZeroT Try.prog 97 (.agg #[(.pointer none), (.pointer none), (.pointer none), (.string ByteArray.empty)]) := ⟨Try.zeroValue97⟩
instance : ElT Try.prog 97 (.agg #[(.pointer none), (.pointer none), (.pointer none), (.string ByteArray.empty)]) 4 40 := ⟨by kernel_rfl⟩
instance : AggT Try.prog 98 0 := ⟨Try.isAgg98, Try.sizeOf98⟩
instance : ZeroT Try.prog 98 (.agg #[]) := ⟨Try.zeroValue98⟩
instance : ElT Try.prog 98 (.agg #[]) 0 0 := ⟨by kernel_rfl⟩
instance : AggT Try.prog 99 0 := ⟨Try.isAgg99, Try.sizeOf99⟩
instance : ZeroT Try.prog 99 (.agg #[]) := ⟨Try.zeroValue99⟩
instance : ElT Try.prog 99 (.agg #[]) 0 0 := ⟨by kernel_rfl⟩
instance : AggT Try.prog 100 0 := ⟨Try.isAgg100, Try.sizeOf100⟩
instance : ZeroT Try.prog 100 (.agg #[]) := ⟨Try.zeroValue100⟩
instance : ElT Try.prog 100 (.agg #[]) 0 0 := ⟨by kernel_rfl⟩
instance : PlainT Try.prog 101 := ⟨Try.isAgg101, Try.sizeOf101⟩
instance : ElT Try.prog 101 .nilFunc 1 8 := ⟨by kernel_rfl⟩
instance : IntT Try.prog 102 .u8 := ⟨Try.underlying102⟩
instance : PlainT Try.prog 102 := ⟨Try.isAgg102, Try.sizeOf102⟩
instance : ZeroT Try.prog 102 (.int .u8 0) := ⟨Try.zeroValue102⟩
instance : ElT Try.prog 102 (.int .u8 0) 1 1 := ⟨by kernel_rfl⟩
instance : IntT Try.prog 103 .u8 := ⟨Try.underlying103⟩
instance : PlainT Try.prog 103 := ⟨Try.isAgg103, Try.sizeOf103⟩
instance : ZeroT Try.prog 103 (.int .u8 0) := ⟨Try.zeroValue103⟩
instance : ElT Try.prog 103 (.int .u8 0) 1 1 := ⟨by kernel_rfl⟩
instance : PlainT Try.prog 104 := ⟨Try.isAgg104, Try.sizeOf104⟩
instance : ElT Try.prog 104 .nilFunc 1 8 := ⟨by kernel_rfl⟩
instance : PtrT Try.prog 105 5 := ⟨Try.underlying105⟩
instance : PlainT Try.prog 105 := ⟨Try.isAgg105, Try.sizeOf105⟩
instance : ZeroT Try.prog 105 (.pointer none) := ⟨Try.zeroValue105⟩
instance : ElT Try.prog 105 (.pointer none) 1 8 := ⟨by kernel_rfl⟩
instance : IntT Try.prog 106 .i32 := ⟨Try.underlying106⟩
instance : PlainT Try.prog 106 := ⟨Try.isAgg106, Try.sizeOf106⟩
instance : ZeroT Try.prog 106 (.int .i32 0) := ⟨Try.zeroValue106⟩
instance : ElT Try.prog 106 (.int .i32 0) 1 4 := ⟨by kernel_rfl⟩
instance : IntT Try.prog 107 .i32 := ⟨Try.underlying107⟩
instance : PlainT Try.prog 107 := ⟨Try.isAgg107, Try.sizeOf107⟩
instance : ZeroT Try.prog 107 (.int .i32 0) := ⟨Try.zeroValue107⟩
instance : ElT Try.prog 107 (.int .i32 0) 1 4 := ⟨by kernel_rfl⟩
instance : AggT Try.prog 108 11 := ⟨Try.isAgg108, Try.sizeOf108⟩
instance : FieldT Try.prog 108 0 0 := ⟨fun _ _ _ => by kernel_rfl⟩
instance : FieldT Try.prog 108 1 1 := ⟨fun _ _ _ => by kernel_rfl⟩
instance : FieldT Try.prog 108 2 2 := ⟨fun _ _ _ => by kernel_rfl⟩
instance : FieldT Try.prog 108 3 3 := ⟨fun _ _ _ => by kernel_rfl⟩
instance : FieldT Try.prog 108 4 4 := ⟨fun _ _ _ => by kernel_rfl⟩
instance : FieldT Try.prog 108 5 5 := ⟨fun _ _ _ => by kernel_rfl⟩
instance : FieldT Try.prog 108 6 6 := ⟨fun _ _ _ => by kernel_rfl⟩
instance : FieldT Try.prog 108 7 7 := ⟨fun _ _ _ => by kernel_rfl⟩
instance : FieldT Try.prog 108 8 8 := ⟨fun _ _ _ => by kernel_rfl⟩
instance : FieldT Try.prog 108 9 9 := ⟨fun _ _ _ => by kernel_rfl⟩
instance : FieldT Try.prog 108 10 10 := ⟨fun _ _ _ => by kernel_rfl⟩
instance : ZeroT Try.prog 108 (.agg #[(.int .u64 0), (.int .u64 0), (.int .u32 0), (.int .u8 0), (.int .u8 0), (.int .u8 0), (.int .u8 0), .nilFunc, (.pointer none), (.int .i32 0), (.int .i32 0)]) := ⟨Try.zeroValue108⟩
instance : ElT Try.prog 108 (.agg #[(.int .u64 0), (.int .u64 0), (.int .u32 0), (.int .u8 0), (.int .u8 0), (.int .u8 0), (.int .u8 0), .nilFunc, (.pointer none), (.int .i32 0), (.int .i32 0)]) 11 48 := ⟨by kernel_rfl⟩
instance : AggT Try.prog 109 11 := ⟨Try.isAgg109, Try.sizeOf109⟩
instance : FieldT Try.prog 109 0 0 := ⟨fun _ _ _ => by kernel_rfl⟩
instance : FieldT Try.prog 109 1 1 := ⟨fun _ _ _ => by kernel_rfl⟩
instance : FieldT Try.prog 109 2 2 := ⟨fun _ _ _ => by kernel_rfl⟩
instance : FieldT Try.prog 109 3 3 := ⟨fun _ _ _ => by kernel_rfl⟩
instance : FieldT Try.prog 109 4 4 := ⟨fun _ _ _ => by kernel_rfl⟩
instance : FieldT Try.prog 109 5 5 := ⟨fun _ _ _ => by kernel_rfl⟩
instance : FieldT Try.prog 109 6 6 := ⟨fun _ _ _ => by kernel_rfl⟩
instance : FieldT Try.prog 109 7 7 := ⟨fun _ _ _ => by kernel_rfl⟩
instance : FieldT Try.prog 109 8 8 := ⟨fun _ _ _ => by kernel_rfl⟩
instance : FieldT Try.prog 109 9 9 := ⟨fun _ _ _ => by kernel_rfl⟩
instance : FieldT Try.prog 109 10 10 := ⟨fun _ _ _ => by kernel_rfl⟩
instance : ZeroT Try.prog 109 (.agg #[(.int .u64 0), (.int .u64 0), (.int .u32 0), (.int .u8 0), (.int .u8 0), (.int .u8 0), (.int .u8 0), .nilFunc, (.pointer none), (.int .i32 0), (.int .i32 0)]) := ⟨Try.zeroValue109⟩
instance : ElT Try.prog 109 (.agg #[(.int .u64 0), (.int .u64 0), (.int .u32 0), (.int .u8 0), (.int .u8 0), (.int .u8 0), (.int .u8 0), .nilFunc, (.pointer none), (.int .i32 0), (.int .i32 0)]) 11 48 := ⟨by kernel_rfl⟩
instance : ZeroT Try.prog 110 (.pointer none) := ⟨Try.zeroValue110⟩
instance : ElT Try.prog 110 (.pointer none) 1 8 := ⟨by kernel_rfl⟩
instance : CallT Try.prog 3 3 := ⟨Try.call3⟩
instance : CallT Try.prog 4 4 := ⟨Try.call4⟩
instance : CallT Try.prog 5 5 := ⟨Try.call5⟩
instance : CallT Try.prog 6 6 := ⟨Try.call6⟩
instance : CallT Try.prog 7 7 := ⟨Try.call7⟩
instance : CallT Try.prog 8 8 := ⟨Try.call8⟩
instance : CallT Try.prog 9 9 := ⟨Try.call9⟩
instance : CallT Try.prog 10 10 := ⟨Try.call10⟩
instance : CallT Try.prog 11 11 := ⟨Try.call11⟩
instance : CallT Try.prog 12 12 := ⟨Try.call12⟩
instance : CallT Try.prog 13 13 := ⟨Try.call13⟩
instance : CallT Try.prog 14 14 := ⟨Try.call14⟩
instance : CallT Try.prog 15 15 := ⟨Try.call15⟩
instance : CallT Try.prog 16 16 := ⟨Try.call16⟩
instance : CallT Try.prog 17 17 := ⟨Try.call17⟩
instance : CallT Try.prog 18 18 := ⟨Try.call18⟩
instance : CallT Try.prog 19 19 := ⟨Try.call19⟩
instance : CallT Try.prog 20 20 := ⟨Try.call20⟩
instance : CallT Try.prog 21 21 := ⟨Try.call21⟩
instance : CallT Try.prog 22 22 := ⟨Try.call22⟩
instance : CallT Try.prog 23 23 := ⟨Try.call23⟩
instance : CallT Try.prog 24 24 := ⟨Try.call24⟩
instance : CallT Try.prog 25 25 := ⟨Try.call25⟩
instance : CallT Try.prog 26 26 := ⟨Try.call26⟩
instance : CallT Try.prog 27 27 := ⟨Try.call27⟩
instance : CallT Try.prog 28 28 := ⟨Try.call28⟩
instance : CallT Try.prog 29 29 := ⟨Try.call29⟩
instance : CallT Try.prog 30 30 := ⟨Try.call30⟩
instance : CallT Try.prog 31 31 := ⟨Try.call31⟩
instance : CallT Try.prog 32 32 := ⟨Try.call32⟩
instance : CallT Try.prog 33 33 := ⟨Try.call33⟩
instance : CallT Try.prog 34 34 := ⟨Try.call34⟩
instance : CallT Try.prog 35 35 := ⟨Try.call35⟩
instance : CallT Try.prog 36 36 := ⟨Try.call36⟩
instance : CallT Try.prog 37 37 := ⟨Try.call37⟩
instance : CallT Try.prog 38 38 := ⟨Try.call38⟩
instance : CallT Try.prog 39 39 := ⟨Try.call39⟩
instance : CallT Try.prog 40 40 := ⟨Try.call40⟩
instance : CallT Try.prog 41 41 := ⟨Try.call41⟩
instance : CallT Try.prog 42 42 := ⟨Try.call42⟩
instance : CallT Try.prog 43 43 := ⟨Try.call43⟩
instance : CallT Try.prog 44 44 := ⟨Try.call44⟩
instance : CallT Try.prog 45 45 := ⟨Try.call45⟩
instance : CallT Try.prog 46 46 := ⟨Try.call46⟩
instance : CallT Try.prog 47 47 := ⟨Try.call47⟩
instance : CallT Try.prog 48 48 := ⟨Try.call48⟩
instance : CallT Try.prog 49 49 := ⟨Try.call49⟩
instance : CallT Try.prog 50 50 := ⟨Try.call50⟩
instance : CallT Try.prog 51 51 := ⟨Try.call51⟩
instance : CallT Try.prog 52 52 := ⟨Try.call52⟩
instance : CallT Try.prog 53 53 := ⟨Try.call53⟩
instance : CallT Try.prog 54 54 := ⟨Try.call54⟩
instance : CallT Try.prog 55 55 := ⟨Try.call55⟩
instance : CallT Try.prog 56 56 := ⟨Try.call56⟩
instance : CallT Try.prog 57 57 := ⟨Try.call57⟩
instance : CallT Try.prog 58 58 := ⟨Try.call58⟩
instance : CallT Try.prog 59 59 := ⟨Try.call59⟩
instance : CallT Try.prog 60 60 := ⟨Try.call60⟩
instance : CallT Try.prog 61 61 := ⟨Try.call61⟩
instance : CallT Try.prog 62 62 := ⟨Try.call62⟩
instance : CallT Try.prog 63 63 := ⟨Try.call63⟩
instance : CallT Try.prog 64 64 := ⟨Try.call64⟩
instance : CallT Try.prog 65 65 := ⟨Try.call65⟩
instance : CallT Try.prog 66 66 := ⟨Try.call66⟩
instance : CallT Try.prog 67 67 := ⟨Try.call67⟩
instance : CallT Try.prog 68 68 := ⟨Try.call68⟩
instance : CallT Try.prog 69 69 := ⟨Try.call69⟩
instance : CallT Try.prog 70 70 := ⟨Try.call70⟩
instance : CallT Try.prog 71 71 := ⟨Try.call71⟩
instance : CallT Try.prog 72 72 := ⟨Try.call72⟩
instance : CallT Try.prog 73 73 := ⟨Try.call73⟩
instance : CallT Try.prog 74 74 := ⟨Try.call74⟩
instance : CallT Try.prog 75 75 := ⟨Try.call75⟩
instance : CallT Try.prog 76 76 := ⟨Try.call76⟩
instance : CallT Try.prog 77 77 := ⟨Try.call77⟩
instance : CallT Try.prog 78 78 := ⟨Try.call78⟩
theorem Try.mixed : Try.prog.follows .mixedOrders = true := by kernel_rfl
end Go.Proofs
