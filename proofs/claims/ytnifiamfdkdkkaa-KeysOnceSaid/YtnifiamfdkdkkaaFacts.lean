/- Facts on the types and functions of this translation. -/
import Derived.Test.YtnifiamfdkdkkaaArr
import Derived.Test.YtnifiamfdkdkkaaProg
import Derived.KernelRfl
namespace Go.Proofs
set_option linter.unusedVariables false
set_option linter.unusedSimpArgs false
open Go.Bs
instance : PlainT Try.prog 1 := ⟨Try.isAgg1, Try.sizeOf1⟩
instance : ElT Try.prog 1 .nilFunc 1 8 := ⟨by kernel_rfl⟩
instance : IntT Try.prog 2 .i64 := ⟨Try.underlying2⟩
instance : PlainT Try.prog 2 := ⟨Try.isAgg2, Try.sizeOf2⟩
instance : ZeroT Try.prog 2 (.int .i64 0) := ⟨Try.zeroValue2⟩
instance : ElT Try.prog 2 (.int .i64 0) 1 8 := ⟨by kernel_rfl⟩
instance : IntT Try.prog 3 .i64 := ⟨Try.underlying3⟩
instance : PlainT Try.prog 3 := ⟨Try.isAgg3, Try.sizeOf3⟩
instance : ZeroT Try.prog 3 (.int .i64 0) := ⟨Try.zeroValue3⟩
instance : ElT Try.prog 3 (.int .i64 0) 1 8 := ⟨by kernel_rfl⟩
instance : BoolT Try.prog 4 := ⟨Try.underlying4⟩
instance : PlainT Try.prog 4 := ⟨Try.isAgg4, Try.sizeOf4⟩
instance : ZeroT Try.prog 4 (.bool false) := ⟨Try.zeroValue4⟩
instance : ElT Try.prog 4 (.bool false) 1 1 := ⟨by kernel_rfl⟩
instance : IntT Try.prog 5 .u8 := ⟨Try.underlying5⟩
instance : PlainT Try.prog 5 := ⟨Try.isAgg5, Try.sizeOf5⟩
instance : ZeroT Try.prog 5 (.int .u8 0) := ⟨Try.zeroValue5⟩
instance : ElT Try.prog 5 (.int .u8 0) 1 1 := ⟨by kernel_rfl⟩
instance : IntT Try.prog 6 .u8 := ⟨Try.underlying6⟩
instance : PlainT Try.prog 6 := ⟨Try.isAgg6, Try.sizeOf6⟩
instance : ZeroT Try.prog 6 (.int .u8 0) := ⟨Try.zeroValue6⟩
instance : ElT Try.prog 6 (.int .u8 0) 1 1 := ⟨by kernel_rfl⟩
instance : AggT Try.prog 7 4 := ⟨Try.isAgg7, Try.sizeOf7⟩
instance : FieldT Try.prog 7 0 0 := ⟨fun _ _ _ => by kernel_rfl⟩
instance : FieldT Try.prog 7 1 1 := ⟨fun _ _ _ => by kernel_rfl⟩
instance : FieldT Try.prog 7 2 2 := ⟨fun _ _ _ => by kernel_rfl⟩
instance : FieldT Try.prog 7 3 3 := ⟨fun _ _ _ => by kernel_rfl⟩
instance : ZeroT Try.prog 7 (.agg #[(.int .i64 0), (.int .i64 0), (.bool false), (.int .u8 0)]) := ⟨Try.zeroValue7⟩
instance : ElT Try.prog 7 (.agg #[(.int .i64 0), (.int .i64 0), (.bool false), (.int .u8 0)]) 4 24 := ⟨by kernel_rfl⟩
instance : AggT Try.prog 8 4 := ⟨Try.isAgg8, Try.sizeOf8⟩
instance : FieldT Try.prog 8 0 0 := ⟨fun _ _ _ => by kernel_rfl⟩
instance : FieldT Try.prog 8 1 1 := ⟨fun _ _ _ => by kernel_rfl⟩
instance : FieldT Try.prog 8 2 2 := ⟨fun _ _ _ => by kernel_rfl⟩
instance : FieldT Try.prog 8 3 3 := ⟨fun _ _ _ => by kernel_rfl⟩
instance : ZeroT Try.prog 8 (.agg #[(.int .i64 0), (.int .i64 0), (.bool false), (.int .u8 0)]) := ⟨Try.zeroValue8⟩
instance : ElT Try.prog 8 (.agg #[(.int .i64 0), (.int .i64 0), (.bool false), (.int .u8 0)]) 4 24 := ⟨by kernel_rfl⟩
instance : StrT Try.prog 9 := ⟨Try.underlying9⟩
instance : PlainT Try.prog 9 := ⟨Try.isAgg9, Try.sizeOf9⟩
instance : ZeroT Try.prog 9 (.string ByteArray.empty) := ⟨Try.zeroValue9⟩
instance : ElT Try.prog 9 (.string ByteArray.empty) 1 16 := ⟨by kernel_rfl⟩
instance : StrT Try.prog 10 := ⟨Try.underlying10⟩
instance : PlainT Try.prog 10 := ⟨Try.isAgg10, Try.sizeOf10⟩
instance : ZeroT Try.prog 10 (.string ByteArray.empty) := ⟨Try.zeroValue10⟩
instance : ElT Try.prog 10 (.string ByteArray.empty) 1 16 := ⟨by kernel_rfl⟩
instance : StrT Try.prog 11 := ⟨Try.underlying11⟩
instance : PlainT Try.prog 11 := ⟨Try.isAgg11, Try.sizeOf11⟩
instance : ZeroT Try.prog 11 (.string ByteArray.empty) := ⟨Try.zeroValue11⟩
instance : ElT Try.prog 11 (.string ByteArray.empty) 1 16 := ⟨by kernel_rfl⟩
instance : IntT Try.prog 12 .u64 := ⟨Try.underlying12⟩
instance : PlainT Try.prog 12 := ⟨Try.isAgg12, Try.sizeOf12⟩
instance : ZeroT Try.prog 12 (.int .u64 0) := ⟨Try.zeroValue12⟩
instance : ElT Try.prog 12 (.int .u64 0) 1 8 := ⟨by kernel_rfl⟩
instance : AggT Try.prog 13 2 := ⟨Try.isAgg13, Try.sizeOf13⟩
instance : FieldT Try.prog 13 0 0 := ⟨fun _ _ _ => by kernel_rfl⟩
instance : FieldT Try.prog 13 1 1 := ⟨fun _ _ _ => by kernel_rfl⟩
instance : ZeroT Try.prog 13 (.agg #[(.string ByteArray.empty), (.int .u64 0)]) := ⟨Try.zeroValue13⟩
instance : ElT Try.prog 13 (.agg #[(.string ByteArray.empty), (.int .u64 0)]) 2 24 := ⟨by kernel_rfl⟩
instance : AggT Try.prog 14 2 := ⟨Try.isAgg14, Try.sizeOf14⟩
instance : FieldT Try.prog 14 0 0 := ⟨fun _ _ _ => by kernel_rfl⟩
instance : FieldT Try.prog 14 1 1 := ⟨fun _ _ _ => by kernel_rfl⟩
instance : ZeroT Try.prog 14 (.agg #[(.string ByteArray.empty), (.int .u64 0)]) := ⟨Try.zeroValue14⟩
instance : ElT Try.prog 14 (.agg #[(.string ByteArray.empty), (.int .u64 0)]) 2 24 := ⟨by kernel_rfl⟩
instance : PtrT Try.prog 15 86 := ⟨Try.underlying15⟩
instance : PlainT Try.prog 15 := ⟨Try.isAgg15, Try.sizeOf15⟩
instance : ZeroT Try.prog 15 (.pointer none) := ⟨Try.zeroValue15⟩
instance : ElT Try.prog 15 (.pointer none) 1 8 := ⟨by kernel_rfl⟩
instance : PtrT Try.prog 16 89 := ⟨Try.underlying16⟩
instance : PlainT Try.prog 16 := ⟨Try.isAgg16, Try.sizeOf16⟩
instance : ZeroT Try.prog 16 (.pointer none) := ⟨Try.zeroValue16⟩
instance : ElT Try.prog 16 (.pointer none) 1 8 := ⟨by kernel_rfl⟩
instance : PtrT Try.prog 17 97 := ⟨Try.underlying17⟩
instance : PlainT Try.prog 17 := ⟨Try.isAgg17, Try.sizeOf17⟩
instance : ZeroT Try.prog 17 (.pointer none) := ⟨Try.zeroValue17⟩
instance : ElT Try.prog 17 (.pointer none) 1 8 := ⟨by kernel_rfl⟩
instance : AggT Try.prog 18 1 := ⟨Try.isAgg18, Try.sizeOf18⟩
instance : FieldT Try.prog 18 0 0 := ⟨fun _ _ _ => by kernel_rfl⟩
instance : ZeroT Try.prog 18 (.agg #[(.pointer none)]) := ⟨Try.zeroValue18⟩
instance : ElT Try.prog 18 (.agg #[(.pointer none)]) 1 8 := ⟨by kernel_rfl⟩
instance : AggT Try.prog 19 1 := ⟨Try.isAgg19, Try.sizeOf19⟩
instance : FieldT Try.prog 19 0 0 := ⟨fun _ _ _ => by kernel_rfl⟩
instance : ZeroT Try.prog 19 (.agg #[(.pointer none)]) := ⟨Try.zeroValue19⟩
instance : ElT Try.prog 19 (.agg #[(.pointer none)]) 1 8 := ⟨by kernel_rfl⟩
instance : PlainT Try.prog 20 := ⟨Try.isAgg20, Try.sizeOf20⟩
instance : ZeroT Try.prog 20 .nilIface := ⟨Try.zeroValue20⟩
instance : ElT Try.prog 20 .nilIface 1 16 := ⟨by kernel_rfl⟩
instance : IntT Try.prog 21 .i32 := ⟨Try.underlying21⟩
instance : PlainT Try.prog 21 := ⟨Try.isAgg21, Try.sizeOf21⟩
instance : ZeroT Try.prog 21 (.int .i32 0) := ⟨Try.zeroValue21⟩
instance : ElT Try.prog 21 (.int .i32 0) 1 4 := ⟨by kernel_rfl⟩
instance : PtrT Try.prog 22 56 := ⟨Try.underlying22⟩
instance : PlainT Try.prog 22 := ⟨Try.isAgg22, Try.sizeOf22⟩
instance : ZeroT Try.prog 22 (.pointer none) := ⟨Try.zeroValue22⟩
instance : ElT Try.prog 22 (.pointer none) 1 8 := ⟨by kernel_rfl⟩
instance : PlainT Try.prog 23 := ⟨Try.isAgg23, Try.sizeOf23⟩
instance : ElT Try.prog 23 .nilFunc 1 8 := ⟨by kernel_rfl⟩
instance : SlT Try.prog 24 5 1 := ⟨Try.underlying24, Try.sizeOf5⟩
instance : PlainT Try.prog 24 := ⟨Try.isAgg24, Try.sizeOf24⟩
instance : ZeroT Try.prog 24 (.slice none 0 0) := ⟨Try.zeroValue24⟩
instance : ElT Try.prog 24 (.slice none 0 0) 1 24 := ⟨by kernel_rfl⟩
instance : PlainT Try.prog 25 := ⟨Try.isAgg25, Try.sizeOf25⟩
instance : ElT Try.prog 25 .nilFunc 1 8 := ⟨by kernel_rfl⟩
instance : PtrT Try.prog 26 54 := ⟨Try.underlying26⟩
instance : PlainT Try.prog 26 := ⟨Try.isAgg26, Try.sizeOf26⟩
instance : ZeroT Try.prog 26 (.pointer none) := ⟨Try.zeroValue26⟩
instance : ElT Try.prog 26 (.pointer none) 1 8 := ⟨by kernel_rfl⟩
instance : IntT Try.prog 27 .i64 := ⟨Try.underlying27⟩
instance : PlainT Try.prog 27 := ⟨Try.isAgg27, Try.sizeOf27⟩
instance : ZeroT Try.prog 27 (.int .i64 0) := ⟨Try.zeroValue27⟩
instance : ElT Try.prog 27 (.int .i64 0) 1 8 := ⟨by kernel_rfl⟩
instance : PlainT Try.prog 29 := ⟨Try.isAgg29, Try.sizeOf29⟩
instance : ElT Try.prog 29 .nilFunc 1 8 := ⟨by kernel_rfl⟩
instance : PlainT Try.prog 30 := ⟨Try.isAgg30, Try.sizeOf30⟩
instance : ElT Try.prog 30 .nilFunc 1 8 := ⟨by kernel_rfl⟩
instance : PlainT Try.prog 32 := ⟨Try.isAgg32, Try.sizeOf32⟩
instance : ElT Try.prog 32 .nilFunc 1 8 := ⟨by kernel_rfl⟩
instance : PlainT Try.prog 33 := ⟨Try.isAgg33, Try.sizeOf33⟩
instance : ElT Try.prog 33 .nilFunc 1 8 := ⟨by kernel_rfl⟩
instance : SlT Try.prog 34 24 1 := ⟨Try.underlying34, Try.sizeOf24⟩
instance : PlainT Try.prog 34 := ⟨Try.isAgg34, Try.sizeOf34⟩
instance : ZeroT Try.prog 34 (.slice none 0 0) := ⟨Try.zeroValue34⟩
instance : ElT Try.prog 34 (.slice none 0 0) 1 24 := ⟨by kernel_rfl⟩
instance : PlainT Try.prog 35 := ⟨Try.isAgg35, Try.sizeOf35⟩
instance : ElT Try.prog 35 .nilFunc 1 8 := ⟨by kernel_rfl⟩
instance : PlainT Try.prog 36 := ⟨Try.isAgg36, Try.sizeOf36⟩
instance : ElT Try.prog 36 .nilFunc 1 8 := ⟨by kernel_rfl⟩
instance : PlainT Try.prog 37 := ⟨Try.isAgg37, Try.sizeOf37⟩
instance : ElT Try.prog 37 .nilFunc 1 8 := ⟨by kernel_rfl⟩
instance : PlainT Try.prog 39 := ⟨Try.isAgg39, Try.sizeOf39⟩
instance : ElT Try.prog 39 .nilFunc 1 8 := ⟨by kernel_rfl⟩
instance : PlainT Try.prog 40 := ⟨Try.isAgg40, Try.sizeOf40⟩
instance : ElT Try.prog 40 .nilFunc 1 8 := ⟨by kernel_rfl⟩
instance : PlainT Try.prog 42 := ⟨Try.isAgg42, Try.sizeOf42⟩
instance : ElT Try.prog 42 .nilFunc 1 8 := ⟨by kernel_rfl⟩
instance : PlainT Try.prog 43 := ⟨Try.isAgg43, Try.sizeOf43⟩
instance : ElT Try.prog 43 .nilFunc 1 8 := ⟨by kernel_rfl⟩
instance : PlainT Try.prog 44 := ⟨Try.isAgg44, Try.sizeOf44⟩
instance : ElT Try.prog 44 .nilFunc 1 8 := ⟨by kernel_rfl⟩
instance : SlT Try.prog 45 3 1 := ⟨Try.underlying45, Try.sizeOf3⟩
instance : PlainT Try.prog 45 := ⟨Try.isAgg45, Try.sizeOf45⟩
instance : ZeroT Try.prog 45 (.slice none 0 0) := ⟨Try.zeroValue45⟩
instance : ElT Try.prog 45 (.slice none 0 0) 1 24 := ⟨by kernel_rfl⟩
instance : PlainT Try.prog 46 := ⟨Try.isAgg46, Try.sizeOf46⟩
instance : ElT Try.prog 46 .nilFunc 1 8 := ⟨by kernel_rfl⟩
instance : PlainT Try.prog 47 := ⟨Try.isAgg47, Try.sizeOf47⟩
instance : ElT Try.prog 47 .nilFunc 1 8 := ⟨by kernel_rfl⟩
instance : PlainT Try.prog 48 := ⟨Try.isAgg48, Try.sizeOf48⟩
instance : ElT Try.prog 48 .nilFunc 1 8 := ⟨by kernel_rfl⟩
instance : PlainT Try.prog 49 := ⟨Try.isAgg49, Try.sizeOf49⟩
instance : ElT Try.prog 49 .nilFunc 1 8 := ⟨by kernel_rfl⟩
instance : PtrT Try.prog 50 69 := ⟨Try.underlying50⟩
instance : PlainT Try.prog 50 := ⟨Try.isAgg50, Try.sizeOf50⟩
instance : ZeroT Try.prog 50 (.pointer none) := ⟨Try.zeroValue50⟩
instance : ElT Try.prog 50 (.pointer none) 1 8 := ⟨by kernel_rfl⟩
instance : PlainT Try.prog 52 := ⟨Try.isAgg52, Try.sizeOf52⟩
instance : ElT Try.prog 52 .nilFunc 1 8 := ⟨by kernel_rfl⟩
instance : AggT Try.prog 53 2 := ⟨Try.isAgg53, Try.sizeOf53⟩
instance : FieldT Try.prog 53 0 0 := ⟨fun _ _ _ => by kernel_rfl⟩
instance : FieldT Try.prog 53 1 1 := ⟨fun _ _ _ => by kernel_rfl⟩
instance : BuildT Try.prog 53 #[(0, 1), (1, 1)] #[(.pointer none), (.int .i64 0)] := ⟨fun pv cells w h => by
  simp [Instr.build, Try.zeroValue53, Try.runUnderlying53, Value.cells, Try.sizeOf3, Try.sizeOf50]
  (try simp at h)
  (try simp only [show (ByteArray.empty : ByteArray) = ⟨#[]⟩ from rfl] at h)
  simp [h]⟩
instance : ZeroT Try.prog 53 (.agg #[(.pointer none), (.int .i64 0)]) := ⟨Try.zeroValue53⟩
instance : ElT Try.prog 53 (.agg #[(.pointer none), (.int .i64 0)]) 2 16 := ⟨by kernel_rfl⟩
instance : AggT Try.prog 54 2 := ⟨Try.isAgg54, Try.sizeOf54⟩
instance : FieldT Try.prog 54 0 0 := ⟨fun _ _ _ => by kernel_rfl⟩
instance : FieldT Try.prog 54 1 1 := ⟨fun _ _ _ => by kernel_rfl⟩
instance : BuildT Try.prog 54 #[(0, 1), (1, 1)] #[(.pointer none), (.int .i64 0)] := ⟨fun pv cells w h => by
  simp [Instr.build, Try.zeroValue54, Try.runUnderlying54, Value.cells, Try.sizeOf3, Try.sizeOf50]
  (try simp at h)
  (try simp only [show (ByteArray.empty : ByteArray) = ⟨#[]⟩ from rfl] at h)
  simp [h]⟩
instance : ZeroT Try.prog 54 (.agg #[(.pointer none), (.int .i64 0)]) := ⟨Try.zeroValue54⟩
instance : ElT Try.prog 54 (.agg #[(.pointer none), (.int .i64 0)]) 2 16 := ⟨by kernel_rfl⟩
instance : AggT Try.prog 55 5 := ⟨Try.isAgg55, Try.sizeOf55⟩
instance : FieldT Try.prog 55 0 0 := ⟨fun _ _ _ => by kernel_rfl⟩
instance : FieldT Try.prog 55 1 1 := ⟨fun _ _ _ => by kernel_rfl⟩
instance : FieldT Try.prog 55 2 2 := ⟨fun _ _ _ => by kernel_rfl⟩
instance : FieldT Try.prog 55 3 3 := ⟨fun _ _ _ => by kernel_rfl⟩
instance : FieldT Try.prog 55 4 4 := ⟨fun _ _ _ => by kernel_rfl⟩
instance : BuildT Try.prog 55 #[(0, 1), (1, 1), (2, 1), (3, 1), (4, 1)] #[(.slice none 0 0), (.int .i64 0), (.int .i64 0), (.int .i64 0), (.bool false)] := ⟨fun pv cells w h => by
  simp [Instr.build, Try.zeroValue55, Try.runUnderlying55, Value.cells, Try.sizeOf3, Try.sizeOf4, Try.sizeOf24]
  (try simp at h)
  (try simp only [show (ByteArray.empty : ByteArray) = ⟨#[]⟩ from rfl] at h)
  simp [h]⟩
instance : ZeroT Try.prog 55 (.agg #[(.slice none 0 0), (.int .i64 0), (.int .i64 0), (.int .i64 0), (.bool false)]) := ⟨Try.zeroValue55⟩
instance : ElT Try.prog 55 (.agg #[(.slice none 0 0), (.int .i64 0), (.int .i64 0), (.int .i64 0), (.bool false)]) 5 56 := ⟨by kernel_rfl⟩
instance : AggT Try.prog 56 5 := ⟨Try.isAgg56, Try.sizeOf56⟩
instance : FieldT Try.prog 56 0 0 := ⟨fun _ _ _ => by kernel_rfl⟩
instance : FieldT Try.prog 56 1 1 := ⟨fun _ _ _ => by kernel_rfl⟩
instance : FieldT Try.prog 56 2 2 := ⟨fun _ _ _ => by kernel_rfl⟩
instance : FieldT Try.prog 56 3 3 := ⟨fun _ _ _ => by kernel_rfl⟩
instance : FieldT Try.prog 56 4 4 := ⟨fun _ _ _ => by kernel_rfl⟩
instance : BuildT Try.prog 56 #[(0, 1), (1, 1), (2, 1), (3, 1), (4, 1)] #[(.slice none 0 0), (.int .i64 0), (.int .i64 0), (.int .i64 0), (.bool false)] := ⟨fun pv cells w h => by
  simp [Instr.build, Try.zeroValue56, Try.runUnderlying56, Value.cells, Try.sizeOf3, Try.sizeOf4, Try.sizeOf24]
  (try simp at h)
  (try simp only [show (ByteArray.empty : ByteArray) = ⟨#[]⟩ from rfl] at h)
  simp [h]⟩
instance : ZeroT Try.prog 56 (.agg #[(.slice none 0 0), (.int .i64 0), (.int .i64 0), (.int .i64 0), (.bool false)]) := ⟨Try.zeroValue56⟩
instance : ElT Try.prog 56 (.agg #[(.slice none 0 0), (.int .i64 0), (.int .i64 0), (.int .i64 0), (.bool false)]) 5 56 := ⟨by kernel_rfl⟩
instance : IntT Try.prog 57 .u32 := ⟨Try.underlying57⟩
instance : PlainT Try.prog 57 := ⟨Try.isAgg57, Try.sizeOf57⟩
instance : ZeroT Try.prog 57 (.int .u32 0) := ⟨Try.zeroValue57⟩
instance : ElT Try.prog 57 (.int .u32 0) 1 4 := ⟨by kernel_rfl⟩
instance : PlainT Try.prog 58 := ⟨Try.isAgg58, Try.sizeOf58⟩
instance : ElT Try.prog 58 .nilFunc 1 8 := ⟨by kernel_rfl⟩
instance : PtrT Try.prog 59 61 := ⟨Try.underlying59⟩
instance : PlainT Try.prog 59 := ⟨Try.isAgg59, Try.sizeOf59⟩
instance : ZeroT Try.prog 59 (.pointer none) := ⟨Try.zeroValue59⟩
instance : ElT Try.prog 59 (.pointer none) 1 8 := ⟨by kernel_rfl⟩
instance : AggT Try.prog 60 3 := ⟨Try.isAgg60, Try.sizeOf60⟩
instance : FieldT Try.prog 60 0 0 := ⟨fun _ _ _ => by kernel_rfl⟩
instance : FieldT Try.prog 60 1 1 := ⟨fun _ _ _ => by kernel_rfl⟩
instance : FieldT Try.prog 60 2 2 := ⟨fun _ _ _ => by kernel_rfl⟩
instance : BuildT Try.prog 60 #[(0, 1), (1, 1), (2, 1)] #[(.slice none 0 0), (.int .i64 0), (.bool false)] := ⟨fun pv cells w h => by
  simp [Instr.build, Try.zeroValue60, Try.runUnderlying60, Value.cells, Try.sizeOf3, Try.sizeOf4, Try.sizeOf24]
  (try simp at h)
  (try simp only [show (ByteArray.empty : ByteArray) = ⟨#[]⟩ from rfl] at h)
  simp [h]⟩
instance : ZeroT Try.prog 60 (.agg #[(.slice none 0 0), (.int .i64 0), (.bool false)]) := ⟨Try.zeroValue60⟩
instance : ElT Try.prog 60 (.agg #[(.slice none 0 0), (.int .i64 0), (.bool false)]) 3 40 := ⟨by kernel_rfl⟩
instance : AggT Try.prog 61 3 := ⟨Try.isAgg61, Try.sizeOf61⟩
instance : FieldT Try.prog 61 0 0 := ⟨fun _ _ _ => by kernel_rfl⟩
instance : FieldT Try.prog 61 1 1 := ⟨fun _ _ _ => by kernel_rfl⟩
instance : FieldT Try.prog 61 2 2 := ⟨fun _ _ _ => by kernel_rfl⟩
instance : BuildT Try.prog 61 #[(0, 1), (1, 1), (2, 1)] #[(.slice none 0 0), (.int .i64 0), (.bool false)] := ⟨fun pv cells w h => by
  simp [Instr.build, Try.zeroValue61, Try.runUnderlying61, Value.cells, Try.sizeOf3, Try.sizeOf4, Try.sizeOf24]
  (try simp at h)
  (try simp only [show (ByteArray.empty : ByteArray) = ⟨#[]⟩ from rfl] at h)
  simp [h]⟩
instance : ZeroT Try.prog 61 (.agg #[(.slice none 0 0), (.int .i64 0), (.bool false)]) := ⟨Try.zeroValue61⟩
instance : ElT Try.prog 61 (.agg #[(.slice none 0 0), (.int .i64 0), (.bool false)]) 3 40 := ⟨by kernel_rfl⟩
instance : PlainT Try.prog 62 := ⟨Try.isAgg62, Try.sizeOf62⟩
instance : ElT Try.prog 62 .nilFunc 1 8 := ⟨by kernel_rfl⟩
instance : PtrT Try.prog 63 74 := ⟨Try.underlying63⟩
instance : PlainT Try.prog 63 := ⟨Try.isAgg63, Try.sizeOf63⟩
instance : ZeroT Try.prog 63 (.pointer none) := ⟨Try.zeroValue63⟩
instance : ElT Try.prog 63 (.pointer none) 1 8 := ⟨by kernel_rfl⟩
instance : PlainT Try.prog 64 := ⟨Try.isAgg64, Try.sizeOf64⟩
instance : ElT Try.prog 64 .nilFunc 1 8 := ⟨by kernel_rfl⟩
instance : PlainT Try.prog 66 := ⟨Try.isAgg66, Try.sizeOf66⟩
instance : ElT Try.prog 66 .nilFunc 1 8 := ⟨by kernel_rfl⟩
instance : PlainT Try.prog 67 := ⟨Try.isAgg67, Try.sizeOf67⟩
instance : ElT Try.prog 67 .nilFunc 1 8 := ⟨by kernel_rfl⟩
instance : AggT Try.prog 68 2 := ⟨Try.isAgg68, Try.sizeOf68⟩
instance : FieldT Try.prog 68 0 0 := ⟨fun _ _ _ => by kernel_rfl⟩
instance : FieldT Try.prog 68 1 1 := ⟨fun _ _ _ => by kernel_rfl⟩
instance : BuildT Try.prog 68 #[(0, 1), (1, 1)] #[(.pointer none), (.int .i64 0)] := ⟨fun pv cells w h => by
  simp [Instr.build, Try.zeroValue68, Try.runUnderlying68, Value.cells, Try.sizeOf3, Try.sizeOf22]
  (try simp at h)
  (try simp only [show (ByteArray.empty : ByteArray) = ⟨#[]⟩ from rfl] at h)
  simp [h]⟩
instance : ZeroT Try.prog 68 (.agg #[(.pointer none), (.int .i64 0)]) := ⟨Try.zeroValue68⟩
instance : ElT Try.prog 68 (.agg #[(.pointer none), (.int .i64 0)]) 2 16 := ⟨by kernel_rfl⟩
instance : AggT Try.prog 69 2 := ⟨Try.isAgg69, Try.sizeOf69⟩
instance : FieldT Try.prog 69 0 0 := ⟨fun _ _ _ => by kernel_rfl⟩
instance : FieldT Try.prog 69 1 1 := ⟨fun _ _ _ => by kernel_rfl⟩
instance : BuildT Try.prog 69 #[(0, 1), (1, 1)] #[(.pointer none), (.int .i64 0)] := ⟨fun pv cells w h => by
  simp [Instr.build, Try.zeroValue69, Try.runUnderlying69, Value.cells, Try.sizeOf3, Try.sizeOf22]
  (try simp at h)
  (try simp only [show (ByteArray.empty : ByteArray) = ⟨#[]⟩ from rfl] at h)
  simp [h]⟩
instance : ZeroT Try.prog 69 (.agg #[(.pointer none), (.int .i64 0)]) := ⟨Try.zeroValue69⟩
instance : ElT Try.prog 69 (.agg #[(.pointer none), (.int .i64 0)]) 2 16 := ⟨by kernel_rfl⟩
instance : PlainT Try.prog 70 := ⟨Try.isAgg70, Try.sizeOf70⟩
instance : ElT Try.prog 70 .nilFunc 1 8 := ⟨by kernel_rfl⟩
instance : PlainT Try.prog 71 := ⟨Try.isAgg71, Try.sizeOf71⟩
instance : ElT Try.prog 71 .nilFunc 1 8 := ⟨by kernel_rfl⟩
instance : IntT Try.prog 72 .u64 := ⟨Try.underlying72⟩
instance : PlainT Try.prog 72 := ⟨Try.isAgg72, Try.sizeOf72⟩
instance : ZeroT Try.prog 72 (.int .u64 0) := ⟨Try.zeroValue72⟩
instance : ElT Try.prog 72 (.int .u64 0) 1 8 := ⟨by kernel_rfl⟩
instance : AggT Try.prog 73 2 := ⟨Try.isAgg73, Try.sizeOf73⟩
instance : FieldT Try.prog 73 0 0 := ⟨fun _ _ _ => by kernel_rfl⟩
instance : FieldT Try.prog 73 1 1 := ⟨fun _ _ _ => by kernel_rfl⟩
instance : BuildT Try.prog 73 #[(0, 1), (1, 1)] #[(.slice none 0 0), (.bool false)] := ⟨fun pv cells w h => by
  simp [Instr.build, Try.zeroValue73, Try.runUnderlying73, Value.cells, Try.sizeOf4, Try.sizeOf24]
  (try simp at h)
  (try simp only [show (ByteArray.empty : ByteArray) = ⟨#[]⟩ from rfl] at h)
  simp [h]⟩
instance : ZeroT Try.prog 73 (.agg #[(.slice none 0 0), (.bool false)]) := ⟨Try.zeroValue73⟩
instance : ElT Try.prog 73 (.agg #[(.slice none 0 0), (.bool false)]) 2 32 := ⟨by kernel_rfl⟩
instance : AggT Try.prog 74 2 := ⟨Try.isAgg74, Try.sizeOf74⟩
instance : FieldT Try.prog 74 0 0 := ⟨fun _ _ _ => by kernel_rfl⟩
instance : FieldT Try.prog 74 1 1 := ⟨fun _ _ _ => by kernel_rfl⟩
instance : BuildT Try.prog 74 #[(0, 1), (1, 1)] #[(.slice none 0 0), (.bool false)] := ⟨fun pv cells w h => by
  simp [Instr.build, Try.zeroValue74, Try.runUnderlying74, Value.cells, Try.sizeOf4, Try.sizeOf24]
  (try simp at h)
  (try simp only [show (ByteArray.empty : ByteArray) = ⟨#[]⟩ from rfl] at h)
  simp [h]⟩
instance : ZeroT Try.prog 74 (.agg #[(.slice none 0 0), (.bool false)]) := ⟨Try.zeroValue74⟩
instance : ElT Try.prog 74 (.agg #[(.slice none 0 0), (.bool false)]) 2 32 := ⟨by kernel_rfl⟩
instance : PlainT Try.prog 75 := ⟨Try.isAgg75, Try.sizeOf75⟩
instance : ElT Try.prog 75 .nilFunc 1 8 := ⟨by kernel_rfl⟩
instance : SlT Try.prog 76 49 1 := ⟨Try.underlying76, Try.sizeOf49⟩
instance : PlainT Try.prog 76 := ⟨Try.isAgg76, Try.sizeOf76⟩
instance : ZeroT Try.prog 76 (.slice none 0 0) := ⟨Try.zeroValue76⟩
instance : ElT Try.prog 76 (.slice none 0 0) 1 24 := ⟨by kernel_rfl⟩
instance : PtrT Try.prog 77 82 := ⟨Try.underlying77⟩
instance : PlainT Try.prog 77 := ⟨Try.isAgg77, Try.sizeOf77⟩
instance : ZeroT Try.prog 77 (.pointer none) := ⟨Try.zeroValue77⟩
instance : ElT Try.prog 77 (.pointer none) 1 8 := ⟨by kernel_rfl⟩
instance : PlainT Try.prog 78 := ⟨Try.isAgg78, Try.sizeOf78⟩
instance : ElT Try.prog 78 .nilFunc 1 8 := ⟨by kernel_rfl⟩
instance : PlainT Try.prog 79 := ⟨Try.isAgg79, Try.sizeOf79⟩
instance : ElT Try.prog 79 .nilFunc 1 8 := ⟨by kernel_rfl⟩
instance : PlainT Try.prog 80 := ⟨Try.isAgg80, Try.sizeOf80⟩
instance : ElT Try.prog 80 .nilFunc 1 8 := ⟨by kernel_rfl⟩
instance : AggT Try.prog 81 1 := ⟨Try.isAgg81, Try.sizeOf81⟩
instance : FieldT Try.prog 81 0 0 := ⟨fun _ _ _ => by kernel_rfl⟩
instance : BuildT Try.prog 81 #[(0, 1)] #[(.slice none 0 0)] := ⟨fun pv cells w h => by
  simp [Instr.build, Try.zeroValue81, Try.runUnderlying81, Value.cells, Try.sizeOf24]
  (try simp at h)
  (try simp only [show (ByteArray.empty : ByteArray) = ⟨#[]⟩ from rfl] at h)
  simp [h]⟩
instance : ZeroT Try.prog 81 (.agg #[(.slice none 0 0)]) := ⟨Try.zeroValue81⟩
instance : ElT Try.prog 81 (.agg #[(.slice none 0 0)]) 1 24 := ⟨by kernel_rfl⟩
instance : AggT Try.prog 82 1 := ⟨Try.isAgg82, Try.sizeOf82⟩
instance : FieldT Try.prog 82 0 0 := ⟨fun _ _ _ => by kernel_rfl⟩
instance : BuildT Try.prog 82 #[(0, 1)] #[(.slice none 0 0)] := ⟨fun pv cells w h => by
  simp [Instr.build, Try.zeroValue82, Try.runUnderlying82, Value.cells, Try.sizeOf24]
  (try simp at h)
  (try simp only [show (ByteArray.empty : ByteArray) = ⟨#[]⟩ from rfl] at h)
  simp [h]⟩
instance : ZeroT Try.prog 82 (.agg #[(.slice none 0 0)]) := ⟨Try.zeroValue82⟩
instance : ElT Try.prog 82 (.agg #[(.slice none 0 0)]) 1 24 := ⟨by kernel_rfl⟩
instance : PlainT Try.prog 83 := ⟨Try.isAgg83, Try.sizeOf83⟩
instance : ElT Try.prog 83 .nilFunc 1 8 := ⟨by kernel_rfl⟩
instance : PlainT Try.prog 84 := ⟨Try.isAgg84, Try.sizeOf84⟩
instance : ElT Try.prog 84 .nilFunc 1 8 := ⟨by kernel_rfl⟩
instance : AggT Try.prog 85 4 := ⟨Try.isAgg85, Try.sizeOf85⟩
instance : FieldT Try.prog 85 0 0 := ⟨fun _ _ _ => by kernel_rfl⟩
instance : FieldT Try.prog 85 1 1 := ⟨fun _ _ _ => by kernel_rfl⟩
instance : FieldT Try.prog 85 2 2 := ⟨fun _ _ _ => by kernel_rfl⟩
instance : FieldT Try.prog 85 3 3 := ⟨fun _ _ _ => by kernel_rfl⟩
instance : ZeroT Try.prog 85 (.agg #[(.pointer none), (.pointer none), (.pointer none), (.string ByteArray.empty)]) := ⟨Try.zeroValue85⟩
instance : ElT Try.prog 85 (.agg #[(.pointer none), (.pointer none), (.pointer none), (.string ByteArray.empty)]) 4 40 := ⟨by kernel_rfl⟩
instance : AggT Try.prog 86 4 := ⟨Try.isAgg86, Try.sizeOf86⟩
instance : FieldT Try.prog 86 0 0 := ⟨fun _ _ _ => by kernel_rfl⟩
instance : FieldT Try.prog 86 1 1 := ⟨fun _ _ _ => by kernel_rfl⟩
instance : FieldT Try.prog 86 2 2 := ⟨fun _ _ _ => by kernel_rfl⟩
instance : FieldT Try.prog 86 3 3 := ⟨fun _ _ _ => by kernel_rfl⟩
instance : ZeroT Try.prog 86 (.agg #[(.pointer none), (.pointer none), (.pointer none), (.string ByteArray.empty)]) := ⟨Try.zeroValue86⟩
instance : ElT Try.prog 86 (.agg #[(.pointer none), (.pointer none), (.pointer none), (.string ByteArray.empty)]) 4 40 := ⟨by kernel_rfl⟩
instance : AggT Try.prog 87 0 := ⟨Try.isAgg87, Try.sizeOf87⟩
instance : ZeroT Try.prog 87 (.agg #[]) := ⟨Try.zeroValue87⟩
instance : ElT Try.prog 87 (.agg #[]) 0 0 := ⟨by kernel_rfl⟩
instance : AggT Try.prog 88 0 := ⟨Try.isAgg88, Try.sizeOf88⟩
instance : ZeroT Try.prog 88 (.agg #[]) := ⟨Try.zeroValue88⟩
instance : ElT Try.prog 88 (.agg #[]) 0 0 := ⟨by kernel_rfl⟩
instance : AggT Try.prog 89 0 := ⟨Try.isAgg89, Try.sizeOf89⟩
instance : ZeroT Try.prog 89 (.agg #[]) := ⟨Try.zeroValue89⟩
instance : ElT Try.prog 89 (.agg #[]) 0 0 := ⟨by kernel_rfl⟩
instance : IntT Try.prog 90 .u8 := ⟨Try.underlying90⟩
instance : PlainT Try.prog 90 := ⟨Try.isAgg90, Try.sizeOf90⟩
instance : ZeroT Try.prog 90 (.int .u8 0) := ⟨Try.zeroValue90⟩
instance : ElT Try.prog 90 (.int .u8 0) 1 1 := ⟨by kernel_rfl⟩
instance : IntT Try.prog 91 .u8 := ⟨Try.underlying91⟩
instance : PlainT Try.prog 91 := ⟨Try.isAgg91, Try.sizeOf91⟩
instance : ZeroT Try.prog 91 (.int .u8 0) := ⟨Try.zeroValue91⟩
instance : ElT Try.prog 91 (.int .u8 0) 1 1 := ⟨by kernel_rfl⟩
instance : PlainT Try.prog 92 := ⟨Try.isAgg92, Try.sizeOf92⟩
instance : ElT Try.prog 92 .nilFunc 1 8 := ⟨by kernel_rfl⟩
instance : PtrT Try.prog 93 5 := ⟨Try.underlying93⟩
instance : PlainT Try.prog 93 := ⟨Try.isAgg93, Try.sizeOf93⟩
instance : ZeroT Try.prog 93 (.pointer none) := ⟨Try.zeroValue93⟩
instance : ElT Try.prog 93 (.pointer none) 1 8 := ⟨by kernel_rfl⟩
instance : IntT Try.prog 94 .i32 := ⟨Try.underlying94⟩
instance : PlainT Try.prog 94 := ⟨Try.isAgg94, Try.sizeOf94⟩
instance : ZeroT Try.prog 94 (.int .i32 0) := ⟨Try.zeroValue94⟩
instance : ElT Try.prog 94 (.int .i32 0) 1 4 := ⟨by kernel_rfl⟩
instance : IntT Try.prog 95 .i32 := ⟨Try.underlying95⟩
instance : PlainT Try.prog 95 := ⟨Try.isAgg95, Try.sizeOf95⟩
instance : ZeroT Try.prog 95 (.int .i32 0) := ⟨Try.zeroValue95⟩
instance : ElT Try.prog 95 (.int .i32 0) 1 4 := ⟨by kernel_rfl⟩
instance : AggT Try.prog 96 11 := ⟨Try.isAgg96, Try.sizeOf96⟩
instance : FieldT Try.prog 96 0 0 := ⟨fun _ _ _ => by kernel_rfl⟩
instance : FieldT Try.prog 96 1 1 := ⟨fun _ _ _ => by kernel_rfl⟩
instance : FieldT Try.prog 96 2 2 := ⟨fun _ _ _ => by kernel_rfl⟩
instance : FieldT Try.prog 96 3 3 := ⟨fun _ _ _ => by kernel_rfl⟩
instance : FieldT Try.prog 96 4 4 := ⟨fun _ _ _ => by kernel_rfl⟩
instance : FieldT Try.prog 96 5 5 := ⟨fun _ _ _ => by kernel_rfl⟩
instance : FieldT Try.prog 96 6 6 := ⟨fun _ _ _ => by kernel_rfl⟩
instance : FieldT Try.prog 96 7 7 := ⟨fun _ _ _ => by kernel_rfl⟩
instance : FieldT Try.prog 96 8 8 := ⟨fun _ _ _ => by kernel_rfl⟩
instance : FieldT Try.prog 96 9 9 := ⟨fun _ _ _ => by kernel_rfl⟩
instance : FieldT Try.prog 96 10 10 := ⟨fun _ _ _ => by kernel_rfl⟩
instance : ZeroT Try.prog 96 (.agg #[(.int .u64 0), (.int .u64 0), (.int .u32 0), (.int .u8 0), (.int .u8 0), (.int .u8 0), (.int .u8 0), .nilFunc, (.pointer none), (.int .i32 0), (.int .i32 0)]) := ⟨Try.zeroValue96⟩
instance : ElT Try.prog 96 (.agg #[(.int .u64 0), (.int .u64 0), (.int .u32 0), (.int .u8 0), (.int .u8 0), (.int .u8 0), (.int .u8 0), .nilFunc, (.pointer none), (.int .i32 0), (.int .i32 0)]) 11 48 := ⟨by kernel_rfl⟩
instance : AggT Try.prog 97 11 := ⟨Try.isAgg97, Try.sizeOf97⟩
instance : FieldT Try.prog 97 0 0 := ⟨fun _ _ _ => by kernel_rfl⟩
instance : FieldT Try.prog 97 1 1 := ⟨fun _ _ _ => by kernel_rfl⟩
instance : FieldT Try.prog 97 2 2 := ⟨fun _ _ _ => by kernel_rfl⟩
instance : FieldT Try.prog 97 3 3 := ⟨fun _ _ _ => by kernel_rfl⟩
instance : FieldT Try.prog 97 4 4 := ⟨fun _ _ _ => by kernel_rfl⟩
instance : FieldT Try.prog 97 5 5 := ⟨fun _ _ _ => by kernel_rfl⟩
instance : FieldT Try.prog 97 6 6 := ⟨fun _ _ _ => by kernel_rfl⟩
instance : FieldT Try.prog 97 7 7 := ⟨fun _ _ _ => by kernel_rfl⟩
instance : FieldT Try.prog 97 8 8 := ⟨fun _ _ _ => by kernel_rfl⟩
instance : FieldT Try.prog 97 9 9 := ⟨fun _ _ _ => by kernel_rfl⟩
instance : FieldT Try.prog 97 10 10 := ⟨fun _ _ _ => by kernel_rfl⟩
instance : ZeroT Try.prog 97 (.agg #[(.int .u64 0), (.int .u64 0), (.int .u32 0), (.int .u8 0), (.int .u8 0), (.int .u8 0), (.int .u8 0), .nilFunc, (.pointer none), (.int .i32 0), (.int .i32 0)]) := ⟨Try.zeroValue97⟩
instance : ElT Try.prog 97 (.agg #[(.int .u64 0), (.int .u64 0), (.int .u32 0), (.int .u8 0), (.int .u8 0), (.int .u8 0), (.int .u8 0), .nilFunc, (.pointer none), (.int .i32 0), (.int .i32 0)]) 11 48 := ⟨by kernel_rfl⟩
instance : PlainT Try.prog 98 := ⟨Try.isAgg98, Try.sizeOf98⟩
instance : ElT Try.prog 98 .nilFunc 1 8 := ⟨by kernel_rfl⟩
instance : ZeroT Try.prog 99 (.pointer none) := ⟨Try.zeroValue99⟩
instance : ElT Try.prog 99 (.pointer none) 1 8 := ⟨by kernel_rfl⟩
instance : CallT Try.prog 3 3 := ⟨Try.call3⟩
instance : CallT Try.prog 4 4 := ⟨Try.call4⟩
instance : CallT Try.prog 5 5 := ⟨Try.call5⟩
instance : CallT Try.prog 6 6 := ⟨Try.call6⟩
instance : CallT Try.prog 7 7 := ⟨Try.call7⟩
instance : CallT Try.prog 8 8 := ⟨Try.call8⟩
instance : CallT Try.prog 9 9 := ⟨Try.call9⟩
instance : CallT Try.prog 10 10 := ⟨Try.call10⟩
instance : CallT Try.prog 11 11 := ⟨Try.call11⟩
instance : CallT Try.prog 12 12 := ⟨Try.call12⟩
instance : CallT Try.prog 13 13 := ⟨Try.call13⟩
instance : CallT Try.prog 14 14 := ⟨Try.call14⟩
instance : CallT Try.prog 15 15 := ⟨Try.call15⟩
instance : CallT Try.prog 16 16 := ⟨Try.call16⟩
instance : CallT Try.prog 17 17 := ⟨Try.call17⟩
instance : CallT Try.prog 18 18 := ⟨Try.call18⟩
instance : CallT Try.prog 19 19 := ⟨Try.call19⟩
instance : CallT Try.prog 20 20 := ⟨Try.call20⟩
instance : CallT Try.prog 21 21 := ⟨Try.call21⟩
instance : CallT Try.prog 22 22 := ⟨Try.call22⟩
instance : CallT Try.prog 23 23 := ⟨Try.call23⟩
instance : CallT Try.prog 24 24 := ⟨Try.call24⟩
instance : CallT Try.prog 25 25 := ⟨Try.call25⟩
instance : CallT Try.prog 26 26 := ⟨Try.call26⟩
instance : CallT Try.prog 27 27 := ⟨Try.call27⟩
instance : CallT Try.prog 28 28 := ⟨Try.call28⟩
instance : CallT Try.prog 29 29 := ⟨Try.call29⟩
instance : CallT Try.prog 30 30 := ⟨Try.call30⟩
instance : CallT Try.prog 31 31 := ⟨Try.call31⟩
instance : CallT Try.prog 32 32 := ⟨Try.call32⟩
instance : CallT Try.prog 33 33 := ⟨Try.call33⟩
instance : CallT Try.prog 34 34 := ⟨Try.call34⟩
instance : CallT Try.prog 35 35 := ⟨Try.call35⟩
instance : CallT Try.prog 36 36 := ⟨Try.call36⟩
instance : CallT Try.prog 37 37 := ⟨Try.call37⟩
instance : CallT Try.prog 38 38 := ⟨Try.call38⟩
instance : CallT Try.prog 39 39 := ⟨Try.call39⟩
instance : CallT Try.prog 40 40 := ⟨Try.call40⟩
instance : CallT Try.prog 41 41 := ⟨Try.call41⟩
instance : CallT Try.prog 42 42 := ⟨Try.call42⟩
instance : CallT Try.prog 43 43 := ⟨Try.call43⟩
instance : CallT Try.prog 44 44 := ⟨Try.call44⟩
instance : CallT Try.prog 45 45 := ⟨Try.call45⟩
instance : CallT Try.prog 46 46 := ⟨Try.call46⟩
instance : CallT Try.prog 47 47 := ⟨Try.call47⟩
instance : CallT Try.prog 48 48 := ⟨Try.call48⟩
theorem Try.mixed : Try.prog.follows .mixedOrders = true := by kernel_rfl
end Go.Proofs
