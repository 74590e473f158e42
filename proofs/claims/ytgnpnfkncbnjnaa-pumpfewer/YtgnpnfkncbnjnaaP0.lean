/- The statement PumpFewer holds for every input, without further conditions: a part of its proof (an abstract machine for the loaded code, its soundness, and what the functions answer in it). -/
import Derived.RangeFuncNested
import Derived.RangeFuncLeaves
import Derived.OrdersIn
import Derived.Laws.CopyRow
import Derived.Laws.StructEq
import Derived.DeepKeys
import Derived.Laws.Append
import Derived.Laws.AppendOwn
import Derived.Laws.MakeOwn
set_option linter.unusedSimpArgs false
set_option linter.unusedVariables false
namespace Go.Am
noncomputable section
abbrev Nm := List Nat
def eqb (x : Nm) : Nm -> Bool :=
 List.rec (motive := fun _ => Nm -> Bool) (fun y => match y with | [] => true | _ :: _ => false)
  (fun a _ ih y => match y with | [] => false | b :: z => match Nat.beq a b with | true => ih z | false => false) x
inductive AV where
 | int (k : IntKind) (n : Int)
 | bool (b : Bool)
 | str (s : ByteArray)
 | nilp
 | ptr (b : Nm) (o : Nat)
 | nils
 | slice (b : Nm) (o n c : Nat) (ex : Bool)
 | empty
 | lst (l : List AV)
 | own (b : Nm) (l : List AV)
 | fptr (cs : List AV) (o : Nat)
 | nilm
 | map (b : Nm)
 | func (f : FuncId) (caps : List AV)
 | yield (l : Nm)
 | nilf
 | nili
 | agg (cs : List AV)
 | tuple (vs : List AV)
 | undef
 deriving Inhabited
def AV.cells : AV -> List AV
 | .agg cs => cs
 | v => [v]
def AV.okc : AV -> Bool
 | .tuple _ | .undef => false
 | _ => true
mutual
def AV.flat : AV -> Bool
 | .int _ _ | .bool _ | .str _ | .nilp | .nils | .empty | .nilm | .nilf | .nili | .undef => true
 | .ptr _ _ | .slice .. | .own .. | .map _ | .yield _ => false
 | .lst l => flats l
 | .fptr cs _ => flats cs
 | .func _ caps => flats caps
 | .agg cs => flats cs
 | .tuple vs => flats vs
def flats : List AV -> Bool
 | [] => true
 | v :: r => match v.flat with | true => flats r | false => false
end
mutual
def AV.shut : AV -> AV
 | .own _ l => .lst l
 | .nils => .lst []
 | .empty => .lst []
 | .agg cs => .agg (shuts cs)
 | .tuple vs => .tuple (shuts vs)
 | .func f caps => .func f (shuts caps)
 | v => v
def shuts : List AV -> List AV
 | [] => []
 | v :: r => v.shut :: shuts r
end
inductive Blk where
 | cells (cs : List AV) (rw : Bool) (unit : Nat)
 | tok (n z : Nat)
 | map (es : List (AV × AV)) (fz : Bool)
 | loop (tmps : List AV) (ps : List Nat) (assign body : Code) (st : LoopState) (pend : Option Code)
 | strIter (s : ByteArray) (pos : Nat)
 | mapIter (m : Nm) (left : List (AV × AV)) (last : Option (AV × AV))
abbrev Heap := List (Nm × Blk)
def hget (H : Heap) (j : Nm) : Option Blk :=
 List.rec (motive := fun _ => Option Blk) none (fun x _ ih => match eqb x.1 j with | true => some x.2 | false => ih) H
def hset (H : Heap) (j : Nm) (b : Blk) : Heap :=
 List.rec (motive := fun _ => Heap) [] (fun x t ih => match eqb x.1 j with | true => (x.1, b) :: t | false => x :: ih) H
def hdel (H : Heap) (j : Nm) : Heap :=
 List.rec (motive := fun _ => Heap) [] (fun x _ ih => match eqb x.1 j with | true => ih | false => x :: ih) H
abbrev Delta := List (Nm × Option Blk)
structure St where
 H : Heap
 n : Nat
 pre : Nm
 jr : Bool
 j : Delta
def St.note (s : St) (i : Nm) (x : Option Blk) : Delta := match s.jr with | true => (i, x) :: s.j | false => s.j
def St.name (s : St) : Nm := s.pre ++ [s.n]
def St.new (s : St) (x : Blk) : St := ⟨(s.name, x) :: s.H, s.n + 1, s.pre, s.jr, s.note s.name (some x)⟩
def St.put (s : St) (i : Nm) (x : Blk) : St := ⟨hset s.H i x, s.n, s.pre, s.jr, s.note i (some x)⟩
def St.del (s : St) (i : Nm) : St := ⟨hdel s.H i, s.n, s.pre, s.jr, s.note i none⟩
def redo1 (H : Heap) (i : Nm) (x : Option Blk) : Heap :=
 match x with
 | some x => (match hget H i with
  | some _ => hset H i x
  | none => (i, x) :: H)
 | none => hdel H i
def redoH (H : Heap) : Delta -> Heap
 | [] => H
 | e :: r => redo1 (redoH H r) e.1 e.2
inductive Tr (α : Type) where
 | fail
 | ret (a : α)
 | ask (n : Nat) (k : Nat -> Tr α)
def Tr.bind {α β : Type} (t : Tr α) (f : α -> Tr β) : Tr β :=
 Tr.rec (motive := fun _ => Tr β) .fail (fun a => f a) (fun n _ ih => .ask n ih) t
abbrev M (α : Type) := St -> Tr (α × St)
def M.ret {α : Type} (a : α) : M α := fun s => .ret (a, s)
def M.fail {α : Type} : M α := fun _ => .fail
def M.bind {α β : Type} (m : M α) (f : α -> M β) : M β := fun s => (m s).bind fun x => f x.1 x.2
def M.of {α : Type} (o : Option α) : M α := fun s => match o with | some a => .ret (a, s) | none => .fail
def getM (i : Nm) : M Blk := fun s => match hget s.H i with | some b => .ret (b, s) | none => .fail
def newM (x : Blk) : M Nm := fun s => .ret (s.name, s.new x)
def putM (i : Nm) (x : Blk) : M Unit := fun s => match hget s.H i with | some _ => .ret ((), s.put i x) | none => .fail
def delM (i : Nm) : M Unit := fun s => match hget s.H i with | some _ => .ret ((), s.del i) | none => .fail
def askM (n : Nat) : M Nat := fun s => .ask n fun i => .ret (i, s)
def memN (n : Nat) : List Nat -> Bool
 | [] => false
 | m :: r => match Nat.beq n m with | true => true | false => memN n r
inductive NT (α : Type) where
 | leaf
 | node (k : Nat) (v : α) (l r : NT α)
def NT.get {α : Type} (t : NT α) (n : Nat) : Option α :=
 NT.rec (motive := fun _ => Option α) none (fun k v _ _ il ir => match Nat.beq n k with | true => some v | false => (match Nat.ble n k with | true => il | false => ir)) t
structure TI where
 desc : TypeDesc
 size : Nat
 bytes : Nat
 agg : Bool
 zero : Option AV
 cmp : Bool
structure Cfg where
 fn : NT Func
 ty : NT TI
 mode : NT Nat
 /-- Functions that make frozen rows, each with the temporaries whose rows are not; cur: that of the function in which we are. -/
 fz : NT (List Nat)
 cur : Option (List Nat)
def Cfg.at (C : Cfg) (f : FuncId) : Cfg := ⟨C.fn, C.ty, C.mode, C.fz, C.fz.get f⟩
def Cfg.desc (C : Cfg) (t : TypeId) : Option TypeDesc := match C.ty.get t with | some i => some i.desc | none => none
def ofScalar : Value -> AV
 | .int k n => .int k n
 | .bool b => .bool b
 | .string s => .str s
 | .pointer none => .nilp
 | .slice none 0 0 => .nils
 | .map none => .nilm
 | .nilFunc => .nilf
 | .nilIface => .nili
 | _ => .undef
def isScalar : Value -> Bool
 | .int .. | .bool _ | .string _ | .pointer none | .slice none 0 0 | .map none | .nilFunc | .nilIface => true
 | _ => false
def scalars : List Value -> Option (List AV)
 | [] => some []
 | v :: r => match isScalar v with | true => (match scalars r with | some l => some (ofScalar v :: l) | none => none) | false => none
def ofConst (v : Value) : Option AV :=
 match isScalar v with
 | true => some (ofScalar v)
 | false => match v with
  | .agg cs => (match scalars cs.toList with | some l => some (.agg l) | none => none)
  | _ => none
def nth {α : Type} (l : List α) : Nat -> Option α :=
 List.rec (motive := fun _ => Nat -> Option α) (fun _ => none) (fun a _ ih n => Nat.rec (motive := fun _ => Option α) (some a) (fun m _ => ih m) n) l
def setNth {α : Type} (l : List α) : Nat -> α -> List α :=
 List.rec (motive := fun _ => Nat -> α -> List α) (fun _ _ => []) (fun a t ih n x => Nat.rec (motive := fun _ => List α) (x :: t) (fun m _ => a :: ih m x) n) l
def evA (T : List AV) : Operand -> Option AV
 | .tmp t => nth T t
 | .const v => ofConst v
 | .func f => some (.func f [])
 | .global _ => none
def evs (T : List AV) : List Operand -> Option (List AV)
 | [] => some []
 | x :: r => match evA T x with | some v => (match evs T r with | some l => some (v :: l) | none => none) | none => none
def putT (T : List AV) (d : Option Tmp) (v : AV) : List AV := match d with | some t => setNth T t v | none => T
def readN (l : List AV) (o : Nat) : Nat -> Option (List AV)
 | 0 => some []
 | n + 1 => match nth l o with | some v => (match readN l (o + 1) n with | some r => some (v :: r) | none => none) | none => none
def writeN (l : List AV) (o : Nat) : List AV -> Option (List AV)
 | [] => some l
 | v :: r => match nth l o with | some _ => writeN (setNth l o v) (o + 1) r | none => none
def repeatN (z : List AV) : Nat -> List AV
 | 0 => []
 | n + 1 => z ++ repeatN z n
section step
variable (C : Cfg)
def partA (t : TypeId) (cs : List AV) (off : Nat) : Option AV :=
 match C.ty.get t with
 | some i => (match i.agg with
  | true => (match readN cs off i.size with | some l => some (.agg l) | none => none)
  | false => nth cs off)
 | none => none
def loadA (t : TypeId) (b : Nm) (o : Nat) : M AV := (getM b).bind fun x => match x with
 | .cells cs _ _ => M.of (partA C t cs o)
 | _ => M.fail
def storeA (t : TypeId) (b : Nm) (o : Nat) (v : AV) : M Unit := (getM b).bind fun x => match x, C.ty.get t, v.okc with
 | .cells cs true u, some i, true => (match Nat.beq v.cells.length i.size, writeN cs o v.cells with
  | true, some cs' => putM b (.cells cs' true u)
  | _, _ => M.fail)
 | _, _, _ => M.fail
def fillA (place : Nat -> Option (Nat × Nat)) (cells : List AV) : List (Nat × AV) -> Option (List AV)
 | [] => some cells
 | (i, v) :: r => match place i, v.okc with
  | some (off, size), true => (match Nat.beq v.cells.length size, Nat.ble (off + size) cells.length, writeN cells off v.cells with
   | true, true, some cs => fillA place cs r
   | _, _, _ => none)
  | _, _ => none
def fieldsPlace (fs : List Field) (i : Nat) : Option (Nat × Nat) :=
 match nth fs i with
 | some f => (match C.ty.get f.type with | some z => some (f.offset, z.size) | none => none)
 | none => none
def partsA (T : List AV) : List (Nat × Operand) -> Option (List (Nat × AV))
 | [] => some []
 | (i, x) :: r => match evA T x with | some v => (match partsA T r with | some l => some ((i, v) :: l) | none => none) | none => none
def wrapU (m : Int) (x : Int) : Int := x % m
def wrapS (m h : Int) (x : Int) : Int := match Int.decLt (x % m) h with | .isTrue _ => x % m | .isFalse _ => x % m - m
def wrapF : IntKind -> Int -> Int
 | .i64, x => wrapS 18446744073709551616 9223372036854775808 x
 | .i32, x => wrapS 4294967296 2147483648 x
 | .i16, x => wrapS 65536 32768 x
 | .i8, x => wrapS 256 128 x
 | .u64, x => wrapU 18446744073709551616 x
 | .u32, x => wrapU 4294967296 x
 | .u16, x => wrapU 65536 x
 | .u8, x => wrapU 256 x
theorem Y2 (k : IntKind) (x : Int) : wrapF k x = k.wrap x := by
 cases k <;> simp only [wrapF, wrapS, wrapU, IntKind.wrap, IntKind.bits, IntKind.signed] <;> (try split) <;> simp_all <;> omega
def ib (k : IntKind) (x : Int) : Nat := match k with
 | .i64 | .u64 => (x % 18446744073709551616).toNat
 | .i32 | .u32 => (x % 4294967296).toNat
 | .i16 | .u16 => (x % 65536).toNat
 | .i8 | .u8 => (x % 256).toNat
def ones : IntKind -> Nat
 | .i64 | .u64 => 18446744073709551615
 | .i32 | .u32 => 4294967295
 | .i16 | .u16 => 65535
 | .i8 | .u8 => 255
def intBin (op : BinOp) (k : IntKind) (x y : Int) : Option AV :=
 match op with
 | .add => some (.int k (wrapF k (x + y)))
 | .sub => some (.int k (wrapF k (x - y)))
 | .mul => some (.int k (wrapF k (x * y)))
 | .quo => (match decide (y = 0) with | true => none | false => some (.int k (wrapF k (x.tdiv y))))
 | .rem => (match decide (y = 0) with | true => none | false => some (.int k (x.tmod y)))
 | .and => some (.int k (wrapF k (Nat.land (ib k x) (ib k y))))
 | .or => some (.int k (wrapF k (Nat.lor (ib k x) (ib k y))))
 | .xor => some (.int k (wrapF k (Nat.xor (ib k x) (ib k y))))
 | .andNot => some (.int k (wrapF k (Nat.land (ib k x) (Nat.xor (ib k y) (ones k)))))
 | .eql => some (.bool (decide (x = y)))
 | .neq => some (.bool (!decide (x = y)))
 | .lss => some (.bool (decide (x < y)))
 | .leq => some (.bool (decide (x <= y)))
 | .gtr => some (.bool (decide (y < x)))
 | .geq => some (.bool (decide (y <= x)))
 | _ => none
def kbits : IntKind -> Nat
 | .i8 | .u8 => 8
 | .i16 | .u16 => 16
 | .i32 | .u32 => 32
 | .i64 | .u64 => 64
def shiftBin (op : BinOp) (k : IntKind) (x y : Int) : Option AV :=
 match decide (y < 0), op with
 | false, .shl => some (.int k (wrapF k (x * (Nat.pow 2 (min y.toNat (kbits k)) : Nat))))
 | false, .shr => some (.int k (x.fdiv (Nat.pow 2 (min y.toNat (kbits k)) : Nat)))
 | _, _ => none
def eqFields (eq : TypeId -> AV -> AV -> Option Bool) (xs ys : List AV) : List Field -> Option Bool
 | [] => some true
 | f :: r => match partA C f.type xs f.offset, partA C f.type ys f.offset with
  | some a, some b => (match eq f.type a b with
   | some true => eqFields eq xs ys r
   | some false => some false
   | none => none)
  | _, _ => none
def eqElems (eq : TypeId -> AV -> AV -> Option Bool) (e n : Nat) (xs ys : List AV) (i : Nat) : Nat -> Option Bool
 | 0 => some true
 | m + 1 => match partA C e xs (i * n), partA C e ys (i * n) with
  | some a, some b => (match eq e a b with
   | some true => eqElems eq e n xs ys (i + 1) m
   | some false => some false
   | none => none)
  | _, _ => none
def eqSame : AV -> AV -> Option Bool
 | .bool a, .bool b => some (match a, b with | true, true | false, false => true | _, _ => false)
 | .int k a, .int k' b => (match decide (k = k') with | true => some (decide (a = b)) | false => none)
 | .str a, .str b => some (a == b)
 | _, _ => none
def eqA : Nat -> TypeId -> AV -> AV -> Option Bool
 | 0, _, _, _ => none
 | d + 1, t, x, y => match C.ty.get t with
  | none => none
  | some i => match i.desc with
   | .bool => (match x, y with | .bool _, .bool _ => eqSame x y | _, _ => none)
   | .int _ => (match x, y with | .int .., .int .. => eqSame x y | _, _ => none)
   | .string => (match x, y with | .str _, .str _ => eqSame x y | _, _ => none)
   | .struct fs => (match x, y, i.cmp with | .agg xs, .agg ys, true => eqFields C (eqA d) xs ys fs.toList | _, _, _ => none)
   | .array n e => (match x, y, C.ty.get e with | .agg xs, .agg ys, some j => eqElems C (eqA d) e j.size xs ys 0 n | _, _, _ => none)
   | .slice _ => (match x, y with | .nils, .nils => some true | .nils, .slice .. | .slice .., .nils => some false | _, _ => none)
   | .map _ _ => (match x, y with | .nilm, .nilm => some true | .nilm, .map _ | .map _, .nilm => some false | _, _ => none)
   | .pointer _ => (match x, y with | .nilp, .nilp => some true | .nilp, .ptr .. | .ptr .., .nilp => some false | _, _ => none)
   | _ => none
def notB : Bool -> Bool
 | true => false
 | false => true
def negB (neg r : Bool) : Bool := match neg with | true => notB r | false => r
def eqTop (t : TypeId) (neg : Bool) (x y : AV) : Option AV :=
 match x, y with
 | .str _, .str _ => (match eqSame x y with | some r => some (.bool (negB neg r)) | none => none)
 | .agg _, .agg _ => (match C.ty.get t with
  | some i => (match i.cmp, eqA C 20 t x y with | true, some r => some (.bool (negB neg r)) | _, _ => none)
  | none => none)
 | .agg _, _ | _, .agg _ | .str _, _ | _, .str _ | .int .., _ | _, .int .. => none
 | _, _ => (match eqA C 20 t x y with | some r => some (.bool (negB neg r)) | none => none)
def binRest (op : BinOp) (t : TypeId) (x y : AV) : Option AV :=
 match op with
 | .add => (match x, y with | .str a, .str b => (match Nat.ble (a.size + b.size) 9223372036854775807 with | true => some (.str (a ++ b)) | false => none) | _, _ => none)
 | .eql => eqTop C t false x y
 | .neq => eqTop C t true x y
 | _ => none
def binA (op : BinOp) (t : TypeId) (x y : AV) : Option AV :=
 match op with
 | .shl => (match x, y with | .int k a, .int _ b => shiftBin .shl k a b | _, _ => none)
 | .shr => (match x, y with | .int k a, .int _ b => shiftBin .shr k a b | _, _ => none)
 | op => match x, y with
  | .int k a, .int k' b => (match decide (k = k') with | true => intBin op k a b | false => none)
  | x, y => binRest C op t x y
def nilTest (neg : Bool) (x : AV) : M AV :=
 match x with
 | .lst l => (match l with | [] => (askM 2).bind fun i => M.ret (.bool (negB neg (Nat.beq i 0))) | _ :: _ => M.ret (.bool (negB neg false)))
 | .empty => (askM 2).bind fun i => M.ret (.bool (negB neg (Nat.beq i 0)))
 | .own _ _ => M.ret (.bool (negB neg false))
 | _ => M.fail
def iceRow : AV -> Bool
 | .lst _ | .empty | .own .. => true
 | _ => false
def nilOp (op : BinOp) (x : AV) : M AV := match op with | .eql => nilTest false x | .neq => nilTest true x | _ => M.fail
def binM (op : BinOp) (t : TypeId) (x y : AV) : M AV :=
 match y, iceRow x, C.desc t with
 | .nils, true, some (.slice _) => nilOp op x
 | _, _, _ => M.of (binA C op t x y)
def unA (op : UnOp) (x : AV) : Option AV :=
 match op, x with
 | .neg, .int k n => some (.int k (wrapF k (0 - n)))
 | .xor, .int k n => some (.int k (wrapF k (Nat.xor (ones k) (ib k n))))
 | .not, .bool b => some (.bool (notB b))
 | _, _ => none
def convA (src dst : TypeId) (x : AV) : Option AV :=
 match C.ty.get src, C.desc dst, x with
 | some _, some (.int k), .int _ n => some (.int k (wrapF k n))
 | _, _, _ => none
def inB (x : Int) (y : Nat) : Option Nat := match decide (0 <= x), decide (x <= y) with | true, true => some x.toNat | _, _ => none
def boundA (d : Nat) (y : Nat) : Option AV -> Option Nat
 | none => some d
 | some (.int _ x) => inB x y
 | _ => none
def bounds2 (n m : Nat) (lo hi : Option AV) : Option (Nat × Nat) :=
 match boundA n m hi with
 | none => none
 | some h => match boundA 0 h lo with
  | none => none
  | some l => some (l, h)
def optA (T : List AV) : Option Operand -> Option (Option AV)
 | none => some none
 | some x => match evA T x with | some v => some (some v) | none => none
def unitM (b : Nm) (z : Nat) (v : AV) : M AV := (getM b).bind fun x => match x with
 | .cells _ _ u => (match Nat.beq u 0, Nat.beq u z with | false, false => M.fail | _, _ => M.ret v)
 | _ => M.fail
def okZ (z : Nat) : List AV -> Bool
 | [] => true
 | e :: r => match Nat.beq e.cells.length z with | true => okZ z r | false => false
def cutA (i : Option TI) (l : List AV) (lo hi mx : Option AV) : M AV :=
 match i, mx with
 | some i, none => (match okZ i.size l, bounds2 l.length l.length lo hi with | true, some (a, b) => M.ret (.lst ((l.take b).drop a)) | _, _ => M.fail)
 | some _, some m => (match hi, boundA 1 0 (some m) with
  | some h, some _ => (match bounds2 0 0 lo (some h) with | some _ => M.ret .empty | none => M.fail)
  | _, _ => M.fail)
 | _, _ => M.fail
def sliceOp (t : TypeId) (x : AV) (lo hi mx : Option AV) : M AV :=
 match C.desc t with
 | some .string => (match x, mx with
  | .str s, none => (match bounds2 s.size s.size lo hi with | some (l, h) => M.ret (.str (s.extract l h)) | none => M.fail)
  | _, _ => M.fail)
 | some (.slice e) => (match x with
  | .nils => (match mx, bounds2 0 0 lo hi, C.ty.get e with | none, some _, some _ => M.ret .nils | _, _, _ => M.fail)
  | .empty => (match mx, bounds2 0 0 lo hi, C.ty.get e with | none, some _, some _ => M.ret .empty | _, _, _ => M.fail)
  | .lst l => cutA (C.ty.get e) l lo hi mx
  | .own _ l => cutA (C.ty.get e) l lo hi mx
  | .slice b o n c ex => (match C.ty.get e, mx with
   | some i, none => (match bounds2 n n lo hi with | some (l, h) => unitM b i.size (.slice b (o + l * i.size) (h - l) (c - l) ex) | none => M.fail)
   | some i, some m => (match hi, boundA 0 n (some m) with
    | some h, some m => (match bounds2 0 m lo (some h) with | some (l, h) => unitM b i.size (.slice b (o + l * i.size) (h - l) (m - l) true) | none => M.fail)
    | _, _ => M.fail)
   | _, _ => M.fail)
  | _ => M.fail)
 | some (.array len e) => (match x, C.ty.get e, mx with
  | .ptr b o, some i, none => (match bounds2 len len lo hi with | some (l, h) => unitM b 0 (.slice b (o + l * i.size) (h - l) (len - l) true) | none => M.fail)
  | _, _, _ => M.fail)
 | _ => M.fail
def inR (i : Int) (n : Nat) : Option Nat := match decide (0 <= i), decide (i < n) with | true, true => some i.toNat | _, _ => none
def elemAt (z : Nat) (i : Int) (l : List AV) : Option AV := match inR i l.length with | some k => (match nth l k with | some e => (match Nat.beq e.cells.length z with | true => some (.fptr e.cells 0) | false => none) | none => none) | none => none
def indexAddrA (t : TypeId) (x : AV) (i : AV) : Option AV :=
 match i, C.desc t with
 | .int _ i, some (.array len e) => (match x, inR i len, C.ty.get e with | .ptr b o, some k, some j => some (.ptr b (o + k * j.size)) | .fptr cs o, some k, some j => some (.fptr cs (o + k * j.size)) | _, _, _ => none)
 | .int _ i, some (.slice e) => (match x with
  | .slice b o n _ _ => (match inR i n, C.ty.get e with | some k, some j => some (.ptr b (o + k * j.size)) | _, _ => none)
  | .lst l => (match C.ty.get e with | some j => elemAt j.size i l | none => none)
  | .own _ l => (match C.ty.get e with | some j => elemAt j.size i l | none => none)
  | _ => none)
 | _, _ => none
def indexA (t : TypeId) (x : AV) (i : AV) : Option AV :=
 match i, C.desc t with
 | .int _ i, some (.array len e) => (match x, inR i len, C.ty.get e with | .agg cs, some k, some j => partA C e cs (k * j.size) | _, _, _ => none)
 | .int _ i, some .string => (match x with
  | .str s => (match inR i s.size with | some k => (match nth s.data.toList k with | some b => some (.int .u8 b.toNat) | none => none) | none => none)
  | _ => none)
 | _, _ => none
def bytesAV : List UInt8 -> List AV
 | [] => []
 | b :: r => .int .u8 b.toNat :: bytesAV r
def flatA : List AV -> List AV
 | [] => []
 | e :: r => e.cells ++ flatA r
def rowA (z : Nat) (cs : List AV) : AV := match z, cs with | 1, [c] => c.shut | _, _ => .agg (shuts cs)
def rowsA (z : Nat) : Nat -> List AV -> List AV
 | 0, _ => []
 | n + 1, cs => rowA z (cs.take z) :: rowsA z n (cs.drop z)
def elemsA (z : Nat) (x : AV) : M (Nat × List AV) :=
 match x with
 | .nils => M.ret (0, [])
 | .empty => M.ret (0, [])
 | .lst l => (match okZ z l with | true => M.ret (l.length, flatA l) | false => M.fail)
 | .own _ l => (match okZ z l with | true => M.ret (l.length, flatA l) | false => M.fail)
 | .slice b o n _ _ => (match n with
  | 0 => M.ret (0, [])
  | _ => (getM b).bind fun x => match x with
   | .cells cs _ _ => (match readN cs o (n * z) with | some l => M.ret (n, l) | none => M.fail)
   | _ => M.fail)
 | .str t => (match Nat.beq z 1 with | true => M.ret (t.size, bytesAV t.data.toList) | false => M.fail)
 | _ => M.fail
def isSeq : TypeDesc -> Bool
 | .slice _ | .string => true
 | _ => false
def roomy (n m bytes : Nat) : Bool := match Nat.ble ((n + m) * bytes) 140737488355328, Nat.ble 1 bytes with | true, true => true | _, _ => false
def grow (old new : List AV) (k z : Nat) : M AV := (newM (.cells (old ++ new) true z)).bind fun i => M.ret (.slice i 0 k k false)
def oldA (cs : List AV) (o n z : Nat) : Option (List AV) := match n with | 0 => some [] | _ => readN cs o (n * z)
def appendTo (i : TI) (v : AV) (m : Nat) (new : List AV) : M AV :=
 match v with
 | .empty => (match m with
  | 0 => M.ret .empty
  | _ => (match roomy 0 m i.bytes with | true => grow [] new m i.size | false => M.fail))
 | .nils => (match m with
  | 0 => M.ret .nils
  | _ => (match roomy 0 m i.bytes with | true => grow [] new m i.size | false => M.fail))
 | .slice b o n c ex => (match m with
  | 0 => M.ret (.slice b o n c ex)
  | _ => (getM b).bind fun x => match x, roomy n m i.bytes with
   | .cells cs rw u, true => (match oldA cs o n i.size with
    | none => M.fail
    | some old => (match ex with
     | true => (match Nat.ble (n + m) c with
      | true => (match rw, writeN cs (o + n * i.size) new with
       | true, some cs' => (putM b (.cells cs' true u)).bind fun _ => M.ret (.slice b o (n + m) c true)
       | _, _ => M.fail)
      | false => grow old new (n + m) i.size)
     | false => (match rw, Nat.beq u i.size, Nat.ble 1 u with
      | true, true, true => (delM b).bind fun _ => grow old new (n + m) i.size
      | _, _, _ => M.fail)))
   | _, _ => M.fail)
 | _ => M.fail
def srcA (i : TI) (z : AV) (d : TypeDesc) (x : AV) : M (Nat × List AV) :=
 match isSeq d with
 | true => elemsA i.size x
 | false => match d, x with
  | .int _, .int _ n => (match decide (0 <= wrapF .i64 n), Nat.ble ((wrapF .i64 n).toNat * i.bytes) 140737488355328 with
   | true, true => M.ret ((wrapF .i64 n).toNat, repeatN z.cells (wrapF .i64 n).toNat)
   | _, _ => M.fail)
  | _, _ => M.fail
def growF (l : List AV) (z : Nat) : M AV := (newM (.tok l.length z)).bind fun i => M.ret (.own i l)
def appendF (i : TI) (v : AV) (m : Nat) (es : List AV) : M AV :=
 match Nat.beq m 0 with
 | true => (match v with | .nils => M.ret .nils | .empty => M.ret .empty | .own b l => M.ret (.own b l) | .lst l => M.ret (.lst l) | _ => M.fail)
 | false => match Nat.ble 1 i.size with
  | false => M.fail
  | true => match v with
   | .nils => (match roomy 0 m i.bytes with | true => growF es i.size | false => M.fail)
   | .empty => (match roomy 0 m i.bytes with | true => growF es i.size | false => M.fail)
   | .own b l => (getM b).bind fun x => match x with
    | .tok n z => (match Nat.beq n l.length, Nat.beq z i.size, roomy l.length m i.bytes with
     | true, true, true => (delM b).bind fun _ => growF (l ++ es) i.size
     | _, _, _ => M.fail)
    | _ => M.fail
   | _ => M.fail
def srcF (i : TI) (z : AV) (d : TypeDesc) (x : AV) : M (Nat × List AV) :=
 match isSeq d, x with
 | true, .lst l => (match okZ i.size l with | true => M.ret (l.length, l) | false => M.fail)
 | true, .own _ l => (match okZ i.size l with | true => M.ret (l.length, l) | false => M.fail)
 | _, _ => (srcA i z d x).bind fun y => M.ret (y.1, rowsA i.size y.1 y.2)
def openRow : AV -> Bool
 | .nils | .empty | .own .. | .lst _ => true
 | _ => false
def appendA (fz : Bool) (sT : TypeId) (xT : TypeId) (v x : AV) : M AV :=
 match C.desc sT, C.desc xT with
 | some (.slice e), some d => (match C.ty.get e with
  | some i => (match i.zero with
   | some z => (match Nat.beq z.cells.length i.size with
    | true => (match fz, openRow v with
     | true, true => (srcF i z d x).bind fun y => appendF i v y.1 y.2
     | _, _ => (srcA i z d x).bind fun y => appendTo i v y.1 y.2)
    | false => M.fail)
   | none => M.fail)
  | _ => M.fail)
 | _, _ => M.fail
def findA (k : AV) : List (AV × AV) -> Nat -> Option (Option (Nat × AV))
 | [], _ => some none
 | e :: es, i => match eqSame k e.1 with
  | some true => some (some (i, e.2))
  | some false => findA k es (i + 1)
  | none => none
def keyKind (d : TypeDesc) (k : AV) : Bool :=
 match d, k with
 | .int q, .int q' _ => decide (q' = q)
 | .string, .str _ | .bool, .bool _ => true
 | _, _ => false
def entriesA : AV -> M (List (AV × AV))
 | .nilm => M.ret []
 | .map b => (getM b).bind fun x => match x with | .map es _ => M.ret es | _ => M.fail
 | _ => M.fail
def okd (ok : Bool) (v : AV) (b : Bool) : AV := match ok with | true => .tuple [v, .bool b] | false => v
def lookupA (t : TypeId) (x k : AV) (ok : Bool) : M AV :=
 match C.desc t with
 | some (.map kt et) => (entriesA x).bind fun es => match C.desc kt, C.ty.get et with
  | some kd, some i => (match keyKind kd k, findA k es 0 with
   | true, some (some (_, v)) => M.ret (okd ok v true)
   | true, some none => (match i.zero with | some z => M.ret (okd ok z false) | none => M.fail)
   | _, _ => M.fail)
  | _, _ => M.fail
 | _ => M.fail
def updateA (t : TypeId) (x k v : AV) : M Unit :=
 match C.desc t, x with
 | some (.map kt _), .map b => (getM b).bind fun y => match y, C.desc kt with
  | .map es false, some kd => (match keyKind kd k, v.okc, findA k es 0 with
   | true, true, some (some (i, _)) => putM b (.map (setNth es i (k, v)) false)
   | true, true, some none => putM b (.map (es ++ [(k, v)]) false)
   | _, _, _ => M.fail)
  | _, _ => M.fail
 | _, _ => M.fail
def dropAt {α : Type} : List α -> Nat -> List α
 | [], _ => []
 | _ :: l, 0 => l
 | a :: l, n + 1 => a :: dropAt l n
def nextA (it : AV) (isString : Bool) : M AV :=
 match it with
 | .ptr r 0 => (getM r).bind fun x => match x, isString with
  | .strIter t pos, true => (match Nat.blt pos t.size with
   | true => (putM r (.strIter t (pos + (Utf8.decode t pos).2))).bind fun _ => M.ret (.tuple [.bool true, .int .i64 pos, .int .i32 (Utf8.decode t pos).1])
   | false => M.ret (.tuple [.bool false]))
  | .mapIter m left _, false => (getM m).bind fun y => match y, left with
   | .map _ true, [] => M.ret (.tuple [.bool false])
   | .map _ true, [e] => (putM r (.mapIter m [] (some e))).bind fun _ => M.ret (.tuple [.bool true, e.1, e.2])
   | .map _ true, x :: y :: l => (askM (x :: y :: l).length).bind fun i => match nth (x :: y :: l) i with
    | some e => (putM r (.mapIter m (dropAt (x :: y :: l) i) (some e))).bind fun _ => M.ret (.tuple [.bool true, e.1, e.2])
    | none => M.fail
   | _, _ => M.fail
  | _, _ => M.fail
 | _ => M.fail
def entryA (it : AV) : M AV :=
 match it with
 | .ptr r 0 => (getM r).bind fun x => match x with
  | .mapIter m _ (some e) => (getM m).bind fun y => match y with | .map _ true => M.ret (.tuple [e.1, e.2]) | _ => M.fail
  | _ => M.fail
 | _ => M.fail
def rangeA (t : TypeId) (x : AV) : M AV :=
 match C.desc t, x with
 | some .string, .str v => (newM (.strIter v 0)).bind fun i => M.ret (.ptr i 0)
 | some (.map _ _), .map m => (getM m).bind fun y => match y with
  | .map es _ => (putM m (.map es true)).bind fun _ => (newM (.mapIter m es none)).bind fun i => M.ret (.ptr i 0)
  | _ => M.fail
 | _, _ => M.fail
variable (call : FuncId -> List AV -> M AV) (rnd : Nm -> List AV -> M AV)
def minmax (mx : Bool) (x : AV) : List AV -> Option AV
 | [] => some x
 | y :: r => match x, y with
  | .int k a, .int k' b => (match decide (k = k') with
   | true => minmax mx (.int k (match mx with
    | true => (match decide (a < b) with | true => b | false => a)
    | false => (match decide (b < a) with | true => b | false => a))) r
   | false => none)
  | _, _ => none
def lenA (x : AV) : M AV :=
 match x with
 | .str t => M.ret (.int .i64 t.size)
 | .nils => M.ret (.int .i64 0)
 | .empty => M.ret (.int .i64 0)
 | .lst l => M.ret (.int .i64 l.length)
 | .own _ l => M.ret (.int .i64 l.length)
 | .slice _ _ n _ _ => M.ret (.int .i64 n)
 | .nilm => M.ret (.int .i64 0)
 | .map m => (getM m).bind fun y => match y with | .map es _ => M.ret (.int .i64 es.length) | _ => M.fail
 | _ => M.fail
def hasLen (d : TypeDesc) (x : AV) : Bool :=
 match d, x with
 | .string, .str _ | .slice _, .nils | .slice _, .slice .. | .slice _, .empty | .slice _, .lst _ | .slice _, .own .. | .map .., .nilm | .map .., .map _ => true
 | _, _ => false
def builtinA (fz : Bool) (b : Builtin) (ts : List TypeId) (args : List AV) : M AV :=
 match b, args with
 | .len, [x] => (match ts with
  | t :: _ => (match C.desc t with | some d => (match hasLen d x with | true => lenA x | false => M.fail) | none => M.fail)
  | [] => M.fail)
 | .cap, [x] => (match ts, x with
  | t :: _, .nils => (match C.desc t with | some (.slice _) => M.ret (.int .i64 0) | _ => M.fail)
  | t :: _, .slice _ _ _ c true => (match C.desc t with | some (.slice _) => M.ret (.int .i64 c) | _ => M.fail)
  | _, _ => M.fail)
 | .append, [v, x] => (match ts with
  | [t, u] => appendA C fz t u v x
  | _ => M.fail)
 | .max, x :: r => M.of (match x with | .int .. => minmax true x r | _ => none)
 | .min, x :: r => M.of (match x with | .int .. => minmax false x r | _ => none)
 | _, _ => M.fail
def callA (f : AV) (args : List AV) : M AV :=
 match f with
 | .func f caps => call f (args ++ caps)
 | .yield l => rnd l args
 | _ => M.fail
def isOk : AV -> Bool
 | .ptr .. | .fptr .. | .func .. | .yield _ => true
 | _ => false
def allocA (v : AV) : M AV := (newM (.cells v.cells true 0)).bind fun i => M.ret (.ptr i 0)
def buildA (t : TypeId) (l : List (Nat × AV)) : Option AV :=
 match C.ty.get t with
 | some i => (match i.zero, i.desc with
  | some z, .struct fs => (match fillA (fieldsPlace C fs.toList) z.cells l with | some cs => some (.agg cs) | none => none)
  | some z, .array _ e => (match C.ty.get e with
   | some q => (match fillA (fun i => some (i * q.size, q.size)) z.cells l with | some cs => some (.agg cs) | none => none)
   | none => none)
  | _, _ => none)
 | none => none
def madeOf (q : TI) : Bool := match q.zero with | some z => Nat.beq z.cells.length q.size | none => false
def buildSliceA (fz : Bool) (t : TypeId) (n : Nat) (l : List (Nat × AV)) : M AV :=
 match C.desc t with
 | some (.slice e) => (match C.ty.get e with
  | some q => (match q.zero, Nat.ble (n * q.size) 16777216, madeOf q with
   | some z, true, true => (match fillA (fun i => some (i * q.size, q.size)) (repeatN z.cells n) l with
    | some cs => (match fz, n with
     | true, 0 => M.ret .empty
     | true, n => (match Nat.ble 1 q.size with | true => M.ret (.lst (rowsA q.size n cs)) | false => M.fail)
     | false, n => (newM (.cells cs true q.size)).bind fun i => M.ret (.slice i 0 n n true))
    | none => M.fail)
   | _, _, _ => M.fail)
  | none => M.fail)
 | _ => M.fail
def makeSliceA (t : TypeId) (l c : AV) : M AV :=
 match C.desc t, l, c with
 | some (.slice e), .int .i64 l, .int .i64 c => (match C.ty.get e with
  | some q => (match q.zero, decide (0 <= l), decide (l <= c), Nat.ble (c.toNat * q.bytes) 281474976710656, Nat.ble c.toNat 9223372036854775807 with
   | some z, true, true, true, true => (match madeOf q with | false => M.fail | true => (newM (.cells (repeatN z.cells c.toNat) true q.size)).bind fun i => M.ret (.slice i 0 l.toNat c.toNat true))
   | _, _, _, _, _ => M.fail)
  | none => M.fail)
 | _, _, _ => M.fail
def fieldAddrA (t : TypeId) (f : Nat) (x : AV) : Option AV :=
 match C.desc t, x with
 | some (.struct fs), .ptr b o => (match nth fs.toList f with
  | some fd => (match C.ty.get fd.type with
   | some q => (match Nat.ble 1 q.size with | true => some (.ptr b (o + fd.offset)) | false => none)
   | none => none)
  | none => none)
 | some (.struct fs), .fptr cs o => (match nth fs.toList f with
  | some fd => (match C.ty.get fd.type with
   | some q => (match Nat.ble 1 q.size with | true => some (.fptr cs (o + fd.offset)) | false => none)
   | none => none)
  | none => none)
 | _, _ => none
def fieldA (t : TypeId) (f : Nat) (x : AV) : Option AV :=
 match C.desc t, x with
 | some (.struct fs), .agg cs => (match nth fs.toList f with | some fd => partA C fd.type cs fd.offset | none => none)
 | _, _ => none
def ev1 (T : List AV) (x : Operand) (f : AV -> M AV) : M AV := match evA T x with | some v => f v | none => M.fail
def done (m : M Unit) : M AV := m.bind fun _ => M.ret .undef
def fzOf (c : Option (List Nat)) (d : Option Tmp) : Bool := match c with | none => false | some l => (match d with | some t => (match memN t l with | true => false | false => true) | none => true)
def shutArgs (c : Option (List Nat)) (args : List AV) : List AV := match c with | none => args | some _ => shuts args
def opA (T : List AV) (o : Oper) : M AV :=
 match o.op with
 | .move x => M.of (evA T x)
 | .assign x => M.of (evA T x)
 | .pick c a b => (match evA T c with | some (.bool t) => M.of (evA T (match t with | true => a | false => b)) | _ => M.fail)
 | .alloc t => (match C.ty.get t with | some i => (match i.zero with | some z => allocA z | none => M.fail) | none => M.fail)
 | .box _ x => ev1 T x fun v => (match v.okc with | true => allocA v | false => M.fail)
 | .build t ps => (match partsA T ps.toList with | some l => M.of (buildA C t l) | none => M.fail)
 | .buildSlice t n ps => (match partsA T ps.toList with | some l => buildSliceA C (fzOf C.cur o.dst) t n l | none => M.fail)
 | .load t a => ev1 T a fun v => (match v with | .ptr b o => loadA C t b o | .fptr cs o => M.of (partA C t cs o) | _ => M.fail)
 | .store t a x => ev1 T a fun p => ev1 T x fun v => (match p with | .ptr b o => done (storeA C t b o v) | _ => M.fail)
 | .nilCheck x => ev1 T x fun v => (match isOk v with | true => M.ret v | false => M.fail)
 | .binOp op t x y _ => ev1 T x fun a => ev1 T y fun b => binM C op t a b
 | .unOp op _ x => ev1 T x fun a => M.of (unA op a)
 | .convert a b x => ev1 T x fun v => M.of (convA C a b v)
 | .makeFunc fn first caps => (match fn, first.toList, evs T caps.toList with | .func f, [], some l => M.ret (.func f l) | _, _, _ => M.fail)
 | .makeMap t r => (match r with
  | none => (newM (.map [] false)).bind fun i => M.ret (.map i)
  | some x => ev1 T x fun v => (match v, C.desc t with | .int .., some (.map ..) => (newM (.map [] false)).bind fun i => M.ret (.map i) | _, _ => M.fail))
 | .makeSlice t l c => ev1 T l fun l => ev1 T c fun c => makeSliceA C t l c
 | .slice t x lo hi mx => ev1 T x fun v => (match optA T lo, optA T hi, optA T mx with
  | some l, some h, some m => sliceOp C t v l h m
  | _, _, _ => M.fail)
 | .fieldAddr t x f => ev1 T x fun v => M.of (fieldAddrA C t f v)
 | .field t x f => ev1 T x fun v => M.of (fieldA C t f v)
 | .indexAddr t x i => ev1 T x fun v => ev1 T i fun n => M.of (indexAddrA C t v n)
 | .index t x i => ev1 T x fun v => ev1 T i fun n => M.of (indexA C t v n)
 | .lookup t x k ok => ev1 T x fun v => ev1 T k fun n => lookupA C t v n ok
 | .mapUpdate t m k x => ev1 T m fun m => ev1 T k fun k => ev1 T x fun v => done (updateA C t m k v)
 | .range t x => ev1 T x fun v => rangeA C t v
 | .next it str => ev1 T it fun v => nextA v str
 | .entry it => ev1 T it fun v => entryA v
 | .extract x i => ev1 T x fun v => (match v with | .tuple vs => M.of (nth vs i) | _ => M.fail)
 | .call c => (match evs T c.args.toList with
  | none => M.fail
  | some args => match c.callee with
   | .builtin b => builtinA C (fzOf C.cur o.dst) b c.argTypes.toList args
   | .value f => ev1 T f fun v => callA call rnd v (shutArgs C.cur args)
   | .invoke .. => M.fail)
 | _ => M.fail
def wantedA (ops : List Oper) (T : List AV) (o : Oper) : Bool :=
 match o.guard with
 | none => true
 | some (j, w) => match nth ops j with
  | none => false
  | some g => match g.dst with
   | none => false
   | some d => match nth T d with
    | some (.bool b) => (match b with | true => w | false => notB w)
    | _ => false
def runOps (ops : List Oper) (l : List Oper) : List AV -> M (List AV) :=
 List.rec (motive := fun _ => List AV -> M (List AV)) (fun T => M.ret T)
  (fun o _ ih T => match wantedA ops T o with
   | true => (opA C call rnd T o).bind fun v => ih (putT T o.dst v)
   | false => ih (putT T o.dst .undef)) l
def solid (e : Edge) : Bool := match e.ground with
 | .textOnly _ | .gcOnly _ => false
 | _ => true
def addN (n : Nat) (l : List Nat) : List Nat := match memN n l with | true => l | false => n :: l
def addAll : List Nat -> List Nat -> List Nat
 | [], l => l
 | n :: r, l => addN n (addAll r l)
def predsOf (before : List (List Nat)) : List Edge -> List Nat
 | [] => []
 | e :: r => match solid e with
  | true => addN e.on (addAll ((nth before e.on).getD []) (predsOf before r))
  | false => predsOf before r
def predsAll (acc : List (List Nat)) : List Oper -> List (List Nat)
 | [] => acc
 | o :: r => predsAll (acc ++ [predsOf acc o.after.toList]) r
def overlay (H : Heap) (ps : List Nat) (i : Nat) : List Delta -> Heap
 | [] => H
 | d :: r => match d with
  | [] => overlay H ps (i + 1) r
  | _ => overlay (match memN i ps with | true => redoH H d | false => H) ps (i + 1) r
def isPre : Nm -> Nm -> Bool
 | [], _ => true
 | a :: x, b :: y => match Nat.beq a b with | true => isPre x y | false => false
 | _ :: _, [] => false
def oldIds (ns : Nm) : Delta -> List Nm
 | [] => []
 | (i, _) :: r => match isPre ns i with | true => oldIds ns r | false => i :: oldIds ns r
def opSt (s : St) (i : Nat) (H : Heap) : St := ⟨H, 0, s.pre ++ [s.n, i], true, []⟩
def one (t : Tr (AV × St)) : Option (AV × Delta) := match t with | .ret x => some (x.1, x.2.j) | _ => none
def drawPass (ops : List Oper) (s : St) (before : List (List Nat)) (i : Nat) (l : List Oper) (T vs : List AV) (ds : List Delta) : Option (List AV × List Delta) :=
 match l with
 | [] => some (vs, ds)
 | o :: r => match wantedA ops T o with
  | true => (match one (opA C call rnd T o (opSt s i (overlay s.H ((nth before i).getD []) 0 ds))) with
   | some x => drawPass ops s before (i + 1) r (putT T o.dst x.1) (vs ++ [x.1]) (ds ++ [x.2])
   | none => none)
  | false => drawPass ops s before (i + 1) r (putT T o.dst .undef) (vs ++ [.undef]) (ds ++ [[]])
def putsT : List Oper -> List AV -> List AV -> List AV
 | o :: r, v :: vs, T => putsT r vs (putT T o.dst v)
 | _, _, T => T
def allNil {α : Type} : List (List α) -> Bool
 | [] => true
 | x :: r => match x with | [] => allNil r | _ => false
def hide (H : Heap) : List Nm -> Heap
 | [] => H
 | i :: r => hide (hdel H i) r
def rivals (before : List (List Nat)) (i k : Nat) : List (List Nm) -> List Nm
 | [] => []
 | w :: r => match w with
  | [] => rivals before i (k + 1) r
  | _ => (match Nat.beq i k, memN k ((nth before i).getD []), memN i ((nth before k).getD []) with | false, false, false => w | _, _, _ => []) ++ rivals before i (k + 1) r
def isRet {α : Type} : Tr α -> Bool
 | .ret _ => true
 | _ => false
def drawCheck (ops : List Oper) (s : St) (before : List (List Nat)) (ds : List Delta) (ws : List (List Nm)) (T : List AV) (i : Nat) : List Oper -> List AV -> Bool
 | o :: r, v :: vs => match rivals before i 0 ws with
  | [] => drawCheck ops s before ds ws (putT T o.dst v) (i + 1) r vs
  | x => match wantedA ops T o with
   | true => (match isRet (opA C call rnd T o (opSt s i (hide (overlay s.H ((nth before i).getD []) 0 ds) x))) with
    | true => drawCheck ops s before ds ws (putT T o.dst v) (i + 1) r vs
    | false => false)
   | false => drawCheck ops s before ds ws (putT T o.dst v) (i + 1) r vs
 | [], _ => true
 | _ :: _, [] => false
def olds (s : St) (i : Nat) : List Delta -> List (List Nm)
 | [] => []
 | d :: r => oldIds (s.pre ++ [s.n, i]) d :: olds s (i + 1) r
def allD : List Delta -> Delta
 | [] => []
 | d :: r => allD r ++ d
def drawEnd (s : St) (D : Delta) : St := ⟨redoH s.H D, s.n + 1, s.pre, s.jr, match s.jr with | true => D ++ s.j | false => s.j⟩
def drawA (ops : List Oper) (T : List AV) : M (List AV) := fun s =>
 match drawPass C call rnd ops s (predsAll [] ops) 0 ops T [] [] with
 | none => .fail
 | some x => match allNil (olds s 0 x.2) with
  | true => .ret (putsT ops x.1 T, drawEnd s (allD x.2))
  | false => match drawCheck C call rnd ops s (predsAll [] ops) x.2 (olds s 0 x.2) T 0 ops x.1 with
   | true => .ret (putsT ops x.1 T, drawEnd s (allD x.2))
   | false => .fail
def subN : List Nat -> List Nat -> Bool
 | [], _ => true
 | n :: r, l => match memN n l with | true => subN r l | false => false
def ordAll (before : List (List Nat)) (k : Nat) : Nat -> Bool
 | 0 => true
 | i + 1 => match Nat.beq i k, memN i ((nth before k).getD []), memN k ((nth before i).getD []) with
  | false, false, false => false
  | _, _, _ => ordAll before k i
def ordEach (before : List (List Nat)) (n : Nat) : List Nat -> Bool
 | [] => true
 | k :: r => match ordAll before k n with | true => ordEach before n r | false => false
def drawFP (ops : List Oper) (s : St) (before : List (List Nat)) (i : Nat) (l : List Oper) (T : List AV) (Hc : Heap) (nz : List Nat) (D : Delta) (W : List Nat) : Option (List AV × Delta × List Nat) :=
 match l with
 | [] => some (T, D, W)
 | o :: r => match wantedA ops T o with
  | true => (match subN nz ((nth before i).getD []) with
   | true => (match one (opA C call rnd T o (opSt s i Hc)) with
    | some x => (match x.2 with
     | [] => drawFP ops s before (i + 1) r (putT T o.dst x.1) Hc nz D W
     | d => drawFP ops s before (i + 1) r (putT T o.dst x.1) (redoH Hc d) (i :: nz) (d ++ D) (match oldIds (s.pre ++ [s.n, i]) d with | [] => W | _ => i :: W))
    | none => none)
   | false => none)
  | false => drawFP ops s before (i + 1) r (putT T o.dst .undef) Hc nz D W
def drawF (ops : List Oper) (T : List AV) : M (List AV) := fun s =>
 match drawFP C call rnd ops s (predsAll [] ops) 0 ops T s.H [] [] [] with
 | none => drawA C call rnd ops T s
 | some x => match ordEach (predsAll [] ops) ops.length x.2.2 with
  | true => .ret (x.1, drawEnd s x.2.1)
  | false => drawA C call rnd ops T s
inductive AExit where
 | normal
 | exit (id : Nat)
 | ret
abbrev X := AExit × List AV
def iter (K : Nat) (body : List AV -> M X) : List AV -> M X :=
 Nat.rec (motive := fun _ => List AV -> M X) (fun _ => M.fail)
  (fun _ ih T => (body T).bind fun x => match x.1 with
   | .normal => ih x.2
   | e => M.ret (e, x.2)) K
def jumpOf : AExit -> Option Code
 | .normal => none
 | .exit i => some (.exit i)
 | .ret => some .ret
def exitOf : Option Code -> Option AExit
 | none => some .normal
 | some (.exit i) => some (.exit i)
 | some .ret => some .ret
 | _ => none
def thenA (m : M X) (f : List AV -> M X) : M X := m.bind fun x => match x.1 with
 | .normal => f x.2
 | e => M.ret (e, x.2)
def blockA (id : Nat) (m : M X) : M X := m.bind fun x => match x.1 with
 | .exit i => (match Nat.beq i id with | true => M.ret (.normal, x.2) | false => M.ret (.exit i, x.2))
 | e => M.ret (e, x.2)
def rangeFuncA (f : AV) (ps : List Nat) (assign body : Code) (T : List AV) : M X :=
 (newM (.loop T ps assign body .ready none)).bind fun l => (match f with | .func g caps => call g (.yield l :: caps) | _ => M.fail).bind fun _ => (getM l).bind fun y => match y with
  | .loop T' ps' a' b' st pend => (match st, exitOf pend with
   | .busy, _ => M.fail
   | _, some e => (putM l (.loop T' ps' a' b' .exhausted pend)).bind fun _ => M.ret (e, T)
   | _, none => M.fail)
  | _ => M.fail
def exec (K : Nat) (c : Code) : List AV -> M X :=
 Code.rec (motive := fun _ => List AV -> M X)
  (skip := fun T => M.ret (.normal, T))
  (region := fun _ ops draw T => (match draw with | true => drawF C call rnd ops.toList T | false => runOps C call rnd ops.toList ops.toList T).bind fun T' => M.ret (.normal, T'))
  (seq := fun _ _ ia ib T => thenA (ia T) ib)
  (cond := fun c _ _ ia ib T => match evA T c with
   | some (.bool b) => (match b with | true => ia T | false => ib T)
   | _ => M.fail)
  (block := fun id _ ih T => blockA id (ih T))
  (loop := fun _ ih T => iter K ih T)
  (rangeFunc := fun f ps assign body _ _ T => match evA T f with
   | some fv => rangeFuncA call fv ps.toList assign body T
   | none => M.fail)
  (exit := fun i T => M.ret (.exit i, T))
  (scope := fun _ _ _ => M.fail)
  (label := fun _ _ => M.fail)
  (goto := fun _ _ => M.fail)
  (ret := fun T => M.ret (.ret, T))
  (refuse := fun _ _ => M.fail) c
def resultsA (T : List AV) : List ResultVar -> M (List AV)
 | [] => M.ret []
 | .tmp t :: r => (match nth T t with | some v => (resultsA T r).bind fun l => M.ret (v :: l) | none => M.fail)
 | .cell a t :: r => (match nth T a with
  | some (.ptr b o) => (loadA C t b o).bind fun v => (resultsA T r).bind fun l => M.ret (v :: l)
  | _ => M.fail)
def pack (l : List AV) : AV :=
 match l with
 | [v] => v
 | l => .tuple l
def undefs : Nat -> List AV
 | 0 => []
 | n + 1 => .undef :: undefs n
def bodyA (K : Nat) (fn : Func) (args : List AV) : M AV :=
 match fn.body with
 | none => M.fail
 | some c => (exec C call rnd K c (args ++ undefs (fn.ntmps - args.length))).bind fun x => match x.1 with
  | .exit _ => M.fail
  | _ => (resultsA C x.2 fn.results.toList).bind fun vs => M.ret (pack vs)
def setAll (T : List AV) : List Nat -> List AV -> Option (List AV)
 | [], [] => some T
 | p :: ps, v :: vs => setAll (setNth T p v) ps vs
 | _, _ => none
def upto (n : Nat) (p : Nat -> Bool) : Bool := match n with | 0 => true | n + 1 => match p n with | true => upto n p | false => false
mutual
def eqF : AV -> AV -> Bool
 | .int k n, w => (match w with | .int k' m => (match decide (k = k') with | true => decide (n = m) | false => false) | _ => false)
 | .bool a, w => (match w with | .bool b => (match a, b with | true, true | false, false => true | _, _ => false) | _ => false)
 | .str a, w => (match w with | .str b => a == b | _ => false)
 | .nilp, w => (match w with | .nilp => true | _ => false)
 | .nils, w => (match w with | .nils => true | _ => false)
 | .nilm, w => (match w with | .nilm => true | _ => false)
 | .empty, w => (match w with | .empty => true | _ => false)
 | .lst l, w => (match w with | .lst m => eqFs l m | _ => false)
 | .fptr cs o, w => (match w with | .fptr ds o' => (match Nat.beq o o' with | true => eqFs cs ds | false => false) | _ => false)
 | .nilf, w => (match w with | .nilf => true | _ => false)
 | .nili, w => (match w with | .nili => true | _ => false)
 | .undef, w => (match w with | .undef => true | _ => false)
 | .func f cs, w => (match w with | .func g ds => (match Nat.beq f g with | true => eqFs cs ds | false => false) | _ => false)
 | .agg cs, w => (match w with | .agg ds => eqFs cs ds | _ => false)
 | .tuple cs, w => (match w with | .tuple ds => eqFs cs ds | _ => false)
 | .ptr _ _, _ | .slice .., _ | .own .., _ | .map _, _ | .yield _, _ => false
def eqFs : List AV -> List AV -> Bool
 | [], l => (match l with | [] => true | _ => false)
 | a :: r, l => (match l with | b :: q => (match eqF a b with | true => eqFs r q | false => false) | [] => false)
end
def isV (v : AV) : Option AV -> Bool
 | some w => eqF v w
 | none => false
section
variable (row : List AV -> Option (List AV)) (H : Heap)
mutual
def freezeG : AV -> Option AV
 | .own _ l => some (.lst l)
 | .nils => some (.lst [])
 | .empty => some (.lst [])
 | .agg cs => (match freezeGs cs with | some l => some (.agg l) | none => none)
 | .tuple cs => (match freezeGs cs with | some l => some (.tuple l) | none => none)
 | .slice b o n _ _ => (match n with
  | 0 => some (.lst [])
  | n => (match hget H b with
   | some (.cells cs true u) => (match Nat.ble 1 u, readN cs o (n * u) with
    | true, some l => (match row l with | some l => some (.lst (rowsA u n l)) | none => none)
    | _, _ => none)
   | _ => none))
 | v => some v
def freezeGs : List AV -> Option (List AV)
 | [] => some []
 | v :: r => match freezeG v with | some a => (match freezeGs r with | some l => some (a :: l) | none => none) | none => none
end
end
def freezeD (H : Heap) : Nat -> List AV -> Option (List AV)
 | 0 => fun _ => none
 | d + 1 => freezeGs (freezeD H d) H
def frozen (H : Heap) (v : AV) : Option AV := match freezeG (freezeD H 6) H v with | some v => (match v.flat with | true => some v | false => none) | none => none
def collapse : Tr (AV × St) -> Option AV
 | .fail => none
 | .ret x => frozen x.2.H x.1
 | .ask n k => match collapse (k 0) with
  | some v => (match n with
   | 0 => none
   | _ => (match upto n fun i => isV v (collapse (k i)) with | true => some v | false => none))
  | none => none
mutual
def namesV (op : Bool) : AV -> List Nm -> List Nm
 | .ptr b _, a => b :: a
 | .slice b _ _ _ _, a => b :: a
 | .own b _, a => (match op with | true => b :: a | false => a)
 | .map b, a => b :: a
 | .func _ caps, a => namesVs op caps a
 | .agg cs, a => namesVs op cs a
 | .tuple cs, a => namesVs op cs a
 | _, a => a
def namesVs (op : Bool) : List AV -> List Nm -> List Nm
 | [], a => a
 | v :: r, a => namesV op v (namesVs op r a)
end
def namesB (op : Bool) : Blk -> List Nm -> List Nm
 | .cells cs _ _, a => namesVs op cs a
 | _, a => a
def namesBs (op : Bool) : List Blk -> List Nm -> List Nm
 | [], a => a
 | x :: r, a => namesB op x (namesBs op r a)
def memNm (b : Nm) : List Nm -> Bool
 | [] => false
 | c :: r => match eqb b c with | true => true | false => memNm b r
def lookN (b : Nm) : List (Nm × Nm) -> Option Nm
 | [] => none
 | c :: r => match eqb b c.1 with | true => some c.2 | false => lookN b r
mutual
def renV (mp : List (Nm × Nm)) : AV -> Option AV
 | .ptr b o => (match lookN b mp with | some c => some (.ptr c o) | none => none)
 | .slice b o n c ex => (match lookN b mp with | some d => some (.slice d o n c ex) | none => none)
 | .map b => (match lookN b mp with | some c => some (.map c) | none => none)
 | .own b l => (match flats l with | true => (match lookN b mp with | some c => some (.own c l) | none => some (.lst l)) | false => none)
 | .lst l => (match flats l with | true => some (.lst l) | false => none)
 | .fptr cs o => (match flats cs with | true => some (.fptr cs o) | false => none)
 | .yield _ => none
 | .func f caps => (match renVs mp caps with | some l => some (.func f l) | none => none)
 | .agg cs => (match renVs mp cs with | some l => some (.agg l) | none => none)
 | .tuple cs => (match renVs mp cs with | some l => some (.tuple l) | none => none)
 | v => some v
def renVs (mp : List (Nm × Nm)) : List AV -> Option (List AV)
 | [] => some []
 | v :: r => match renV mp v with | some a => (match renVs mp r with | some l => some (a :: l) | none => none) | none => none
end
def flatE : List (AV × AV) -> Bool
 | [] => true
 | e :: r => match e.1.flat, e.2.flat with | true, true => flatE r | _, _ => false
def renB (mp : List (Nm × Nm)) : Blk -> Option Blk
 | .cells cs true u => (match renVs mp cs with | some l => some (.cells l true u) | none => none)
 | .tok n z => some (.tok n z)
 | .map es fz => (match flatE es with | true => some (.map es fz) | false => none)
 | _ => none
def renBs (mp : List (Nm × Nm)) : List Blk -> Option (List Blk)
 | [] => some []
 | x :: r => match renB mp x with | some a => (match renBs mp r with | some l => some (a :: l) | none => none) | none => none
def calm : List Blk -> Bool
 | [] => true
 | x :: r => match x with | .map _ true => false | _ => calm r
def lendM : Nat -> List Nm -> List Nm -> List Blk -> M (List Nm × List Blk)
 | 0, _, _, _ => M.fail
 | k + 1, l, bs, xs => match l with
  | [] => M.ret (bs, xs)
  | b :: r => (match memNm b bs with
   | true => lendM k r bs xs
   | false => (getM b).bind fun x => lendM k (namesB false x r) (bs ++ [b]) (xs ++ [x]))
def reachL (H : Heap) : Nat -> List Nm -> List Nm -> List Blk -> Option (List Nm × List Blk)
 | 0, _, _, _ => none
 | k + 1, l, bs, xs => match l with
  | [] => some (bs, xs)
  | b :: r => (match memNm b bs with
   | true => reachL H k r bs xs
   | false => (match hget H b with
    | some x => reachL H k (namesB true x r) (bs ++ [b]) (xs ++ [x])
    | none => reachL H k r bs xs))
def nodupN : List Nm -> Bool
 | [] => true
 | b :: r => match memNm b r with | true => false | false => nodupN r
def namesFrom (p : Nm) (n : Nat) : Nat -> List Nm
 | 0 => []
 | k + 1 => (p ++ [n]) :: namesFrom p (n + 1) k
def zipN : List Nm -> List Nm -> List (Nm × Nm)
 | a :: r, b :: q => (a, b) :: zipN r q
 | _, _ => []
def zipB : List Nm -> List Blk -> Heap
 | a :: r, b :: q => (a, b) :: zipB r q
 | _, _ => []
def getAll (H : Heap) : List Nm -> Option (List Blk)
 | [] => some []
 | b :: r => match hget H b with | some x => (match getAll H r with | some l => some (x :: l) | none => none) | none => none
def nameM : M (Nm × Nat) := fun s => .ret ((s.pre, s.n), s)
def putAll : List Nm -> List Blk -> M Unit
 | b :: r, x :: q => (putM b x).bind fun _ => putAll r q
 | [], [] => M.ret ()
 | _, _ => M.fail
def newAll : List Blk -> M Unit
 | [] => M.ret ()
 | x :: r => (newM x).bind fun _ => newAll r
def shutIf (sh : Bool) (v : AV) : AV := match sh with | true => v.shut | false => v
def oneR (sh : Bool) (t : Tr (AV × St)) : Option (AV × Heap) := match t with
 | .ret x => some (shutIf sh x.1, x.2.H)
 | t => match collapse t with | some v => some (v, []) | none => none
def handA (sh : Bool) (body : List AV -> M AV) (args : List AV) : M AV :=
 (lendM 200 (namesVs false args []) [] []).bind fun bl =>
  match nodupN bl.1, calm bl.2, renVs (zipN bl.1 (namesFrom [] 0 bl.1.length)) args, renBs (zipN bl.1 (namesFrom [] 0 bl.1.length)) bl.2 with
  | true, true, some args', some xs => (match oneR sh (body args' ⟨zipB (namesFrom [] 0 bl.1.length) xs, bl.1.length, [], false, []⟩) with
   | some x => (match getAll x.2 (namesFrom [] 0 bl.1.length) with
    | some ys => (match reachL x.2 200 (namesV true x.1 (namesBs true ys [])) (namesFrom [] 0 bl.1.length) [] with
     | some ns => (match nodupN ns.1 with
      | true => nameM.bind fun p =>
       (match renV (zipN ns.1 (bl.1 ++ namesFrom p.1 p.2 ns.2.length)) x.1, renBs (zipN ns.1 (bl.1 ++ namesFrom p.1 p.2 ns.2.length)) ys, renBs (zipN ns.1 (bl.1 ++ namesFrom p.1 p.2 ns.2.length)) ns.2 with
       | some v, some ys', some zs => (putAll bl.1 ys').bind fun _ => (newAll zs).bind fun _ => M.ret v
       | _, _, _ => M.fail)
      | false => M.fail)
     | none => M.fail)
    | none => M.fail)
   | none => M.fail)
  | _, _, _, _ => M.fail
def iceB (b : Nm) : M Unit := (getM b).bind fun x => match x with
 | .cells cs rw u => (match rw with | true => putM b (.cells cs false u) | false => M.ret ())
 | _ => M.fail
def iceAll : List Nm -> M Unit
 | [] => M.ret ()
 | b :: r => (iceB b).bind fun _ => iceAll r
section
variable (row : List AV -> Option (List AV)) (H : Heap)
mutual
def iceG : AV -> Option AV
 | .own _ l => some (.lst l)
 | .nils => some (.lst [])
 | .empty => some (.lst [])
 | .agg cs => (match iceGs cs with | some l => some (.agg l) | none => none)
 | .slice b o n _ _ => (match n with
  | 0 => some (.lst [])
  | n => (match hget H b with
   | some (.cells cs _ u) => (match Nat.ble 1 u, readN cs o (n * u) with
    | true, some l => (match row l with | some l => some (.lst (rowsA u n l)) | none => none)
    | _, _ => none)
   | _ => none))
 | v => some v
def iceGs : List AV -> Option (List AV)
 | [] => some []
 | v :: r => match iceG v with | some a => (match iceGs r with | some l => some (a :: l) | none => none) | none => none
end
end
def iceD (H : Heap) : Nat -> List AV -> Option (List AV)
 | 0 => fun _ => none
 | d + 1 => iceGs (iceD H d) H
def iceA (args : List AV) : M (List AV) := (lendM 200 (namesVs false args []) [] []).bind fun bl => (iceAll bl.1).bind fun _ =>
 match iceGs (iceD (zipB bl.1 bl.2) 6) (zipB bl.1 bl.2) args with
 | some l => (match flats l with | true => M.ret l | false => M.fail)
 | none => M.fail
def roundA (K : Nat) (l : Nm) (args : List AV) : M AV := (getM l).bind fun x => match x with
 | .loop T ps a b _ _ => (match setAll T ps args with
  | none => M.fail
  | some T' => (exec C call rnd K a T').bind fun x => match x.1 with
   | .normal => (getM l).bind fun y => match y with
    | .loop T1 ps1 a1 b1 st1 pend1 => (match st1 with
     | .ready => (putM l (.loop T1 ps1 a1 b1 .busy pend1)).bind fun _ => (exec C call rnd K b x.2).bind fun z => (getM l).bind fun u => match u with
      | .loop T2 ps2 a2 b2 _ _ => (match jumpOf z.1 with
       | none => (putM l (.loop T2 ps2 a2 b2 .ready none)).bind fun _ => M.ret (.bool true)
       | some j => (putM l (.loop T2 ps2 a2 b2 .done (some j))).bind fun _ => M.ret (.bool false))
      | _ => M.fail
     | _ => M.fail)
    | _ => M.fail
   | _ => M.fail)
 | _ => M.fail
def enterA (K : Nat) (f : FuncId) (args : List AV) : M AV :=
 match C.fn.get f with
 | none => M.fail
 | some fn => match C.mode.get f with
  | some 1 => (match flats (shuts args) with
   | true => M.of (collapse (bodyA (C.at f) call rnd K fn (shuts args) ⟨[], 0, [], false, []⟩))
   | false => (iceA args).bind fun as' => M.of (collapse (bodyA (C.at f) call rnd K fn as' ⟨[], 0, [], false, []⟩)))
  | some 3 => handA false (fun args s => bodyA (C.at f) call rnd K fn args s) args
  | some 4 => handA true (fun args s => bodyA (C.at f) call rnd K fn args s) args
  | _ => bodyA (C.at f) call rnd K fn args
end step
section mach
variable (C : Cfg)
def mach (K : Nat) : (FuncId -> List AV -> M AV) × (Nm -> List AV -> M AV) :=
 Nat.rec (motive := fun _ => (FuncId -> List AV -> M AV) × (Nm -> List AV -> M AV)) (fun _ _ => M.fail, fun _ _ => M.fail)
  (fun k ih => (enterA C ih.1 ih.2 (k + 1), roundA C ih.1 ih.2 (k + 1))) K
def acall (K : Nat) : FuncId -> List AV -> M AV := (mach C K).1
def around (K : Nat) : Nm -> List AV -> M AV := (mach C K).2
theorem Zu (K : Nat) : acall C (K + 1) = enterA C (acall C K) (around C K) (K + 1) := rfl
theorem Z12 (K : Nat) : around C (K + 1) = roundA C (acall C K) (around C K) (K + 1) := rfl
end mach
end
end Go.Am
namespace Go.Am
open Go
noncomputable section
def opReads : Op -> List Operand
 | .move x | .assign x | .box _ x | .load _ x | .nilCheck x | .unOp _ _ x | .convert _ _ x | .fieldAddr _ x _ | .field _ x _ | .range _ x | .next x _ | .entry x | .extract x _ => [x]
 | .pick c a b => [c, a, b]
 | .build _ ps | .buildSlice _ _ ps => ps.toList.map (·.2)
 | .store _ a v | .binOp _ _ a v _ | .makeSlice _ a v | .indexAddr _ a v | .index _ a v | .lookup _ a v _ => [a, v]
 | .makeFunc _ _ captured => captured.toList
 | .makeMap _ r => r.toList
 | .slice _ x l h m => x :: (l.toList ++ (h.toList ++ m.toList))
 | .mapUpdate _ m k v => [m, k, v]
 | .call c => match c.callee with
  | .value f => f :: c.args.toList
  | _ => c.args.toList
 | _ => []
def tmpsOf : List Operand -> List Nat
 | [] => []
 | x :: r => match x with
  | .tmp t => t :: tmpsOf r
  | _ => tmpsOf r
def guardTmp (ops : List Oper) (o : Oper) : List Nat :=
 match o.guard with
 | none => []
 | some (j, _) => match nth ops j with
  | none => []
  | some g => match g.dst with
   | none => []
   | some d => [d]
def looksL (ops : List Oper) (o : Oper) : List Nat := tmpsOf (opReads o.op) ++ guardTmp ops o
def isDst (d : Nat) : Option Tmp -> Bool
 | none => false
 | some t => Nat.beq d t
def pre (before : List (List Nat)) (i : Nat) : List Nat := (nth before i).getD []
def notB' : Bool -> Bool
 | true => false
 | false => true
def orB : Bool -> Bool -> Bool
 | true, _ => true
 | false, b => b
def regOk1 (ops : List Oper) (B : List (List Nat)) (p look : List Nat) (x : Oper × Nat) : Bool :=
 (x.1.after.toList.all fun e => orB (notB' (solid e)) (Nat.blt e.on x.2)) &&
 (ops.zipIdx.all fun y => match y.1.dst with
  | none => true
  | some d => orB (notB' (orB (isDst d x.1.dst) (memN d look))) (orB (Nat.beq y.2 x.2) (orB (notB' (isDst d x.1.dst)) false && orB (memN y.2 p) (memN x.2 (pre B y.2)))))
def regOk (ops : List Oper) : Bool := (ops.zipIdx).all fun x => regOk1 ops (predsAll [] ops) (pre (predsAll [] ops) x.2) (looksL ops x.1) x
def andB : Bool -> Bool -> Bool
 | true, b => b
 | false, _ => false
def codeOk (c : Code) : Bool -> Bool :=
 Code.rec (motive := fun _ => Bool -> Bool) (skip := fun _ => true) (region := fun _ ops d _ => match d with | true => regOk ops.toList | false => true) (seq := fun _ _ a b r => andB (a r) (b r))
  (cond := fun _ _ _ a b r => andB (a r) (b r)) (block := fun _ _ a r => a r) (loop := fun _ a r => a r) (rangeFunc := fun _ _ _ _ a b r => match r with | true => false | false => andB (a true) (b true))
  (exit := fun _ _ => true) (scope := fun _ _ _ => false) (label := fun _ _ => false) (goto := fun _ _ => false) (ret := fun _ => true) (refuse := fun _ _ => false) c
end
end Go.Am
namespace Go.Am
open Go
theorem Xd (x y : Nm) : eqb x y = true ↔ x = y := by
 induction x generalizing y with
 | nil => cases y <;> simp [eqb]
 | cons a x ih =>
  cases y with
  | nil => simp [eqb]
  | cons b y =>
   show (match Nat.beq a b with | true => eqb x y | false => false) = true ↔ _
   cases h : Nat.beq a b with
   | true => simp only [ih]; rw [Nat.beq_eq] at h; subst h; simp
   | false =>
    have hne : a ≠ b := fun e => by subst e; simp at h
    simp [hne]
theorem Ze (x : Nm) : eqb x x = true := (Xd x x).2 rfl
theorem Yy {x y : Nm} (h : x ≠ y) : eqb x y = false := by
 cases e : eqb x y with
 | true => exact absurd ((Xd x y).1 e) h
 | false => rfl
@[simp] theorem Z5q (j : Nm) : hget [] j = none := rfl
theorem Z6 (i : Nm) (b : Blk) (H : Heap) : hget ((i, b) :: H) i = some b := by
 show (match eqb i i with | true => some b | false => hget H i) = _
 rw [Ze]
theorem Z1 {i j : Nm} (b : Blk) (H : Heap) (h : i ≠ j) : hget ((i, b) :: H) j = hget H j := by
 show (match eqb i j with | true => some b | false => hget H j) = _
 rw [Yy h]
theorem Z4 {H : Heap} {i : Nm} {x : Blk} (b : Blk) (h : hget H i = some x) : hget (hset H i b) i = some b := by
 induction H with
 | nil => simp at h
 | cons y t ih =>
  obtain ⟨k, c⟩ := y
  by_cases e : k = i
  ·subst e
   show hget (match eqb k k with | true => (k, b) :: t | false => (k, c) :: hset t k b) k = _
   rw [Ze]; exact Z6 ..
  ·rw [Z1 _ _ e] at h
   show hget (match eqb k i with | true => (k, b) :: t | false => (k, c) :: hset t i b) i = _
   rw [Yy e]; simp only; rw [Z1 _ _ e]; exact ih h
theorem Z0 (H : Heap) {i j : Nm} (b : Blk) (h : i ≠ j) : hget (hset H i b) j = hget H j := by
 induction H with
 | nil => rfl
 | cons y t ih =>
  obtain ⟨k, c⟩ := y
  show hget (match eqb k i with | true => (k, b) :: t | false => (k, c) :: hset t i b) j = _
  by_cases e : k = i
  ·subst e; rw [Ze]; simp only; rw [Z1 _ _ h, Z1 _ _ h]
  ·rw [Yy e]; simp only
   by_cases e2 : k = j
   ·subst e2; rw [Z6, Z6]
   ·rw [Z1 _ _ e2, Z1 _ _ e2, ih]
theorem Zn (H : Heap) (i : Nm) : hget (hdel H i) i = none := by
 induction H with
 | nil => rfl
 | cons y t ih =>
  obtain ⟨k, c⟩ := y
  show hget (match eqb k i with | true => hdel t i | false => (k, c) :: hdel t i) i = _
  by_cases e : k = i
  ·subst e; rw [Ze]; exact ih
  ·rw [Yy e]; simp only; rw [Z1 _ _ e, ih]
theorem Zc (H : Heap) {i j : Nm} (h : i ≠ j) : hget (hdel H i) j = hget H j := by
 induction H with
 | nil => rfl
 | cons y t ih =>
  obtain ⟨k, c⟩ := y
  show hget (match eqb k i with | true => hdel t i | false => (k, c) :: hdel t i) j = _
  by_cases e : k = i
  ·subst e; rw [Ze]; simp only; rw [ih, Z1 _ _ h]
  ·rw [Yy e]; simp only
   by_cases e2 : k = j
   ·subst e2; rw [Z6, Z6]
   ·rw [Z1 _ _ e2, Z1 _ _ e2, ih]
@[simp] theorem Zfo {α : Type} (n : Nat) : nth ([] : List α) n = none := by cases n <;> rfl
@[simp] theorem Yg {α : Type} (a : α) (l : List α) : nth (a :: l) 0 = some a := rfl
@[simp] theorem Zv {α : Type} (a : α) (l : List α) (n : Nat) : nth (a :: l) (n + 1) = nth l n := rfl
theorem Zm {α : Type} (l : List α) (n : Nat) : nth l n = l[n]? := by
 induction l generalizing n with
 | nil => simp
 | cons a l ih => cases n with
  | zero => rfl
  | succ n => simp [ih]
@[simp] theorem Zbr {α : Type} (n : Nat) (x : α) : setNth [] n x = [] := rfl
@[simp] theorem Jk {α : Type} (a : α) (l : List α) (x : α) : setNth (a :: l) 0 x = x :: l := rfl
@[simp] theorem Jl {α : Type} (a : α) (l : List α) (n : Nat) (x : α) : setNth (a :: l) (n + 1) x = a :: setNth l n x := rfl
theorem Y7 {α : Type} (l : List α) (n : Nat) (x : α) : setNth l n x = l.set n x := by
 induction l generalizing n with
 | nil => simp
 | cons a l ih => cases n with
  | zero => rfl
  | succ n => simp [ih]
theorem Xe {α : Type} (l : List α) (n : Nat) (x : α) : (setNth l n x).length = l.length := by rw [Y7]; simp
def Tr.All {α : Type} (Q : α -> Prop) : Tr α -> Prop
 | .fail => False
 | .ret a => Q a
 | .ask n k => ∀ i, i < n -> (k i).All Q
@[simp] theorem Tr.all_fail {α : Type} (Q : α -> Prop) : (Tr.fail : Tr α).All Q = False := rfl
@[simp] theorem Tr.all_ret {α : Type} (Q : α -> Prop) (a : α) : (Tr.ret a).All Q = Q a := rfl
@[simp] theorem Tr.all_ask {α : Type} (Q : α -> Prop) (n : Nat) (k : Nat -> Tr α) : (Tr.ask n k).All Q = ∀ i, i < n -> (k i).All Q := rfl
@[simp] theorem Tr.bind_fail {α β : Type} (f : α -> Tr β) : (Tr.fail : Tr α).bind f = .fail := rfl
@[simp] theorem Tr.bind_ret {α β : Type} (a : α) (f : α -> Tr β) : (Tr.ret a).bind f = f a := rfl
@[simp] theorem Tr.bind_ask {α β : Type} (n : Nat) (k : Nat -> Tr α) (f : α -> Tr β) : (Tr.ask n k).bind f = .ask n fun i => (k i).bind f := rfl
theorem Tr.all_bind {α β : Type} (Q : β -> Prop) (f : α -> Tr β) (t : Tr α) : (t.bind f).All Q ↔ t.All fun a => (f a).All Q := by
 induction t with
 | fail => simp
 | ret a => simp
 | ask n k ih => simp only [bind_ask, all_ask]; exact forall_congr' fun i => forall_congr' fun _ => ih i
theorem Tr.All.mono {α : Type} {Q Q' : α -> Prop} {t : Tr α} (h : t.All Q) (hq : ∀ a, Q a -> Q' a) : t.All Q' := by
 induction t with
 | fail => exact h
 | ret a => exact hq _ h
 | ask n k ih => exact fun i hi => ih i (h i hi)
theorem M.all_bind {α β : Type} (Q : β × St -> Prop) (m : M α) (f : α -> M β) (s : St) : (M.bind m f s).All Q ↔ (m s).All fun x => (f x.1 x.2).All Q := Tr.all_bind _ _ _
@[simp] theorem M.all_ret {α : Type} (Q : α × St -> Prop) (a : α) (s : St) : (M.ret a s).All Q = Q (a, s) := rfl
@[simp] theorem M.all_fail {α : Type} (Q : α × St -> Prop) (s : St) : ((M.fail : M α) s).All Q = False := rfl
theorem M.all_of {α : Type} (Q : α × St -> Prop) (o : Option α) (s : St) : (M.of o s).All Q ↔ ∃ a, o = some a /\ Q (a, s) := by
 cases o <;> simp [M.of]
theorem Zo (Q : Blk × St -> Prop) (i : Nm) (s : St) : (getM i s).All Q ↔ ∃ b, hget s.H i = some b /\ Q (b, s) := by
 unfold getM; cases hget s.H i <;> simp
theorem Z5r (Q : Nm × St -> Prop) (x : Blk) (s : St) : (newM x s).All Q ↔ Q (s.name, s.new x) := Iff.rfl
theorem Y1 (Q : Unit × St -> Prop) (i : Nm) (x : Blk) (s : St) : (putM i x s).All Q ↔ (∃ b, hget s.H i = some b) /\ Q ((), s.put i x) := by
 unfold putM; cases hget s.H i <;> simp
theorem Z5s (Q : Unit × St -> Prop) (i : Nm) (s : St) : (delM i s).All Q ↔ (∃ b, hget s.H i = some b) /\ Q ((), s.del i) := by
 unfold delM; cases hget s.H i <;> simp
theorem Z2z (Q : Nat × St -> Prop) (n : Nat) (s : St) : (askM n s).All Q ↔ ∀ i, i < n -> Q (i, s) := Iff.rfl
structure Place where
 blk : Nat
 off : Nat
 total : Nat
 unit : Nat
structure Rho where
 pl : Nm -> Option Place
 fz : Nat -> Nat -> Option Value
instance : CoeFun Rho (fun _ => Nm -> Option Place) := ⟨Rho.pl⟩
def vcells : Value -> List Value
 | .agg a => a.toList
 | v => [v]
def AV.sc : AV -> Bool
 | .tuple _ | .undef | .agg _ => false
 | _ => true
mutual
def VR (ρ : Rho) : AV -> Value -> Prop
 | .int k n, v => v = .int k n
 | .bool b, v => v = .bool b
 | .str s, v => v = .string s
 | .nilp, v => v = .pointer none
 | .ptr b o, v => ∃ p, ρ b = some p /\ v = .pointer (some ⟨p.blk, p.off + o, none⟩)
 | .nils, v => v = .slice none 0 0
 | .slice b o n c ex, v => ∃ p o' c', ρ b = some p /\ ∃ a, v = .slice (some a) n c' /\ (c' ≠ 0 -> a = ⟨p.blk, o', none⟩) /\ (c ≠ 0 -> o' = p.off + o) /\ (ex = true -> c' = c) /\ n <= c /\ c <= c' /\ (p.unit ≠ 0 -> o' + c' * p.unit <= p.total)
 | .empty, v => ∃ a, v = .slice a 0 0
 | .lst l, v => ∃ a c, v = .slice a l.length c /\ l.length <= c /\ (l ≠ [] -> ∃ blk off z, a = some ⟨blk, off, none⟩ /\ 1 <= z /\ FR ρ blk off z l)
 | .own b l, v => ∃ p c, ρ b = some p /\ v = .slice (some ⟨p.blk, p.off, none⟩) l.length c /\ l ≠ [] /\ 1 <= p.unit /\ l.length <= c /\ p.off + c * p.unit <= p.total /\ FR ρ p.blk p.off p.unit l
 | .fptr cs o, v => ∃ blk off, v = .pointer (some ⟨blk, off + o, none⟩) /\ cs ≠ [] /\ FC ρ blk off cs
 | .nilm, v => v = .map none
 | .map b, v => ∃ p, ρ b = some p /\ v = .map (some p.blk)
 | .func f caps, v => ∃ cs, v = .func (.func f) #[] ⟨cs⟩ /\ VRs ρ caps cs
 | .yield l, v => ∃ p, ρ l = some p /\ v = .func (.yield p.blk) #[] #[]
 | .nilf, v => v = .nilFunc
 | .nili, v => v = .nilIface
 | .agg cs, v => ∃ vs, v = .agg ⟨vs⟩ /\ VRs ρ cs vs /\ ∀ c ∈ cs, AV.sc c = true
 | .tuple cs, v => ∃ vs, v = .tuple ⟨vs⟩ /\ VRs ρ cs vs
 | .undef, v => v = undef
def VRs (ρ : Rho) : List AV -> List Value -> Prop
 | [], l => l = []
 | a :: r, l => ∃ v t, l = v :: t /\ VR ρ a v /\ VRs ρ r t
def FR (ρ : Rho) (blk off z : Nat) : List AV -> Prop
 | [] => True
 | a :: r => (∃ v, VR ρ a v /\ a.okc = true /\ (vcells v).length = z /\ ∀ j x, (vcells v)[j]? = some x -> ρ.fz blk (off + j) = some x) /\ FR ρ blk (off + z) z r
def FC (ρ : Rho) (blk off : Nat) : List AV -> Prop
 | [] => True
 | a :: r => (∃ v, VR ρ a v /\ a.sc = true /\ ρ.fz blk off = some v) /\ FC ρ blk (off + 1) r
end
structure Ext (ρ ρ' : Rho) : Prop where
 pl : ∀ b p, ρ b = some p -> ρ' b = some p
 fz : ∀ c k v, ρ.fz c k = some v -> ρ'.fz c k = some v
theorem Ext.refl (ρ : Rho) : Ext ρ ρ := ⟨fun _ _ h => h, fun _ _ _ h => h⟩
theorem Ext.trans {ρ ρ' ρ'' : Rho} (h : Ext ρ ρ') (h' : Ext ρ' ρ'') : Ext ρ ρ'' := ⟨fun b p e => h'.pl b p (h.pl b p e), fun c k v e => h'.fz c k v (h.fz c k v e)⟩
mutual
theorem VR.mono {ρ ρ' : Rho} (h : Ext ρ ρ') : ∀ (a : AV) (v : Value), VR ρ a v -> VR ρ' a v
 | .int k n, v, e => by simp only [VR] at e ⊢; exact e
 | .bool b, v, e => by simp only [VR] at e ⊢; exact e
 | .str s, v, e => by simp only [VR] at e ⊢; exact e
 | .nilp, v, e => by simp only [VR] at e ⊢; exact e
 | .ptr b o, v, e => by simp only [VR] at e ⊢; obtain ⟨p, hp, hv⟩ := e; exact ⟨p, h.pl _ _ hp, hv⟩
 | .nils, v, e => by simp only [VR] at e ⊢; exact e
 | .slice b o n c ex, v, e => by simp only [VR] at e ⊢; obtain ⟨p, o', c', hp, hv⟩ := e; exact ⟨p, o', c', h.pl _ _ hp, hv⟩
 | .empty, v, e => by simp only [VR] at e ⊢; exact e
 | .lst l, v, e => by simp only [VR] at e ⊢; obtain ⟨a, c, hv, hc, hf⟩ := e; exact ⟨a, c, hv, hc, fun hl => let ⟨blk, off, z, h1, h2, h3⟩ := hf hl; ⟨blk, off, z, h1, h2, FR.mono h l blk off z h3⟩⟩
 | .own b l, v, e => by simp only [VR] at e ⊢; obtain ⟨p, c, hp, h1, h2, h3, h4, h5, h6⟩ := e; exact ⟨p, c, h.pl _ _ hp, h1, h2, h3, h4, h5, FR.mono h l _ _ _ h6⟩
 | .fptr cs o, v, e => by simp only [VR] at e ⊢; obtain ⟨blk, off, h1, h0, h2⟩ := e; exact ⟨blk, off, h1, h0, FC.mono h cs _ _ h2⟩
 | .nilm, v, e => by simp only [VR] at e ⊢; exact e
 | .map b, v, e => by simp only [VR] at e ⊢; obtain ⟨p, hp, hv⟩ := e; exact ⟨p, h.pl _ _ hp, hv⟩
 | .func f caps, v, e => by simp only [VR] at e ⊢; obtain ⟨cs, hv, hc⟩ := e; exact ⟨cs, hv, VRs.mono h caps cs hc⟩
 | .yield l, v, e => by simp only [VR] at e ⊢; obtain ⟨p, hp, hv⟩ := e; exact ⟨p, h.pl _ _ hp, hv⟩
 | .nilf, v, e => by simp only [VR] at e ⊢; exact e
 | .nili, v, e => by simp only [VR] at e ⊢; exact e
 | .agg cs, v, e => by simp only [VR] at e ⊢; obtain ⟨vs, hv, hc, ho⟩ := e; exact ⟨vs, hv, VRs.mono h cs vs hc, ho⟩
 | .tuple cs, v, e => by simp only [VR] at e ⊢; obtain ⟨vs, hv, hc⟩ := e; exact ⟨vs, hv, VRs.mono h cs vs hc⟩
 | .undef, v, e => by simp only [VR] at e ⊢; exact e
theorem VRs.mono {ρ ρ' : Rho} (h : Ext ρ ρ') : ∀ (l : List AV) (vs : List Value), VRs ρ l vs -> VRs ρ' l vs
 | [], vs, e => by simp only [VRs] at e ⊢; exact e
 | a :: r, vs, e => by simp only [VRs] at e ⊢; obtain ⟨v, t, hv, h1, h2⟩ := e; exact ⟨v, t, hv, VR.mono h a v h1, VRs.mono h r t h2⟩
theorem FR.mono {ρ ρ' : Rho} (h : Ext ρ ρ') : ∀ (l : List AV) (blk off z : Nat), FR ρ blk off z l -> FR ρ' blk off z l
 | [], blk, off, z, e => by simp only [FR]
 | a :: r, blk, off, z, e => by simp only [FR] at e ⊢; obtain ⟨⟨v, h1, h0, h2, h3⟩, h4⟩ := e; exact ⟨⟨v, VR.mono h a v h1, h0, h2, fun j x hj => h.fz _ _ _ (h3 j x hj)⟩, FR.mono h r blk (off + z) z h4⟩
theorem FC.mono {ρ ρ' : Rho} (h : Ext ρ ρ') : ∀ (l : List AV) (blk off : Nat), FC ρ blk off l -> FC ρ' blk off l
 | [], blk, off, e => by simp only [FC]
 | a :: r, blk, off, e => by simp only [FC] at e ⊢; obtain ⟨⟨v, h1, h2, h3⟩, h4⟩ := e; exact ⟨⟨v, VR.mono h a v h1, h2, h.fz _ _ _ h3⟩, FC.mono h r blk (off + 1) h4⟩
end
theorem Y5 {a : AV} {r : List AV} (f : flats (a :: r) = true) : a.flat = true /\ flats r = true := by
 have f1 : a.flat = true := by cases h : a.flat <;> simp [flats, h] at f ⊢
 exact ⟨f1, by simpa [flats, f1] using f⟩
theorem Z7a (a : AV) (h : a.sc = true) : a.shut.sc = true := by cases a <;> simp_all [AV.shut, AV.sc]
theorem Z30 : ∀ (l : List AV), (∀ c ∈ l, c.sc = true) -> ∀ c ∈ shuts l, c.sc = true
 | [], _, c, hc => by simp [shuts] at hc
 | a :: r, h, c, hc => by
  simp only [shuts, List.mem_cons] at hc
  rcases hc with rfl | hc
  ·exact Z7a a (h a List.mem_cons_self)
  ·exact Z30 r (fun c hc => h c (List.mem_cons_of_mem _ hc)) c hc
/- A value without references means the same under every naming. -/
mutual
theorem VR.flat {ρ ρ' : Rho} (h : ∀ c k v, ρ.fz c k = some v -> ρ'.fz c k = some v) : ∀ (a : AV) (v : Value), a.flat = true -> VR ρ a v -> VR ρ' a v
 | .int k n, v, _, e => by simp only [VR] at e ⊢; exact e
 | .bool b, v, _, e => by simp only [VR] at e ⊢; exact e
 | .str s, v, _, e => by simp only [VR] at e ⊢; exact e
 | .nilp, v, _, e => by simp only [VR] at e ⊢; exact e
 | .ptr b o, v, f, e => by simp [AV.flat] at f
 | .nils, v, _, e => by simp only [VR] at e ⊢; exact e
 | .slice b o n c ex, v, f, e => by simp [AV.flat] at f
 | .empty, v, _, e => by simp only [VR] at e ⊢; exact e
 | .lst l, v, f, e => by
  simp only [VR] at e ⊢; simp only [AV.flat] at f
  obtain ⟨a, c, hv, hc, hf⟩ := e; exact ⟨a, c, hv, hc, fun hl => let ⟨blk, off, z, h1, h2, h3⟩ := hf hl; ⟨blk, off, z, h1, h2, FR.flat h l blk off z f h3⟩⟩
 | .own b l, v, f, e => by simp [AV.flat] at f
 | .fptr cs o, v, f, e => by
  simp only [VR] at e ⊢; simp only [AV.flat] at f
  obtain ⟨blk, off, h1, h0, h2⟩ := e; exact ⟨blk, off, h1, h0, FC.flat h cs _ _ f h2⟩
 | .nilm, v, _, e => by simp only [VR] at e ⊢; exact e
 | .map b, v, f, e => by simp [AV.flat] at f
 | .func g caps, v, f, e => by simp only [VR] at e ⊢; simp only [AV.flat] at f; obtain ⟨cs, hv, hc⟩ := e; exact ⟨cs, hv, VRs.flat h caps cs f hc⟩
 | .yield l, v, f, e => by simp [AV.flat] at f
 | .nilf, v, _, e => by simp only [VR] at e ⊢; exact e
 | .nili, v, _, e => by simp only [VR] at e ⊢; exact e
 | .agg cs, v, f, e => by simp only [VR] at e ⊢; simp only [AV.flat] at f; obtain ⟨vs, hv, hc, ho⟩ := e; exact ⟨vs, hv, VRs.flat h cs vs f hc, ho⟩
 | .tuple cs, v, f, e => by simp only [VR] at e ⊢; simp only [AV.flat] at f; obtain ⟨vs, hv, hc⟩ := e; exact ⟨vs, hv, VRs.flat h cs vs f hc⟩
 | .undef, v, _, e => by simp only [VR] at e ⊢; exact e
theorem VRs.flat {ρ ρ' : Rho} (h : ∀ c k v, ρ.fz c k = some v -> ρ'.fz c k = some v) : ∀ (l : List AV) (vs : List Value), flats l = true -> VRs ρ l vs -> VRs ρ' l vs
 | [], vs, _, e => by simp only [VRs] at e ⊢; exact e
 | a :: r, vs, f, e => by
  simp only [VRs] at e ⊢; obtain ⟨v, t, hv, h1, h2⟩ := e
  exact ⟨v, t, hv, VR.flat h a v (Y5 f).1 h1, VRs.flat h r t (Y5 f).2 h2⟩
theorem FR.flat {ρ ρ' : Rho} (h : ∀ c k v, ρ.fz c k = some v -> ρ'.fz c k = some v) : ∀ (l : List AV) (blk off z : Nat), flats l = true -> FR ρ blk off z l -> FR ρ' blk off z l
 | [], blk, off, z, _, e => by simp only [FR]
 | a :: r, blk, off, z, f, e => by simp only [FR] at e ⊢; obtain ⟨⟨v, h1, h0, h2, h3⟩, h4⟩ := e; exact ⟨⟨v, VR.flat h a v (Y5 f).1 h1, h0, h2, fun j x hj => h _ _ _ (h3 j x hj)⟩, FR.flat h r blk (off + z) z (Y5 f).2 h4⟩
theorem FC.flat {ρ ρ' : Rho} (h : ∀ c k v, ρ.fz c k = some v -> ρ'.fz c k = some v) : ∀ (l : List AV) (blk off : Nat), flats l = true -> FC ρ blk off l -> FC ρ' blk off l
 | [], blk, off, _, e => by simp only [FC]
 | a :: r, blk, off, f, e => by simp only [FC] at e ⊢; obtain ⟨⟨v, h1, h2, h3⟩, h4⟩ := e; exact ⟨⟨v, VR.flat h a v (Y5 f).1 h1, h2, h _ _ _ h3⟩, FC.flat h r blk (off + 1) (Y5 f).2 h4⟩
end
/- Rows that are shut mean the same. -/
mutual
theorem VR.shut {ρ : Rho} : ∀ (a : AV) (v : Value), VR ρ a v -> VR ρ a.shut v
 | .int k n, v, e => e
 | .bool b, v, e => e
 | .str s, v, e => e
 | .nilp, v, e => e
 | .ptr b o, v, e => e
 | .nils, v, e => by simp only [VR] at e; subst e; simp only [AV.shut, VR]; exact ⟨none, 0, rfl, Nat.le_refl _, fun h => absurd rfl h⟩
 | .slice b o n c ex, v, e => e
 | .empty, v, e => by simp only [VR] at e; obtain ⟨a, rfl⟩ := e; simp only [AV.shut, VR]; exact ⟨a, 0, rfl, Nat.le_refl _, fun h => absurd rfl h⟩
 | .lst l, v, e => e
 | .own b l, v, e => by simp only [VR] at e; obtain ⟨p, c, hp, h1, h2, h3, h4, h5, h6⟩ := e; simp only [AV.shut, VR]; exact ⟨_, c, h1, h4, fun _ => ⟨p.blk, p.off, p.unit, rfl, h3, h6⟩⟩
 | .fptr cs o, v, e => e
 | .nilm, v, e => e
 | .map b, v, e => e
 | .func g caps, v, e => by simp only [VR] at e; obtain ⟨cs, hv, hc⟩ := e; simp only [AV.shut, VR]; exact ⟨cs, hv, VRs.shut caps cs hc⟩
 | .yield l, v, e => e
 | .nilf, v, e => e
 | .nili, v, e => e
 | .agg cs, v, e => by simp only [VR] at e; obtain ⟨vs, hv, hc, ho⟩ := e; simp only [AV.shut, VR]; exact ⟨vs, hv, VRs.shut cs vs hc, Z30 cs ho⟩
 | .tuple cs, v, e => by simp only [VR] at e; obtain ⟨vs, hv, hc⟩ := e; simp only [AV.shut, VR]; exact ⟨vs, hv, VRs.shut cs vs hc⟩
 | .undef, v, e => e
theorem VRs.shut {ρ : Rho} : ∀ (l : List AV) (vs : List Value), VRs ρ l vs -> VRs ρ (shuts l) vs
 | [], vs, e => e
 | a :: r, vs, e => by
  simp only [VRs] at e; obtain ⟨v, t, hv, h1, h2⟩ := e
  simp only [shuts, VRs]; exact ⟨v, t, hv, VR.shut a v h1, VRs.shut r t h2⟩
end
theorem VRs.length {ρ : Rho} : ∀ (l : List AV) (vs : List Value), VRs ρ l vs -> l.length = vs.length
 | [], vs, e => by simp only [VRs] at e; subst e; rfl
 | a :: r, vs, e => by simp only [VRs] at e; obtain ⟨v, t, rfl, _, h2⟩ := e; simp [VRs.length r t h2]
theorem VRs.nth {ρ : Rho} : ∀ (l : List AV) (vs : List Value), VRs ρ l vs -> ∀ (i : Nat) (a : AV), Am.nth l i = some a -> ∃ v, vs[i]? = some v /\ VR ρ a v
 | [], vs, e, i, a, h => by simp at h
 | b :: r, vs, e, i, a, h => by
  simp only [VRs] at e; obtain ⟨v, t, rfl, h1, h2⟩ := e
  cases i with
  | zero => simp at h; subst h; exact ⟨v, by simp, h1⟩
  | succ i => simp at h; obtain ⟨u, hu, hr⟩ := VRs.nth r t h2 i a h; exact ⟨u, by simpa using hu, hr⟩
theorem VRs.set {ρ : Rho} : ∀ (l : List AV) (vs : List Value), VRs ρ l vs -> ∀ (i : Nat) (a : AV) (v : Value), VR ρ a v -> VRs ρ (setNth l i a) (vs.set i v)
 | [], vs, e, i, a, v, h => by simp only [VRs] at e; subst e; simp [VRs]
 | b :: r, vs, e, i, a, v, h => by
  simp only [VRs] at e; obtain ⟨u, t, rfl, h1, h2⟩ := e
  cases i with
  | zero => simp only [Jk, List.set_cons_zero, VRs]; exact ⟨v, t, rfl, h, h2⟩
  | succ i => simp only [Jl, List.set_cons_succ, VRs]; exact ⟨u, _, rfl, h1, VRs.set r t h2 i a v h⟩
theorem VRs.append {ρ : Rho} : ∀ (l : List AV) (vs : List Value) (l' : List AV) (vs' : List Value), VRs ρ l vs -> VRs ρ l' vs' -> VRs ρ (l ++ l') (vs ++ vs')
 | [], vs, l', vs', e, e' => by simp only [VRs] at e; subst e; exact e'
 | b :: r, vs, l', vs', e, e' => by
  simp only [VRs] at e; obtain ⟨u, t, rfl, h1, h2⟩ := e
  simp only [List.cons_append, VRs]; exact ⟨u, _, rfl, h1, VRs.append r t l' vs' h2 e'⟩
theorem VRs.undefs {ρ : Rho} : ∀ n, VRs ρ (undefs n) (List.replicate n undef)
 | 0 => by simp [Am.undefs, VRs]
 | n + 1 => by simp only [Am.undefs, List.replicate_succ, VRs]; exact ⟨_, _, rfl, by simp [VR], VRs.undefs n⟩
end Go.Am
namespace Go.Am
open Go
def lkD (d : Delta) (b : Nm) : Option (Option Blk) :=
 match d with
 | [] => none
 | e :: r => if e.1 = b then some e.2 else lkD r b
theorem Z6n (H : Heap) (i : Nm) (x : Option Blk) (b : Nm) : hget (redo1 H i x) b = if i = b then x else hget H b := by
 unfold redo1
 cases x with
 | none =>
  by_cases h : i = b
  ·subst h; simp [Zn]
  ·simp [h, Zc H h]
 | some y =>
  cases hi : hget H i with
  | none =>
   by_cases h : i = b
   ·subst h; simp [Z6]
   ·simp [h, Z1 _ _ h]
  | some z =>
   by_cases h : i = b
   ·subst h; simp [Z4 y hi]
   ·simp [h, Z0 H y h]
theorem Z8 (H : Heap) : ∀ (d : Delta) (b : Nm), hget (redoH H d) b = (lkD d b).getD (hget H b)
 | [], b => rfl
 | e :: r, b => by
  unfold redoH lkD
  rw [Z6n, Z8 H r b]
  by_cases h : e.1 = b <;> simp [h]
theorem J2 (d d' : Delta) (b : Nm) : lkD (d ++ d') b = (lkD d b).or (lkD d' b) := by
 induction d with
 | nil => simp [lkD]
 | cons e r ih =>
  show (if e.1 = b then some e.2 else lkD (r ++ d') b) = (if e.1 = b then some e.2 else lkD r b).or (lkD d' b)
  by_cases h : e.1 = b <;> simp [h, ih]
theorem Z4r {d : Delta} {b : Nm} {y : Option Blk} (h : lkD d b = some y) : ∃ e ∈ d, e.1 = b := by
 induction d with
 | nil => simp [lkD] at h
 | cons e r ih =>
  unfold lkD at h
  by_cases hb : e.1 = b
  ·exact ⟨e, List.mem_cons_self, hb⟩
  ·rw [if_neg hb] at h; obtain ⟨e', h1, h2⟩ := ih h; exact ⟨e', List.mem_cons_of_mem _ h1, h2⟩
theorem Zat {d : Delta} {e : Nm × Option Blk} (h : e ∈ d) : ∃ y, lkD d e.1 = some y := by
 induction d with
 | nil => simp at h
 | cons a r ih =>
  unfold lkD
  by_cases hb : a.1 = e.1
  ·exact ⟨a.2, by rw [if_pos hb]⟩
  ·rw [if_neg hb]
   rcases List.mem_cons.1 h with rfl | h
   ·exact absurd rfl hb
   ·exact ih h
structure Sub (s s' : St) : Prop where
 n : s'.n = s.n
 pre : s'.pre = s.pre
 jr : s'.jr = s.jr
 j : s'.j = s.j
 le : ∀ b x, hget s.H b = some x -> hget s'.H b = some x
theorem Sub.refl (s : St) : Sub s s := ⟨rfl, rfl, rfl, rfl, fun _ _ h => h⟩
inductive TrSub {α : Type} : Tr (α × St) -> Tr (α × St) -> Prop
 | fail (t : Tr (α × St)) : TrSub .fail t
 | ret (a : α) (s s' : St) : Sub s s' -> TrSub (.ret (a, s)) (.ret (a, s'))
 | ask (n : Nat) (k k' : Nat -> Tr (α × St)) : (∀ i, TrSub (k i) (k' i)) -> TrSub (.ask n k) (.ask n k')
theorem TrSub.bind {α β : Type} {t t' : Tr (α × St)} (h : TrSub t t') {f g : α -> St -> Tr (β × St)} (hf : ∀ a s s', Sub s s' -> TrSub (f a s) (g a s')) : TrSub (t.bind fun x => f x.1 x.2) (t'.bind fun x => g x.1 x.2) := by
 induction h with
 | fail t => exact .fail _
 | ret a s s' h => exact hf a s s' h
 | ask n k k' _ ih => exact .ask n _ _ ih
def Leaf {α : Type} (Q : α -> Prop) : Tr α -> Prop
 | .fail => True
 | .ret a => Q a
 | .ask _ k => ∀ i, Leaf Q (k i)
theorem Leaf.mono {α : Type} {Q Q' : α -> Prop} (h : ∀ a, Q a -> Q' a) : ∀ {t : Tr α}, Leaf Q t -> Leaf Q' t
 | .fail, _ => trivial
 | .ret a, hq => h a hq
 | .ask n k, hq => fun i => Leaf.mono h (hq i)
theorem Leaf.bind {α β : Type} {Q : β -> Prop} {f : α -> Tr β} : ∀ {t : Tr α}, Leaf (fun a => Leaf Q (f a)) t -> Leaf Q (t.bind f)
 | .fail, _ => trivial
 | .ret a, h => h
 | .ask n k, h => fun i => Leaf.bind (t := k i) (h i)
def Own (s : St) (b : Nm) : Prop := ∃ m r, b = s.pre ++ m :: r /\ s.n <= m
structure JrR (s t : St) : Prop where
 pre : t.pre = s.pre
 jr : t.jr = s.jr
 n : s.n <= t.n
 j : s.jr = true -> ∃ d, t.j = d ++ s.j /\ (∀ b, hget t.H b = hget (redoH s.H d) b) /\ ∀ e ∈ d, Own s e.1 \/ ∃ x, hget s.H e.1 = some x
theorem JrR.refl (s : St) : JrR s s := ⟨rfl, rfl, Nat.le_refl _, fun _ => ⟨[], rfl, fun _ => rfl, by simp⟩⟩
theorem JrR.trans {s t u : St} (h : JrR s t) (k : JrR t u) : JrR s u := by
 refine ⟨k.pre.trans h.pre, k.jr.trans h.jr, Nat.le_trans h.n k.n, fun hj => ?_⟩
 obtain ⟨d, d1, d2, d3⟩ := h.j hj
 obtain ⟨e, e1, e2, e3⟩ := k.j (h.jr.trans hj)
 refine ⟨e ++ d, by rw [e1, d1, List.append_assoc], ?_, ?_⟩
 ·intro b
  rw [e2 b, Z8, Z8, J2, d2 b, Z8]
  cases lkD e b <;> rfl
 ·intro x hx
  rcases List.mem_append.1 hx with hx | hx
  ·rcases e3 x hx with ⟨m, r, hb, hm⟩ | ⟨y, hy⟩
   ·exact .inl ⟨m, r, by rw [hb, h.pre], Nat.le_trans h.n hm⟩
   ·rw [d2, Z8] at hy
    cases hl : lkD d x.1 with
    | none => rw [hl] at hy; exact .inr ⟨y, hy⟩
    | some z => obtain ⟨e', h1, h2⟩ := Z4r hl; rw [<- h2]; exact d3 e' h1
  ·exact d3 x hx
def Pos {α : Type} : Tr α -> Prop
 | .fail => True
 | .ret _ => True
 | .ask n k => 0 < n /\ ∀ i, Pos (k i)
theorem Pos.bind {α β : Type} {f : α -> Tr β} (hf : ∀ a, Pos (f a)) : ∀ {t : Tr α}, Pos t -> Pos (t.bind f)
 | .fail, _ => trivial
 | .ret a, _ => hf a
 | .ask n k, h => ⟨h.1, fun i => Pos.bind hf (t := k i) (h.2 i)⟩
structure Nice {α : Type} (m : M α) : Prop where
 pos : ∀ s, Pos (m s)
 mono : ∀ s s', Sub s s' -> TrSub (m s) (m s')
 jr : ∀ s, Leaf (fun x => JrR s x.2) (m s)
section
variable {α β : Type}
theorem Nice.ret (a : α) : Nice (M.ret a) := ⟨fun _ => trivial, fun s s' h => .ret a s s' h, fun s => JrR.refl s⟩
theorem Nice.fail : Nice (M.fail : M α) := ⟨fun _ => trivial, fun s s' h => .fail _, fun s => trivial⟩
theorem Nice.of (o : Option α) : Nice (M.of o) := by cases o with | none => exact Nice.fail | some a => exact Nice.ret a
theorem Nice.bind {m : M α} {f : α -> M β} (h : Nice m) (hf : ∀ a, Nice (f a)) : Nice (m.bind f) :=
 ⟨fun s => Pos.bind (f := fun x : α × St => f x.1 x.2) (fun x => (hf x.1).pos x.2) (h.pos s), fun s s' hs => (h.mono s s' hs).bind fun a t t' ht => (hf a).mono t t' ht,
  fun s => Leaf.bind (Leaf.mono (fun x hx => Leaf.mono (fun y hy => hx.trans hy) ((hf x.1).jr x.2)) (h.jr s))⟩
theorem Nice.getM (i : Nm) : Nice (Am.getM i) := by
 constructor
 ·intro s; unfold Am.getM; cases hget s.H i <;> trivial
 ·intro s s' h
  unfold Am.getM
  cases hx : hget s.H i with
  | none => exact .fail _
  | some x => rw [h.le _ _ hx]; exact .ret _ _ _ h
 ·intro s
  unfold Am.getM
  cases hx : hget s.H i with
  | none => trivial
  | some x => exact JrR.refl s
theorem Z9p (s : St) : Own s s.name := ⟨s.n, [], rfl, Nat.le_refl _⟩
theorem Z13 {s : St} (h : s.jr = true) (i : Nm) (x : Option Blk) : s.note i x = (i, x) :: s.j := by unfold St.note; rw [h]
theorem Sub.note {s s' : St} (h : Sub s s') (i : Nm) (x : Option Blk) : s'.note i x = s.note i x := by unfold St.note; rw [h.jr, h.j]
theorem Nice.newM (x : Blk) : Nice (Am.newM x) := by
 constructor
 ·intro s; trivial
 ·intro s s' h
  have hn : s'.name = s.name := by unfold St.name; rw [h.pre, h.n]
  show TrSub (.ret (s.name, s.new x)) (.ret (s'.name, s'.new x))
  rw [hn]
  refine .ret _ _ _ ⟨by show s'.n + 1 = s.n + 1; rw [h.n], h.pre, h.jr, by show s'.note s'.name _ = s.note s.name _; rw [hn, h.note], ?_⟩
  intro b y hy
  show hget ((s'.name, x) :: s'.H) b = some y
  rw [hn]
  have hy' : hget ((s.name, x) :: s.H) b = some y := hy
  by_cases hb : s.name = b
  ·subst hb; rw [Z6] at hy' ⊢; exact hy'
  ·rw [Z1 _ _ hb] at hy' ⊢; exact h.le _ _ hy'
 ·intro s
  refine ⟨rfl, rfl, Nat.le_succ _, fun hj => ⟨[(s.name, some x)], ?_, ?_, ?_⟩⟩
  ·show s.note s.name (some x) = _; rw [Z13 hj]; rfl
  ·intro b
   show hget ((s.name, x) :: s.H) b = _
   rw [Z8]
   by_cases hb : s.name = b
   ·subst hb; simp [lkD, Z6]
   ·simp [lkD, hb, Z1 _ _ hb]
  ·intro e he; simp at he; subst he; exact .inl (Z9p s)
theorem Nice.putM (i : Nm) (x : Blk) : Nice (Am.putM i x) := by
 constructor
 ·intro s; unfold Am.putM; cases hget s.H i <;> trivial
 ·intro s s' h
  unfold Am.putM
  cases hx : hget s.H i with
  | none => exact .fail _
  | some y =>
   have hx' := h.le _ _ hx
   rw [hx']
   refine .ret _ _ _ ⟨h.n, h.pre, h.jr, h.note i _, ?_⟩
   intro b z hz
   show hget (hset s'.H i x) b = some z
   have hz' : hget (hset s.H i x) b = some z := hz
   by_cases hb : i = b
   ·subst hb; rw [Z4 x hx] at hz'; rw [Z4 x hx']; exact hz'
   ·rw [Z0 _ x hb] at hz' ⊢; exact h.le _ _ hz'
 ·intro s
  unfold Am.putM
  cases hx : hget s.H i with
  | none => trivial
  | some y =>
   refine ⟨rfl, rfl, Nat.le_refl _, fun hj => ⟨[(i, some x)], ?_, ?_, ?_⟩⟩
   ·show s.note i (some x) = _; rw [Z13 hj]; rfl
   ·intro b
    show hget (hset s.H i x) b = _
    rw [Z8]
    by_cases hb : i = b
    ·subst hb; simp [lkD, Z4 x hx]
    ·simp [lkD, hb, Z0 _ x hb]
   ·intro e he; simp at he; subst he; exact .inr ⟨y, hx⟩
theorem Nice.delM (i : Nm) : Nice (Am.delM i) := by
 constructor
 ·intro s; unfold Am.delM; cases hget s.H i <;> trivial
 ·intro s s' h
  unfold Am.delM
  cases hx : hget s.H i with
  | none => exact .fail _
  | some y =>
   have hx' := h.le _ _ hx
   rw [hx']
   refine .ret _ _ _ ⟨h.n, h.pre, h.jr, h.note i _, ?_⟩
   intro b z hz
   show hget (hdel s'.H i) b = some z
   have hz' : hget (hdel s.H i) b = some z := hz
   by_cases hb : i = b
   ·subst hb; rw [Zn] at hz'; cases hz'
   ·rw [Zc _ hb] at hz' ⊢; exact h.le _ _ hz'
 ·intro s
  unfold Am.delM
  cases hx : hget s.H i with
  | none => trivial
  | some y =>
   refine ⟨rfl, rfl, Nat.le_refl _, fun hj => ⟨[(i, none)], ?_, ?_, ?_⟩⟩
   ·show s.note i none = _; rw [Z13 hj]; rfl
   ·intro b
    show hget (hdel s.H i) b = _
    rw [Z8]
    by_cases hb : i = b
    ·subst hb; simp [lkD, Zn]
    ·simp [lkD, hb, Zc _ hb]
   ·intro e he; simp at he; subst he; exact .inr ⟨y, hx⟩
theorem Nice.askM (n : Nat) (hn : 0 < n) : Nice (Am.askM n) := ⟨fun s => ⟨hn, fun _ => trivial⟩, fun s s' h => .ask n _ _ fun i => .ret i s s' h, fun s i => JrR.refl s⟩
end
section
variable {C : Cfg} {call : FuncId -> List AV -> M AV} {rnd : Nm -> List AV -> M AV}
theorem Nice.allocA (v : AV) : Nice (Am.allocA v) := Nice.bind (Nice.newM _) fun _ => Nice.ret _
theorem Nice.loadA (t : TypeId) (b : Nm) (o : Nat) : Nice (Am.loadA C t b o) := by
 unfold Am.loadA; refine Nice.bind (Nice.getM _) fun x => ?_; split
 ·exact Nice.of _
 ·exact Nice.fail
theorem Nice.storeA (t : TypeId) (b : Nm) (o : Nat) (v : AV) : Nice (Am.storeA C t b o v) := by
 unfold Am.storeA; refine Nice.bind (Nice.getM _) fun x => ?_
 repeat' (first | exact Nice.fail | exact Nice.putM _ _ | split)
theorem Nice.done {m : M Unit} (h : Nice m) : Nice (Am.done m) := Nice.bind h fun _ => Nice.ret _
theorem Nice.unitM (b : Nm) (z : Nat) (v : AV) : Nice (Am.unitM b z v) := by
 unfold Am.unitM; refine Nice.bind (Nice.getM _) fun x => ?_
 repeat' (first | exact Nice.fail | exact Nice.ret _ | split)
theorem Nice.cutA (i : Option TI) (l : List AV) (lo hi mx : Option AV) : Nice (Am.cutA i l lo hi mx) := by
 unfold Am.cutA
 repeat' (first | exact Nice.fail | exact Nice.ret _ | split)
theorem Nice.sliceOp (t : TypeId) (x : AV) (lo hi mx : Option AV) : Nice (Am.sliceOp C t x lo hi mx) := by
 unfold Am.sliceOp
 repeat' (first | exact Nice.fail | exact Nice.ret _ | exact Nice.unitM _ _ _ | exact Nice.cutA _ _ _ _ _ | split)
theorem Nice.buildSliceA (fz : Bool) (t : TypeId) (n : Nat) (l : List (Nat × AV)) : Nice (Am.buildSliceA C fz t n l) := by
 unfold Am.buildSliceA
 repeat' (first | exact Nice.fail | exact Nice.ret _ | exact Nice.newM _ | (refine Nice.bind ?_ fun _ => ?_) | split)
theorem Nice.makeSliceA (t : TypeId) (l c : AV) : Nice (Am.makeSliceA C t l c) := by
 unfold Am.makeSliceA
 repeat' (first | exact Nice.fail | exact Nice.ret _ | exact Nice.newM _ | (refine Nice.bind ?_ fun _ => ?_) | split)
theorem Nice.elemsA (z : Nat) (x : AV) : Nice (Am.elemsA z x) := by
 unfold Am.elemsA
 repeat' (first | exact Nice.fail | exact Nice.ret _ | exact Nice.getM _ | (refine Nice.bind ?_ fun _ => ?_) | split)
theorem Nice.grow (old new : List AV) (k z : Nat) : Nice (Am.grow old new k z) := Nice.bind (Nice.newM _) fun _ => Nice.ret _
theorem Nice.appendTo (i : TI) (v : AV) (m : Nat) (new : List AV) : Nice (Am.appendTo i v m new) := by
 unfold Am.appendTo
 repeat' (first | exact Nice.fail | exact Nice.ret _ | exact Nice.getM _ | exact Nice.putM _ _ | exact Nice.delM _ | exact Nice.grow _ _ _ _ | (refine Nice.bind ?_ fun _ => ?_) | split)
theorem Nice.srcA (i : TI) (z : AV) (d : TypeDesc) (x : AV) : Nice (Am.srcA i z d x) := by
 unfold Am.srcA
 repeat' (first | exact Nice.fail | exact Nice.ret _ | exact Nice.elemsA _ _ | split)
theorem Nice.growF (l : List AV) (z : Nat) : Nice (Am.growF l z) := Nice.bind (Nice.newM _) fun _ => Nice.ret _
theorem Nice.appendF (i : TI) (v : AV) (m : Nat) (new : List AV) : Nice (Am.appendF i v m new) := by
 unfold Am.appendF
 repeat' (first | exact Nice.fail | exact Nice.ret _ | exact Nice.getM _ | exact Nice.delM _ | exact Nice.growF _ _ | (refine Nice.bind ?_ fun _ => ?_) | split)
theorem Nice.srcF (i : TI) (z : AV) (d : TypeDesc) (x : AV) : Nice (Am.srcF i z d x) := by
 unfold Am.srcF
 repeat' (first | exact Nice.fail | exact Nice.ret _ | exact Nice.srcA _ _ _ _ | (refine Nice.bind ?_ fun _ => ?_) | split)
theorem Nice.appendA (fz : Bool) (t u : TypeId) (v x : AV) : Nice (Am.appendA C fz t u v x) := by
 unfold Am.appendA
 repeat' (first | exact Nice.fail | exact Nice.srcA _ _ _ _ | exact Nice.appendTo _ _ _ _ | exact Nice.srcF _ _ _ _ | exact Nice.appendF _ _ _ _ | (refine Nice.bind ?_ fun _ => ?_) | split)
theorem Nice.entriesA (x : AV) : Nice (Am.entriesA x) := by
 unfold Am.entriesA
 repeat' (first | exact Nice.fail | exact Nice.ret _ | exact Nice.getM _ | (refine Nice.bind ?_ fun _ => ?_) | split)
theorem Nice.lookupA (t : TypeId) (x k : AV) (ok : Bool) : Nice (Am.lookupA C t x k ok) := by
 unfold Am.lookupA
 repeat' (first | exact Nice.fail | exact Nice.ret _ | exact Nice.entriesA _ | (refine Nice.bind ?_ fun _ => ?_) | split)
theorem Nice.updateA (t : TypeId) (x k v : AV) : Nice (Am.updateA C t x k v) := by
 unfold Am.updateA
 repeat' (first | exact Nice.fail | exact Nice.getM _ | exact Nice.putM _ _ | (refine Nice.bind ?_ fun _ => ?_) | split)
theorem Nice.nextA (it : AV) (b : Bool) : Nice (Am.nextA it b) := by
 unfold Am.nextA
 repeat' (first | exact Nice.fail | exact Nice.ret _ | exact Nice.getM _ | exact Nice.putM _ _ | exact Nice.askM _ (Nat.succ_pos _) | (refine Nice.bind ?_ fun _ => ?_) | split)
theorem Nice.entryA (it : AV) : Nice (Am.entryA it) := by
 unfold Am.entryA
 repeat' (first | exact Nice.fail | exact Nice.ret _ | exact Nice.getM _ | (refine Nice.bind ?_ fun _ => ?_) | split)
theorem Nice.rangeA (t : TypeId) (x : AV) : Nice (Am.rangeA C t x) := by
 unfold Am.rangeA
 repeat' (first | exact Nice.fail | exact Nice.ret _ | exact Nice.getM _ | exact Nice.putM _ _ | exact Nice.newM _ | (refine Nice.bind ?_ fun _ => ?_) | split)
theorem Nice.lenA (x : AV) : Nice (Am.lenA x) := by
 unfold Am.lenA
 repeat' (first | exact Nice.fail | exact Nice.ret _ | exact Nice.getM _ | (refine Nice.bind ?_ fun _ => ?_) | split)
theorem Nice.builtinA (fz : Bool) (b : Builtin) (ts : List TypeId) (args : List AV) : Nice (Am.builtinA C fz b ts args) := by
 unfold Am.builtinA
 repeat' (first | exact Nice.fail | exact Nice.ret _ | exact Nice.of _ | exact Nice.lenA _ | exact Nice.appendA _ _ _ _ _ | split)
theorem Nice.callA (hc : ∀ f args, Nice (call f args)) (hr : ∀ l args, Nice (rnd l args)) (f : AV) (args : List AV) : Nice (Am.callA call rnd f args) := by
 unfold Am.callA
 repeat' (first | exact Nice.fail | exact hc _ _ | exact hr _ _ | split)
theorem Nice.ev1 {T : List AV} {x : Operand} {f : AV -> M AV} (hf : ∀ v, Nice (f v)) : Nice (Am.ev1 T x f) := by
 unfold Am.ev1
 repeat' (first | exact Nice.fail | exact hf _ | split)
theorem Nice.binM (op : BinOp) (t : TypeId) (x y : AV) : Nice (Am.binM C op t x y) := by
 unfold Am.binM Am.nilOp Am.nilTest
 repeat' (first | exact Nice.fail | exact Nice.ret _ | exact Nice.of _ | exact Nice.askM _ (Nat.succ_pos _) | (refine Nice.bind ?_ fun _ => ?_) | split)
theorem Nice.opA (hc : ∀ f args, Nice (call f args)) (hr : ∀ l args, Nice (rnd l args)) (T : List AV) (o : Oper) : Nice (Am.opA C call rnd T o) := by
 unfold Am.opA
 repeat' (first | exact Nice.fail | exact Nice.ret _ | exact Nice.of _ | exact Nice.newM _ | exact Nice.allocA _ | exact Nice.loadA _ _ _ | exact Nice.storeA _ _ _ _ | exact Nice.sliceOp _ _ _ _ _ | exact Nice.buildSliceA _ _ _ _ | exact Nice.makeSliceA _ _ _ |
  exact Nice.binM _ _ _ _ | exact Nice.lookupA _ _ _ _ | exact Nice.updateA _ _ _ _ | exact Nice.nextA _ _ | exact Nice.entryA _ | exact Nice.rangeA _ _ | exact Nice.builtinA _ _ _ _ | exact Nice.callA hc hr _ _ | (refine Nice.ev1 fun _ => ?_) | (refine Nice.done ?_) | (refine Nice.bind ?_ fun _ => ?_) | split)
end
end Go.Am
namespace Go.Am
open Go
def mg (p : Nat -> Bool) (b : Nm) : Nat -> List Delta -> Option Blk -> Option Blk
 | _, [], h => h
 | k, d :: r, h => mg p b (k + 1) r (if p k = true then (lkD d b).getD h else h)
theorem Zj (H : Heap) (ps : List Nat) (b : Nm) : ∀ (ds : List Delta) (k : Nat) (H : Heap), hget (overlay H ps k ds) b = mg (fun i => memN i ps) b k ds (hget H b)
 | [], k, H => rfl
 | d :: r, k, H => by
  unfold overlay mg
  cases d with
  | nil =>
   simp only [lkD]
   rw [Zj H ps b r (k + 1) H]
   cases memN k ps <;> rfl
  | cons e d =>
   simp only
   rw [Zj H ps b r (k + 1)]
   cases memN k ps
   ·rfl
   ·simp only [if_true]; rw [Z8]
theorem Z14 (b : Nm) : ∀ (ds : List Delta) (k : Nat) (H : Heap), hget (redoH H (allD ds)) b = mg (fun _ => true) b k ds (hget H b)
 | [], k, H => rfl
 | d :: r, k, H => by
  unfold allD mg
  have h := Z14 b r (k + 1) (redoH H d)
  rw [Z8] at h
  rw [Z8, J2, if_pos rfl, <- Z8 H d b, <- h, Z8]
  cases lkD (allD r) b <;> rfl
theorem Z7b (p : Nat -> Bool) (b : Nm) : ∀ (ds : List Delta) (k : Nat) (h h' : Option Blk), (∀ x, h = some x -> h' = some x) -> ∀ x, mg p b k ds h = some x -> mg p b k ds h' = some x
 | [], k, h, h', hh, x, hx => hh x hx
 | d :: r, k, h, h', hh, x, hx => by
  unfold mg at hx ⊢
  refine Z7b p b r (k + 1) _ _ ?_ x hx
  intro y hy
  cases hp : p k <;> simp only [hp] at hy ⊢
  ·exact hh y hy
  ·cases hl : lkD d b <;> simp only [hl, Option.getD, if_true] at hy ⊢
   ·exact hh y hy
   ·exact hy
theorem Z4s (p : Nat -> Bool) (b : Nm) : ∀ (ds : List Delta) (k : Nat) (h : Option Blk) (x : Blk), mg p b k ds h = some x -> (∃ i d, ds[i]? = some d /\ p (k + i) = true /\ ∃ e ∈ d, e.1 = b) \/ h = some x
 | [], k, h, x, hx => .inr hx
 | d :: r, k, h, x, hx => by
  unfold mg at hx
  rcases Z4s p b r (k + 1) _ x hx with ⟨i, d', h1, h2, h3⟩ | hx
  ·exact .inl ⟨i + 1, d', by simpa using h1, by rw [<- h2]; congr 1; omega, h3⟩
  ·cases hp : p k <;> simp only [hp] at hx
   ·exact .inr (by simpa using hx)
   ·cases hl : lkD d b with
    | none => simp only [hl, Option.getD, if_true] at hx; exact .inr hx
    | some y => exact .inl ⟨0, d, rfl, hp, Z4r hl⟩
theorem X4 (b : Nm) : ∀ (l : List Nm) (H : Heap), hget (hide H l) b = if b ∈ l then none else hget H b
 | [], H => by simp [hide]
 | i :: r, H => by
  unfold hide
  rw [X4 b r (hdel H i)]
  by_cases hb : i = b
  ·subst hb; simp [Zn]
  ·by_cases hr : b ∈ r
   ·simp [hr]
   ·simp [hr, Zc _ hb, Ne.symm hb]
theorem Z0v {t : Tr (AV × St)} {x : AV × Delta} (h : one t = some x) : ∃ s, t = .ret (x.1, s) /\ s.j = x.2 := by
 cases t with
 | fail => cases h
 | ret y => simp only [one, Option.some.injEq] at h; subst h; exact ⟨y.2, rfl, rfl⟩
 | ask n k => cases h
theorem TrSub.ret_inv {α : Type} {a : α} {s : St} {t : Tr (α × St)} (h : TrSub (.ret (a, s)) t) : ∃ s', t = .ret (a, s') /\ Sub s s' := by
 cases h with
 | ret _ _ s' h => exact ⟨s', rfl, h⟩
theorem TrSub.one {t t' : Tr (AV × St)} (h : TrSub t t') {x : AV × Delta} (hx : Am.one t = some x) : Am.one t' = some x := by
 obtain ⟨s, rfl, hj⟩ := Z0v hx
 obtain ⟨s', rfl, hs⟩ := h.ret_inv
 simp only [Am.one, Option.some.injEq]
 rw [hs.j, hj]
theorem J3 {s s' : St} (h : Sub s s') (i : Nat) {H H' : Heap} (hH : ∀ b x, hget H b = some x -> hget H' b = some x) : Sub (opSt s i H) (opSt s' i H') :=
 ⟨rfl, by show s'.pre ++ [s'.n, i] = s.pre ++ [s.n, i]; rw [h.pre, h.n], rfl, rfl, hH⟩
theorem Z28 {H H' : Heap} (h : ∀ b x, hget H b = some x -> hget H' b = some x) (ps : List Nat) (k : Nat) (ds : List Delta) : ∀ b x, hget (overlay H ps k ds) b = some x -> hget (overlay H' ps k ds) b = some x := by
 intro b x hx
 rw [Zj H] at hx
 rw [Zj H']
 exact Z7b _ b ds k _ _ (h b) x hx
theorem Zau {H H' : Heap} (h : ∀ b x, hget H b = some x -> hget H' b = some x) (l : List Nm) : ∀ b x, hget (hide H l) b = some x -> hget (hide H' l) b = some x := by
 intro b x hx
 rw [X4] at hx ⊢
 by_cases hb : b ∈ l
 ·simp [hb] at hx
 ·simp only [hb, if_false] at hx ⊢; exact h b x hx
theorem Z9q {H H' : Heap} (h : ∀ b x, hget H b = some x -> hget H' b = some x) (d : Delta) : ∀ b x, hget (redoH H d) b = some x -> hget (redoH H' d) b = some x := by
 intro b x hx
 rw [Z8] at hx ⊢
 cases hl : lkD d b with
 | none => rw [hl] at hx; exact h b x hx
 | some y => rw [hl] at hx; exact hx
section
variable {C : Cfg} {call : FuncId -> List AV -> M AV} {rnd : Nm -> List AV -> M AV}
theorem Xf (hc : ∀ f args, Nice (call f args)) (hr : ∀ l args, Nice (rnd l args)) {s s' : St} (hs : Sub s s') (ops : List Oper) (before : List (List Nat)) : ∀ (l : List Oper) (i : Nat) (T vs : List AV) (ds : List Delta) (x : List AV × List Delta),
  drawPass C call rnd ops s before i l T vs ds = some x -> drawPass C call rnd ops s' before i l T vs ds = some x
 | [], i, T, vs, ds, x, h => h
 | o :: r, i, T, vs, ds, x, h => by
  unfold drawPass at h ⊢
  cases hw : wantedA ops T o with
  | false => rw [hw] at h; exact Xf hc hr hs ops before r (i + 1) _ _ _ x h
  | true =>
   rw [hw] at h
   simp only at h ⊢
   cases ho : one (opA C call rnd T o (opSt s i (overlay s.H ((nth before i).getD []) 0 ds))) with
   | none => rw [ho] at h; cases h
   | some y =>
    rw [ho] at h
    rw [TrSub.one ((Nice.opA hc hr T o).mono _ _ (J3 hs i (Z28 hs.le _ 0 ds))) ho]
    exact Xf hc hr hs ops before r (i + 1) _ _ _ x h
theorem Yh (hc : ∀ f args, Nice (call f args)) (hr : ∀ l args, Nice (rnd l args)) {s s' : St} (hs : Sub s s') (ops : List Oper) (before : List (List Nat)) (ds : List Delta) (ws : List (List Nm)) : ∀ (l : List Oper) (vs : List AV) (T : List AV) (i : Nat),
  drawCheck C call rnd ops s before ds ws T i l vs = true -> drawCheck C call rnd ops s' before ds ws T i l vs = true
 | [], vs, T, i, h => by cases vs <;> rfl
 | o :: r, [], T, i, h => by cases h
 | o :: r, v :: vs, T, i, h => by
  unfold drawCheck at h ⊢
  cases hv : rivals before i 0 ws with
  | nil => rw [hv] at h; exact Yh hc hr hs ops before ds ws r vs _ (i + 1) h
  | cons b bs =>
   rw [hv] at h
   simp only at h ⊢
   cases hw : wantedA ops T o with
   | false => rw [hw] at h; exact Yh hc hr hs ops before ds ws r vs _ (i + 1) h
   | true =>
    rw [hw] at h
    simp only at h ⊢
    cases hi : opA C call rnd T o (opSt s i (hide (overlay s.H ((nth before i).getD []) 0 ds) (b :: bs))) with
    | ret y =>
     rw [hi] at h
     have := (Nice.opA (C := C) hc hr T o).mono _ _ (J3 hs i (Zau (Z28 hs.le ((nth before i).getD []) 0 ds) (b :: bs)))
     rw [hi] at this
     obtain ⟨s2, h2, _⟩ := TrSub.ret_inv (a := y.1) (s := y.2) this
     rw [h2]
     exact Yh hc hr hs ops before ds ws r vs _ (i + 1) h
    | fail => rw [hi] at h; cases h
    | ask _ _ => rw [hi] at h; cases h
theorem Xr (hc : ∀ f args, Nice (call f args)) (hr : ∀ l args, Nice (rnd l args)) {s : St} (ops : List Oper) (before : List (List Nat)) : ∀ (l : List Oper) (i : Nat) (T vs : List AV) (ds : List Delta) (x : List AV × List Delta),
  (∀ d ∈ ds, ∀ e ∈ d, Own s e.1 \/ ∃ x, hget s.H e.1 = some x) -> drawPass C call rnd ops s before i l T vs ds = some x -> ∀ d ∈ x.2, ∀ e ∈ d, Own s e.1 \/ ∃ x, hget s.H e.1 = some x
 | [], i, T, vs, ds, x, hd, h => by
  simp only [drawPass, Option.some.injEq] at h; subst h; exact hd
 | o :: r, i, T, vs, ds, x, hd, h => by
  unfold drawPass at h
  cases hw : wantedA ops T o with
  | false =>
   rw [hw] at h
   refine Xr hc hr ops before r (i + 1) _ _ _ x ?_ h
   intro d hdm
   rcases List.mem_append.1 hdm with hdm | hdm
   ·exact hd d hdm
   ·simp at hdm; subst hdm; intro e he; cases he
  | true =>
   rw [hw] at h
   simp only at h
   cases ho : one (opA C call rnd T o (opSt s i (overlay s.H ((nth before i).getD []) 0 ds))) with
   | none => rw [ho] at h; cases h
   | some y =>
    rw [ho] at h
    refine Xr hc hr ops before r (i + 1) _ _ _ x ?_ h
    intro d hdm
    rcases List.mem_append.1 hdm with hdm | hdm
    ·exact hd d hdm
    ·simp at hdm; subst hdm
     obtain ⟨t, ht, hj⟩ := Z0v ho
     have hjr := (Nice.opA (C := C) hc hr T o).jr (opSt s i (overlay s.H ((nth before i).getD []) 0 ds))
     rw [ht] at hjr
     obtain ⟨d', d1, _, d3⟩ := JrR.j (hjr : JrR _ t) rfl
     intro e he
     have hd' : d' = y.2 := by rw [<- hj, d1]; exact (List.append_nil d').symm
     rw [<- hd'] at he
     rcases d3 e he with ⟨m, q, hb, hm⟩ | ⟨z, hz⟩
     ·refine .inl ⟨s.n, i :: m :: q, ?_, Nat.le_refl _⟩
      rw [hb]; show (s.pre ++ [s.n, i]) ++ m :: q = _; simp
     ·have hz' : hget (overlay s.H ((nth before i).getD []) 0 ds) e.1 = some z := hz
      rw [Zj s.H] at hz'
      rcases Z4s _ _ _ _ _ _ hz' with ⟨k, d2, h1, h2, e2, h3, h4⟩ | hz'
      ·rw [<- h4]; exact hd d2 (List.mem_of_getElem? h1) e2 h3
      ·exact .inr ⟨z, hz'⟩
theorem Z29 {s s' : St} (h : Sub s s') : ∀ (ds : List Delta) (i : Nat), olds s' i ds = olds s i ds
 | [], i => rfl
 | d :: r, i => by unfold olds; rw [h.pre, h.n, Z29 h r (i + 1)]
theorem Z9r {ds : List Delta} {e : Nm × Option Blk} (h : e ∈ allD ds) : ∃ d ∈ ds, e ∈ d := by
 induction ds with
 | nil => cases h
 | cons d r ih =>
  rcases List.mem_append.1 h with h | h
  ·obtain ⟨d', h1, h2⟩ := ih h; exact ⟨d', List.mem_cons_of_mem _ h1, h2⟩
  ·exact ⟨d, List.mem_cons_self, h⟩
theorem Nice.drawA (hc : ∀ f args, Nice (call f args)) (hr : ∀ l args, Nice (rnd l args)) (ops : List Oper) (T : List AV) : Nice (Am.drawA C call rnd ops T) := by
 constructor
 ·intro s
  unfold Am.drawA
  cases drawPass C call rnd ops s (predsAll [] ops) 0 ops T [] [] with
  | none => trivial
  | some x =>
   simp only
   cases allNil (olds s 0 x.2) with
   | true => trivial
   | false =>
    simp only
    cases drawCheck C call rnd ops s (predsAll [] ops) x.2 (olds s 0 x.2) T 0 ops x.1 <;> trivial
 ·intro s s' hs
  unfold Am.drawA
  cases hp : drawPass C call rnd ops s (predsAll [] ops) 0 ops T [] [] with
  | none => exact .fail _
  | some x =>
   rw [Xf hc hr hs ops _ ops 0 T [] [] x hp]
   simp only
   rw [Z29 hs]
   have hend : TrSub (.ret (putsT ops x.1 T, drawEnd s (allD x.2))) (.ret (putsT ops x.1 T, drawEnd s' (allD x.2))) := by
    refine .ret _ _ _ ⟨by show s'.n + 1 = s.n + 1; rw [hs.n], hs.pre, hs.jr, by show (match s'.jr with | true => _ | false => s'.j) = (match s.jr with | true => _ | false => s.j); rw [hs.jr, hs.j], Z9q hs.le _⟩
   cases allNil (olds s 0 x.2) with
   | true => exact hend
   | false =>
    simp only
    cases hk : drawCheck C call rnd ops s (predsAll [] ops) x.2 (olds s 0 x.2) T 0 ops x.1 with
    | false => exact .fail _
    | true => rw [Yh hc hr hs ops _ _ _ ops _ _ 0 hk]; exact hend
 ·intro s
  unfold Am.drawA
  cases hp : drawPass C call rnd ops s (predsAll [] ops) 0 ops T [] [] with
  | none => trivial
  | some x =>
   have hids := Xr hc hr ops _ ops 0 T [] [] x (by intro d hd; cases hd) hp
   have hend : JrR s (drawEnd s (allD x.2)) := by
    refine ⟨rfl, rfl, Nat.le_succ _, fun hj => ⟨allD x.2, ?_, fun _ => rfl, ?_⟩⟩
    ·show (match s.jr with | true => _ | false => s.j) = _; rw [hj]
    ·intro e he; obtain ⟨d, h1, h2⟩ := Z9r he; exact hids d h1 e h2
   simp only
   cases allNil (olds s 0 x.2) with
   | true => exact hend
   | false =>
    simp only
    cases drawCheck C call rnd ops s (predsAll [] ops) x.2 (olds s 0 x.2) T 0 ops x.1 with
    | false => trivial
    | true => exact hend
theorem Nice.runOps (hc : ∀ f args, Nice (call f args)) (hr : ∀ l args, Nice (rnd l args)) (ops l : List Oper) : ∀ T, Nice (Am.runOps C call rnd ops l T) := by
 induction l with
 | nil => intro T; exact Nice.ret T
 | cons o r ih =>
  intro T
  show Nice (match wantedA ops T o with
   | true => (Am.opA C call rnd T o).bind fun v => Am.runOps C call rnd ops r (putT T o.dst v)
   | false => Am.runOps C call rnd ops r (putT T o.dst .undef))
  split
  ·exact Nice.bind (Nice.opA hc hr T o) fun v => ih _
  ·exact ih _
end
end Go.Am
namespace Go.Am
open Go
def Blk.rwB : Blk -> Bool
 | .cells _ rw _ => rw
 | _ => true
def Blk.bare : Blk -> Place -> Nat
 | .tok n z, p => p.off + n * z
 | _, _ => 0
def CellsR (ρ : Rho) (cs : List AV) (off : Nat) (ccs : Array Value) : Prop :=
 ∀ i c, nth cs i = some c -> c.sc = true /\ ∃ v, ccs[off + i]? = some v /\ VR ρ c v
def EntsR (ρ : Rho) : List (AV × AV) -> List MapEntry -> Prop
 | [], l => l = []
 | e :: r, l => ∃ x t, l = x :: t /\ VR ρ e.1 x.key /\ VR ρ e.2 x.val /\ EntsR ρ r t
def Borns (clock : Nat) (l : List MapEntry) : Prop := (l.map (·.born)).Pairwise (· < ·) /\ ∀ x ∈ l, x.born < clock
def RwOk (ρ : Rho) (p : Place) (ccs : Array Value) (fr : Nat × Nat) : Bool -> Prop
 | true => fr = (0, 0)
 | false => ∀ k v, ccs[k]? = some v -> ρ.fz p.blk k = some v
theorem RwOk.mono {ρ ρ' : Rho} (h : Ext ρ ρ') {p : Place} {ccs : Array Value} {fr : Nat × Nat} : ∀ {rw : Bool}, RwOk ρ p ccs fr rw -> RwOk ρ' p ccs fr rw
 | true, e => e
 | false, e => fun k v hk => h.fz _ _ _ (e k v hk)
def BO (ρ : Rho) (p : Place) (o : Option Obj) : Blk -> Prop
 | .cells cs rw u => p.unit = u /\ ∃ ccs e fr, o = some (.cells ccs e fr) /\ p.total = ccs.size /\ RwOk ρ p ccs fr rw /\ CellsR ρ cs p.off ccs
 | .tok n z => p.unit = z /\ 1 <= z /\ ∃ ccs e, o = some (.cells ccs e (0, 0)) /\ p.total = ccs.size
 | .map es _ => ∃ ents clock, o = some (.map ents clock) /\ EntsR ρ es ents.toList /\ Borns clock ents.toList
 | .loop T ps a b st pend => ∃ l : Loop, o = some (.loop l) /\ l.state = st /\ l.pending = pend /\ l.params.toList = ps /\ l.assign = a /\ l.body = b /\ VRs ρ T l.tmps.toList /\ codeOk a true = true /\ codeOk b true = true
 | .strIter s pos => p.off = 0 /\ o = some (.stringIter s pos)
 | .mapIter m _ _ => p.off = 0 /\ ∃ pm clock seen, ρ m = some pm /\ o = some (.mapIter (some pm.blk) clock seen clock)
theorem CellsR.mono {ρ ρ' : Rho} (h : Ext ρ ρ') {cs : List AV} {off : Nat} {ccs : Array Value} (hc : CellsR ρ cs off ccs) : CellsR ρ' cs off ccs :=
 fun i c hi => let ⟨h1, v, hv, hr⟩ := hc i c hi; ⟨h1, v, hv, VR.mono h _ _ hr⟩
theorem EntsR.mono {ρ ρ' : Rho} (h : Ext ρ ρ') : ∀ {es : List (AV × AV)} {l : List MapEntry}, EntsR ρ es l -> EntsR ρ' es l
 | [], l, e => e
 | e :: r, l, hl => let ⟨x, t, he, h1, h2, h3⟩ := hl; ⟨x, t, he, VR.mono h _ _ h1, VR.mono h _ _ h2, EntsR.mono h h3⟩
theorem BO.mono {ρ ρ' : Rho} (h : Ext ρ ρ') {p : Place} {o : Option Obj} {x : Blk} (hb : BO ρ p o x) : BO ρ' p o x := by
 cases x with
 | cells cs rw u => obtain ⟨hu, ccs, e, fr, ho, ht, hf, hc⟩ := hb; exact ⟨hu, ccs, e, fr, ho, ht, hf.mono h, hc.mono h⟩
 | tok n z => exact hb
 | map es fz => obtain ⟨ents, clock, ho, he, hk⟩ := hb; exact ⟨ents, clock, ho, he.mono h, hk⟩
 | loop T ps a b st pend => obtain ⟨l, ho, h1, h2, h3, h4, h5, h6, h7⟩ := hb; exact ⟨l, ho, h1, h2, h3, h4, h5, VRs.mono h _ _ h6, h7⟩
 | strIter s pos => exact hb
 | mapIter m left last => obtain ⟨h0, pm, clock, seen, hm, ho⟩ := hb; exact ⟨h0, pm, clock, seen, h.pl _ _ hm, ho⟩
def MI (ρ : Rho) (left : List (AV × AV)) (last : Option (AV × AV)) (o om : Option Obj) : Prop :=
 ∃ mb ents clock seen, o = some (.mapIter (some mb) clock seen clock) /\ om = some (.map ents clock) /\
  EntsR ρ left (ents.toList.filter fun e => !seen.contains e.born) /\
  ∀ e, last = some e -> ∃ st x, seen.back? = some st /\ ents.toList.find? (fun y => y.born == st) = some x /\ VR ρ e.1 x.key /\ VR ρ e.2 x.val
theorem MI.mono {ρ ρ' : Rho} (h : Ext ρ ρ') {left : List (AV × AV)} {last : Option (AV × AV)} {o om : Option Obj} (hm : MI ρ left last o om) : MI ρ' left last o om := by
 obtain ⟨mb, ents, clock, seen, h1, h2, h3, h4⟩ := hm
 exact ⟨mb, ents, clock, seen, h1, h2, h3.mono h, fun e he => let ⟨st, x, a, b, c, d⟩ := h4 e he; ⟨st, x, a, b, VR.mono h _ _ c, VR.mono h _ _ d⟩⟩
structure HR (ρ : Rho) (H : Heap) (w : World) : Prop where
 blocks : ∀ b x, hget H b = some x -> ∃ p, ρ b = some p /\ BO ρ p w.heap[p.blk]? x
 sep : ∀ b b' x x' p p', hget H b = some x -> hget H b' = some x' -> ρ b = some p -> ρ b' = some p' -> b ≠ b' -> x.rwB = true -> p.blk ≠ p'.blk
 iter : ∀ b m left last, hget H b = some (.mapIter m left last) -> (∃ es, hget H m = some (.map es true)) /\ ∀ p pm, ρ b = some p -> ρ m = some pm -> MI ρ left last w.heap[p.blk]? w.heap[pm.blk]?
 frz : ∀ c k v, ρ.fz c k = some v -> ∃ ccs e fr, w.heap[c]? = some (.cells ccs e fr) /\ ccs[k]? = some v
 fsep : ∀ b x p, hget H b = some x -> x.rwB = true -> ρ b = some p -> ∀ k, x.bare p <= k -> ρ.fz p.blk k = none
theorem HR.fz_lt {ρ : Rho} {H : Heap} {w : World} (h : HR ρ H w) {c k : Nat} {v : Value} (hv : ρ.fz c k = some v) : c < w.heap.size := by
 obtain ⟨ccs, e, fr, ho, _⟩ := h.frz c k v hv
 exact (Array.getElem?_eq_some_iff.1 ho).1
def Img (ρ : Rho) (H : Heap) (c : Nat) : Prop := ∃ b x p, hget H b = some x /\ x.rwB = true /\ ρ b = some p /\ p.blk = c
def Fr (ρ : Rho) (s : St) : Prop := ∀ m r, s.n <= m -> ρ (s.pre ++ m :: r) = none
structure Same (w w' : World) : Prop where
 os : w'.os = w.os
 tape : w'.tape = w.tape
 output : w'.output = w.output
theorem Same.refl (w : World) : Same w w := ⟨rfl, rfl, rfl⟩
theorem Same.trans {a b c : World} (h : Same a b) (k : Same b c) : Same a c := ⟨k.os.trans h.os, k.tape.trans h.tape, k.output.trans h.output⟩
structure Stp (ρ : Rho) (s : St) (w : World) (ρ' : Rho) (s' : St) (w' : World) : Prop where
 ext : Ext ρ ρ'
 loc : ∀ b p, ρ' b = some p -> ρ b = none -> ∃ m r, b = s.pre ++ m :: r /\ s.n <= m /\ m < s'.n
 pre : s'.pre = s.pre
 nle : s.n <= s'.n
 same : Same w w'
 size : w.heap.size <= w'.heap.size
 unch : ∀ c, c < w.heap.size -> ¬ Img ρ s.H c -> w'.heap[c]? = w.heap[c]?
 img : ∀ c, c < w.heap.size -> Img ρ' s'.H c -> Img ρ s.H c
 fzl : ∀ c k v, ρ'.fz c k = some v -> ρ.fz c k = none -> c < w.heap.size -> Img ρ s.H c
theorem Xs {p r r' : List Nat} {m m' : Nat} (h : p ++ m :: r = p ++ m' :: r') : m = m' /\ r = r' := by
 have := List.append_cancel_left h
 simpa using this
theorem Stp.fr {ρ ρ' : Rho} {s s' : St} {w w' : World} (h : Stp ρ s w ρ' s' w') (hf : Fr ρ s) : Fr ρ' s' := by
 intro m r hm
 rw [h.pre]
 cases e : ρ' (s.pre ++ m :: r) with
 | none => rfl
 | some p =>
  obtain ⟨m', r', hb, h1, h2⟩ := h.loc _ _ e (hf m r (Nat.le_trans h.nle hm))
  obtain ⟨rfl, rfl⟩ := Xs hb
  omega
theorem Stp.refl (ρ : Rho) (s : St) (w : World) : Stp ρ s w ρ s w :=
 ⟨Ext.refl _, fun b p h h' => (by rw [h] at h'; cases h'), rfl, Nat.le_refl _, Same.refl _, Nat.le_refl _, fun _ _ _ => rfl, fun _ _ h => h, fun _ _ _ h h' => (by rw [h] at h'; cases h')⟩
theorem Stp.trans {ρ ρ' ρ'' : Rho} {s s' s'' : St} {w w' w'' : World} (h : Stp ρ s w ρ' s' w') (k : Stp ρ' s' w' ρ'' s'' w'') : Stp ρ s w ρ'' s'' w'' where
 ext := h.ext.trans k.ext
 loc := fun b p hb hn => by
  cases e : ρ' b with
  | none =>
   obtain ⟨m, r, hb', h1, h2⟩ := k.loc b p hb e
   rw [h.pre] at hb'
   exact ⟨m, r, hb', Nat.le_trans h.nle h1, h2⟩
  | some q =>
   obtain ⟨m, r, hb', h1, h2⟩ := h.loc b q e hn
   exact ⟨m, r, hb', h1, Nat.lt_of_lt_of_le h2 k.nle⟩
 pre := k.pre.trans h.pre
 nle := Nat.le_trans h.nle k.nle
 same := h.same.trans k.same
 size := Nat.le_trans h.size k.size
 unch := fun c hc hn => (k.unch c (Nat.lt_of_lt_of_le hc h.size) (fun hi => hn (h.img c hc hi))).trans (h.unch c hc hn)
 img := fun c hc hi => h.img c hc (k.img c (Nat.lt_of_lt_of_le hc h.size) hi)
 fzl := fun c i v hv hn hc => by
  cases e : ρ'.fz c i with
  | none => exact h.img c hc (k.fzl c i v hv e (Nat.lt_of_lt_of_le hc h.size))
  | some u => exact h.fzl c i u e hn hc
theorem HR.world {ρ : Rho} {H : Heap} {w w' : World} (h : HR ρ H w) (hw : w'.heap = w.heap) : HR ρ H w' :=
 ⟨fun b x hb => by rw [hw]; exact h.blocks b x hb, h.sep, fun b m l e hb => by rw [hw]; exact h.iter b m l e hb, fun c k v hv => by rw [hw]; exact h.frz c k v hv, h.fsep⟩
theorem Stp.world {ρ ρ' : Rho} {s s' : St} {w w1 w' : World} (h : Stp ρ s w ρ' s' w1) (hw : w'.heap = w1.heap) (hs : Same w1 w') : Stp ρ s w ρ' s' w' :=
 ⟨h.ext, h.loc, h.pre, h.nle, h.same.trans hs, by rw [hw]; exact h.size, by rw [hw]; exact h.unch, h.img, h.fzl⟩
def Rho.upd (ρ : Rho) (b : Nm) (p : Place) : Rho := ⟨fun i => if i = b then some p else ρ i, ρ.fz⟩
theorem Rho.upd_same (ρ : Rho) (b : Nm) (p : Place) : ρ.upd b p b = some p := by simp [Rho.upd]
theorem Rho.upd_ne (ρ : Rho) {b i : Nm} (p : Place) (h : i ≠ b) : ρ.upd b p i = ρ i := by simp [Rho.upd, h]
theorem Rho.upd_ext {ρ : Rho} {b : Nm} (p : Place) (h : ρ b = none) : Ext ρ (ρ.upd b p) := ⟨fun i q hi => by
 have : i ≠ b := fun e => by subst e; rw [h] at hi; cases hi
 rw [Rho.upd_ne _ _ this]; exact hi, fun _ _ _ h => h⟩
theorem Yt {ρ : Rho} {s : St} (hf : Fr ρ s) : ρ s.name = none := hf s.n [] (Nat.le_refl _)
theorem Jm {ρ : Rho} {H : Heap} {w : World} (h : HR ρ H w) {b i : Nm} {x : Blk} (hb : hget H b = some x) (hi : ρ i = none) : i ≠ b := fun e => by
 subst e; obtain ⟨p, hp, _⟩ := h.blocks _ _ hb; rw [hi] at hp; cases hp
theorem Y8 {ρ : Rho} {H : Heap} {w : World} (h : HR ρ H w) {b : Nm} {x : Blk} {p : Place} (hb : hget H b = some x) (hp : ρ b = some p) : p.blk < w.heap.size := by
 obtain ⟨q, hq, hbo⟩ := h.blocks _ _ hb
 rw [hp] at hq; obtain rfl := Option.some.inj hq
 have : ∃ o, w.heap[p.blk]? = some o := by
  cases x with
  | cells cs rw u => obtain ⟨_, ccs, e, fr, ho, _⟩ := hbo; exact ⟨_, ho⟩
  | tok n z => obtain ⟨_, _, ccs, e, ho, _⟩ := hbo; exact ⟨_, ho⟩
  | map es fz => obtain ⟨ents, clock, ho, _⟩ := hbo; exact ⟨_, ho⟩
  | loop T ps a b st pend => obtain ⟨l, ho, _⟩ := hbo; exact ⟨_, ho⟩
  | strIter s pos => exact ⟨_, hbo.2⟩
  | mapIter m left last => obtain ⟨_, pm, clock, seen, _, ho⟩ := hbo; exact ⟨_, ho⟩
 obtain ⟨o, ho⟩ := this
 exact (Array.getElem?_eq_some_iff.1 ho).1
theorem Jw {ρ : Rho} {s : St} {w : World} (hr : HR ρ s.H w) (hf : Fr ρ s) (x : Blk) (o : Obj) (p : Place) (hp : p.blk = w.heap.size)
  (hb : BO (ρ.upd s.name p) p (some o) x)
  (hm : ∀ m left last, x = .mapIter m left last -> (∃ es, hget s.H m = some (.map es true)) /\ ∀ pm, ρ m = some pm -> MI ρ left last (some o) w.heap[pm.blk]?) :
  Stp ρ s w (ρ.upd s.name p) (s.new x) (w.alloc o) /\ HR (ρ.upd s.name p) (s.new x).H (w.alloc o) := by
 have hfree := Yt hf
 have hext := Rho.upd_ext (ρ := ρ) p hfree
 have hnew : (w.alloc o).heap[w.heap.size]? = some o := by show (w.heap.push o)[w.heap.size]? = some o; simp
 have hold : ∀ c, c < w.heap.size -> (w.alloc o).heap[c]? = w.heap[c]? := fun c hc => by
  show (w.heap.push o)[c]? = w.heap[c]?
  rw [Array.getElem?_push_lt hc, Array.getElem?_eq_getElem hc]
 have hlive : ∀ b y, hget s.H b = some y -> s.name ≠ b := fun b y hy => Jm hr hy hfree
 constructor
 ·refine ⟨hext, ?_, rfl, Nat.le_succ _, ⟨rfl, rfl, rfl⟩, ?_, fun c hc _ => hold c hc, ?_, fun c k v h h' => (by have h : ρ.fz c k = some v := h; rw [h] at h'; cases h')⟩
  ·intro b q hb' hn
   by_cases e : b = s.name
   ·exact ⟨s.n, [], e, Nat.le_refl _, Nat.lt_succ_self _⟩
   ·rw [Rho.upd_ne _ _ e, hn] at hb'; cases hb'
  ·show w.heap.size <= (w.heap.push o).size; simp
  ·rintro c hc ⟨b, y, q, hy, hrw, hq, rfl⟩
   by_cases e : s.name = b
   ·subst e; rw [Rho.upd_same] at hq; obtain rfl := Option.some.inj hq; omega
   ·have hy' : hget s.H b = some y := by rw [<- Z1 (i := s.name) x s.H e]; exact hy
    rw [Rho.upd_ne _ _ (Ne.symm e)] at hq
    exact ⟨b, y, q, hy', hrw, hq, rfl⟩
 ·refine ⟨?_, ?_, ?_, fun c k v hv => (by rw [hold c (hr.fz_lt hv)]; exact hr.frz c k v hv), ?_⟩
  rotate_left 3
  ·intro b y q hy hrw hq k hk
   by_cases e : s.name = b
   ·subst e
    rw [Rho.upd_same] at hq; obtain rfl := Option.some.inj hq
    cases hv : ρ.fz p.blk k with
    | none => exact hv
    | some v => have := hr.fz_lt hv; omega
   ·have hy' : hget s.H b = some y := by rw [<- Z1 (i := s.name) x s.H e]; exact hy
    rw [Rho.upd_ne _ _ (Ne.symm e)] at hq
    exact hr.fsep b y q hy' hrw hq k hk
  ·intro b y hy
   by_cases e : s.name = b
   ·subst e
    have : y = x := by have h2 := Z6 s.name x s.H; rw [show (s.new x).H = (s.name, x) :: s.H from rfl, h2] at hy; exact (Option.some.inj hy).symm
    subst this
    exact ⟨p, Rho.upd_same .., by rw [hp, hnew]; exact hb⟩
   ·have hy' : hget s.H b = some y := by rw [<- Z1 (i := s.name) x s.H e]; exact hy
    obtain ⟨q, hq, hbo⟩ := hr.blocks b y hy'
    refine ⟨q, hext.pl _ _ hq, ?_⟩
    rw [hold _ (Y8 hr hy' hq)]
    exact hbo.mono hext
  ·intro b b' y y' q q' hy hy' hq hq' hne hrw
   by_cases e : s.name = b
   ·subst e
    have hy2 : hget s.H b' = some y' := by rw [<- Z1 (i := s.name) x s.H hne]; exact hy'
    rw [Rho.upd_same] at hq; obtain rfl := Option.some.inj hq
    rw [Rho.upd_ne _ _ (Ne.symm hne)] at hq'
    have := Y8 hr hy2 hq'
    omega
   ·have hy2 : hget s.H b = some y := by rw [<- Z1 (i := s.name) x s.H e]; exact hy
    rw [Rho.upd_ne _ _ (Ne.symm e)] at hq
    have hlt := Y8 hr hy2 hq
    by_cases e' : s.name = b'
    ·subst e'; rw [Rho.upd_same] at hq'; obtain rfl := Option.some.inj hq'; omega
    ·have hy3 : hget s.H b' = some y' := by rw [<- Z1 (i := s.name) x s.H e']; exact hy'
     rw [Rho.upd_ne _ _ (Ne.symm e')] at hq'
     exact hr.sep b b' y y' q q' hy2 hy3 hq hq' hne hrw
  ·intro b m left last hy
   have key : ∀ m', (∃ es, hget s.H m' = some (.map es true)) -> ∃ es, hget (s.new x).H m' = some (.map es true) := fun m' ⟨es, he⟩ =>
    ⟨es, by rw [show (s.new x).H = (s.name, x) :: s.H from rfl, Z1 _ _ (hlive _ _ he)]; exact he⟩
   by_cases e : s.name = b
   ·subst e
    have : x = .mapIter m left last := by have h2 := Z6 s.name x s.H; rw [show (s.new x).H = (s.name, x) :: s.H from rfl, h2] at hy; exact Option.some.inj hy
    obtain ⟨he, hmi⟩ := hm m left last this
    refine ⟨key m he, fun q pm hq hpm => ?_⟩
    obtain ⟨es, he⟩ := he
    rw [Rho.upd_same] at hq; obtain rfl := Option.some.inj hq
    rw [Rho.upd_ne _ _ (Ne.symm (hlive _ _ he))] at hpm
    rw [hp, hnew, hold _ (Y8 hr he hpm)]
    exact (hmi pm hpm).mono hext
   ·have hy' : hget s.H b = some (.mapIter m left last) := by rw [<- Z1 (i := s.name) x s.H e]; exact hy
    obtain ⟨he, hmi⟩ := hr.iter b m left last hy'
    refine ⟨key m he, fun q pm hq hpm => ?_⟩
    obtain ⟨es, he⟩ := he
    rw [Rho.upd_ne _ _ (Ne.symm e)] at hq
    rw [Rho.upd_ne _ _ (Ne.symm (hlive _ _ he))] at hpm
    rw [hold _ (Y8 hr hy' hq), hold _ (Y8 hr he hpm)]
    exact (hmi q pm hq hpm).mono hext
theorem J4 {ρ : Rho} {s : St} {w w' : World} (hr : HR ρ s.H w) {b : Nm} {x y : Blk} {p : Place} {o : Obj} (hx : hget s.H b = some x) (hrw : x.rwB = true) (hyw : y.rwB = true) (hp : ρ b = some p)
  (ho : w'.heap[p.blk]? = some o) (hoth : ∀ c, c ≠ p.blk -> w'.heap[c]? = w.heap[c]?) (hsz : w'.heap.size = w.heap.size) (hs : Same w w')
  (hb : BO ρ p (some o) y)
  (hm : ∀ m left last, y = .mapIter m left last -> (∃ es, hget s.H m = some (.map es true)) /\ ∀ pm, ρ m = some pm -> MI ρ left last (some o) w.heap[pm.blk]?)
  (hk : ∀ es, x = .map es true -> y = x /\ w.heap[p.blk]? = some o) (hnt : ∀ n z, x ≠ .tok n z := by intro _ _ h; cases h) :
  Stp ρ s w ρ (s.put b y) w' /\ HR ρ (s.put b y).H w' := by
 have hne : ∀ i z q, hget s.H i = some z -> ρ i = some q -> i ≠ b -> q.blk ≠ p.blk := fun i z q hz hq h e => hr.sep b i x z p q hx hz hp hq (Ne.symm h) hrw e.symm
 have hgs : hget (s.put b y).H b = some y := Z4 y hx
 have hgo : ∀ i, i ≠ b -> hget (s.put b y).H i = hget s.H i := fun i h => Z0 s.H y (Ne.symm h)
 have hbare : ∀ k, ρ.fz p.blk k = none := fun k => hr.fsep b x p hx hrw hp k (by cases x <;> first | exact Nat.zero_le _ | exact absurd rfl (hnt _ _))
 have himg : ∀ c, Img ρ (s.put b y).H c ↔ Img ρ s.H c := by
  intro c
  constructor
  ·rintro ⟨i, z, q, hz, hzw, hq, rfl⟩
   by_cases e : i = b
   ·subst e; exact ⟨i, x, q, hx, hrw, hq, rfl⟩
   ·rw [hgo i e] at hz; exact ⟨i, z, q, hz, hzw, hq, rfl⟩
  ·rintro ⟨i, z, q, hz, hzw, hq, rfl⟩
   by_cases e : i = b
   ·subst e; exact ⟨i, y, q, hgs, hyw, hq, rfl⟩
   ·exact ⟨i, z, q, by rw [hgo i e]; exact hz, hzw, hq, rfl⟩
 constructor
 ·refine ⟨Ext.refl _, fun b p h h' => (by rw [h] at h'; cases h'), rfl, Nat.le_refl _, hs, Nat.le_of_eq hsz.symm, ?_, fun c _ h => (himg c).1 h, fun c k v h h' => (by have h : ρ.fz c k = some v := h; rw [h] at h'; cases h')⟩
  intro c _ hn
  exact hoth c fun e => hn ⟨b, x, p, hx, hrw, hp, e.symm⟩
 ·refine ⟨?_, ?_, ?_, fun c k v hv => ?_, fun i z q hz hzw hq k hk' => ?_⟩
  rotate_left 3
  ·rw [hoth c fun e => (by rw [e, hbare] at hv; cases hv)]; exact hr.frz c k v hv
  ·by_cases e : i = b
   ·subst e; rw [hp] at hq; obtain rfl := Option.some.inj hq; exact hbare k
   ·rw [hgo i e] at hz; exact hr.fsep i z q hz hzw hq k hk'
  ·intro i z hz
   by_cases e : i = b
   ·subst e; rw [hgs] at hz; obtain rfl := Option.some.inj hz; exact ⟨p, hp, by rw [ho]; exact hb⟩
   ·rw [hgo i e] at hz
    obtain ⟨q, hq, hbo⟩ := hr.blocks i z hz
    exact ⟨q, hq, by rw [hoth _ (hne i z q hz hq e)]; exact hbo⟩
  ·intro i j z z' q q' hz hz' hq hq' hij hzw
   by_cases e : i = b
   ·subst e
    rw [hgo j (Ne.symm hij)] at hz'
    exact hr.sep i j x z' q q' hx hz' hq hq' hij hrw
   ·rw [hgo i e] at hz
    by_cases e' : j = b
    ·subst e'; exact hr.sep i j z x q q' hz hx hq hq' hij hzw
    ·rw [hgo j e'] at hz'; exact hr.sep i j z z' q q' hz hz' hq hq' hij hzw
  ·intro i m left last hz
   have hmap : (∃ es, hget s.H m = some (.map es true)) -> ∃ es, hget (s.put b y).H m = some (.map es true) := by
    rintro ⟨es, he⟩
    by_cases e : m = b
    ·subst e; rw [hx] at he; obtain rfl := Option.some.inj he
     obtain ⟨rfl, _⟩ := hk es rfl
     exact ⟨es, hgs⟩
    ·exact ⟨es, by rw [hgo m e]; exact he⟩
   have hmo : ∀ pm es, hget s.H m = some (.map es true) -> ρ m = some pm -> w'.heap[pm.blk]? = w.heap[pm.blk]? := by
    intro pm es he hpm
    by_cases e : m = b
    ·subst e
     rw [hp] at hpm; obtain rfl := Option.some.inj hpm
     rw [hx] at he; obtain rfl := Option.some.inj he
     rw [ho, (hk es rfl).2]
    ·exact hoth _ (hne m _ pm he hpm e)
   by_cases e : i = b
   ·subst e
    rw [hgs] at hz; obtain rfl := Option.some.inj hz
    obtain ⟨he, hmi⟩ := hm m left last rfl
    refine ⟨hmap he, fun q pm hq hpm => ?_⟩
    obtain ⟨es, he⟩ := he
    rw [hp] at hq; obtain rfl := Option.some.inj hq
    rw [ho, hmo pm es he hpm]
    exact hmi pm hpm
   ·rw [hgo i e] at hz
    obtain ⟨he, hmi⟩ := hr.iter i m left last hz
    refine ⟨hmap he, fun q pm hq hpm => ?_⟩
    obtain ⟨es, he⟩ := he
    rw [hoth _ (hne i _ q hz hq e), hmo pm es he hpm]
    exact hmi q pm hq hpm
theorem Z7c {ρ : Rho} {s : St} {w w' : World} (hr : HR ρ s.H w) (hf : Fr ρ s) {b : Nm} {cs cs' : List AV} {u u' : Nat} {p q : Place} {o : Obj} (hx : hget s.H b = some (.cells cs true u)) (hp : ρ b = some p) (hq : q.blk = p.blk)
  (ho : w'.heap[p.blk]? = some o) (hoth : ∀ c, c ≠ p.blk -> w'.heap[c]? = w.heap[c]?) (hsz : w'.heap.size = w.heap.size) (hs : Same w w')
  (hb : BO (ρ.upd s.name q) q (some o) (.cells cs' true u')) :
  Stp ρ s w (ρ.upd s.name q) ((s.del b).new (.cells cs' true u')) w' /\ HR (ρ.upd s.name q) ((s.del b).new (.cells cs' true u')).H w' := by
 have hfree := Yt hf
 have hext := Rho.upd_ext (ρ := ρ) q hfree
 have hnb : s.name ≠ b := Jm hr hx hfree
 have hne : ∀ i z r, hget s.H i = some z -> ρ i = some r -> i ≠ b -> r.blk ≠ p.blk := fun i z r hz hr' h e => hr.sep b i _ z p r hx hz hp hr' (Ne.symm h) rfl e.symm
 have hgs : hget ((s.del b).new (.cells cs' true u')).H s.name = some (.cells cs' true u') := Z6 ..
 have hgo : ∀ i z, i ≠ s.name -> hget ((s.del b).new (.cells cs' true u')).H i = some z -> i ≠ b /\ hget s.H i = some z := by
  intro i z h hz
  have h1 : hget (hdel s.H b) i = some z := by rw [<- Z1 (i := s.name) (.cells cs' true u') _ (Ne.symm h)]; exact hz
  by_cases e : i = b
  ·subst e; rw [Zn] at h1; cases h1
  ·exact ⟨e, by rw [<- Zc s.H (Ne.symm e)]; exact h1⟩
 have hgi : ∀ i z, i ≠ b -> hget s.H i = some z -> hget ((s.del b).new (.cells cs' true u')).H i = some z := by
  intro i z h hz
  have hn : s.name ≠ i := Jm hr hz hfree
  show hget ((s.name, _) :: hdel s.H b) i = some z
  rw [Z1 _ _ hn, Zc _ (Ne.symm h)]; exact hz
 constructor
 ·refine ⟨hext, ?_, rfl, Nat.le_succ _, hs, Nat.le_of_eq hsz.symm, ?_, ?_, fun c k v h h' => (by have h : ρ.fz c k = some v := h; rw [h] at h'; cases h')⟩
  ·intro i r hi hn
   by_cases e : i = s.name
   ·exact ⟨s.n, [], e, Nat.le_refl _, Nat.lt_succ_self _⟩
   ·rw [Rho.upd_ne _ _ e, hn] at hi; cases hi
  ·intro c _ hn
   exact hoth c fun e => hn ⟨b, _, p, hx, rfl, hp, e.symm⟩
  ·rintro c _ ⟨i, z, r, hz, hzw, hri, rfl⟩
   by_cases e : i = s.name
   ·subst e; rw [Rho.upd_same] at hri; obtain rfl := Option.some.inj hri
    exact ⟨b, _, p, hx, rfl, hp, hq.symm⟩
   ·rw [Rho.upd_ne _ _ e] at hri
    exact ⟨i, z, r, (hgo i z e hz).2, hzw, hri, rfl⟩
 ·have hbare : ∀ k, ρ.fz p.blk k = none := fun k => hr.fsep b _ p hx rfl hp k (Nat.zero_le _)
  refine ⟨?_, ?_, ?_, fun c k v hv => ?_, fun i z r hz hzw hri k hk' => ?_⟩
  rotate_left 3
  ·rw [hoth c fun e => (by have hv : ρ.fz c k = some v := hv; rw [e, hbare] at hv; cases hv)]; exact hr.frz c k v hv
  ·by_cases e : i = s.name
   ·subst e; rw [Rho.upd_same] at hri; obtain rfl := Option.some.inj hri
    rw [hq]; exact hbare k
   ·rw [Rho.upd_ne _ _ e] at hri; exact hr.fsep i z r (hgo i z e hz).2 hzw hri k hk'
  ·intro i z hz
   by_cases e : i = s.name
   ·subst e; rw [hgs] at hz; obtain rfl := Option.some.inj hz
    exact ⟨q, Rho.upd_same .., by rw [hq, ho]; exact hb⟩
   ·obtain ⟨hib, hz'⟩ := hgo i z e hz
    obtain ⟨r, hri, hbo⟩ := hr.blocks i z hz'
    exact ⟨r, hext.pl _ _ hri, by rw [hoth _ (hne i z r hz' hri hib)]; exact hbo.mono hext⟩
  ·intro i j z z' r r' hz hz' hri hrj hij hzw
   by_cases e : i = s.name
   ·subst e; rw [Rho.upd_same] at hri; obtain rfl := Option.some.inj hri
    obtain ⟨hjb, hz2⟩ := hgo j z' (Ne.symm hij) hz'
    rw [Rho.upd_ne _ _ (Ne.symm hij)] at hrj
    rw [hq]; exact Ne.symm (hne j z' r' hz2 hrj hjb)
   ·obtain ⟨hib, hz1⟩ := hgo i z e hz
    rw [Rho.upd_ne _ _ e] at hri
    by_cases e' : j = s.name
    ·subst e'; rw [Rho.upd_same] at hrj; obtain rfl := Option.some.inj hrj
     rw [hq]; exact hne i z r hz1 hri hib
    ·obtain ⟨hjb, hz2⟩ := hgo j z' e' hz'
     rw [Rho.upd_ne _ _ e'] at hrj
     exact hr.sep i j z z' r r' hz1 hz2 hri hrj hij hzw
  ·intro i m left last hz
   have e : i ≠ s.name := fun e => by subst e; rw [hgs] at hz; cases hz
   obtain ⟨hib, hz1⟩ := hgo i _ e hz
   obtain ⟨⟨es, he⟩, hmi⟩ := hr.iter i m left last hz1
   have hmb : m ≠ b := fun e => by subst e; rw [hx] at he; cases he
   have hmn : s.name ≠ m := Jm hr he hfree
   refine ⟨⟨es, hgi m _ hmb he⟩, fun r pm hri hpm => ?_⟩
   rw [Rho.upd_ne _ _ e] at hri
   rw [Rho.upd_ne _ _ (Ne.symm hmn)] at hpm
   rw [hoth _ (hne i _ r hz1 hri hib), hoth _ (hne m _ pm he hpm hmb)]
   exact (hmi r pm hri hpm).mono hext
theorem HR.del {ρ : Rho} {H : Heap} {w : World} (hr : HR ρ H w) {b : Nm} {cs : List AV} {rw_ : Bool} {u : Nat} (hx : hget H b = some (.cells cs rw_ u)) : HR ρ (hdel H b) w := by
 have hgo : ∀ i z, hget (hdel H b) i = some z -> i ≠ b /\ hget H i = some z := by
  intro i z hz
  by_cases e : i = b
  ·subst e; rw [Zn] at hz; cases hz
  ·exact ⟨e, by rw [<- Zc H (Ne.symm e)]; exact hz⟩
 refine ⟨fun i z hz => hr.blocks i z (hgo i z hz).2, fun i j z z' r r' hz hz' => hr.sep i j z z' r r' (hgo i z hz).2 (hgo j z' hz').2, ?_, hr.frz, fun i z r hz => hr.fsep i z r (hgo i z hz).2⟩
 intro i m left last hz
 obtain ⟨⟨es, he⟩, hmi⟩ := hr.iter i m left last (hgo i _ hz).2
 have hmb : b ≠ m := fun e => by subst e; rw [hx] at he; cases he
 exact ⟨⟨es, by rw [Zc _ hmb]; exact he⟩, hmi⟩
theorem Z5t {ρ : Rho} {s : St} {w : World} (b : Nm) : Stp ρ s w ρ (s.del b) w := by
 refine ⟨Ext.refl _, fun b p h h' => (by rw [h] at h'; cases h'), rfl, Nat.le_refl _, Same.refl _, Nat.le_refl _, fun _ _ _ => rfl, ?_, fun c k v h h' => (by have h : ρ.fz c k = some v := h; rw [h] at h'; cases h')⟩
 rintro c _ ⟨i, z, r, hz, hzw, hri, rfl⟩
 by_cases e : b = i
 ·subst e; rw [show (s.del b).H = hdel s.H b from rfl, Zn] at hz; cases hz
 ·rw [show (s.del b).H = hdel s.H b from rfl, Zc _ e] at hz
  exact ⟨i, z, r, hz, hzw, hri, rfl⟩
end Go.Am
namespace Go.Am
open Go
theorem Z3r {ρ : Rho} {a : AV} {v : Value} (h : VR ρ a v) (hs : a.sc = true) : vcells v = [v] := by
 cases a <;> simp only [VR] at h <;> simp [AV.sc] at hs
 case int k n => subst h; rfl
 case bool b => subst h; rfl
 case str b => subst h; rfl
 case nilp => subst h; rfl
 case ptr b o => obtain ⟨p, hp, rfl⟩ := h; rfl
 case nils => subst h; rfl
 case slice b o n c ex => obtain ⟨p, o', c', hp, a, rfl, _⟩ := h; rfl
 case empty => obtain ⟨a, rfl⟩ := h; rfl
 case lst l => obtain ⟨a, c, rfl, _⟩ := h; rfl
 case own b l => obtain ⟨p, c, _, rfl, _⟩ := h; rfl
 case fptr cs o => obtain ⟨b, o', rfl, _⟩ := h; rfl
 case nilm => subst h; rfl
 case map b => obtain ⟨p, hp, rfl⟩ := h; rfl
 case func f caps => obtain ⟨cs, rfl, _⟩ := h; rfl
 case yield l => obtain ⟨p, hp, rfl⟩ := h; rfl
 case nilf => subst h; rfl
 case nili => subst h; rfl
theorem Z15 {ρ : Rho} {a : AV} {v : Value} (h : VR ρ a v) (hok : a.okc = true) : VRs ρ a.cells (vcells v) /\ ∀ c ∈ a.cells, c.sc = true := by
 by_cases hs : a.sc = true
 ·rw [Z3r h hs]
  have : a.cells = [a] := by cases a <;> simp_all [AV.cells, AV.sc]
  rw [this]
  refine ⟨by simp only [VRs]; exact ⟨v, [], rfl, h, rfl⟩, fun c hc => by simp at hc; subst hc; exact hs⟩
 ·cases a <;> simp [AV.sc] at hs <;> simp [AV.okc] at hok
  case agg cs =>
   simp only [VR] at h
   obtain ⟨vs, rfl, h1, h2⟩ := h
   exact ⟨h1, h2⟩
theorem Z2a {ρ : Rho} {a : AV} {v : Value} (h : VR ρ a v) (hok : a.okc = true) : (vcells v).length = a.cells.length := (VRs.length _ _ (Z15 h hok).1).symm
theorem FR.elim {ρ : Rho} {blk z : Nat} : ∀ {l : List AV} {off : Nat}, FR ρ blk off z l -> ∃ vs, VRs ρ l vs /\ (∀ a ∈ l, a.okc = true /\ a.cells.length = z) /\ (∀ v ∈ vs, (vcells v).length = z) /\ ∀ k x, (vs.flatMap vcells)[k]? = some x -> ρ.fz blk (off + k) = some x
 | [], off, _ => ⟨[], by simp [VRs], by simp, by simp, by simp⟩
 | a :: r, off, h => by
  simp only [FR] at h
  obtain ⟨⟨v, h1, h0, h2, h3⟩, h4⟩ := h
  obtain ⟨vs, g1, g2, g3, g4⟩ := FR.elim h4
  refine ⟨v :: vs, by simp only [VRs]; exact ⟨v, vs, rfl, h1, g1⟩, ?_, ?_, ?_⟩
  ·intro b hb
   rcases List.mem_cons.1 hb with rfl | hb
   ·exact ⟨h0, by rw [<- h2, Z2a h1 h0]⟩
   ·exact g2 b hb
  ·intro u hu
   rcases List.mem_cons.1 hu with rfl | hu
   ·exact h2
   ·exact g3 u hu
  ·intro k x hk
   rw [List.flatMap_cons] at hk
   by_cases hlt : k < (vcells v).length
   ·rw [List.getElem?_append_left hlt] at hk; exact h3 k x hk
   ·rw [List.getElem?_append_right (by omega)] at hk
    have := g4 _ x hk
    rw [h2] at this hlt
    rw [show off + k = off + z + (k - z) by omega]; exact this
theorem FR.intro {ρ : Rho} {blk z : Nat} : ∀ {l : List AV} {vs : List Value} {off : Nat}, VRs ρ l vs -> (∀ a ∈ l, a.okc = true) -> (∀ v ∈ vs, (vcells v).length = z) -> (∀ k x, (vs.flatMap vcells)[k]? = some x -> ρ.fz blk (off + k) = some x) -> FR ρ blk off z l
 | [], vs, off, _, _, _, _ => by simp only [FR]
 | a :: r, vs, off, h1, h2, h3, h4 => by
  simp only [VRs] at h1
  obtain ⟨v, t, rfl, h1, h5⟩ := h1
  have hv := h3 v List.mem_cons_self
  simp only [FR]
  refine ⟨⟨v, h1, h2 a List.mem_cons_self, hv, fun j x hj => h4 j x ?_⟩, FR.intro h5 (fun a ha => h2 a (List.mem_cons_of_mem _ ha)) (fun v hv => h3 v (List.mem_cons_of_mem _ hv)) fun k x hk => ?_⟩
  ·rw [List.flatMap_cons, List.getElem?_append_left (List.getElem?_eq_some_iff.1 hj).1]; exact hj
  ·have := h4 (z + k) x (by rw [List.flatMap_cons, List.getElem?_append_right (by omega), hv]; simpa using hk)
   rw [show off + z + k = off + (z + k) by omega]; exact this
theorem FR.append {ρ : Rho} {blk z : Nat} : ∀ {l r : List AV} {off : Nat}, FR ρ blk off z l -> FR ρ blk (off + l.length * z) z r -> FR ρ blk off z (l ++ r)
 | [], r, off, _, h => by simpa using h
 | a :: l, r, off, h, h' => by
  simp only [FR, List.cons_append] at h ⊢
  refine ⟨h.1, FR.append h.2 ?_⟩
  rw [List.length_cons, Nat.succ_mul] at h'
  rw [show off + z + l.length * z = off + (l.length * z + z) by omega]; exact h'
theorem FR.take {ρ : Rho} {blk z : Nat} : ∀ {l : List AV} {off : Nat} (n : Nat), FR ρ blk off z l -> FR ρ blk off z (l.take n)
 | [], off, n, h => by simpa using h
 | a :: l, off, 0, h => by simp only [List.take_zero, FR]
 | a :: l, off, n + 1, h => by simp only [List.take_succ_cons, FR] at h ⊢; exact ⟨h.1, FR.take n h.2⟩
theorem FR.drop {ρ : Rho} {blk z : Nat} : ∀ {l : List AV} {off : Nat} (n : Nat), FR ρ blk off z l -> FR ρ blk (off + n * z) z (l.drop n)
 | [], off, n, h => by simp only [List.drop_nil, FR]
 | a :: l, off, 0, h => by simpa using h
 | a :: l, off, n + 1, h => by
  simp only [List.drop_succ_cons, FR] at h ⊢
  have := FR.drop n h.2
  rw [Nat.succ_mul, show off + (n * z + z) = off + z + n * z by omega]; exact this
theorem FC.get {ρ : Rho} {blk : Nat} : ∀ {l : List AV} {off : Nat}, FC ρ blk off l -> ∀ i c, nth l i = some c -> c.sc = true /\ ∃ v, ρ.fz blk (off + i) = some v /\ VR ρ c v
 | [], off, _, i, c, h => by simp at h
 | a :: r, off, h, i, c, hc => by
  simp only [FC] at h
  obtain ⟨⟨v, h1, h2, h3⟩, h4⟩ := h
  cases i with
  | zero => simp at hc; subst hc; exact ⟨h2, v, h3, h1⟩
  | succ i =>
   simp at hc
   obtain ⟨g1, v, g2, g3⟩ := FC.get h4 i c hc
   exact ⟨g1, v, by rw [show off + (i + 1) = off + 1 + i by omega]; exact g2, g3⟩
theorem FC.intro {ρ : Rho} {blk : Nat} : ∀ {l : List AV} {vs : List Value} {off : Nat}, VRs ρ l vs -> (∀ c ∈ l, c.sc = true) -> (∀ k x, vs[k]? = some x -> ρ.fz blk (off + k) = some x) -> FC ρ blk off l
 | [], vs, off, _, _, _ => by simp only [FC]
 | a :: r, vs, off, h1, h2, h3 => by
  simp only [VRs] at h1
  obtain ⟨v, t, rfl, h1, h4⟩ := h1
  simp only [FC]
  exact ⟨⟨v, h1, h2 a List.mem_cons_self, h3 0 v rfl⟩, FC.intro h4 (fun c hc => h2 c (List.mem_cons_of_mem _ hc)) fun k x hk => by rw [show off + 1 + k = off + (k + 1) by omega]; exact h3 (k + 1) x (by simpa using hk)⟩
theorem FR.nth {ρ : Rho} {blk z : Nat} : ∀ {l : List AV} {off : Nat}, FR ρ blk off z l -> ∀ i e, Am.nth l i = some e -> e.okc = true /\ e.cells.length = z /\ FC ρ blk (off + i * z) e.cells
 | [], off, _, i, e, h => by simp at h
 | a :: r, off, h, i, e, he => by
  simp only [FR] at h
  obtain ⟨⟨v, h1, h0, h2, h3⟩, h4⟩ := h
  cases i with
  | zero =>
   simp at he; subst he
   obtain ⟨g1, g2⟩ := Z15 h1 h0
   refine ⟨h0, by rw [<- Z2a h1 h0, h2], ?_⟩
   rw [Nat.zero_mul, Nat.add_zero]
   exact FC.intro g1 g2 h3
  | succ i =>
   simp at he
   obtain ⟨g0, g1, g2⟩ := FR.nth h4 i e he
   refine ⟨g0, g1, ?_⟩
   rw [Nat.succ_mul, show off + (i * z + z) = off + z + i * z by omega]; exact g2
theorem FC.cells {ρ : Rho} {H : Heap} {w : World} (hr : HR ρ H w) {blk off : Nat} {cs : List AV} (hne : cs ≠ []) (h : FC ρ blk off cs) : ∃ ccs e fr, w.heap[blk]? = some (.cells ccs e fr) /\ CellsR ρ cs off ccs := by
 have hget := FC.get h
 cases cs with
 | nil => exact absurd rfl hne
 | cons a r =>
  obtain ⟨_, v, hv, _⟩ := hget 0 a rfl
  obtain ⟨ccs, e, fr, ho, _⟩ := hr.frz _ _ _ hv
  refine ⟨ccs, e, fr, ho, fun i c hc => ?_⟩
  obtain ⟨h1, v, hv, h2⟩ := hget i c hc
  obtain ⟨ccs', e', fr', ho', hc'⟩ := hr.frz _ _ _ hv
  rw [ho] at ho'
  injection ho' with ho'; injection ho' with e1 e2 e3; subst e1
  exact ⟨h1, v, hc', h2⟩
def Rho.ice (ρ : Rho) (c lo hi : Nat) (ccs : Array Value) : Rho := ⟨ρ.pl, fun i k => if i = c /\ lo <= k /\ k < hi then ccs[k]? else ρ.fz i k⟩
theorem Rho.ice_in (ρ : Rho) {c lo hi k : Nat} {ccs : Array Value} (h1 : lo <= k) (h2 : k < hi) : (ρ.ice c lo hi ccs).fz c k = ccs[k]? := by
 simp [Rho.ice, h1, h2]
theorem Rho.ice_cases {ρ : Rho} {c lo hi : Nat} {ccs : Array Value} {i k : Nat} {v : Value} (h : (ρ.ice c lo hi ccs).fz i k = some v) : (i = c /\ lo <= k /\ k < hi /\ ccs[k]? = some v) \/ ρ.fz i k = some v := by
 simp only [Rho.ice] at h
 split at h
 ·rename_i g; exact .inl ⟨g.1, g.2.1, g.2.2, h⟩
 ·exact .inr h
theorem Z31 {ρ : Rho} {H : Heap} {w : World} (hr : HR ρ H w) {c lo hi : Nat} {ccs : Array Value} {e : TypeId} {fr : Nat × Nat} (ho : w.heap[c]? = some (.cells ccs e fr)) : Ext ρ (ρ.ice c lo hi ccs) := by
 refine ⟨fun b p h => h, fun i k v hv => ?_⟩
 simp only [Rho.ice]
 split
 ·rename_i g
  obtain ⟨rfl, _, _⟩ := g
  obtain ⟨ccs', e', fr', ho', hc'⟩ := hr.frz _ _ _ hv
  rw [ho] at ho'
  injection ho' with ho'; injection ho' with e1 e2 e3; subst e1
  exact hc'
 ·exact hv
theorem HR.ice {ρ : Rho} {H : Heap} {w : World} (hr : HR ρ H w) {c lo hi : Nat} {ccs : Array Value} {e : TypeId} {fr : Nat × Nat} (ho : w.heap[c]? = some (.cells ccs e fr))
  (hsep : ∀ b x p, hget H b = some x -> x.rwB = true -> ρ b = some p -> p.blk = c -> hi <= x.bare p) : HR (ρ.ice c lo hi ccs) H w := by
 have hx := Z31 hr (lo := lo) (hi := hi) ho
 refine ⟨fun b x hb => ?_, hr.sep, fun b m l la hb => ?_, fun i k v hv => ?_, fun b x p hb hw hp k hk => ?_⟩
 ·obtain ⟨p, hp, hbo⟩ := hr.blocks b x hb
  exact ⟨p, hp, hbo.mono hx⟩
 ·obtain ⟨h1, h2⟩ := hr.iter b m l la hb
  exact ⟨h1, fun p pm hp hpm => (h2 p pm hp hpm).mono hx⟩
 ·rcases Rho.ice_cases hv with ⟨rfl, _, _, h⟩ | h
  ·exact ⟨ccs, e, fr, ho, h⟩
  ·exact hr.frz i k v h
 ·cases hv : (ρ.ice c lo hi ccs).fz p.blk k with
  | none => rfl
  | some v =>
   rcases Rho.ice_cases hv with ⟨h1, _, h2, _⟩ | h
   ·have := hsep b x p hb hw hp h1; omega
   ·rw [hr.fsep b x p hb hw hp k hk] at h; cases h
theorem Z3s {ρ : Rho} {s : St} {w : World} (hr : HR ρ s.H w) (hi : Nat) (ccs : Array Value) (e : TypeId) (fr : Nat × Nat) :
  Stp ρ s w (ρ.ice w.heap.size 0 hi ccs) s (w.alloc (.cells ccs e fr)) /\ HR (ρ.ice w.heap.size 0 hi ccs) s.H (w.alloc (.cells ccs e fr)) := by
 have hnew : (w.alloc (.cells ccs e fr)).heap[w.heap.size]? = some (.cells ccs e fr) := by show (w.heap.push _)[w.heap.size]? = some _; simp
 have hold : ∀ c, c < w.heap.size -> (w.alloc (.cells ccs e fr)).heap[c]? = w.heap[c]? := fun c hc => by
  show (w.heap.push _)[c]? = w.heap[c]?
  rw [Array.getElem?_push_lt hc, Array.getElem?_eq_getElem hc]
 have hr1 : HR ρ s.H (w.alloc (.cells ccs e fr)) := by
  refine ⟨fun b x hb => ?_, hr.sep, fun b m l la hb => ?_, fun c k v hv => by rw [hold c (hr.fz_lt hv)]; exact hr.frz c k v hv, hr.fsep⟩
  ·obtain ⟨p, hp, hbo⟩ := hr.blocks b x hb
   exact ⟨p, hp, by rw [hold _ (Y8 hr hb hp)]; exact hbo⟩
  ·obtain ⟨⟨es, he⟩, h2⟩ := hr.iter b m l la hb
   exact ⟨⟨es, he⟩, fun p pm hp hpm => by rw [hold _ (Y8 hr hb hp), hold _ (Y8 hr he hpm)]; exact h2 p pm hp hpm⟩
 refine ⟨⟨Z31 hr1 hnew, fun b p h h' => (by have h : ρ b = some p := h; rw [h] at h'; cases h'), rfl, Nat.le_refl _, ⟨rfl, rfl, rfl⟩, ?_, fun c hc _ => hold c hc, ?_, ?_⟩, hr1.ice hnew ?_⟩
 ·show w.heap.size <= (w.heap.push _).size; simp
 ·rintro c _ ⟨b, x, p, h1, h2, h3, h4⟩; exact ⟨b, x, p, h1, h2, h3, h4⟩
 ·intro c k v hv hn hc
  rcases Rho.ice_cases hv with ⟨h1, _⟩ | h
  ·omega
  ·rw [h] at hn; cases hn
 ·intro b x p hb _ hp he
  have := Y8 hr hb hp; omega
theorem Z5u {ρ : Rho} {s : St} {w : World} (hr : HR ρ s.H w) {b : Nm} {n z : Nat} {p : Place} (hb : hget s.H b = some (.tok n z)) (hp : ρ b = some p) (lo hi : Nat) (hhi : hi <= p.off + n * z) {ccs : Array Value} {e : TypeId} {fr : Nat × Nat} (ho : w.heap[p.blk]? = some (.cells ccs e fr)) :
  Stp ρ s w (ρ.ice p.blk lo hi ccs) s w /\ HR (ρ.ice p.blk lo hi ccs) s.H w := by
 refine ⟨⟨Z31 hr ho, fun b p h h' => (by have h : ρ b = some p := h; rw [h] at h'; cases h'), rfl, Nat.le_refl _, Same.refl _, Nat.le_refl _, fun _ _ _ => rfl, ?_, ?_⟩, hr.ice ho ?_⟩
 ·rintro c _ ⟨b, x, p, h1, h2, h3, h4⟩; exact ⟨b, x, p, h1, h2, h3, h4⟩
 ·intro c k v hv hn hc
  rcases Rho.ice_cases hv with ⟨rfl, _⟩ | h
  ·exact ⟨b, _, p, hb, rfl, hp, rfl⟩
  ·rw [h] at hn; cases hn
 ·intro i x q hi' hw hq he
  by_cases e : i = b
  ·subst e; rw [hb] at hi'; obtain rfl := Option.some.inj hi'; rw [hp] at hq; obtain rfl := Option.some.inj hq; exact hhi
  ·exact absurd he (hr.sep i b x _ q p hi' hb hq hp e hw)
theorem HR.delT {ρ : Rho} {H : Heap} {w : World} (hr : HR ρ H w) {b : Nm} {n z : Nat} (hx : hget H b = some (.tok n z)) : HR ρ (hdel H b) w := by
 have hgo : ∀ i z, hget (hdel H b) i = some z -> i ≠ b /\ hget H i = some z := by
  intro i z hz
  by_cases e : i = b
  ·subst e; rw [Zn] at hz; cases hz
  ·exact ⟨e, by rw [<- Zc H (Ne.symm e)]; exact hz⟩
 refine ⟨fun i z hz => hr.blocks i z (hgo i z hz).2, fun i j z z' r r' hz hz' => hr.sep i j z z' r r' (hgo i z hz).2 (hgo j z' hz').2, ?_, hr.frz, fun i z r hz => hr.fsep i z r (hgo i z hz).2⟩
 intro i m left last hz
 obtain ⟨⟨es, he⟩, hmi⟩ := hr.iter i m left last (hgo i _ hz).2
 have hmb : b ≠ m := fun e => by subst e; rw [hx] at he; cases he
 exact ⟨⟨es, by rw [Zc _ hmb]; exact he⟩, hmi⟩
theorem Z9s {ρ : Rho} {s : St} {w w' : World} (hr : HR ρ s.H w) (hf : Fr ρ s) {b : Nm} {n z m : Nat} {p : Place} {ccs ccs' : Array Value} {e : TypeId} (hx : hget s.H b = some (.tok n z)) (hp : ρ b = some p)
  (ho : w.heap[p.blk]? = some (.cells ccs e (0, 0))) (ho' : w'.heap[p.blk]? = some (.cells ccs' e (0, 0))) (hsame : ∀ k, k < p.off + n * z -> ccs'[k]? = ccs[k]?) (hsz' : ccs'.size = ccs.size) (hnm : n <= m)
  (hoth : ∀ c, c ≠ p.blk -> w'.heap[c]? = w.heap[c]?) (hsz : w'.heap.size = w.heap.size) (hs : Same w w') :
  Stp ρ s w (ρ.upd s.name p) ((s.del b).new (.tok m z)) w' /\ HR (ρ.upd s.name p) ((s.del b).new (.tok m z)).H w' := by
 have hfree := Yt hf
 have hext := Rho.upd_ext (ρ := ρ) p hfree
 have hnb : s.name ≠ b := Jm hr hx hfree
 obtain ⟨p', hp', hbo⟩ := hr.blocks b _ hx
 rw [hp] at hp'; obtain rfl := Option.some.inj hp'
 obtain ⟨hu, hz, ccs0, e0, ho0, htot⟩ := hbo
 rw [ho] at ho0; injection ho0 with ho0; injection ho0 with e1 e2 e3; subst e1; subst e2
 have hne : ∀ i x r, hget s.H i = some x -> ρ i = some r -> i ≠ b -> r.blk ≠ p.blk := fun i x r hx' hr' h e => hr.sep b i _ x p r hx hx' hp hr' (Ne.symm h) rfl e.symm
 have hgs : hget ((s.del b).new (.tok m z)).H s.name = some (.tok m z) := Z6 ..
 have hgo : ∀ i x, i ≠ s.name -> hget ((s.del b).new (.tok m z)).H i = some x -> i ≠ b /\ hget s.H i = some x := by
  intro i x h hx'
  have h1 : hget (hdel s.H b) i = some x := by rw [<- Z1 (i := s.name) (.tok m z) _ (Ne.symm h)]; exact hx'
  by_cases e : i = b
  ·subst e; rw [Zn] at h1; cases h1
  ·exact ⟨e, by rw [<- Zc s.H (Ne.symm e)]; exact h1⟩
 have hgi : ∀ i x, i ≠ b -> hget s.H i = some x -> hget ((s.del b).new (.tok m z)).H i = some x := by
  intro i x h hx'
  have hn : s.name ≠ i := Jm hr hx' hfree
  show hget ((s.name, _) :: hdel s.H b) i = some x
  rw [Z1 _ _ hn, Zc _ (Ne.symm h)]; exact hx'
 constructor
 ·refine ⟨hext, ?_, rfl, Nat.le_succ _, hs, Nat.le_of_eq hsz.symm, ?_, ?_, fun c k v h h' => (by have h : ρ.fz c k = some v := h; rw [h] at h'; cases h')⟩
  ·intro i r hi hn
   by_cases e : i = s.name
   ·exact ⟨s.n, [], e, Nat.le_refl _, Nat.lt_succ_self _⟩
   ·rw [Rho.upd_ne _ _ e, hn] at hi; cases hi
  ·intro c _ hn
   exact hoth c fun e => hn ⟨b, _, p, hx, rfl, hp, e.symm⟩
  ·rintro c _ ⟨i, x, r, hx', hzw, hri, rfl⟩
   by_cases e : i = s.name
   ·subst e; rw [Rho.upd_same] at hri; obtain rfl := Option.some.inj hri
    exact ⟨b, _, p, hx, rfl, hp, rfl⟩
   ·rw [Rho.upd_ne _ _ e] at hri
    exact ⟨i, x, r, (hgo i x e hx').2, hzw, hri, rfl⟩
 ·refine ⟨?_, ?_, ?_, fun c k v hv => ?_, fun i x r hx' hzw hri k hk' => ?_⟩
  ·intro i x hx'
   by_cases e : i = s.name
   ·subst e; rw [hgs] at hx'; obtain rfl := Option.some.inj hx'
    exact ⟨p, Rho.upd_same .., hu, hz, ccs', _, ho', by rw [htot, hsz']⟩
   ·obtain ⟨hib, hx2⟩ := hgo i x e hx'
    obtain ⟨r, hri, hbo⟩ := hr.blocks i x hx2
    exact ⟨r, hext.pl _ _ hri, by rw [hoth _ (hne i x r hx2 hri hib)]; exact hbo.mono hext⟩
  ·intro i j x x' r r' hz1 hz' hri hrj hij hzw
   by_cases e : i = s.name
   ·subst e; rw [Rho.upd_same] at hri; obtain rfl := Option.some.inj hri
    obtain ⟨hjb, hz2⟩ := hgo j x' (Ne.symm hij) hz'
    rw [Rho.upd_ne _ _ (Ne.symm hij)] at hrj
    exact Ne.symm (hne j x' r' hz2 hrj hjb)
   ·obtain ⟨hib, hz3⟩ := hgo i x e hz1
    rw [Rho.upd_ne _ _ e] at hri
    by_cases e' : j = s.name
    ·subst e'; rw [Rho.upd_same] at hrj; obtain rfl := Option.some.inj hrj
     exact hne i x r hz3 hri hib
    ·obtain ⟨hjb, hz2⟩ := hgo j x' e' hz'
     rw [Rho.upd_ne _ _ e'] at hrj
     exact hr.sep i j x x' r r' hz3 hz2 hri hrj hij hzw
  ·intro i m' left last hz1
   have e : i ≠ s.name := fun e => by subst e; rw [hgs] at hz1; cases hz1
   obtain ⟨hib, hz1⟩ := hgo i _ e hz1
   obtain ⟨⟨es, he⟩, hmi⟩ := hr.iter i m' left last hz1
   have hmb : m' ≠ b := fun e => by subst e; rw [hx] at he; cases he
   have hmn : s.name ≠ m' := Jm hr he hfree
   refine ⟨⟨es, hgi m' _ hmb he⟩, fun r pm hri hpm => ?_⟩
   rw [Rho.upd_ne _ _ e] at hri
   rw [Rho.upd_ne _ _ (Ne.symm hmn)] at hpm
   rw [hoth _ (hne i _ r hz1 hri hib), hoth _ (hne m' _ pm he hpm hmb)]
   exact (hmi r pm hri hpm).mono hext
  ·have hv : ρ.fz c k = some v := hv
   obtain ⟨cs1, e1, f1, h1, h2⟩ := hr.frz c k v hv
   by_cases ec : c = p.blk
   ·subst ec
    rw [ho] at h1; injection h1 with h1; injection h1 with g1 g2 g3; subst g1
    have hk : k < p.off + n * z := by
     rcases Nat.lt_or_ge k (p.off + n * z) with h | h
     ·exact h
     ·rw [hr.fsep b _ p hx rfl hp k h] at hv; cases hv
    exact ⟨ccs', e, (0, 0), ho', by rw [hsame k hk]; exact h2⟩
   ·rw [hoth c ec]; exact ⟨cs1, e1, f1, h1, h2⟩
  ·by_cases e : i = s.name
   ·subst e; rw [Rho.upd_same] at hri; obtain rfl := Option.some.inj hri
    rw [hgs] at hx'; obtain rfl := Option.some.inj hx'
    refine hr.fsep b _ p hx rfl hp k ?_
    have : n * z <= m * z := Nat.mul_le_mul_right _ hnm
    show p.off + n * z <= k
    have hk' : p.off + m * z <= k := hk'
    omega
   ·rw [Rho.upd_ne _ _ e] at hri; exact hr.fsep i x r (hgo i x e hx').2 hzw hri k hk'
end Go.Am
namespace Go.Am
open Go
structure TyOk (P : Program) (t : TypeId) (i : TI) : Prop where
 under : P.underlying t = some i.desc
 info : ∃ j, P.info? t = some j /\ j.size = i.size /\ j.bytes = i.bytes /\ ∀ z, i.zero = some z -> ∃ v, j.zero = some v /\ ofConst v = some z
 agg : i.agg = true ↔ (∃ fs, i.desc = .struct fs) \/ (∃ n e, i.desc = .array n e)
 fields : ∀ fs, i.desc = .struct fs -> ∀ f ∈ fs, ∃ j, P.info? f.type = some j
 cmp : i.cmp = true -> P.stoodInHeld t = false /\ P.eqGuardType P.depth t = false /\ ∀ fs, i.desc = .struct fs -> ∀ f ∈ fs, f.name ≠ "_"
structure CfgOk (P : Program) (C : Cfg) : Prop where
 fn : ∀ f fn, C.fn.get f = some fn -> P.funcs[f]? = some fn /\ (fn.name == "runtime.NumGoroutine") = false
 ty : ∀ t i, C.ty.get t = some i -> TyOk P t i
 mixed : P.follows .mixedOrders = true
structure Wide (F : Fence) : Prop where
 fn : ∀ f, F.fn f
 depth : F.depth = none
theorem Wide.inRound {F : Fence} (h : Wide F) (l : Nat) : Wide (F.inRound l) := ⟨h.fn, h.depth⟩
theorem Wide.plain {F : Fence} (h : Wide F) : Wide F.plain := ⟨h.fn, h.depth⟩
theorem Z16 (ρ : Rho) (v : Value) (h : isScalar v = true) : VR ρ (ofScalar v) v /\ (ofScalar v).sc = true := by
 cases v with
 | int k n => exact ⟨by simp [ofScalar, VR], rfl⟩
 | bool b => exact ⟨by simp [ofScalar, VR], rfl⟩
 | string s => exact ⟨by simp [ofScalar, VR], rfl⟩
 | nilFunc => exact ⟨by simp [ofScalar, VR], rfl⟩
 | nilIface => exact ⟨by simp [ofScalar, VR], rfl⟩
 | pointer a => cases a with
  | none => exact ⟨by simp [ofScalar, VR], rfl⟩
  | some a => simp [isScalar] at h
 | map a => cases a with
  | none => exact ⟨by simp [ofScalar, VR], rfl⟩
  | some a => simp [isScalar] at h
 | slice a n c => cases a with
  | none => cases n <;> cases c <;> first | (exact ⟨by simp [ofScalar, VR], rfl⟩) | (simp [isScalar] at h)
  | some a => simp [isScalar] at h
 | _ => simp [isScalar] at h
theorem Z17 (ρ : Rho) : ∀ (l : List Value) (as : List AV), scalars l = some as -> VRs ρ as l /\ ∀ c ∈ as, c.sc = true
 | [], as, h => by simp [scalars] at h; subst h; exact ⟨by simp [VRs], by simp⟩
 | v :: r, as, h => by
  unfold scalars at h
  cases hv : isScalar v <;> simp only [hv] at h
  ·cases h
  ·cases hr : scalars r with
   | none => simp [hr] at h
   | some l =>
    simp only [hr, Option.some.injEq] at h; subst h
    obtain ⟨h1, h2⟩ := Z17 ρ r l hr
    obtain ⟨g1, g2⟩ := Z16 ρ v hv
    exact ⟨by simp only [VRs]; exact ⟨v, r, rfl, g1, h1⟩, by intro c hc; rcases List.mem_cons.1 hc with rfl | hc; exact g2; exact h2 c hc⟩
theorem Z5v {a : AV} (h : a.sc = true) : a.okc = true := by cases a <;> simp_all [AV.sc, AV.okc]
theorem Yc (ρ : Rho) (v : Value) (a : AV) (h : ofConst v = some a) : VR ρ a v /\ a.okc = true := by
 unfold ofConst at h
 cases hv : isScalar v <;> simp only [hv] at h
 ·cases v <;> try (simp at h; done)
  rename_i cs
  simp only at h
  cases hl : scalars cs.toList with
  | none => simp [hl] at h
  | some l =>
   simp only [hl, Option.some.injEq] at h; subst h
   obtain ⟨h1, h2⟩ := Z17 ρ _ _ hl
   exact ⟨by simp only [VR]; exact ⟨cs.toList, rfl, h1, h2⟩, rfl⟩
 ·simp only [Option.some.injEq] at h; subst h
  obtain ⟨g1, g2⟩ := Z16 ρ v hv
  exact ⟨g1, Z5v g2⟩
theorem Zh {ρ : Rho} {T : List AV} {a : Act} (hT : VRs ρ T a.tmps.toList) {x : Operand} {v : AV} (h : evA T x = some v) : VR ρ v (a.eval x) := by
 cases x with
 | tmp t =>
  obtain ⟨u, hu, hr⟩ := VRs.nth _ _ hT t v h
  have : a.tmps.getD t undef = u := by
   rw [Array.getD_eq_getD_getElem?, <- Array.getElem?_toList, hu]; rfl
  show VR ρ v (a.tmps.getD t undef)
  rw [this]; exact hr
 | const c => exact (Yc ρ c v h).1
 | global g => simp [evA] at h
 | func f => simp only [evA, Option.some.injEq] at h; subst h; simp only [Act.eval, VR]; exact ⟨[], rfl, by simp [VRs]⟩
theorem Z7d {ρ : Rho} {T : List AV} {a : Act} (hT : VRs ρ T a.tmps.toList) : ∀ (l : List Operand) (vs : List AV), evs T l = some vs -> VRs ρ vs (l.map a.eval)
 | [], vs, h => by simp [evs] at h; subst h; simp [VRs]
 | x :: r, vs, h => by
  unfold evs at h
  cases h1 : evA T x with
  | none => simp [h1] at h
  | some v => cases h2 : evs T r with
   | none => simp [h1, h2] at h
   | some l =>
    simp only [h1, h2, Option.some.injEq] at h; subst h
    simp only [List.map_cons, VRs]
    exact ⟨_, _, rfl, Zh hT h1, Z7d hT r l h2⟩
theorem Z0w {ρ : Rho} {T : List AV} {a : Act} (hT : VRs ρ T a.tmps.toList) (d : Option Tmp) {v : AV} {cv : Value} (h : VR ρ v cv) : VRs ρ (putT T d v) (a.put d cv).tmps.toList := by
 cases d with
 | none => exact hT
 | some t => simp only [putT, Act.put, Array.toList_setIfInBounds]; exact VRs.set _ _ hT t v cv h
theorem Z2b : ∀ (n : Nat) (l : List AV) (o : Nat) (r : List AV), readN l o n = some r -> r.length = n /\ ∀ j, j < n -> nth r j = nth l (o + j)
 | 0, l, o, r, h => by simp [readN] at h; subst h; simp
 | n + 1, l, o, r, h => by
  unfold readN at h
  cases h1 : nth l o with
  | none => simp [h1] at h
  | some v => cases h2 : readN l (o + 1) n with
   | none => simp [h1, h2] at h
   | some t =>
    simp only [h1, h2, Option.some.injEq] at h; subst h
    obtain ⟨hl, hj⟩ := Z2b n l (o + 1) t h2
    refine ⟨by simp [hl], fun j hjn => ?_⟩
    cases j with
    | zero => simp [h1]
    | succ j => simp only [Zv]; rw [hj j (by omega)]; congr 1; omega
theorem Yi {α : Type} {l : List α} {i : Nat} {a : α} (h : nth l i = some a) : i < l.length := by
 rw [Zm] at h; exact (List.getElem?_eq_some_iff.1 h).1
theorem Ym {α : Type} {l : List α} {i : Nat} (h : i < l.length) : ∃ a, nth l i = some a := ⟨l[i], by rw [Zm]; exact List.getElem?_eq_getElem h⟩
theorem Xt {α : Type} {l : List α} {i : Nat} {a : α} (h : nth l i = some a) : a ∈ l := by rw [Zm] at h; exact List.mem_of_getElem? h
theorem Z4t {α : Type} {l : List α} {a : α} (h : a ∈ l) : ∃ i, nth l i = some a := by obtain ⟨i, hi⟩ := List.mem_iff_getElem?.1 h; exact ⟨i, by rw [Zm]; exact hi⟩
theorem Zai {ρ : Rho} : ∀ (l : List AV) (f : Nat -> Option Value), (∀ j a, nth l j = some a -> ∃ v, f j = some v /\ VR ρ a v) -> ∃ vs, VRs ρ l vs /\ vs.length = l.length /\ ∀ j v, vs[j]? = some v -> f j = some v
 | [], f, _ => ⟨[], by simp [VRs], rfl, by simp⟩
 | a :: r, f, h => by
  obtain ⟨v, hv, hr⟩ := h 0 a rfl
  obtain ⟨vs, h1, h2, h3⟩ := Zai r (fun j => f (j + 1)) (fun j b hb => h (j + 1) b hb)
  refine ⟨v :: vs, by simp only [VRs]; exact ⟨v, vs, rfl, hr, h1⟩, by simp [h2], fun j u hu => ?_⟩
  cases j with
  | zero => simp at hu; subst hu; exact hv
  | succ j => simp at hu; exact h3 j u hu
theorem Yd {ρ : Rho} {cs : List AV} {off : Nat} {ccs : Array Value} (hc : CellsR ρ cs off ccs) {o n : Nat} {l : List AV} (h : readN cs o n = some l) :
  ∃ vs : List Value, VRs ρ l vs /\ vs.length = n /\ (∀ j v, vs[j]? = some v -> ccs[off + o + j]? = some v) /\ ∀ c ∈ l, c.sc = true := by
 obtain ⟨hl, hj⟩ := Z2b n cs o l h
 obtain ⟨vs, h1, h2, h3⟩ := Zai (ρ := ρ) l (fun j => ccs[off + o + j]?) (fun j a ha => by
  have hlt := Yi ha
  rw [hj j (by omega)] at ha
  obtain ⟨_, v, hv, hr⟩ := hc _ _ ha
  exact ⟨v, by rw [Nat.add_assoc]; exact hv, hr⟩)
 refine ⟨vs, h1, by omega, h3, fun c hcm => ?_⟩
 obtain ⟨i, hi⟩ := Z4t hcm
 have hlt := Yi hi
 rw [hj i (by omega)] at hi
 exact (hc _ _ hi).1
theorem Z18 : ∀ (r : List AV) (l : List AV) (o : Nat) (l' : List AV), writeN l o r = some l' -> l'.length = l.length /\ (r = [] \/ o + r.length <= l.length) /\ ∀ j, nth l' j = if o <= j /\ j < o + r.length then nth r (j - o) else nth l j
 | [], l, o, l', h => by simp [writeN] at h; subst h; refine ⟨rfl, .inl rfl, fun j => ?_⟩; rw [if_neg (by simp)]
 | v :: r, l, o, l', h => by
  unfold writeN at h
  cases h1 : nth l o with
  | none => simp [h1] at h
  | some u =>
   simp only [h1] at h
   have hlt := Yi h1
   obtain ⟨hl, hb, hj⟩ := Z18 r (setNth l o v) (o + 1) l' h
   rw [Xe] at hl hb
   refine ⟨hl, .inr ?_, fun j => ?_⟩
   ·rcases hb with rfl | hb
    ·simp; omega
    ·simp; omega
   ·rw [hj j]
    by_cases h2 : j = o
    ·subst h2
     rw [if_neg (by omega), if_pos (by simp), Nat.sub_self, Yg, Zm, Y7, List.getElem?_set_self hlt]
    ·by_cases h3 : o + 1 <= j /\ j < o + 1 + r.length
     ·rw [if_pos h3, if_pos (by simp; omega)]
      obtain ⟨k, rfl⟩ : ∃ k, j = o + 1 + k := ⟨j - (o + 1), by omega⟩
      rw [show o + 1 + k - (o + 1) = k by omega, show o + 1 + k - o = k + 1 by omega, Zv]
     ·rw [if_neg h3, if_neg (by simp; omega), Zm, Zm, Y7, List.getElem?_set_ne (Ne.symm h2)]
theorem Yj (b o n : Nat) : (⟨b, o, none⟩ : Addr).add n = ⟨b, o + n, none⟩ := by unfold Addr.add; split <;> simp_all
section
variable {P : Program} {C : Cfg}
theorem run_underlying (hC : CfgOk P C) {t : TypeId} {i : TI} (h : C.ty.get t = some i) (w : World) : (underlying t).run P w = .ok i.desc w := by
 simp [underlying, (hC.ty t i h).under]
theorem Xu (hC : CfgOk P C) {t : TypeId} {d : TypeDesc} (h : C.desc t = some d) : ∃ i, C.ty.get t = some i /\ i.desc = d := by
 unfold Cfg.desc at h
 cases hi : C.ty.get t with
 | none => simp [hi] at h
 | some i => simp only [hi, Option.some.injEq] at h; exact ⟨i, rfl, h⟩
theorem Yn (hC : CfgOk P C) {t : TypeId} {d : TypeDesc} (h : C.desc t = some d) (w : World) : (underlying t).run P w = .ok d w := by
 obtain ⟨i, hi, rfl⟩ := Xu hC h
 exact run_underlying hC hi w
theorem Zd (hC : CfgOk P C) {t : TypeId} {i : TI} (h : C.ty.get t = some i) (w : World) : (sizeOf t).run P w = .ok i.size w := by
 obtain ⟨j, hj, hs, _⟩ := (hC.ty t i h).info
 simp [sizeOf, typeInfo, hj, hs]
theorem Z2c (hC : CfgOk P C) {t : TypeId} {i : TI} (h : C.ty.get t = some i) (w : World) : (isAgg t).run P w = .ok i.agg w := by
 have ha := (hC.ty t i h).agg
 unfold isAgg
 simp only [Sem.run_bind, run_underlying hC h, Result.andThen_ok]
 cases hd : i.desc <;> simp only [hd] at ha ⊢ <;> simp at ha ⊢ <;> simp [ha]
theorem Yo (hC : CfgOk P C) {t : TypeId} {i : TI} (h : C.ty.get t = some i) {z : AV} (hz : i.zero = some z) (w : World) : ∃ v, (zeroValue t).run P w = .ok v w /\ ofConst v = some z := by
 obtain ⟨j, hj, _, _, hzz⟩ := (hC.ty t i h).info
 obtain ⟨v, hv, ho⟩ := hzz z hz
 exact ⟨v, by simp [zeroValue, typeInfo, hj, hv], ho⟩
theorem J5 (hC : CfgOk P C) {ρ : Rho} {t : TypeId} {cs : List AV} {vs : List Value} (hv : VRs ρ cs vs) (hsc : ∀ c ∈ cs, c.sc = true) {off : Nat} {v : AV} (h : partA C t cs off = some v) (w : World) :
  ∃ cv, (part t ⟨vs⟩ off).run P w = .ok cv w /\ VR ρ v cv /\ v.okc = true := by
 unfold partA at h
 cases hi : C.ty.get t with
 | none => simp [hi] at h
 | some i =>
  simp only [hi] at h
  unfold part
  simp only [Sem.run_bind, Z2c hC hi, Result.andThen_ok]
  cases ha : i.agg <;> simp only [ha] at h
  ·obtain ⟨u, hu, hr⟩ := VRs.nth _ _ hv off v h
   refine ⟨u, ?_, hr, Z5v (hsc v (Xt h))⟩
   simp [hu]
  ·cases hr : readN cs off i.size with
   | none => simp [hr] at h
   | some l =>
    simp only [hr, Option.some.injEq] at h; subst h
    have hc : CellsR ρ cs 0 ⟨vs⟩ := fun j c hj => ⟨hsc c (Xt hj), by obtain ⟨u, hu, hr'⟩ := VRs.nth _ _ hv j c hj; exact ⟨u, by simpa using hu, hr'⟩⟩
    obtain ⟨us, h1, h2, h3, h4⟩ := Yd hc hr
    refine ⟨.agg ⟨us⟩, ?_, by simp only [VR]; exact ⟨us, rfl, h1, h4⟩, rfl⟩
    simp only [if_true, Sem.run_bind, Zd hC hi, Result.andThen_ok, Sem.run_pure]
    congr 2
    apply Array.ext'
    apply List.ext_getElem?
    intro j
    simp only [Array.toList_extract, List.extract_eq_take_drop, Nat.add_sub_cancel_left, List.getElem?_take, List.getElem?_drop]
    by_cases hj : j < i.size
    ·rw [if_pos hj]
     have hlt : j < us.length := by omega
     have := h3 j us[j] (List.getElem?_eq_getElem hlt)
     simp only [Nat.zero_add] at this
     rw [List.getElem?_eq_getElem hlt, <- this]; simp
    ·rw [if_neg hj, List.getElem?_eq_none (by omega)]
theorem Jn (hC : CfgOk P C) {ρ : Rho} {w : World} {cs : List AV} {p : Place} {ccs : Array Value} {e : TypeId} {fr : Nat × Nat} (ho : w.heap[p.blk]? = some (.cells ccs e fr)) (hc : CellsR ρ cs p.off ccs) {t : TypeId} {o : Nat} {v : AV} (h : partA C t cs o = some v) :
  ∃ cv, (loadVar t ⟨p.blk, p.off + o, none⟩).run P w = .ok cv w /\ VR ρ v cv /\ v.okc = true := by
 unfold partA at h
 cases hi : C.ty.get t with
 | none => simp [hi] at h
 | some i =>
  simp only [hi] at h
  unfold loadVar
  simp only [Sem.run_bind, Z2c hC hi, Result.andThen_ok]
  cases ha : i.agg <;> simp only [ha] at h
  ·obtain ⟨hsc, u, hu, hr⟩ := hc o v h
   refine ⟨u, ?_, hr, Z5v hsc⟩
   have : w.cell? ⟨p.blk, p.off + o, none⟩ = some u := by simp [World.cell?, ho, hu]
   simp [this]
  ·cases hr : readN cs o i.size with
   | none => simp [hr] at h
   | some l =>
    simp only [hr, Option.some.injEq] at h; subst h
    obtain ⟨us, h1, h2, h3, h4⟩ := Yd hc hr
    refine ⟨.agg ⟨us⟩, ?_, by simp only [VR]; exact ⟨us, rfl, h1, h4⟩, rfl⟩
    have hl := run_loadCells_list (P := P) w ⟨p.blk, p.off + o, none⟩ us (fun j u hu => by
     rw [Yj]; simp [World.cell?, ho, h3 j u hu])
    simp only [if_true, Sem.run_bind, Zd hC hi, Result.andThen_ok, <- h2, hl, Sem.run_pure]
end
end Go.Am
namespace Go.Am
open Go
def Sims {β : Type} (P : Program) (ρ : Rho) (s : St) (w : World) (m : M AV) (r : Sem β) (V : Rho -> AV -> β -> Prop) : Prop :=
 ∀ Q, (m s).All Q -> ∃ v s' ρ' w' cv, Q (v, s') /\ r.run P w = .ok cv w' /\ Stp ρ s w ρ' s' w' /\ HR ρ' s'.H w' /\ V ρ' v cv
abbrev ValSim (P : Program) (ρ : Rho) (s : St) (w : World) (m : M AV) (r : Sem Value) : Prop := Sims P ρ s w m r VR
abbrev UnitSim (P : Program) (ρ : Rho) (s : St) (w : World) (m : M AV) (r : Sem Unit) : Prop := Sims P ρ s w m r fun _ v _ => v = .undef
section
variable {P : Program} {C : Cfg} {ρ : Rho} {s : St} {w : World}
theorem ValSim.of (hr : HR ρ s.H w) {o : Option AV} {r : Sem Value} (h : ∀ v, o = some v -> ∃ cv, r.run P w = .ok cv w /\ VR ρ v cv) : ValSim P ρ s w (M.of o) r := by
 intro Q hQ
 obtain ⟨v, hv, hq⟩ := (M.all_of _ _ _).1 hQ
 obtain ⟨cv, h1, h2⟩ := h v hv
 exact ⟨v, s, ρ, w, cv, hq, h1, Stp.refl _ _ _, hr, h2⟩
theorem ValSim.fail {r : Sem Value} : ValSim P ρ s w M.fail r := fun Q h => h.elim
theorem UnitSim.fail {r : Sem Unit} : UnitSim P ρ s w M.fail r := fun Q h => h.elim
theorem ValSim.ret (hr : HR ρ s.H w) {v : AV} {r : Sem Value} {cv : Value} (h : r.run P w = .ok cv w) (hv : VR ρ v cv) : ValSim P ρ s w (M.ret v) r :=
 fun Q hQ => ⟨v, s, ρ, w, cv, hQ, h, Stp.refl _ _ _, hr, hv⟩
theorem Z7e {ρ : Rho} {a : AV} {v : Value} (hs : a.sc = true) (h : VR ρ a v) : v.oneCell' = true := by
 cases a <;> simp only [VR] at h <;> simp only [AV.sc] at hs
 all_goals first
  | (subst h; rfl)
  | (cases hs; done)
  | (obtain ⟨p, hp, rfl⟩ := h; rfl)
  | (obtain ⟨p, o', c', hp, a, rfl, _⟩ := h; rfl)
  | (obtain ⟨cs, rfl, _⟩ := h; rfl)
  | (obtain ⟨a, c, rfl, _⟩ := h; rfl)
  | (obtain ⟨p, c, _, rfl, _⟩ := h; rfl)
  | (obtain ⟨cs, rfl⟩ := h; rfl)
theorem Xg {ρ : Rho} {a : AV} {v : Value} (hs : a.okc = true) (h : VR ρ a v) : ∃ vs, v.cells = ⟨vs⟩ /\ VRs ρ a.cells vs /\ (∀ c ∈ a.cells, c.sc = true) /\ ∀ u ∈ vs, u.oneCell' = true := by
 by_cases hg : ∃ l, a = .agg l
 ·obtain ⟨l, rfl⟩ := hg
  simp only [VR] at h
  obtain ⟨vs, rfl, hv, hsc⟩ := h
  refine ⟨vs, rfl, hv, hsc, fun u hu => ?_⟩
  obtain ⟨i, hi⟩ := List.mem_iff_getElem?.1 hu
  have hlt : i < l.length := by rw [VRs.length _ _ hv]; exact (List.getElem?_eq_some_iff.1 hi).1
  obtain ⟨c, hc⟩ := Ym hlt
  obtain ⟨u', hu', hr⟩ := VRs.nth _ _ hv i c hc
  rw [hi] at hu'; obtain rfl := Option.some.inj hu'
  exact Z7e (hsc c (Xt hc)) hr
 ·have hsc : a.sc = true := by cases a <;> simp_all [AV.sc, AV.okc]
  have hone := Z7e hsc h
  have hc : a.cells = [a] := by cases a <;> first | rfl | exact absurd ⟨_, rfl⟩ hg
  have hvc : v.cells = ⟨[v]⟩ := by cases v <;> first | rfl | (simp [Value.oneCell'] at hone)
  refine ⟨[v], hvc, by rw [hc]; simp only [VRs]; exact ⟨v, [], rfl, h, rfl⟩, by rw [hc]; simpa using hsc, by simpa using hone⟩
theorem CellsR.of_VRs {ρ : Rho} {cs : List AV} {vs : List Value} (h : VRs ρ cs vs) (hs : ∀ c ∈ cs, c.sc = true) : CellsR ρ cs 0 ⟨vs⟩ := fun j c hj =>
 ⟨hs c (Xt hj), by obtain ⟨u, hu, hr⟩ := VRs.nth _ _ h j c hj; exact ⟨u, by simpa using hu, hr⟩⟩
theorem Z3t (hr : HR ρ s.H w) (hf : Fr ρ s) {cs : List AV} {vs : List Value} (hv : VRs ρ cs vs) (hs : ∀ c ∈ cs, c.sc = true) (e : TypeId) (u : Nat) (extra : List Value) :
  Stp ρ s w (ρ.upd s.name ⟨w.heap.size, 0, (vs ++ extra).length, u⟩) (s.new (.cells cs true u)) (w.alloc (.cells ⟨vs ++ extra⟩ e)) /\
  HR (ρ.upd s.name ⟨w.heap.size, 0, (vs ++ extra).length, u⟩) (s.new (.cells cs true u)).H (w.alloc (.cells ⟨vs ++ extra⟩ e)) := by
 refine Jw hr hf _ _ _ rfl ?_ (fun m l e h => by cases h)
 refine ⟨rfl, _, _, _, rfl, rfl, rfl, ?_⟩
 have hx := Rho.upd_ext (ρ := ρ) ⟨w.heap.size, 0, (vs ++ extra).length, u⟩ (Yt hf)
 intro i c hi
 obtain ⟨h1, v, h2, h3⟩ := CellsR.of_VRs hv hs i c hi
 refine ⟨h1, v, ?_, VR.mono hx _ _ h3⟩
 simp only [Nat.zero_add] at h2 ⊢
 have hlt : i < vs.length := by rw [<- VRs.length _ _ hv]; exact Yi hi
 have : vs[i]? = some v := by simpa using h2
 simp [List.getElem?_append_left hlt, this]
theorem Z0d (hr : HR ρ s.H w) (hf : Fr ρ s) {cs : List AV} {vs : List Value} (hv : VRs ρ cs vs) (hs : ∀ c ∈ cs, c.sc = true) (e : TypeId) (u : Nat) :
  Stp ρ s w (ρ.upd s.name ⟨w.heap.size, 0, vs.length, u⟩) (s.new (.cells cs true u)) (w.alloc (.cells ⟨vs⟩ e)) /\
  HR (ρ.upd s.name ⟨w.heap.size, 0, vs.length, u⟩) (s.new (.cells cs true u)).H (w.alloc (.cells ⟨vs⟩ e)) := by
 have := Z3t hr hf hv hs e u []
 simpa using this
theorem Z3u (hr : HR ρ s.H w) (hf : Fr ρ s) {v : AV} {cv : Value} (hv : VR ρ v cv) (ho : v.okc = true) (e : TypeId) {r : Sem Value} (hrun : r.run P w = .ok (.pointer (some ⟨w.heap.size, 0, none⟩)) (w.alloc (.cells cv.cells e))) :
  ValSim P ρ s w (allocA v) r := by
 intro Q hQ
 obtain ⟨vs, hc, hvs, hsc, _⟩ := Xg ho hv
 obtain ⟨h1, h2⟩ := Z0d hr hf hvs hsc e 0
 refine ⟨_, _, _, _, .pointer (some ⟨w.heap.size, 0, none⟩), hQ, ?_, h1, h2, ?_⟩
 ·rw [hrun, hc]
 ·simp only [VR]; exact ⟨_, Rho.upd_same .., rfl⟩
theorem Z9t (hC : CfgOk P C) (hr : HR ρ s.H w) {t : TypeId} {b : Nm} {o : Nat} {cv : Value} (hv : VR ρ (.ptr b o) cv) : ValSim P ρ s w (loadA C t b o) (Instr.loadAt t cv) := by
 intro Q hQ
 obtain ⟨x, hx, hQ⟩ := (Zo _ _ _).1 ((M.all_bind _ _ _ _).1 hQ)
 obtain ⟨p, hp, hbo⟩ := hr.blocks b x hx
 cases x with
 | cells cs rw_ u =>
  obtain ⟨v, hv', hq⟩ := (M.all_of _ _ _).1 hQ
  obtain ⟨_, ccs, e, fr, ho, _, _, hc⟩ := hbo
  simp only [VR] at hv
  obtain ⟨p', hp', rfl⟩ := hv
  rw [hp] at hp'; obtain rfl := Option.some.inj hp'
  obtain ⟨cv, h1, h2, _⟩ := Jn hC ho hc hv'
  exact ⟨v, s, ρ, w, cv, hq, by simp [Instr.loadAt, Instr.sureAddr, h1], Stp.refl _ _ _, hr, h2⟩
 | _ => exact hQ.elim
theorem Z7f (hC : CfgOk P C) (hr : HR ρ s.H w) {t : TypeId} {cs : List AV} {o : Nat} {cv : Value} (hv : VR ρ (.fptr cs o) cv) : ValSim P ρ s w (M.of (partA C t cs o)) (Instr.loadAt t cv) := by
 intro Q hQ
 obtain ⟨v, hv', hq⟩ := (M.all_of _ _ _).1 hQ
 simp only [VR] at hv
 obtain ⟨blk, off, rfl, hne, hf⟩ := hv
 obtain ⟨ccs, e, fr, ho, hc⟩ := hf.cells hr hne
 obtain ⟨cv, h1, h2, _⟩ := Jn (p := ⟨blk, off, 0, 0⟩) hC ho hc hv'
 exact ⟨v, s, ρ, w, cv, hq, by simp [Instr.loadAt, Instr.sureAddr, h1], Stp.refl _ _ _, hr, h2⟩
theorem Z4u {cs : List AV} {off : Nat} {ccs : Array Value} (hc : CellsR ρ cs off ccs) {o n : Nat} (h : o + n <= cs.length) (hn : n ≠ 0) : off + o + n <= ccs.size := by
 obtain ⟨c, hcn⟩ := Ym (show o + (n - 1) < cs.length by omega)
 obtain ⟨_, v, hv, _⟩ := hc _ _ hcn
 have := (Array.getElem?_eq_some_iff.1 hv).1
 omega
theorem Z4v {cs cs' new : List AV} {off o : Nat} {ccs : Array Value} {vs : List Value} (hc : CellsR ρ cs off ccs) (hw : writeN cs o new = some cs') (hv : VRs ρ new vs) (hs : ∀ c ∈ new, c.sc = true) :
  (new = [] \/ off + o + vs.length <= ccs.size) /\ CellsR ρ cs' off (ccs.toList.take (off + o) ++ vs ++ ccs.toList.drop (off + o + vs.length)).toArray := by
 obtain ⟨hl, hb, hj⟩ := Z18 new cs o cs' hw
 have hlen := VRs.length _ _ hv
 have hbound : new = [] \/ off + o + vs.length <= ccs.size := by
  by_cases hn : new = []
  ·exact .inl hn
  ·refine .inr ?_
   have h0 : new.length ≠ 0 := fun h => hn (List.eq_nil_of_length_eq_zero h)
   have := Z4u hc (o := o) (n := new.length) (hb.resolve_left hn) h0
   omega
 refine ⟨hbound, fun i c hi => ?_⟩
 rw [hj i] at hi
 by_cases hin : o <= i /\ i < o + new.length
 ·rw [if_pos hin] at hi
  obtain ⟨v, h1, h2⟩ := VRs.nth _ _ hv _ _ hi
  refine ⟨hs c (Xt hi), v, ?_, h2⟩
  have hne : new ≠ [] := fun h => by subst h; simp at hin; omega
  have hbd := hbound.resolve_left hne
  have e1 : (ccs.toList.take (off + o)).length = off + o := by simp; omega
  rw [List.getElem?_toArray, List.append_assoc, List.getElem?_append_right (by omega), e1, List.getElem?_append_left (by omega)]
  rw [show off + i - (off + o) = i - o by omega]; exact h1
 ·rw [if_neg hin] at hi
  obtain ⟨h1, v, h2, h3⟩ := hc i c hi
  refine ⟨h1, v, ?_, h3⟩
  have hlt := (Array.getElem?_eq_some_iff.1 h2).1
  rcases hbound with hn | hbd
  ·subst hn; simp [VRs] at hv; subst hv
   simpa using h2
  ·have e1 : (ccs.toList.take (off + o)).length = off + o := by simp; omega
   rw [List.getElem?_toArray, List.append_assoc]
   by_cases hlo : i < o
   ·rw [List.getElem?_append_left (by omega), List.getElem?_take, if_pos (by omega)]
    simpa using h2
   ·rw [List.getElem?_append_right (by omega), e1, List.getElem?_append_right (by omega), List.getElem?_drop]
    rw [show off + o + vs.length + (off + i - (off + o) - vs.length) = off + i by omega]
    simpa using h2
theorem Xv {g : Nat} {old cs : Array Value} {t : TypeId} {fr : Nat × Nat} (h : w.heap[g]? = some (.cells old t fr)) : (w.setRow g cs).heap[g]? = some (.cells cs t fr) := setRow_heap w g old cs t fr h
theorem Jo (w : World) (g : Nat) (cs : Array Value) : Same w (w.setRow g cs) := ⟨rfl, rfl, rfl⟩
theorem Z19 (hr : HR ρ s.H w) {b : Nm} {cs cs' new : List AV} {u : Nat} {p : Place} (hx : hget s.H b = some (.cells cs true u)) (hp : ρ b = some p) {o : Nat} (hw : writeN cs o new = some cs') {vs : List Value} (hv : VRs ρ new vs) (hs : ∀ c ∈ new, c.sc = true) (h1 : ∀ v ∈ vs, v.oneCell' = true) :
  ∃ w', (storeCells ⟨p.blk, p.off + o, none⟩ vs).run P w = .ok () w' /\ Stp ρ s w ρ (s.put b (.cells cs' true u)) w' /\ HR ρ (s.put b (.cells cs' true u)).H w' := by
 obtain ⟨q, hq, hbo⟩ := hr.blocks _ _ hx
 rw [hp] at hq; obtain rfl := Option.some.inj hq
 obtain ⟨hu, ccs, e, fr, ho, ht, hfr, hc⟩ := hbo
 obtain rfl := hfr
 obtain ⟨hb, hc'⟩ := Z4v hc hw hv hs
 have hlen := VRs.length _ _ hv
 have hput : ∀ w' ccs', w'.heap[p.blk]? = some (.cells ccs' e (0, 0)) -> (∀ c, c ≠ p.blk -> w'.heap[c]? = w.heap[c]?) -> w'.heap.size = w.heap.size -> Same w w' -> ccs'.size = ccs.size -> CellsR ρ cs' p.off ccs' ->
   Stp ρ s w ρ (s.put b (.cells cs' true u)) w' /\ HR ρ (s.put b (.cells cs' true u)).H w' := fun w' ccs' g1 g2 g3 g4 g5 g6 =>
  J4 hr hx rfl rfl hp g1 g2 g3 g4 ⟨hu, ccs', e, (0, 0), rfl, by rw [g5]; exact ht, rfl, g6⟩ (fun m l e h => by cases h) (fun es h => by cases h)
 rcases hb with hn | hb
 ·subst hn; simp [VRs] at hv; subst hv
  refine ⟨w, by simp [storeCells], hput w ccs ho (fun _ _ => rfl) rfl (Same.refl _) rfl ?_⟩
  simpa using hc'
 ·refine ⟨_, run_storeCells_at P p.blk (p.off + o) e vs 0 ccs w ho (by omega) h1, ?_⟩
  refine hput _ _ (Xv ho) (fun c hcn => setRow_other w _ c _ hcn) (by simp) (Jo _ _ _) ?_ ?_
  ·simp; omega
  ·simpa using hc'
theorem Z7g (hC : CfgOk P C) (hr : HR ρ s.H w) {t : TypeId} {b : Nm} {o : Nat} {v : AV} {cp cv : Value} (hp : VR ρ (.ptr b o) cp) (hv : VR ρ v cv) : UnitSim P ρ s w (done (storeA C t b o v)) (Instr.storeAt t cp cv) := by
 intro Q hQ
 unfold done storeA at hQ
 obtain ⟨x, hx, hQ⟩ := (Zo _ _ _).1 ((M.all_bind _ _ _ _).1 ((M.all_bind _ _ _ _).1 hQ))
 simp only [VR] at hp
 obtain ⟨p, hp, rfl⟩ := hp
 cases x with
 | cells cs rw_ u =>
  cases rw_ with
  | false => simp at hQ
  | true =>
   cases hi : C.ty.get t with
   | none => simp [hi] at hQ
   | some i =>
    cases ho : v.okc with
    | false => simp [hi, ho] at hQ
    | true =>
     simp only [hi, ho] at hQ
     cases hl : Nat.beq v.cells.length i.size with
     | false => simp [hl] at hQ
     | true =>
      cases hw : writeN cs o v.cells with
      | none => simp [hl, hw] at hQ
      | some cs' =>
       simp only [hl, hw] at hQ
       obtain ⟨_, hq⟩ := (Y1 _ _ _ _).1 hQ
       obtain ⟨vs, hcc, hvs, hsc, hone⟩ := Xg ho hv
       obtain ⟨w', h1, h2, h3⟩ := Z19 (P := P) hr hx hp hw hvs hsc hone
       refine ⟨_, _, ρ, w', (), hq, ?_, h2, h3, rfl⟩
       have hsz : vs.length = i.size := by rw [<- VRs.length _ _ hvs]; exact Nat.eq_of_beq_eq_true hl
       simp [Instr.storeAt, Instr.sureAddr, storeVar, Zd hC hi, hcc, hsz, h1]
 | _ => exact hQ.elim
end
end Go.Am
namespace Go.Am
open Go
theorem Z32 (k : IntKind) (x : Int) : (BitVec.ofInt k.bits x).toNat = ib k x := by
 rw [BitVec.toNat_ofInt]; cases k <;> rfl
theorem Z7h (k : IntKind) : (BitVec.allOnes k.bits).toNat = ones k := by rw [BitVec.toNat_allOnes]; cases k <;> rfl
theorem Zav (k : IntKind) (x y : Int) : (BitVec.ofInt k.bits x &&& BitVec.ofInt k.bits y).toNat = Nat.land (ib k x) (ib k y) := by
 rw [BitVec.toNat_and, Z32, Z32]; rfl
theorem Zc1 (k : IntKind) (x y : Int) : (BitVec.ofInt k.bits x ||| BitVec.ofInt k.bits y).toNat = Nat.lor (ib k x) (ib k y) := by
 rw [BitVec.toNat_or, Z32, Z32]; rfl
theorem Zc2 (k : IntKind) (x y : Int) : (BitVec.ofInt k.bits x ^^^ BitVec.ofInt k.bits y).toNat = Nat.xor (ib k x) (ib k y) := by
 rw [BitVec.toNat_xor, Z32, Z32]; rfl
theorem Z7i (k : IntKind) (x y : Int) : (BitVec.ofInt k.bits x &&& ~~~ BitVec.ofInt k.bits y).toNat = Nat.land (ib k x) (Nat.xor (ib k y) (ones k)) := by
 rw [<- BitVec.xor_allOnes, BitVec.toNat_and, BitVec.toNat_xor, Z32, Z32, Z7h]; rfl
theorem Z5w (k : IntKind) : kbits k = k.bits := by cases k <;> rfl
theorem Zaj (n : Nat) : ((Nat.pow 2 n : Nat) : Int) = (2 : Int) ^ n := by
 show ((2 ^ n : Nat) : Int) = _; exact Int.natCast_pow 2 n
section
variable {P : Program} {C : Cfg} {ρ : Rho} {s : St} {w : World}
theorem Zaw {op : BinOp} (h1 : op ≠ .shl) (h2 : op ≠ .shr) {k : IntKind} {a b : Int} {v : AV} (h : intBin op k a b = some v) (t : TypeId) : ∃ cv, (binOp op t (.int k a) (.int k b)).run P w = .ok cv w /\ VR ρ v cv := by
 cases op <;> first | exact absurd rfl h1 | exact absurd rfl h2 | skip
 all_goals simp only [intBin] at h
 case quo =>
  cases hd : decide (b = 0) <;> simp only [hd] at h
  ·simp only [Option.some.injEq] at h; subst h
   have hb : ¬ b = 0 := of_decide_eq_false hd
   exact ⟨_, by simp [binOp, Op.intDiv, hb]; rfl, by simp [VR, Y2]⟩
  ·cases h
 case rem =>
  cases hd : decide (b = 0) <;> simp only [hd] at h
  ·simp only [Option.some.injEq] at h; subst h
   have hb : ¬ b = 0 := of_decide_eq_false hd
   exact ⟨_, by simp [binOp, Op.intDiv, hb]; rfl, by simp [VR]⟩
  ·cases h
 all_goals
  simp only [Option.some.injEq] at h; subst h
 case and => exact ⟨_, by simp only [binOp, ne_eq, not_true, if_false, Op.intBits]; rfl, by simp only [VR, Y2, Zav]⟩
 case or => exact ⟨_, by simp only [binOp, ne_eq, not_true, if_false, Op.intBits]; rfl, by simp only [VR, Y2, Zc1]⟩
 case xor => exact ⟨_, by simp only [binOp, ne_eq, not_true, if_false, Op.intBits]; rfl, by simp only [VR, Y2, Zc2]⟩
 case andNot => exact ⟨_, by simp only [binOp, ne_eq, not_true, if_false, Op.intBits]; rfl, by simp only [VR, Y2, Z7i]⟩
 case eql => exact ⟨.bool (a == b), by simp [binOp, Op.intCmp], by simp only [VR]; rfl⟩
 case neq => exact ⟨.bool (a != b), by simp [binOp, Op.intCmp], by simp only [VR]; rfl⟩
 all_goals first
  | exact ⟨_, by simp [binOp, Op.intArith]; rfl, by simp [VR, Y2]⟩
  | exact ⟨_, by simp [binOp, Op.intCmp]; rfl, by simp [VR]⟩
theorem Z3v {op : BinOp} {k k' : IntKind} {a b : Int} {v : AV} (h : shiftBin op k a b = some v) (t : TypeId) : ∃ cv, (binOp op t (.int k a) (.int k' b)).run P w = .ok cv w /\ VR ρ v cv := by
 unfold shiftBin at h
 cases hd : decide (b < 0) <;> simp only [hd] at h
 ·have hb : ¬ b < 0 := of_decide_eq_false hd
  cases op <;> simp at h
  ·subst h; exact ⟨_, by simp [binOp, Op.shift, hb]; rfl, by simp only [VR, Y2, Zaj, Z5w]⟩
  ·subst h; exact ⟨_, by simp [binOp, Op.shift, hb]; rfl, by simp only [VR, Zaj, Z5w]⟩
 ·cases h
theorem Z0e {x y : AV} {r : Bool} (h : eqSame x y = some r) {cx cy : Value} (hx : VR ρ x cx) (hy : VR ρ y cy) :
  (∃ a b, cx = .bool a /\ cy = .bool b /\ r = (a == b)) \/ (∃ k a b, cx = .int k a /\ cy = .int k b /\ r = (a == b)) \/ (∃ a b, cx = .string a /\ cy = .string b /\ r = (a == b)) := by
 cases x <;> cases y <;> simp only [eqSame] at h <;> try (cases h; done)
 ·rename_i k a k' b
  cases hd : decide (k = k') <;> simp only [hd] at h
  ·cases h
  ·obtain rfl := of_decide_eq_true hd
   simp only [VR] at hx hy
   exact .inr (.inl ⟨k, a, b, hx, hy, by simp only [Option.some.injEq] at h; rw [<- h, Bool.eq_iff_iff]; simp⟩)
 ·rename_i a b
  simp only [VR] at hx hy
  exact .inl ⟨a, b, hx, hy, by simp only [Option.some.injEq] at h; rw [<- h]; cases a <;> cases b <;> rfl⟩
 ·rename_i a b
  simp only [VR] at hx hy
  exact .inr (.inr ⟨a, b, hx, hy, by simp only [Option.some.injEq] at h; exact h.symm⟩)
theorem Z2d {xs : List AV} {cx : Value} (h : VR ρ (.agg xs) cx) : ∃ vs, cx = .agg ⟨vs⟩ /\ VRs ρ xs vs /\ ∀ c ∈ xs, c.sc = true := by simpa only [VR] using h
theorem Z0o (hC : CfgOk P C) {eq : TypeId -> AV -> AV -> Option Bool} {D : Nat} (he : ∀ t x y r cx cy, eq t x y = some r -> VR ρ x cx -> VR ρ y cy -> (Op.equalIn D t cx cy).run P w = .ok r w)
  {xs ys : List AV} {us vs : List Value} (hx : VRs ρ xs us) (hy : VRs ρ ys vs) (sx : ∀ c ∈ xs, c.sc = true) (sy : ∀ c ∈ ys, c.sc = true) :
  ∀ (fs : List Field) (r : Bool), (∀ f ∈ fs, f.name ≠ "_") -> eqFields C eq xs ys fs = some r -> (Op.eqFields D ⟨us⟩ ⟨vs⟩ fs).run P w = .ok r w
 | [], r, _, h => by simp only [eqFields, Option.some.injEq] at h; subst h; simp [Op.eqFields]
 | f :: fs, r, hn, h => by
  unfold eqFields at h
  cases h1 : partA C f.type xs f.offset with
  | none => simp [h1] at h
  | some a =>
   cases h2 : partA C f.type ys f.offset with
   | none => simp [h1, h2] at h
   | some b =>
    simp only [h1, h2] at h
    obtain ⟨ca, p1, v1, _⟩ := J5 hC hx sx h1 w
    obtain ⟨cb, p2, v2, _⟩ := J5 hC hy sy h2 w
    cases h3 : eq f.type a b with
    | none => simp [h3] at h
    | some q =>
     have h4 := he _ _ _ _ _ _ h3 v1 v2
     have hnf : f.name ≠ "_" := hn f (by simp)
     simp only [Op.eqFields, if_pos hnf, Sem.run_bind, p1, p2, h4, Result.andThen_ok]
     cases q with
     | false => simp only [h3, Option.some.injEq] at h; subst h; simp
     | true =>
      simp only [h3] at h
      have := Z0o hC he hx hy sx sy fs r (fun g hg => hn g (by simp [hg])) h
      simpa using this
theorem Z1a (hC : CfgOk P C) {eq : TypeId -> AV -> AV -> Option Bool} {D : Nat} (he : ∀ t x y r cx cy, eq t x y = some r -> VR ρ x cx -> VR ρ y cy -> (Op.equalIn D t cx cy).run P w = .ok r w)
  {xs ys : List AV} {us vs : List Value} (hx : VRs ρ xs us) (hy : VRs ρ ys vs) (sx : ∀ c ∈ xs, c.sc = true) (sy : ∀ c ∈ ys, c.sc = true) (e n : Nat) :
  ∀ (m i : Nat) (r : Bool), eqElems C eq e n xs ys i m = some r -> (Op.eqItems D e n ⟨us⟩ ⟨vs⟩ (List.range' i m)).run P w = .ok r w
 | 0, i, r, h => by simp only [eqElems, Option.some.injEq] at h; subst h; simp [Op.eqItems]
 | m + 1, i, r, h => by
  unfold eqElems at h
  cases h1 : partA C e xs (i * n) with
  | none => simp [h1] at h
  | some a =>
   cases h2 : partA C e ys (i * n) with
   | none => simp [h1, h2] at h
   | some b =>
    simp only [h1, h2] at h
    obtain ⟨ca, p1, v1, _⟩ := J5 hC hx sx h1 w
    obtain ⟨cb, p2, v2, _⟩ := J5 hC hy sy h2 w
    cases h3 : eq e a b with
    | none => simp [h3] at h
    | some q =>
     have h4 := he _ _ _ _ _ _ h3 v1 v2
     simp only [List.range'_succ, Op.eqItems, Sem.run_bind, p1, p2, h4, Result.andThen_ok]
     cases q with
     | false => simp only [h3, Option.some.injEq] at h; subst h; simp
     | true =>
      simp only [h3] at h
      have := Z1a hC he hx hy sx sy e n m (i + 1) r h
      simpa using this
theorem Z9u (hC : CfgOk P C) {t : TypeId} {i : TI} (h : C.ty.get t = some i) : P.underlying t = some i.desc := (hC.ty t i h).under
theorem Z33 (hC : CfgOk P C) : ∀ (d D : Nat) (t : TypeId) (x y : AV) (r : Bool) (cx cy : Value), d <= D -> eqA C d t x y = some r -> VR ρ x cx -> VR ρ y cy -> (Op.equalIn D t cx cy).run P w = .ok r w
 | 0, D, t, x, y, r, cx, cy, _, h, _, _ => by simp [eqA] at h
 | d + 1, 0, t, x, y, r, cx, cy, hD, h, _, _ => by omega
 | d + 1, D + 1, t, x, y, r, cx, cy, hD, h, hx, hy => by
  unfold eqA at h
  cases hi : C.ty.get t with
  | none => simp [hi] at h
  | some i =>
   simp only [hi] at h
   have hu := Z9u hC hi
   cases hd : i.desc <;> simp only [hd] at h hu <;> try (cases h; done)
   case bool =>
    cases x <;> cases y <;> (try simp only at h) <;> try (cases h; done)
    rcases Z0e h hx hy with ⟨a, b, rfl, rfl, rfl⟩ | ⟨k, a, b, rfl, rfl, rfl⟩ | ⟨a, b, rfl, rfl, rfl⟩
    ·exact run_equalIn_bool' w D t a b hu
    ·simp [VR] at hx
    ·simp [VR] at hx
   case int k =>
    cases x <;> cases y <;> (try simp only at h) <;> try (cases h; done)
    rcases Z0e h hx hy with ⟨a, b, rfl, rfl, rfl⟩ | ⟨k, a, b, rfl, rfl, rfl⟩ | ⟨a, b, rfl, rfl, rfl⟩
    ·simp [VR] at hx
    ·exact run_equalIn_int w D t _ _ a b hu
    ·simp [VR] at hx
   case string =>
    cases x <;> cases y <;> (try simp only at h) <;> try (cases h; done)
    rcases Z0e h hx hy with ⟨a, b, rfl, rfl, rfl⟩ | ⟨k, a, b, rfl, rfl, rfl⟩ | ⟨a, b, rfl, rfl, rfl⟩
    ·simp [VR] at hx
    ·simp [VR] at hx
    ·rw [run_equalIn_string w D t a b hu, <- beq_toListBytes]
   case struct fs =>
    cases x <;> cases y <;> (try simp only at h) <;> try (cases h; done)
    rename_i xs ys
    cases hc : i.cmp <;> simp only [hc] at h <;> try (cases h; done)
    obtain ⟨us, rfl, v1, s1⟩ := Z2d hx
    obtain ⟨vs, rfl, v2, s2⟩ := Z2d hy
    obtain ⟨g1, g2, g3⟩ := (hC.ty t i hi).cmp hc
    have hf : P.fieldsOf t = fs := by simp [Program.fieldsOf, hu]
    rw [run_equalIn_struct (P := P) w D t _ _ (by rw [hf]; exact hu) g1, hf]
    exact Z0o hC (fun t' x' y' r' cx' cy' h' hx' hy' => Z33 hC d D t' x' y' r' cx' cy' (by omega) h' hx' hy') v1 v2 s1 s2 fs.toList r (fun f hf' => g3 fs hd f (by simpa using hf')) h
   case array n e =>
    cases x <;> cases y <;> (try simp only at h) <;> try (cases h; done)
    rename_i xs ys
    cases hj : C.ty.get e with
    | none => simp [hj] at h
    | some j =>
     simp only [hj] at h
     obtain ⟨us, rfl, v1, s1⟩ := Z2d hx
     obtain ⟨vs, rfl, v2, s2⟩ := Z2d hy
     obtain ⟨q, hq, hsz, _⟩ := (hC.ty e j hj).info
     rw [run_equalIn_array (P := P) w D _ _ hu hq, show P.cellsOf e = j.size by simp [Program.cellsOf, hq, hsz], List.range_eq_range']
     exact Z1a hC (fun t' x' y' r' cx' cy' h' hx' hy' => Z33 hC d D t' x' y' r' cx' cy' (by omega) h' hx' hy') v1 v2 s1 s2 e j.size n 0 r h
   case slice e =>
    cases x <;> cases y <;> (try simp only at h) <;> try (cases h; done)
    all_goals
     simp only [Option.some.injEq] at h; subst h
     simp only [VR] at hx hy
    ·subst hx hy; simp [Op.equalIn, Go.run_underlying hu]
    ·obtain ⟨p, o', c', _, a, rfl, _⟩ := hy; subst hx; simp [Op.equalIn, Go.run_underlying hu]
    ·obtain ⟨p, o', c', _, a, rfl, _⟩ := hx; subst hy; simp [Op.equalIn, Go.run_underlying hu]
   case map k e =>
    cases x <;> cases y <;> (try simp only at h) <;> try (cases h; done)
    all_goals
     simp only [Option.some.injEq] at h; subst h
     simp only [VR] at hx hy
    ·subst hx hy; simp [Op.equalIn, Go.run_underlying hu]
    ·obtain ⟨p, _, rfl⟩ := hy; subst hx; simp [Op.equalIn, Go.run_underlying hu]
    ·obtain ⟨p, _, rfl⟩ := hx; subst hy; simp [Op.equalIn, Go.run_underlying hu]
   case pointer e =>
    cases x <;> cases y <;> (try simp only at h) <;> try (cases h; done)
    all_goals
     simp only [Option.some.injEq] at h; subst h
     simp only [VR] at hx hy
    ·subst hx hy; simp [Op.equalIn, Go.run_underlying hu]
    ·obtain ⟨p, _, rfl⟩ := hy; subst hx; simp [Op.equalIn, Go.run_underlying hu]
    ·obtain ⟨p, _, rfl⟩ := hx; subst hy; simp [Op.equalIn, Go.run_underlying hu]
theorem Z1b (b : Bool) : notB b = !b := by cases b <;> rfl
theorem Zax (hC : CfgOk P C) {op : BinOp} {t : TypeId} {x y : AV} {v : AV} (h : binA C op t x y = some v) {cx cy : Value} (hx : VR ρ x cx) (hy : VR ρ y cy) (ox oy : Operand) :
  ∃ cv, (do eqGuard op t ox oy cx cy; binOp op t cx cy : Sem Value).run P w = .ok cv w /\ VR ρ v cv := by
 have hint : ∀ k a b, cx = .int k a -> cy = .int k b -> (eqGuard op t ox oy cx cy).run P w = .ok () w := by
  rintro k a b rfl rfl; cases op <;> simp [eqGuard]
 have key : (eqGuard op t ox oy cx cy).run P w = .ok () w -> (∃ cv, (binOp op t cx cy).run P w = .ok cv w /\ VR ρ v cv) -> ∃ cv, (do eqGuard op t ox oy cx cy; binOp op t cx cy : Sem Value).run P w = .ok cv w /\ VR ρ v cv := by
  rintro h1 ⟨cv, h2, h3⟩; exact ⟨cv, by simp [h1, h2], h3⟩
 by_cases h1 : op = .shl
 ·subst h1
  unfold binA at h
  cases x <;> cases y <;> (try simp only at h) <;> try (cases h; done)
  simp only [VR] at hx hy; subst hx hy
  exact key (by simp [eqGuard]) (Z3v h t)
 by_cases h2 : op = .shr
 ·subst h2
  unfold binA at h
  cases x <;> cases y <;> (try simp only at h) <;> try (cases h; done)
  simp only [VR] at hx hy; subst hx hy
  exact key (by simp [eqGuard]) (Z3v h t)
 by_cases hii : ∃ k a k' b, x = .int k a /\ y = .int k' b
 ·obtain ⟨k, a, k', b, rfl, rfl⟩ := hii
  have h' : (match decide (k = k') with | true => intBin op k a b | false => none) = some v := by
   cases op <;> first | exact h | exact absurd rfl h1 | exact absurd rfl h2
  cases hd : decide (k = k') <;> simp only [hd] at h'
  ·cases h'
  ·obtain rfl := of_decide_eq_true hd
   simp only [VR] at hx hy; subst hx hy
   exact key (hint k a b rfl rfl) (Zaw h1 h2 h' t)
 ·have hrest : binRest C op t x y = some v := by
   unfold binA at h
   cases op <;> first | exact absurd rfl h1 | exact absurd rfl h2 | skip
   all_goals
    simp only at h
    cases x <;> first
     | exact h
     | (cases y <;> first | exact h | exact absurd ⟨_, _, _, _, rfl, rfl⟩ hii)
  clear h
  have eqs : ∀ neg, (op = if neg then .neq else .eql) -> eqTop C t neg x y = some v -> ∃ cv, (do eqGuard op t ox oy cx cy; binOp op t cx cy : Sem Value).run P w = .ok cv w /\ VR ρ v cv := by
   intro neg hop hq
   unfold eqTop at hq
   split at hq
   ·rename_i a b
    simp only [VR] at hx hy; subst hx hy
    simp only [eqSame, Option.some.injEq] at hq; subst hq
    cases neg
    ·obtain rfl : op = .eql := by simpa using hop
     exact key (by simp [eqGuard]) ⟨.bool (a == b), by simp [binOp, Op.stringOp, beq_toListBytes], by simp [VR, negB]⟩
    ·obtain rfl : op = .neq := by simpa using hop
     exact key (by simp [eqGuard]) ⟨.bool (a != b), by simp [binOp, Op.stringOp, bne, beq_toListBytes], by simp [VR, negB, Z1b, bne]⟩
   ·rename_i a b
    obtain ⟨us, rfl, v1, s1⟩ := Z2d hx
    obtain ⟨vs, rfl, v2, s2⟩ := Z2d hy
    cases hi : C.ty.get t with
    | none => simp [hi] at hq
    | some i =>
     simp only [hi] at hq
     cases hc : i.cmp <;> simp only [hc] at hq <;> try (cases hq; done)
     cases he : eqA C 20 t (.agg a) (.agg b) with
     | none => simp [he] at hq
     | some r =>
      simp only [he, Option.some.injEq] at hq; subst hq
      have hr := Z33 (w := w) hC 20 10000 t _ _ r _ _ (by omega) he hx hy
      obtain ⟨_, g2, _⟩ := (hC.ty t i hi).cmp hc
      refine key (run_eqGuard_agg w op t ox oy _ _ g2) ?_
      cases neg
      ·obtain rfl : op = .eql := by simpa using hop
       exact ⟨.bool r, by rw [run_eql_struct, hr]; rfl, by simp [VR, negB]⟩
      ·obtain rfl : op = .neq := by simpa using hop
       exact ⟨.bool (!r), by rw [run_neq_struct, hr]; rfl, by simp [VR, negB, Z1b]⟩
   ·cases hq
   ·cases hq
   ·cases hq
   ·cases hq
   ·cases hq
   ·cases hq
   ·have hnag : ∀ a b, x = .agg a -> y = .agg b -> False := by intros; simp_all
    cases he : eqA C 20 t x y with
    | none => simp [he] at hq
    | some r =>
     simp only [he, Option.some.injEq] at hq; subst hq
     have hr := Z33 (w := w) hC 20 10000 t _ _ r _ _ (by omega) he hx hy
     have hshape : (Op.equalIn 10000 t cx cy).run P w = .ok r w -> ∃ cv, (do eqGuard op t ox oy cx cy; binOp op t cx cy : Sem Value).run P w = .ok cv w /\ VR ρ (.bool (negB neg r)) cv := by
      intro hr
      unfold eqA at he
      cases hi : C.ty.get t with
      | none => simp [hi] at he
      | some i =>
       simp only [hi] at he
       have fin : ∀ (g : (eqGuard op t ox oy cx cy).run P w = .ok () w) (e1 : op = .eql -> (binOp .eql t cx cy).run P w = ((Op.equal t cx cy).run P w).andThen fun b w' => .ok (.bool b) w') (e2 : op = .neq -> (binOp .neq t cx cy).run P w = ((Op.equal t cx cy).run P w).andThen fun b w' => .ok (.bool (!b)) w'), ∃ cv, (do eqGuard op t ox oy cx cy; binOp op t cx cy : Sem Value).run P w = .ok cv w /\ VR ρ (.bool (negB neg r)) cv := by
        intro g e1 e2
        refine key g ?_
        have hr' : (Op.equal t cx cy).run P w = .ok r w := hr
        cases neg
        ·obtain rfl : op = .eql := by simpa using hop
         exact ⟨.bool r, by rw [e1 rfl, hr']; rfl, by simp [VR, negB]⟩
        ·obtain rfl : op = .neq := by simpa using hop
         exact ⟨.bool (!r), by rw [e2 rfl, hr']; rfl, by simp [VR, negB, Z1b]⟩
       cases hd : i.desc <;> simp only [hd] at he <;> try (cases he; done)
       all_goals (cases x <;> cases y <;> (try simp only at he) <;> try (cases he; done))
       all_goals (try (exact absurd ⟨_, _, _, _, rfl, rfl⟩ hii))
       all_goals (try (exact (hnag _ _ rfl rfl).elim))
       all_goals (simp only [VR] at hx hy)
       all_goals (try subst hx)
       all_goals (try subst hy)
       all_goals (try (obtain ⟨p, o', c', _, a, rfl, _⟩ := hx))
       all_goals (try (obtain ⟨p, o', c', _, a, rfl, _⟩ := hy))
       all_goals (try (obtain ⟨p, _, rfl⟩ := hx))
       all_goals (try (obtain ⟨p, _, rfl⟩ := hy))
       all_goals (refine fin ?_ ?_ ?_)
       all_goals (first | (cases neg <;> simp at hop <;> subst hop <;> simp [eqGuard]; done) | (intro _; simp [binOp]; done) | skip)
     exact hshape hr
  unfold binRest at hrest
  cases op <;> simp only at hrest <;> try (cases hrest; done)
  ·
   split at hrest
   ·rename_i a b
    cases hle : Nat.ble (a.size + b.size) 9223372036854775807 <;> simp only [hle] at hrest
    ·cases hrest
    ·simp only [Option.some.injEq] at hrest; subst hrest
     simp only [VR] at hx hy; subst hx hy
     have hle' := Nat.le_of_ble_eq_true hle
     have hm : ¬ (((a.size + b.size : Nat) : Int) > IntKind.i64.max) := by
      show ¬ (((a.size + b.size : Nat) : Int) > 9223372036854775807); omega
     refine key (by simp [eqGuard]) ⟨.string (a ++ b), ?_, by simp [VR]⟩
     simp only [binOp, Op.stringOp]
     rw [if_neg hm]; rfl
   ·cases hrest
  ·exact eqs false rfl hrest
  ·exact eqs true rfl hrest
end
end Go.Am
namespace Go.Am
open Go
section
variable {P : Program} {C : Cfg} {ρ : Rho} {s : St} {w : World}
theorem Zc3 {op : UnOp} {x v : AV} (h : unA op x = some v) {cx : Value} (hx : VR ρ x cx) : ∃ cv, (Op.unary op cx).run P w = .ok cv w /\ VR ρ v cv := by
 unfold unA at h
 split at h <;> try (cases h; done)
 all_goals
  simp only [Option.some.injEq] at h; subst h
  simp only [VR] at hx; subst hx
 ·exact ⟨_, by simp only [Op.unary, Op.intArith]; rfl, by simp [VR, Y2]⟩
 ·rename_i k n
  refine ⟨.int k (k.wrap (BitVec.ofInt k.bits (if k.signed then -1 else k.max) ^^^ BitVec.ofInt k.bits n).toNat), by simp only [Op.unary, Op.intBits]; rfl, ?_⟩
  have : BitVec.ofInt k.bits (if k.signed then -1 else k.max) = BitVec.allOnes k.bits := by cases k <;> rfl
  simp only [VR, Y2, this, BitVec.toNat_xor, Z7h, Z32]
  rfl
 ·exact ⟨.bool (!_), by simp only [Op.unary]; rfl, by simp [VR, Z1b]⟩
theorem Z9v (hC : CfgOk P C) {a b : TypeId} {x v : AV} (h : convA C a b x = some v) {cx : Value} (hx : VR ρ x cx) : ∃ cv, (convert a b cx).run P w = .ok cv w /\ VR ρ v cv := by
 unfold convA at h
 split at h <;> try (cases h; done)
 rename_i i k q n h1 h2
 simp only [Option.some.injEq] at h; subst h
 simp only [VR] at hx; subst hx
 refine ⟨.int k (k.wrap n), ?_, by simp [VR, Y2]⟩
 simp [convert, run_underlying hC h1, Yn hC h2, Conv.intToInt]
theorem Xh {x : Int} {y k : Nat} (h : inB x y = some k) : 0 <= x /\ x <= y /\ k = x.toNat := by
 unfold inB at h
 cases h1 : decide (0 <= x) <;> cases h2 : decide (x <= (y : Int)) <;> simp only [h1, h2] at h <;> try (cases h; done)
 simp only [Option.some.injEq] at h
 exact ⟨of_decide_eq_true h1, of_decide_eq_true h2, h.symm⟩
theorem Y9 {x : Int} {y y' k : Nat} (h : inB x y = some k) (hy : y <= y') (q : IntKind) (code : BoundsCode) : (Instr.sliceBound (.int q x) y' code).run P w = .ok k w := by
 obtain ⟨h1, h2, rfl⟩ := Xh h
 have : 0 <= x /\ x <= (y' : Int) := ⟨h1, by omega⟩
 simp [Instr.sliceBound, asIntOf, this]
def OR (ρ : Rho) : Option AV -> Option Value -> Prop
 | none, o => o = none
 | some v, o => ∃ cv, o = some cv /\ VR ρ v cv
theorem Z4w {T : List AV} {a : Act} (hT : VRs ρ T a.tmps.toList) {x : Option Operand} {o : Option AV} (h : optA T x = some o) : OR ρ o (x.map a.eval) := by
 cases x with
 | none => simp only [optA, Option.some.injEq] at h; subst h; rfl
 | some x =>
  simp only [optA] at h
  cases hv : evA T x with
  | none => simp [hv] at h
  | some v => simp only [hv, Option.some.injEq] at h; subst h; exact ⟨_, rfl, Zh hT hv⟩
theorem X5 {n m cap : Nat} (hm : m <= cap) {lo hi : Option AV} {clo chi : Option Value} (hlo : OR ρ lo clo) (hhi : OR ρ hi chi) {l h : Nat} (hb : bounds2 n m lo hi = some (l, h)) (isS : Bool) :
  (Instr.sliceBounds isS n cap clo chi none).run P w = .ok (l, h, cap) w /\ l <= h /\ (h <= m \/ hi = none /\ h = n) := by
 unfold bounds2 at hb
 cases h1 : boundA n m hi with
 | none => simp [h1] at hb
 | some h' =>
  simp only [h1] at hb
  cases h2 : boundA 0 h' lo with
  | none => simp [h2] at hb
  | some l' =>
   simp only [h2, Option.some.injEq, Prod.mk.injEq] at hb
   obtain ⟨rfl, rfl⟩ := hb
   have H : (match chi with | some v => Instr.sliceBound v cap (if isS then .sliceAcap else .sliceAlen) | none => pure n : Sem Nat).run P w = .ok h' w /\ (h' <= m \/ hi = none /\ h' = n) := by
    cases hi with
    | none => obtain rfl := hhi; simp only [boundA, Option.some.injEq] at h1; subst h1; exact ⟨rfl, .inr ⟨rfl, rfl⟩⟩
    | some v =>
     obtain ⟨cv, rfl, hv⟩ := hhi
     cases v <;> simp only [boundA] at h1 <;> try (cases h1; done)
     simp only [VR] at hv; subst hv
     exact ⟨Y9 h1 hm _ _, .inl (by obtain ⟨a, b, c⟩ := Xh h1; omega)⟩
   have L : (match clo with | some v => Instr.sliceBound v h' .sliceB | none => pure 0 : Sem Nat).run P w = .ok l' w /\ l' <= h' := by
    cases lo with
    | none => obtain rfl := hlo; simp only [boundA, Option.some.injEq] at h2; subst h2; exact ⟨rfl, Nat.zero_le _⟩
    | some v =>
     obtain ⟨cv, rfl, hv⟩ := hlo
     cases v <;> simp only [boundA] at h2 <;> try (cases h2; done)
     simp only [VR] at hv; subst hv
     exact ⟨Y9 h2 (Nat.le_refl _) _ _, by obtain ⟨a, b, c⟩ := Xh h2; omega⟩
   refine ⟨?_, L.2, H.2⟩
   unfold Instr.sliceBounds
   cases chi <;> cases clo <;> simp only [Sem.run_bind, Sem.run_pure, Result.andThen_ok, Result.ok.injEq, and_true] at H L ⊢ <;>
    simp_all
theorem Z2e {n cap m : Nat} (hn : n <= cap) {lo hi mx : AV} {lo' : Option AV} {clo : Option Value} {chi cmx : Value} (hlo : OR ρ lo' clo) (hhi : VR ρ hi chi) (hmx : VR ρ mx cmx) (hm : boundA 0 n (some mx) = some m) {l h : Nat} (hb : bounds2 0 m lo' (some hi) = some (l, h)) (len : Nat) :
  (Instr.sliceBounds true len cap clo (some chi) (some cmx)).run P w = .ok (l, h, m) w /\ l <= h /\ h <= m /\ m <= n := by
 have hmn : ∃ q x, mx = .int q x /\ inB x n = some m := by
  cases mx <;> simp only [boundA] at hm <;> try (cases hm; done)
  exact ⟨_, _, rfl, hm⟩
 obtain ⟨q, x, rfl, hmb⟩ := hmn
 simp only [VR] at hmx; subst hmx
 unfold bounds2 at hb
 cases h1 : boundA 0 m (some hi) with
 | none => simp [h1] at hb
 | some h' =>
  simp only [h1] at hb
  cases h2 : boundA 0 h' lo' with
  | none => simp [h2] at hb
  | some l' =>
   simp only [h2, Option.some.injEq, Prod.mk.injEq] at hb
   obtain ⟨rfl, rfl⟩ := hb
   have hh : ∃ q y, hi = .int q y /\ inB y m = some h' := by
    cases hi <;> simp only [boundA] at h1 <;> try (cases h1; done)
    exact ⟨_, _, rfl, h1⟩
   obtain ⟨q', y, rfl, hhb⟩ := hh
   simp only [VR] at hhi; subst hhi
   have L : (match clo with | some v => Instr.sliceBound v h' .slice3C | none => pure 0 : Sem Nat).run P w = .ok l' w /\ l' <= h' := by
    cases lo' with
    | none => obtain rfl := hlo; simp only [boundA, Option.some.injEq] at h2; subst h2; exact ⟨rfl, Nat.zero_le _⟩
    | some v =>
     obtain ⟨cv, rfl, hv⟩ := hlo
     cases v <;> simp only [boundA] at h2 <;> try (cases h2; done)
     simp only [VR] at hv; subst hv
     exact ⟨Y9 h2 (Nat.le_refl _) _ _, by obtain ⟨a, b, c⟩ := Xh h2; omega⟩
   have e1 : (Instr.sliceBound (.int q x) cap .slice3Acap).run P w = .ok m w := Y9 hmb hn _ _
   have e2 : (Instr.sliceBound (.int q' y) m .slice3B).run P w = .ok h' w := Y9 hhb (Nat.le_refl _) _ _
   refine ⟨?_, L.2, by obtain ⟨a, b, c⟩ := Xh hhb; omega, by obtain ⟨a, b, c⟩ := Xh hmb; omega⟩
   unfold Instr.sliceBounds
   cases clo <;> simp only [Sem.run_bind, Sem.run_pure, Result.andThen_ok, if_true, Result.ok.injEq, and_true] at L ⊢ <;> simp_all
theorem Z34 (hr : HR ρ s.H w) {b : Nm} {z : Nat} {v : AV} {Q : AV × St -> Prop} (h : (unitM b z v s).All Q) : Q (v, s) /\ ∃ p, ρ b = some p /\ (p.unit = 0 \/ p.unit = z) := by
 obtain ⟨x, hx, hq⟩ := (Zo _ _ _).1 ((M.all_bind _ _ _ _).1 h)
 obtain ⟨p, hp, hbo⟩ := hr.blocks _ _ hx
 cases x with
 | cells cs r u =>
  obtain ⟨hu, _⟩ := hbo
  simp only at hq
  cases h1 : Nat.beq u 0 <;> cases h2 : Nat.beq u z <;> simp only [h1, h2] at hq
  ·exact hq.elim
  all_goals refine ⟨hq, p, hp, ?_⟩
  ·exact .inr (by rw [hu]; exact Nat.eq_of_beq_eq_true h2)
  ·exact .inl (by rw [hu]; exact Nat.eq_of_beq_eq_true h1)
  ·exact .inl (by rw [hu]; exact Nat.eq_of_beq_eq_true h1)
 | _ => exact hq.elim
theorem Z7j (hC : CfgOk P C) (hr : HR ρ s.H w) {t e : TypeId} {l : List AV} {lo hi mx : Option AV} {clo chi cmx : Option Value} {a : Option Addr} {c : Nat} (hu : ∀ w : World, Sem.run P (underlying t) w = Result.ok (TypeDesc.slice e) w) (hc : l.length <= c)
  (hl : l ≠ [] -> ∃ blk off z, a = some ⟨blk, off, none⟩ /\ 1 <= z /\ FR ρ blk off z l) (hlo : OR ρ lo clo) (hhi : OR ρ hi chi) (hmx : OR ρ mx cmx) :
  ValSim P ρ s w (cutA (C.ty.get e) l lo hi mx) (Instr.sliceAt t (.slice a l.length c) clo chi cmx) := by
 unfold cutA
 cases hi' : C.ty.get e with
 | none => exact ValSim.fail
 | some i =>
  cases mx with
  | none =>
   obtain rfl := hmx
   try simp only
   cases hz : okZ i.size l with
   | false => exact ValSim.fail
   | true =>
    cases hb : bounds2 l.length l.length lo hi with
    | none => exact ValSim.fail
    | some y =>
     obtain ⟨x, h⟩ := y
     try simp only
     obtain ⟨e1, e2, e3⟩ := X5 (P := P) (w := w) hc hlo hhi hb true
     have hle : h <= l.length := by rcases e3 with h3 | ⟨_, h3⟩ <;> omega
     refine ValSim.ret hr (cv := .slice (if c = x then a else a.map (·.add (x * i.size))) (h - x) (c - x)) ?_ ?_
     ·simp [Instr.sliceAt, hu, Instr.slice, e1, Zd hC hi']
     ·simp only [VR]
      have hlen : ((l.take h).drop x).length = h - x := by rw [List.length_drop, List.length_take]; omega
      refine ⟨_, _, by rw [hlen], by rw [hlen]; omega, fun hne => ?_⟩
      have hxh : x < h := by
       rcases Nat.lt_or_ge x h with g | g
       ·exact g
       ·exact absurd (List.eq_nil_of_length_eq_zero (by rw [hlen]; omega)) hne
      have hl0 : l ≠ [] := fun e => by subst e; simp at hle; omega
      obtain ⟨blk, off, z, ha, hz1, hf⟩ := hl hl0
      have hzz : z = i.size := by
       cases l with
       | nil => exact absurd rfl hl0
       | cons b r =>
        have := (hf.nth 0 b rfl).2.1
        unfold okZ at hz
        cases hbq : Nat.beq b.cells.length i.size with
        | false => rw [hbq] at hz; cases hz
        | true => have := Nat.eq_of_beq_eq_true hbq; omega
      rw [if_neg (by omega), ha]
      subst hzz
      refine ⟨blk, off + x * i.size, i.size, by simp [Yj], hz1, ?_⟩
      exact FR.drop x (hf.take h)
  | some m =>
   obtain ⟨cm, rfl, hm⟩ := hmx
   try simp only
   cases hi with
   | none => exact ValSim.fail
   | some hh =>
    obtain ⟨ch, rfl, hch⟩ := hhi
    try simp only
    cases hbm : boundA 1 0 (some m) with
    | none => exact ValSim.fail
    | some m' =>
     try simp only
     cases hb : bounds2 0 0 lo (some hh) with
     | none => exact ValSim.fail
     | some y =>
      obtain ⟨x, h⟩ := y
      try simp only
      have hm0 : m' = 0 /\ boundA 0 l.length (some m) = some 0 := by
       cases m <;> simp only [boundA] at hbm <;> try (cases hbm; done)
       obtain ⟨g1, g2, g3⟩ := Xh hbm
       have : m' = 0 := by omega
       subst this
       refine ⟨rfl, ?_⟩
       rename_i q v
       have hv : v = 0 := by omega
       subst hv
       simp [boundA, inB]
      obtain ⟨rfl, hbm'⟩ := hm0
      obtain ⟨e1, e2, e3, e4⟩ := Z2e (P := P) (w := w) (lo := .undef) hc hlo hch hm hbm' hb l.length
      have hh0 : h = 0 := by omega
      subst hh0
      have hx0 : x = 0 := by omega
      subst hx0
      refine ValSim.ret hr (cv := .slice a 0 0) ?_ (by simp only [VR]; exact ⟨a, rfl⟩)
      simp [Instr.sliceAt, hu, Instr.slice, e1, Zd hC hi']
theorem Z7k (hC : CfgOk P C) (hr : HR ρ s.H w) {t : TypeId} {x : AV} {lo hi mx : Option AV} {cx : Value} {clo chi cmx : Option Value} (hx : VR ρ x cx) (hlo : OR ρ lo clo) (hhi : OR ρ hi chi) (hmx : OR ρ mx cmx) :
  ValSim P ρ s w (sliceOp C t x lo hi mx) (Instr.sliceAt t cx clo chi cmx) := by
 unfold sliceOp
 cases hd : C.desc t with
 | none => exact ValSim.fail
 | some d =>
  have hu := fun w => Yn hC hd w
  cases d <;> simp only <;> try exact ValSim.fail
  case string =>
   cases x <;> (try simp only) <;> try exact ValSim.fail
   rename_i str
   cases mx with
   | some m => exact ValSim.fail
   | none =>
    obtain rfl := hmx
    simp only [VR] at hx; subst hx
    cases hb : bounds2 str.size str.size lo hi with
    | none => simp only [hb]; exact ValSim.fail
    | some y =>
     obtain ⟨l, h⟩ := y
     simp only [hb]
     obtain ⟨e1, _, _⟩ := X5 (P := P) (w := w) (Nat.le_refl _) hlo hhi hb false
     exact ValSim.ret hr (cv := .string (str.extract l h)) (by simp [Instr.sliceAt, hu, Instr.slice, e1]) (by simp [VR])
  case array len e =>
   cases x <;> (try simp only) <;> try exact ValSim.fail
   rename_i b o
   cases hi' : C.ty.get e with
   | none => exact ValSim.fail
   | some i =>
    cases mx with
    | some m => exact ValSim.fail
    | none =>
     obtain rfl := hmx
     try simp only
     cases hb : bounds2 len len lo hi with
     | none => exact ValSim.fail
     | some y =>
      obtain ⟨l, h⟩ := y
      intro Q hQ
      obtain ⟨hq, p, hp, hu0⟩ := Z34 hr hQ
      obtain ⟨e1, e2, e3⟩ := X5 (P := P) (w := w) (Nat.le_refl _) hlo hhi hb false
      simp only [VR] at hx
      obtain ⟨p', hp', rfl⟩ := hx
      rw [hp] at hp'; obtain rfl := Option.some.inj hp'
      have hun : p.unit = 0 := by omega
      refine ⟨_, s, ρ, w, .slice (some (if len = l then ⟨p.blk, p.off + o, none⟩ else (⟨p.blk, p.off + o, none⟩ : Addr).add (l * i.size))) (h - l) (len - l), hq, ?_, Stp.refl _ _ _, hr, ?_⟩
      ·simp [Instr.sliceAt, hu, Instr.sureAddr, e1, Zd hC hi']
      ·have hle : h <= len := by rcases e3 with h3 | ⟨_, h3⟩ <;> omega
       simp only [VR]
       refine ⟨p, if len = l then p.off + o else p.off + o + l * i.size, len - l, hp, _, rfl, fun _ => ?_, ?_, fun _ => rfl, by omega, Nat.le_refl _, fun hne => absurd hun hne⟩
       ·by_cases hll : len = l
        ·simp [hll]
        ·simp [hll, Yj]
       ·intro hne
        rw [if_neg (by omega)]; omega
  case slice e =>
   cases x <;> simp only <;> try exact ValSim.fail
   ·
    cases mx with
    | some m => exact ValSim.fail
    | none =>
     obtain rfl := hmx
     simp only [VR] at hx; subst hx
     cases hb : bounds2 0 0 lo hi with
     | none => exact ValSim.fail
     | some y =>
      cases he : C.ty.get e with
      | none => exact ValSim.fail
      | some ie =>
       obtain ⟨l, h⟩ := y
       obtain ⟨e1, e2, e3⟩ := X5 (P := P) (w := w) (Nat.le_refl _) hlo hhi hb true
       have hl0 : h = 0 := by rcases e3 with h3 | ⟨_, h3⟩ <;> omega
       have hl1 : l = 0 := by omega
       subst hl0; subst hl1
       intro Q hQ
       cases hse : P.info? e with
       | none => obtain ⟨j, hj, _⟩ := (hC.ty e ie he).info; rw [hse] at hj; cases hj
       | some j => exact ⟨_, s, ρ, w, .slice none 0 0, hQ, by simp [Instr.sliceAt, hu, Instr.slice, e1, sizeOf, typeInfo, hse], Stp.refl _ _ _, hr, by simp [VR]⟩
   rotate_left
   ·
    cases mx with
    | some m => exact ValSim.fail
    | none =>
     obtain rfl := hmx
     simp only [VR] at hx; obtain ⟨a, rfl⟩ := hx
     cases hb : bounds2 0 0 lo hi with
     | none => exact ValSim.fail
     | some y =>
      cases he : C.ty.get e with
      | none => exact ValSim.fail
      | some ie =>
       obtain ⟨l, h⟩ := y
       obtain ⟨e1, e2, e3⟩ := X5 (P := P) (w := w) (Nat.le_refl _) hlo hhi hb true
       have hl0 : h = 0 := by rcases e3 with h3 | ⟨_, h3⟩ <;> omega
       have hl1 : l = 0 := by omega
       subst hl0; subst hl1
       exact ValSim.ret hr (cv := .slice a 0 0) (by simp [Instr.sliceAt, hu, Instr.slice, e1, Zd hC he]) (by simp only [VR]; exact ⟨a, rfl⟩)
   ·simp only [VR] at hx
    obtain ⟨a, c, rfl, h1, h2⟩ := hx
    exact Z7j hC hr hu h1 h2 hlo hhi hmx
   ·simp only [VR] at hx
    obtain ⟨p, c, hp, rfl, h1, h2, h3, h4, h5⟩ := hx
    exact Z7j hC hr hu h3 (fun _ => ⟨_, _, _, rfl, h2, h5⟩) hlo hhi hmx
   ·rename_i b o n c ex
    cases hi' : C.ty.get e with
    | none => exact ValSim.fail
    | some i =>
     simp only [VR] at hx
     obtain ⟨p, o', c', hp, aa, rfl, ha, h1, h2, h3, h4, h5⟩ := hx
     cases mx with
     | none =>
      obtain rfl := hmx
      try simp only
      cases hb : bounds2 n n lo hi with
      | none => exact ValSim.fail
      | some y =>
       obtain ⟨l, h⟩ := y
       intro Q hQ
       obtain ⟨hq, p', hp', hun⟩ := Z34 hr hQ
       rw [hp] at hp'; obtain rfl := Option.some.inj hp'
       obtain ⟨e1, e2, e3⟩ := X5 (P := P) (w := w) (show n <= c' by omega) hlo hhi hb true
       have hle : h <= n := by rcases e3 with h3 | ⟨_, h3⟩ <;> omega
       refine ⟨_, s, ρ, w, .slice (some (if c' = l then aa else aa.add (l * i.size))) (h - l) (c' - l), hq, ?_, Stp.refl _ _ _, hr, ?_⟩
       ·rw [show (some (if c' = l then aa else aa.add (l * i.size))) = (if c' = l then some aa else some (aa.add (l * i.size))) by split <;> rfl]; simp [Instr.sliceAt, hu, Instr.slice, e1, Zd hC hi']
       ·simp only [VR]
        refine ⟨p, if c' = l then o' else o' + l * i.size, c' - l, hp, _, rfl, ?_, ?_, fun hx => by rw [h2 hx], by omega, by omega, ?_⟩
        ·intro hne
         rw [if_neg (by omega), if_neg (by omega), ha (by omega), Yj]
        ·intro hne
         rw [if_neg (by omega), h1 (by omega)]; omega
        ·intro hne
         have hz : p.unit = i.size := by omega
         have h6 := h5 hne
         by_cases hll : c' = l
         ·rw [if_pos hll, hll, Nat.sub_self, Nat.zero_mul]; have : 0 <= c' * p.unit := Nat.zero_le _; omega
         ·rw [if_neg hll, <- hz]
          have : l * p.unit + (c' - l) * p.unit = c' * p.unit := by rw [<- Nat.add_mul]; congr 1; omega
          omega
     | some m =>
      obtain ⟨cm, rfl, hm⟩ := hmx
      try simp only
      cases hi with
      | none => exact ValSim.fail
      | some hh =>
       obtain ⟨ch, rfl, hch⟩ := hhi
       try simp only
       cases hbm : boundA 0 n (some m) with
       | none => exact ValSim.fail
       | some m' =>
        simp only
        cases hb : bounds2 0 m' lo (some hh) with
        | none => exact ValSim.fail
        | some y =>
         obtain ⟨l, h⟩ := y
         intro Q hQ
         obtain ⟨hq, p', hp', hun⟩ := Z34 hr hQ
         rw [hp] at hp'; obtain rfl := Option.some.inj hp'
         obtain ⟨e1, e2, e3, e4⟩ := Z2e (P := P) (w := w) (lo := .undef) (show n <= c' by omega) hlo hch hm hbm hb n
         refine ⟨_, s, ρ, w, .slice (some (if m' = l then aa else aa.add (l * i.size))) (h - l) (m' - l), hq, ?_, Stp.refl _ _ _, hr, ?_⟩
         ·rw [show (some (if m' = l then aa else aa.add (l * i.size))) = (if m' = l then some aa else some (aa.add (l * i.size))) by split <;> rfl]; simp [Instr.sliceAt, hu, Instr.slice, e1, Zd hC hi']
         ·simp only [VR]
          refine ⟨p, if m' = l then o' else o' + l * i.size, m' - l, hp, _, rfl, ?_, ?_, fun _ => rfl, by omega, Nat.le_refl _, ?_⟩
          ·intro hne
           rw [if_neg (by omega), if_neg (by omega), ha (by omega), Yj]
          ·intro hne
           rw [if_neg (by omega), h1 (by omega)]; omega
          ·intro hne
           have hz : p.unit = i.size := by omega
           have h6 := h5 hne
           have hmul : m' * p.unit <= c' * p.unit := Nat.mul_le_mul_right _ (by omega)
           by_cases hll : m' = l
           ·rw [if_pos hll, hll, Nat.sub_self, Nat.zero_mul]; omega
           ·rw [if_neg hll, <- hz]
            have : l * p.unit + (m' - l) * p.unit = m' * p.unit := by rw [<- Nat.add_mul]; congr 1; omega
            omega
end
end Go.Am
namespace Go.Am
open Go
section
variable {P : Program} {C : Cfg} {ρ : Rho} {s : St} {w : World}
theorem J6 {i : Int} {n k : Nat} (h : inR i n = some k) : 0 <= i /\ i < n /\ k = i.toNat /\ k < n := by
 unfold inR at h
 cases h1 : decide (0 <= i) <;> cases h2 : decide (i < (n : Int)) <;> simp only [h1, h2] at h <;> try (cases h; done)
 simp only [decide_eq_true_eq, Option.some.injEq] at h1 h2 h
 omega
theorem Z2f (hC : CfgOk P C) {t e : TypeId} {l : List AV} {k : IntKind} {i : Int} {c : Nat} {a : Option Addr} (hu : ∀ w : World, Sem.run P (underlying t) w = Result.ok (TypeDesc.slice e) w) {j : TI} (hj : C.ty.get e = some j)
  (hl : l ≠ [] -> ∃ blk off z, a = some ⟨blk, off, none⟩ /\ 1 <= z /\ FR ρ blk off z l) {v : AV} (h : elemAt j.size i l = some v) :
  ∃ cv, (Instr.indexAt t (.slice a l.length c) (.int k i)).run P w = .ok cv w /\ VR ρ v cv := by
 unfold elemAt at h
 cases hr : inR i l.length with
 | none => rw [hr] at h; cases h
 | some m =>
  rw [hr] at h; simp only at h
  obtain ⟨h0, h1, h2, h3⟩ := J6 hr
  cases hn : nth l m with
  | none => rw [hn] at h; cases h
  | some x =>
   rw [hn] at h; simp only at h
   cases hb : Nat.beq x.cells.length j.size with
   | false => rw [hb] at h; cases h
   | true =>
    rw [hb] at h; simp only [Option.some.injEq] at h; subst h
    have hne : l ≠ [] := fun e => by subst e; simp at h3
    obtain ⟨blk, off, z, rfl, hz, hf⟩ := hl hne
    obtain ⟨g0, g1, g2⟩ := hf.nth m x hn
    have hzz : z = j.size := by rw [<- g1]; exact Nat.eq_of_beq_eq_true hb
    subst hzz
    refine ⟨.pointer (some ⟨blk, off + m * j.size, none⟩), ?_, ?_⟩
    ·simp [Instr.indexAt, asIntOf, hu, Instr.sureAddr, h0, h1, Zd hC hj, Yj, <- h2]
    ·simp only [VR]
     exact ⟨blk, off + m * j.size, by simp, fun e => by rw [e] at g1; simp at g1; omega, g2⟩
theorem Z35 (hC : CfgOk P C) {t : TypeId} {x i : AV} {cx ci : Value} (hx : VR ρ x cx) (hi : VR ρ i ci) {v : AV} (h : indexAddrA C t x i = some v) :
  ∃ cv, (Instr.indexAt t cx ci).run P w = .ok cv w /\ VR ρ v cv := by
 unfold indexAddrA at h
 cases i <;> (try simp only at h) <;> try (cases h; done)
 rename_i k i
 simp only [VR] at hi; subst hi
 cases hd : C.desc t with
 | none => rw [hd] at h; cases h
 | some d =>
  have hu := fun w => Yn hC hd w
  rw [hd] at h
  cases d <;> (try simp only at h) <;> try (cases h; done)
  case array len e =>
   cases x <;> (try simp only at h) <;> try (cases h; done)
   ·rename_i b o
    cases hr : inR i len with
    | none => rw [hr] at h; cases h
    | some m =>
     cases hj : C.ty.get e with
     | none => rw [hr, hj] at h; cases h
     | some j =>
      rw [hr, hj] at h; simp only [Option.some.injEq] at h; subst h
      obtain ⟨h0, h1, h2, h3⟩ := J6 hr
      simp only [VR] at hx
      obtain ⟨p, hp, rfl⟩ := hx
      refine ⟨.pointer (some ⟨p.blk, p.off + (o + m * j.size), none⟩), ?_, by simp only [VR]; exact ⟨p, hp, rfl⟩⟩
      simp [Instr.indexAt, asIntOf, hu, Instr.sureAddr, h0, h1, Zd hC hj, Yj, <- h2, Nat.add_assoc]
   ·rename_i cs o
    cases hr : inR i len with
    | none => rw [hr] at h; cases h
    | some m =>
     cases hj : C.ty.get e with
     | none => rw [hr, hj] at h; cases h
     | some j =>
      rw [hr, hj] at h; simp only [Option.some.injEq] at h; subst h
      obtain ⟨h0, h1, h2, h3⟩ := J6 hr
      simp only [VR] at hx
      obtain ⟨blk, off, rfl, g1, g2⟩ := hx
      refine ⟨.pointer (some ⟨blk, off + (o + m * j.size), none⟩), ?_, by simp only [VR]; exact ⟨blk, off, rfl, g1, g2⟩⟩
      simp [Instr.indexAt, asIntOf, hu, Instr.sureAddr, h0, h1, Zd hC hj, Yj, <- h2, Nat.add_assoc]
  case slice e =>
   cases x <;> (try simp only at h) <;> try (cases h; done)
   rotate_left
   ·rename_i l
    simp only [VR] at hx
    obtain ⟨a, c, rfl, h1, h2⟩ := hx
    cases hj : C.ty.get e with
    | none => rw [hj] at h; cases h
    | some j => rw [hj] at h; exact Z2f hC hu hj h2 h
   ·rename_i b l
    simp only [VR] at hx
    obtain ⟨p, c, hp, rfl, h1, h2, h3, h4, h5⟩ := hx
    cases hj : C.ty.get e with
    | none => rw [hj] at h; cases h
    | some j => rw [hj] at h; exact Z2f hC hu hj (fun _ => ⟨_, _, _, rfl, h2, h5⟩) h
   rename_i b o n c ex
   cases hr : inR i n with
   | none => rw [hr] at h; cases h
   | some m =>
    cases hj : C.ty.get e with
    | none => rw [hr, hj] at h; cases h
    | some j =>
     rw [hr, hj] at h; simp only [Option.some.injEq] at h; subst h
     obtain ⟨h0, h1, h2, h3⟩ := J6 hr
     simp only [VR] at hx
     obtain ⟨p, o', c', hp, aa, rfl, ha, g1, g2, g3, g4, g5⟩ := hx
     obtain rfl := ha (by omega)
     refine ⟨.pointer (some ⟨p.blk, o' + m * j.size, none⟩), ?_, by simp only [VR]; exact ⟨p, hp, by rw [g1 (by omega)]; simp [Nat.add_assoc]⟩⟩
     simp [Instr.indexAt, asIntOf, hu, Instr.sureAddr, h0, h1, Zd hC hj, Yj, <- h2]
theorem Z7l (hC : CfgOk P C) {t : TypeId} {x i : AV} {cx ci : Value} (hx : VR ρ x cx) (hi : VR ρ i ci) {v : AV} (h : indexA C t x i = some v) :
  ∃ cv, (Instr.index t cx ci).run P w = .ok cv w /\ VR ρ v cv := by
 unfold indexA at h
 cases i <;> (try simp only at h) <;> try (cases h; done)
 rename_i k i
 simp only [VR] at hi; subst hi
 cases hd : C.desc t with
 | none => rw [hd] at h; cases h
 | some d =>
  have hu := fun w => Yn hC hd w
  rw [hd] at h
  cases d <;> (try simp only at h) <;> try (cases h; done)
  case array len e =>
   cases x <;> (try simp only at h) <;> try (cases h; done)
   rename_i cs
   cases hr : inR i len with
   | none => rw [hr] at h; cases h
   | some m =>
    cases hj : C.ty.get e with
    | none => rw [hr, hj] at h; cases h
    | some j =>
     rw [hr, hj] at h; simp only at h
     obtain ⟨h0, h1, h2, h3⟩ := J6 hr
     simp only [VR] at hx
     obtain ⟨vs, rfl, hv, hsc⟩ := hx
     obtain ⟨cv, e1, e2, _⟩ := J5 hC hv hsc h w
     exact ⟨cv, by simp [Instr.index, asIntOf, hu, h0, h1, Zd hC hj, <- h2, e1], e2⟩
  case string =>
   cases x <;> (try simp only at h) <;> try (cases h; done)
   rename_i str
   cases hr : inR i str.size with
   | none => rw [hr] at h; cases h
   | some m =>
    rw [hr] at h; simp only at h
    obtain ⟨h0, h1, h2, h3⟩ := J6 hr
    cases hn : nth str.data.toList m with
    | none => rw [hn] at h; cases h
    | some b =>
     rw [hn] at h; simp only [Option.some.injEq] at h; subst h
     simp only [VR] at hx; subst hx
     have hb : str[i.toNat]? = some b := by
      rw [Zm] at hn
      rw [<- h2]
      have h4 : str[m]? = some (str[m]'h3) := getElem?_pos str m h3
      rw [h4]; congr 1
      rw [List.getElem?_eq_getElem (by simpa using h3)] at hn
      exact Option.some.inj hn
     exact ⟨.int .u8 b.toNat, by simp [Instr.index, asIntOf, hu, h0, hb], by simp [VR]⟩
theorem Z36 (hC : CfgOk P C) {t : TypeId} {f : Nat} {x : AV} {cx : Value} (hx : VR ρ x cx) {v : AV} (h : fieldAddrA C t f x = some v) :
  ∃ cv, (Instr.fieldAt t cx f).run P w = .ok cv w /\ VR ρ v cv := by
 unfold fieldAddrA at h
 cases hd : C.desc t with
 | none => rw [hd] at h; cases h
 | some d =>
  have hu := fun w => Yn hC hd w
  rw [hd] at h
  cases d <;> (try simp only at h) <;> try (cases h; done)
  rename_i fs
  cases x <;> (try simp only at h) <;> try (cases h; done)
  ·rename_i b o
   cases hf : nth fs.toList f with
   | none => rw [hf] at h; cases h
   | some fd =>
    rw [hf] at h; simp only at h
    cases hq : C.ty.get fd.type with
    | none => rw [hq] at h; cases h
    | some q =>
     rw [hq] at h; simp only at h
     cases hz : Nat.ble 1 q.size with
     | false => rw [hz] at h; cases h
     | true =>
      rw [hz] at h; simp only [Option.some.injEq] at h; subst h
      have hz' : 1 <= q.size := Nat.le_of_ble_eq_true hz
      simp only [VR] at hx
      obtain ⟨p, hp, rfl⟩ := hx
      have hfd : fs[f]? = some fd := by rw [Zm] at hf; simpa using hf
      refine ⟨.pointer (some ⟨p.blk, p.off + (o + fd.offset), none⟩), ?_, by simp only [VR]; exact ⟨p, hp, rfl⟩⟩
      have hne : q.size ≠ 0 := by omega
      simp [Instr.fieldAt, hu, hfd, Instr.sureAddr, fieldPlace, Zd hC hq, hne, Yj, Nat.add_assoc]
  ·rename_i cs o
   cases hf : nth fs.toList f with
   | none => rw [hf] at h; cases h
   | some fd =>
    rw [hf] at h; simp only at h
    cases hq : C.ty.get fd.type with
    | none => rw [hq] at h; cases h
    | some q =>
     rw [hq] at h; simp only at h
     cases hz : Nat.ble 1 q.size with
     | false => rw [hz] at h; cases h
     | true =>
      rw [hz] at h; simp only [Option.some.injEq] at h; subst h
      have hz' : 1 <= q.size := Nat.le_of_ble_eq_true hz
      simp only [VR] at hx
      obtain ⟨blk, off, rfl, g1, g2⟩ := hx
      have hfd : fs[f]? = some fd := by rw [Zm] at hf; simpa using hf
      refine ⟨.pointer (some ⟨blk, off + (o + fd.offset), none⟩), ?_, by simp only [VR]; exact ⟨blk, off, rfl, g1, g2⟩⟩
      have hne : q.size ≠ 0 := by omega
      simp [Instr.fieldAt, hu, hfd, Instr.sureAddr, fieldPlace, Zd hC hq, hne, Yj, Nat.add_assoc]
theorem Z7m (hC : CfgOk P C) {t : TypeId} {f : Nat} {x : AV} {cx : Value} (hx : VR ρ x cx) {v : AV} (h : fieldA C t f x = some v) :
  ∃ cv, (Instr.field t cx f).run P w = .ok cv w /\ VR ρ v cv := by
 unfold fieldA at h
 cases hd : C.desc t with
 | none => rw [hd] at h; cases h
 | some d =>
  have hu := fun w => Yn hC hd w
  rw [hd] at h
  cases d <;> (try simp only at h) <;> try (cases h; done)
  rename_i fs
  cases x <;> (try simp only at h) <;> try (cases h; done)
  rename_i cs
  cases hf : nth fs.toList f with
  | none => rw [hf] at h; cases h
  | some fd =>
   rw [hf] at h; simp only at h
   simp only [VR] at hx
   obtain ⟨vs, rfl, hv, hsc⟩ := hx
   obtain ⟨cv, e1, e2, _⟩ := J5 hC hv hsc h w
   have hfd : fs[f]? = some fd := by rw [Zm] at hf; simpa using hf
   exact ⟨cv, by simp [Instr.field, hu, hfd, asAgg, e1], e2⟩
def PartsR (ρ : Rho) : List (Nat × AV) -> List (Nat × Value) -> Prop
 | [], l => l = []
 | x :: r, l => ∃ y t, l = y :: t /\ x.1 = y.1 /\ VR ρ x.2 y.2 /\ PartsR ρ r t
theorem Z37 {T : List AV} {a : Act} (hT : VRs ρ T a.tmps.toList) : ∀ (l : List (Nat × Operand)) (vs : List (Nat × AV)), partsA T l = some vs -> PartsR ρ vs (l.map fun x => (x.1, a.eval x.2))
 | [], vs, h => by simp [partsA] at h; subst h; simp [PartsR]
 | (i, x) :: r, vs, h => by
  unfold partsA at h
  cases h1 : evA T x with
  | none => simp [h1] at h
  | some v => cases h2 : partsA T r with
   | none => simp [h1, h2] at h
   | some l =>
    simp only [h1, h2, Option.some.injEq] at h; subst h
    simp only [List.map_cons, PartsR]
    exact ⟨_, _, rfl, rfl, Zh hT h1, Z37 hT r l h2⟩
theorem Zc4 {cs : List AV} {i : Nat} {a : AV} (h : ∀ c ∈ cs, c.sc = true) (ha : a.sc = true) : ∀ c ∈ setNth cs i a, c.sc = true := by
 intro c hc
 obtain ⟨j, hj⟩ := Z4t hc
 rw [Y7] at hc
 rcases List.mem_or_eq_of_mem_set hc with h1 | rfl
 ·exact h c h1
 ·exact ha
theorem Z7n {ρ : Rho} : ∀ (new : List AV) (vs : List Value), VRs ρ new vs -> (∀ c ∈ new, c.sc = true) -> ∀ (cs cs' : List AV) (us : List Value) (off k : Nat), VRs ρ cs us -> (∀ c ∈ cs, c.sc = true) -> writeN cs (off + k) new = some cs' ->
  ∃ us', (vs.zipIdx k).foldl (fun (cs : Array Value) (x : Value × Nat) => cs.setIfInBounds (off + x.2) x.1) (⟨us⟩ : Array Value) = ⟨us'⟩ /\ VRs ρ cs' us' /\ (∀ c ∈ cs', c.sc = true) /\ us'.length = us.length
 | [], vs, h, _, cs, cs', us, off, k, hc, hs, hw => by simp [VRs] at h; subst h; simp [writeN] at hw; subst hw; exact ⟨us, rfl, hc, hs, rfl⟩
 | a :: r, vs, h, hsc, cs, cs', us, off, k, hc, hs, hw => by
  simp only [VRs] at h
  obtain ⟨v, t, rfl, h1, h2⟩ := h
  unfold writeN at hw
  cases hn : nth cs (off + k) with
  | none => rw [hn] at hw; cases hw
  | some _ =>
   rw [hn] at hw; simp only at hw
   obtain ⟨us', e1, e2, e3, e4⟩ := Z7n r t h2 (fun c hc => hsc c (List.mem_cons_of_mem _ hc)) (setNth cs (off + k) a) cs' (us.set (off + k) v) off (k + 1) (VRs.set _ _ hc _ _ _ h1) (Zc4 hs (hsc a List.mem_cons_self)) (by rw [<- Nat.add_assoc]; exact hw)
   refine ⟨us', ?_, e2, e3, by rw [e4]; simp⟩
   rw [List.zipIdx_cons, List.foldl_cons, <- e1]
   congr 1
   apply Array.ext'; simp
theorem Z38 {place place' : Nat -> Option (Nat × Nat)} (hp : ∀ i y, place i = some y -> place' i = some y) : ∀ (l : List (Nat × AV)) (l' : List (Nat × Value)), PartsR ρ l l' -> ∀ (cs cs' : List AV) (us : List Value), VRs ρ cs us -> (∀ c ∈ cs, c.sc = true) -> fillA place cs l = some cs' ->
  ∃ us', Instr.fill place' ⟨us⟩ l' = some ⟨us'⟩ /\ VRs ρ cs' us' /\ (∀ c ∈ cs', c.sc = true) /\ us'.length = us.length
 | [], l', h, cs, cs', us, hc, hs, hf => by simp [PartsR] at h; subst h; simp [fillA] at hf; subst hf; exact ⟨us, rfl, hc, hs, rfl⟩
 | (i, a) :: r, l', h, cs, cs', us, hc, hs, hf => by
  simp only [PartsR] at h
  obtain ⟨⟨i', v⟩, t, rfl, rfl, h1, h2⟩ := h
  simp only at h1 hf ⊢
  unfold fillA at hf
  cases hpi : place i with
  | none => rw [hpi] at hf; cases hf
  | some y =>
   obtain ⟨off, size⟩ := y
   cases hok : a.okc with
   | false => rw [hpi, hok] at hf; cases hf
   | true =>
    rw [hpi, hok] at hf; simp only at hf
    cases hb1 : Nat.beq a.cells.length size with
    | false => simp [hb1] at hf
    | true =>
     cases hb2 : Nat.ble (off + size) cs.length with
     | false => simp [hb1, hb2] at hf
     | true =>
      cases hw : writeN cs off a.cells with
      | none => simp [hb1, hb2, hw] at hf
      | some cs1 =>
       simp only [hb1, hb2, hw] at hf
       obtain ⟨vs, hvc, hvs, hvsc, _⟩ := Xg hok h1
       obtain ⟨us1, e1, e2, e3, e4⟩ := Z7n a.cells vs hvs hvsc cs cs1 us off 0 hc hs hw
       obtain ⟨us', e5, e6, e7, e8⟩ := Z38 hp r t h2 cs1 cs' us1 e2 e3 hf
       refine ⟨us', ?_, e6, e7, e8.trans e4⟩
       have hl : vs.length = size := by rw [<- VRs.length _ _ hvs]; exact Nat.eq_of_beq_eq_true hb1
       have hb : off + size <= us.length := by rw [<- VRs.length _ _ hc]; exact Nat.le_of_ble_eq_true hb2
       unfold Instr.fill
       rw [hp _ _ hpi, hvc]
       simp only [List.size_toArray, hl]
       rw [if_neg (by simp; omega)]
       rw [<- e5]
       congr 1
       rw [<- e1, <- Array.foldl_toList, Array.toList_zipIdx]
end
end Go.Am
namespace Go.Am
open Go
section
variable {P : Program} {C : Cfg} {ρ : Rho} {s : St} {w : World}
theorem Z2g {w : World} : ∀ (l : List Field), (∀ f ∈ l, ∃ j, P.info? f.type = some j) ->
  ∃ ps : List (Nat × Nat), (l.mapM (m := Sem) fun (f : Field) => do pure (f.offset, <- sizeOf f.type)).run P w = .ok ps w /\ ∀ (i : Nat) (f : Field) (j : TypeInfo), l[i]? = some f -> P.info? f.type = some j -> ps[i]? = some (f.offset, j.size)
 | [], _ => ⟨[], by simp, by simp⟩
 | f :: r, h => by
  obtain ⟨j, hj⟩ := h f List.mem_cons_self
  obtain ⟨ps, e, h2⟩ := Z2g (w := w) r (fun g hg => h g (List.mem_cons_of_mem _ hg))
  refine ⟨(f.offset, j.size) :: ps, ?_, ?_⟩
  ·have h1 : (sizeOf f.type).run P w = .ok j.size w := by simp [sizeOf, typeInfo, hj]
   simp only [List.mapM_cons, Sem.run_bind, h1, Result.andThen_ok, Sem.run_pure, e]
  ·intro i g k hg hk
   cases i with
   | zero => simp at hg; subst hg; rw [hj] at hk; cases hk; rfl
   | succ i => simp at hg ⊢; exact h2 i g k hg hk
theorem Z7o (hC : CfgOk P C) {t : TypeId} {l : List (Nat × AV)} {parts : Array (Nat × Value)} (hp : PartsR ρ l parts.toList) {v : AV} (h : buildA C t l = some v) :
  ∃ cv, (Instr.build t parts).run P w = .ok cv w /\ VR ρ v cv := by
 unfold buildA at h
 cases hi : C.ty.get t with
 | none => rw [hi] at h; cases h
 | some i =>
  rw [hi] at h; simp only at h
  cases hz : i.zero with
  | none => simp [hz] at h
  | some z =>
   obtain ⟨zv, hzv, hzc⟩ := Yo hC hi hz w
   obtain ⟨hzr, hzo⟩ := Yc ρ zv z hzc
   obtain ⟨zs, hzcells, hzs, hzsc, _⟩ := Xg hzo hzr
   have hu := fun w => run_underlying hC hi w
   cases hd : i.desc <;> simp only [hz, hd] at h hu <;> try (cases h; done)
   case struct fs =>
    cases hf : fillA (fieldsPlace C fs.toList) z.cells l with
    | none => simp [hf] at h
    | some cs =>
     simp only [hf, Option.some.injEq] at h; subst h
     obtain ⟨ps, e1, e2⟩ := Z2g (P := P) (w := w) fs.toList (fun f hf => (hC.ty t i hi).fields fs hd f (by simpa using hf))
     have hplace : ∀ k y, fieldsPlace C fs.toList k = some y -> ps[k]? = some y := by
      intro k y hk
      unfold fieldsPlace at hk
      cases hn : nth fs.toList k with
      | none => rw [hn] at hk; cases hk
      | some f =>
       rw [hn] at hk; simp only at hk
       cases hj : C.ty.get f.type with
       | none => rw [hj] at hk; cases hk
       | some j =>
        rw [hj] at hk; simp only [Option.some.injEq] at hk; subst hk
        obtain ⟨j', g1, g2, _⟩ := (hC.ty f.type j hj).info
        rw [<- g2]; rw [Zm] at hn; exact e2 k f j' hn g1
     obtain ⟨us, f1, f2, f3, f4⟩ := Z38 hplace l parts.toList hp z.cells cs zs hzs hzsc hf
     refine ⟨.agg ⟨us⟩, ?_, by simp only [VR]; exact ⟨us, rfl, f2, f3⟩⟩
     unfold Instr.build
     simp only [Sem.run_bind, hzv, Result.andThen_ok, hu, hzcells]
     have e3 : (fs.mapM (m := Sem) fun (f : Field) => do pure (f.offset, <- sizeOf f.type)).run P w = .ok ⟨ps⟩ w := by
      rw [Array.mapM_eq_mapM_toList]
      show Sem.run P ((List.mapM _ fs.toList) >>= (fun x => pure x.toArray)) w = _
      simp only [Sem.run_bind, Sem.run_pure] at e1 ⊢
      rw [e1]; rfl
     simp only [e3, Result.andThen_ok]
     have e4 : (fun (x : Nat) => (⟨ps⟩ : Array (Nat × Nat))[x]?) = fun (x : Nat) => ps[x]? := by funext x; simp
     simp only [e4, f1, Sem.run_pure]
   case array n e =>
    cases hq : C.ty.get e with
    | none => simp [hq] at h
    | some q =>
     simp only [hq] at h
     cases hf : fillA (fun i => some (i * q.size, q.size)) z.cells l with
     | none => simp [hf] at h
     | some cs =>
      simp only [hf, Option.some.injEq] at h; subst h
      obtain ⟨us, f1, f2, f3, f4⟩ := Z38 (fun _ _ h => h) l parts.toList hp z.cells cs zs hzs hzsc hf
      refine ⟨.agg ⟨us⟩, ?_, by simp only [VR]; exact ⟨us, rfl, f2, f3⟩⟩
      unfold Instr.build
      simp only [Sem.run_bind, hzv, Result.andThen_ok, hu, hzcells, Zd hC hq, f1, Sem.run_pure]
def repeatV (z : List Value) : Nat -> List Value
 | 0 => []
 | n + 1 => z ++ repeatV z n
theorem Jx {zc : List AV} {zs : List Value} (h : VRs ρ zc zs) (hs : ∀ c ∈ zc, c.sc = true) : ∀ n, VRs ρ (repeatN zc n) (repeatV zs n) /\ (∀ c ∈ repeatN zc n, c.sc = true)
 | 0 => ⟨by simp [repeatN, repeatV, VRs], by simp [repeatN]⟩
 | n + 1 => by
  obtain ⟨h1, h2⟩ := Jx h hs n
  refine ⟨VRs.append _ _ _ _ h h1, ?_⟩
  intro c hc
  rcases List.mem_append.1 hc with hc | hc
  ·exact hs c hc
  ·exact h2 c hc
theorem Zy (zs : List Value) : ∀ n, (repeatV zs n).length = n * zs.length
 | 0 => by simp [repeatV]
 | n + 1 => by simp [repeatV, Zy zs n, Nat.succ_mul]; omega
theorem Z1c (zs : List Value) (hz : 0 < zs.length) : ∀ n, (List.range (n * zs.length)).map (fun i => zs.toArray[i % zs.toArray.size]!) = repeatV zs n
 | 0 => by simp [repeatV]
 | n + 1 => by
  have : (n + 1) * zs.length = zs.length + n * zs.length := by rw [Nat.succ_mul]; omega
  rw [this, List.range_add, List.map_append, repeatV, List.map_map, <- Z1c zs hz n]
  congr 1
  ·apply List.ext_getElem?
   intro j
   by_cases hj : j < zs.length
   ·simp [hj, Nat.mod_eq_of_lt hj]
   ·simp [hj]
  ·apply List.map_congr_left
   intro j _
   simp [Nat.add_mod_left]
theorem Z2h (zs : List Value) (n : Nat) : madeCells ⟨zs⟩ (n * zs.length) = ⟨repeatV zs n⟩ := by
 by_cases hz : zs.length = 0
 ·apply Array.ext'
  have h0 : zs = [] := List.eq_nil_of_length_eq_zero hz
  subst h0
  have : repeatV [] n = [] := List.eq_nil_of_length_eq_zero (by rw [Zy]; simp)
  simp [madeCells, this]
 ·apply Array.ext'
  rw [<- Z1c zs (by omega) n]
  simp [madeCells, Array.toList_range]
theorem Z1d {q : TI} {z : AV} (hz : q.zero = some z) (h : madeOf q = true) : z.cells.length = q.size := by
 unfold madeOf at h; rw [hz] at h; exact Nat.eq_of_beq_eq_true h
theorem VRs.take {ρ : Rho} : ∀ (k : Nat) (l : List AV) (vs : List Value), VRs ρ l vs -> VRs ρ (l.take k) (vs.take k) /\ VRs ρ (l.drop k) (vs.drop k)
 | 0, l, vs, h => ⟨by simp [VRs], by simpa using h⟩
 | k + 1, [], vs, h => by simp only [VRs] at h; subst h; simp [VRs]
 | k + 1, a :: r, vs, h => by
  simp only [VRs] at h
  obtain ⟨v, t, rfl, h1, h2⟩ := h
  obtain ⟨g1, g2⟩ := VRs.take k r t h2
  refine ⟨?_, by simpa using g2⟩
  simp only [List.take_succ_cons, VRs]; exact ⟨v, _, rfl, h1, g1⟩
theorem Z7p {ρ : Rho} {z : Nat} {cs : List AV} {us : List Value} (h : VRs ρ cs us) (hs : ∀ c ∈ cs, c.sc = true) : ∃ v, VR ρ (rowA z cs) v /\ (rowA z cs).okc = true /\ vcells v = us := by
 have hagg : ∃ v, VR ρ (.agg (shuts cs)) v /\ (AV.agg (shuts cs)).okc = true /\ vcells v = us := ⟨.agg ⟨us⟩, by simp only [VR]; exact ⟨us, rfl, VRs.shut _ _ h, Z30 _ hs⟩, rfl, rfl⟩
 unfold rowA
 split
 ·rename_i c
  simp only [VRs] at h
  obtain ⟨v, t, rfl, h1, rfl⟩ := h
  have hc := hs c List.mem_cons_self
  exact ⟨v, VR.shut _ _ h1, Z5v (Z7a _ hc), Z3r h1 hc⟩
 ·exact hagg
theorem Jy {ρ : Rho} {z : Nat} : ∀ (n : Nat) {cs : List AV} {us : List Value}, VRs ρ cs us -> (∀ c ∈ cs, c.sc = true) -> us.length = n * z ->
  ∃ vs, VRs ρ (rowsA z n cs) vs /\ (∀ a ∈ rowsA z n cs, a.okc = true) /\ (∀ v ∈ vs, (vcells v).length = z) /\ vs.flatMap vcells = us /\ (rowsA z n cs).length = n
 | 0, cs, us, h, hs, hl => by
  have : us = [] := List.eq_nil_of_length_eq_zero (by simpa using hl)
  subst this
  exact ⟨[], by simp [rowsA, VRs], by simp [rowsA], by simp, by simp, rfl⟩
 | n + 1, cs, us, h, hs, hl => by
  obtain ⟨g1, g2⟩ := VRs.take z cs us h
  obtain ⟨v, k1, k2, k3⟩ := Z7p (z := z) g1 fun c hc => hs c (List.mem_of_mem_take hc)
  rw [Nat.succ_mul] at hl
  obtain ⟨vs, j1, j2, j3, j4, j5⟩ := Jy n (z := z) g2 (fun c hc => hs c (List.mem_of_mem_drop hc)) (by rw [List.length_drop]; omega)
  refine ⟨v :: vs, ?_, ?_, ?_, ?_, by simp [rowsA, j5]⟩
  ·simp only [rowsA, VRs]; exact ⟨v, vs, rfl, k1, j1⟩
  ·intro a ha
   simp only [rowsA, List.mem_cons] at ha
   rcases ha with rfl | ha
   ·exact k2
   ·exact j2 a ha
  ·intro u hu
   rcases List.mem_cons.1 hu with rfl | hu
   ·rw [k3, List.length_take]; omega
   ·exact j3 u hu
  ·rw [List.flatMap_cons, k3, j4, List.take_append_drop]
theorem Z9w {ρ : Rho} {s : St} {w : World} (hr : HR ρ s.H w) {l : List AV} {vs : List Value} {z : Nat} (h1 : VRs ρ l vs) (h2 : ∀ a ∈ l, a.okc = true) (h3 : ∀ v ∈ vs, (vcells v).length = z) (extra : List Value) (e : TypeId) (fr : Nat × Nat) :
  Stp ρ s w (ρ.ice w.heap.size 0 (vs.flatMap vcells).length ⟨vs.flatMap vcells ++ extra⟩) s (w.alloc (.cells ⟨vs.flatMap vcells ++ extra⟩ e fr)) /\
  HR (ρ.ice w.heap.size 0 (vs.flatMap vcells).length ⟨vs.flatMap vcells ++ extra⟩) s.H (w.alloc (.cells ⟨vs.flatMap vcells ++ extra⟩ e fr)) /\ FR (ρ.ice w.heap.size 0 (vs.flatMap vcells).length ⟨vs.flatMap vcells ++ extra⟩) w.heap.size 0 z l := by
 obtain ⟨g1, g2⟩ := Z3s hr (vs.flatMap vcells).length ⟨vs.flatMap vcells ++ extra⟩ e fr
 refine ⟨g1, g2, FR.intro (VRs.mono g1.ext _ _ h1) h2 h3 fun k x hk => ?_⟩
 have hlt := (List.getElem?_eq_some_iff.1 hk).1
 rw [Nat.zero_add, Rho.ice_in ρ (Nat.zero_le _) hlt]
 simpa [List.getElem?_append_left hlt] using hk
theorem Z25 (hC : CfgOk P C) (hr : HR ρ s.H w) (hfr : Fr ρ s) {fz : Bool} {t : TypeId} {n : Nat} {l : List (Nat × AV)} {parts : Array (Nat × Value)} (hp : PartsR ρ l parts.toList) :
  ValSim P ρ s w (buildSliceA C fz t n l) (Instr.buildSlice t n parts) := by
 intro Q hQ
 unfold buildSliceA at hQ
 cases hd : C.desc t with
 | none => rw [hd] at hQ; exact hQ.elim
 | some d =>
  have hu := fun w => Yn hC hd w
  rw [hd] at hQ
  cases d <;> (try simp only at hQ) <;> try exact hQ.elim
  rename_i e
  cases hq : C.ty.get e with
  | none => rw [hq] at hQ; exact hQ.elim
  | some q =>
   rw [hq] at hQ; simp only at hQ
   cases hz : q.zero with
   | none => rw [hz] at hQ; exact hQ.elim
   | some z =>
    cases hb : Nat.ble (n * q.size) 16777216 with
    | false => rw [hz, hb] at hQ; exact hQ.elim
    | true =>
     cases hm : madeOf q with
     | false => rw [hz, hb, hm] at hQ; exact hQ.elim
     | true =>
      rw [hz, hb, hm] at hQ; simp only at hQ
      cases hf : fillA (fun i => some (i * q.size, q.size)) (repeatN z.cells n) l with
      | none => rw [hf] at hQ; exact hQ.elim
      | some cs =>
       rw [hf] at hQ; simp only at hQ
       obtain ⟨zv, hzv, hzc⟩ := Yo hC hq hz w
       obtain ⟨hzr, hzo⟩ := Yc ρ zv z hzc
       obtain ⟨zs, hzcells, hzs, hzsc, _⟩ := Xg hzo hzr
       have hzl : zs.length = q.size := by rw [<- VRs.length _ _ hzs]; exact Z1d hz hm
       obtain ⟨g1, g2⟩ := Jx hzs hzsc n
       obtain ⟨us, f1, f2, f3, f4⟩ := Z38 (fun _ _ h => h) l parts.toList hp _ cs _ g1 g2 hf
       have hble := Nat.le_of_ble_eq_true hb
       have hlen : us.length = n * q.size := by
        rw [f4, Zy, hzl]
       have hrun : (Instr.buildSlice t n parts).run P w = .ok (.slice (some ⟨w.heap.size, 0, none⟩) n n) (w.alloc (.cells ⟨us⟩ e)) := by
        unfold Instr.buildSlice
        simp only [Sem.run_bind, hu, Result.andThen_ok, Zd hC hq]
        rw [if_neg (by omega)]
        (try simp only [Sem.run_bind, Sem.run_pure, Result.andThen_ok])
        have hmade := Z2h zs n
        rw [hzl] at hmade
        unfold madeCells at hmade
        by_cases h0 : n * q.size = 0
        ·have hnil : repeatV zs n = [] := List.eq_nil_of_length_eq_zero (by rw [Zy, hzl]; exact h0)
         rw [hnil] at f1
         have e0 : (Array.range 0).map (fun x => (#[] : Array Value)[x % (#[] : Array Value).size]!) = (⟨[]⟩ : Array Value) := by apply Array.ext'; simp
         simp only [h0, if_true, Sem.run_pure, Result.andThen_ok, e0, f1, Sem.run_bind]
         simp [newRow]
        ·simp only [if_neg h0, Sem.run_bind, hzv, Result.andThen_ok, Sem.run_pure, hzcells, hmade, f1]
         simp [newRow]
       cases fz with
       | false =>
        simp only at hQ
        obtain ⟨k1, k2⟩ := Z0d hr hfr f2 f3 e q.size
        refine ⟨_, _, _, _, .slice (some ⟨w.heap.size, 0, none⟩) n n, hQ, hrun, k1, k2, ?_⟩
        simp only [VR]
        refine ⟨_, 0, n, Rho.upd_same .., _, rfl, fun _ => rfl, fun _ => rfl, fun _ => rfl, Nat.le_refl _, Nat.le_refl _, ?_⟩
        intro _
        simp only [hlen]; omega
       | true =>
        obtain ⟨vs, j1, j2, j3, j4, j5⟩ := Jy n f2 f3 hlen
        obtain ⟨i1, i2, i3⟩ := Z9w hr j1 j2 j3 [] e (0, 0)
        rw [j4, List.append_nil] at i1 i2 i3
        cases n with
        | zero =>
         simp only at hQ
         exact ⟨_, _, _, _, _, hQ, hrun, i1, i2, by simp only [VR]; exact ⟨_, rfl⟩⟩
        | succ n =>
         simp only at hQ
         cases hq1 : Nat.ble 1 q.size with
         | false => rw [hq1] at hQ; exact hQ.elim
         | true =>
          rw [hq1] at hQ
          refine ⟨_, _, _, _, _, hQ, hrun, i1, i2, ?_⟩
          simp only [VR]
          exact ⟨_, n + 1, by rw [j5], by rw [j5]; exact Nat.le_refl _, fun _ => ⟨_, 0, q.size, rfl, Nat.le_of_ble_eq_true hq1, i3⟩⟩
theorem Z39 (hC : CfgOk P C) (hr : HR ρ s.H w) (hfr : Fr ρ s) {t : TypeId} {l c : AV} {cl cc : Value} (hl : VR ρ l cl) (hc : VR ρ c cc) :
  ValSim P ρ s w (makeSliceA C t l c) (Instr.makeSlice t cl cc) := by
 intro Q hQ
 unfold makeSliceA at hQ
 cases hd : C.desc t with
 | none => rw [hd] at hQ; exact hQ.elim
 | some d =>
  have hu := fun w => Yn hC hd w
  rw [hd] at hQ
  cases d <;> (try simp only at hQ) <;> try exact hQ.elim
  rename_i e
  have hli : ∃ n, l = .int .i64 n := by
   cases l <;> (try exact hQ.elim)
   rename_i k n; cases k <;> (try exact hQ.elim); exact ⟨n, rfl⟩
  obtain ⟨ln, rfl⟩ := hli
  have hci : ∃ n, c = .int .i64 n := by
   cases c <;> (try exact hQ.elim)
   rename_i k n; cases k <;> (try exact hQ.elim); exact ⟨n, rfl⟩
  obtain ⟨cn, rfl⟩ := hci
  simp only [VR] at hl hc; subst hl; subst hc
  simp only at hQ
  cases hq : C.ty.get e with
  | none => rw [hq] at hQ; exact hQ.elim
  | some q =>
   rw [hq] at hQ; simp only at hQ
   cases hz : q.zero with
   | none => rw [hz] at hQ; exact hQ.elim
   | some z =>
    rw [hz] at hQ
    cases h1 : decide (0 <= ln) with
    | false => rw [h1] at hQ; exact hQ.elim
    | true =>
     cases h2 : decide (ln <= cn) with
     | false => rw [h1, h2] at hQ; exact hQ.elim
     | true =>
      cases h3 : Nat.ble (cn.toNat * q.bytes) 281474976710656 with
      | false => rw [h1, h2, h3] at hQ; exact hQ.elim
      | true =>
       cases h4 : Nat.ble cn.toNat 9223372036854775807 with
       | false => rw [h1, h2, h3, h4] at hQ; exact hQ.elim
       | true =>
        cases hm : madeOf q with
        | false => rw [h1, h2, h3, h4] at hQ; simp only [hm] at hQ; exact hQ.elim
        | true =>
         rw [h1, h2, h3, h4] at hQ; simp only [hm] at hQ
         simp only [decide_eq_true_eq] at h1 h2
         have h3' := Nat.le_of_ble_eq_true h3
         have h4' := Nat.le_of_ble_eq_true h4
         obtain ⟨j, hj, hjs, hjb, hjz⟩ := (hC.ty e q hq).info
         obtain ⟨zv, hzv, hzc⟩ := hjz z hz
         obtain ⟨hzr, hzo⟩ := Yc ρ zv z hzc
         obtain ⟨zs, hzcells, hzs, hzsc, _⟩ := Xg hzo hzr
         have hzl : zs.length = q.size := by rw [<- VRs.length _ _ hzs]; exact Z1d hz hm
         obtain ⟨g1, g2⟩ := Jx hzs hzsc cn.toNat
         obtain ⟨k1, k2⟩ := Z0d hr hfr g1 g2 e q.size
         have hut : P.underlying t = some (.slice e) := by
          obtain ⟨i, hi, hid⟩ := Xu hC hd
          rw [(hC.ty t i hi).under, hid]
         have hby : (j.bytes : Int) * cn <= 281474976710656 := by
          rw [hjb]
          have : (cn.toNat : Int) = cn := by omega
          have h5 : ((cn.toNat * q.bytes : Nat) : Int) <= 281474976710656 := by omega
          rw [Int.natCast_mul, this, Int.mul_comm] at h5
          exact h5
         have hrun := run_make (P := P) w t e j zv hut hj hzv .i64 .i64 ln cn h1 h2 hby (by omega)
         have hmade := Z2h zs cn.toNat
         rw [hzl] at hmade
         refine ⟨_, _, _, _, .slice (some ⟨w.heap.size, 0, none⟩) ln.toNat cn.toNat, hQ, ?_, k1, k2, ?_⟩
         ·rw [hrun, hzcells, hjs, hmade]
         ·simp only [VR]
          refine ⟨_, 0, cn.toNat, Rho.upd_same .., _, rfl, fun _ => rfl, fun _ => rfl, fun _ => rfl, by omega, Nat.le_refl _, ?_⟩
          intro _
          simp only [Zy, hzl]; omega
end
end Go.Am
