/- The runner where all is known: a function that gives the state of a run, and its laws. -/
import Derived.Test.YtpopapmmceopmaaSX
import Derived.Deep.Upon
import Derived.IntWalk
namespace Go.Proofs.Ytpopapmmceopmaa.X
open Go Go.RowKit
set_option linter.unusedVariables false
set_option linter.unusedSimpArgs false
noncomputable section

def oO {α β : Type} (o : Option α) (f : α → Option β) : Option β := Option.rec (motive := fun _ => Option β) none f o
def gO {β : Type} (b : Bool) (f : Unit → Option β) : Option β := Bool.rec (motive := fun _ => Option β) none (f ()) b

mutual
/-- The numbers of blocks in a value, in front of others. -/
def SV.idsOf : SV → List Nat → List Nat
  | .ptr id _, l => id :: l
  | .px id _, l => id :: l
  | .sl id _ _ _, l => id :: l
  | .row id _ _ _, l => id :: l
  | .emp id, l => id :: l
  | .agg x, l => idsOfL x l
  | .tup x, l => idsOfL x l
  | .clo _ x, l => idsOfL x l
  | .ifc _ x, l => SV.idsOf x l
  | _, l => l
def idsOfL : List SV → List Nat → List Nat
  | [], l => l
  | x :: r, l => SV.idsOf x (idsOfL r l)
end
def memN (x : Nat) : List Nat → Bool
  | [] => false
  | y :: r => sel (Nat.beq x y) (fun _ => true) fun _ => memN x r
/-- The blocks that are come to from these, by so many steps. -/
def reach (h : List (Nat × Blk)) : Nat → List Nat → List Nat → List Nat
  | 0, _, seen => seen
  | _ + 1, [], seen => seen
  | f + 1, id :: l, seen => sel (memN id seen) (fun _ => reach h f l seen) fun _ => match getB h id with
    | some b => match b.m with
      | .dd => reach h f l (id :: seen)
      | _ => reach h f (idsOfL b.cells l) (id :: seen)
    | none => reach h f l seen
def pickB (R : List Nat) : List (Nat × Blk) → List (Nat × Blk)
  | [] => []
  | (i, b) :: r => sel (memN i R) (fun _ => (i, b) :: pickB R r) fun _ => pickB R r
/-- Whether the blocks lead to none but these. -/
def closedB (d : List Nat) : List (Nat × Blk) → Bool
  | [] => true
  | (_, b) :: r => (match b.m with | .dd => true | _ => idsL d b.cells) && closedB d r
def vEqb : Value → Value → Bool
  | .slice none a b, .slice none a' b' => Nat.beq a a' && Nat.beq b b'
  | .string a, .string b => a.data.toList == b.data.toList
  | _, _ => false
mutual
def SV.eqb : SV → SV → Bool
  | .lit k m, .lit k' m' => kEq k k' && (m == m')
  | .bl a, .bl b => a == b
  | .ptr a b, .ptr a' b' => Nat.beq a a' && Nat.beq b b'
  | .sl a b c d, .sl a' b' c' d' => Nat.beq a a' && Nat.beq b b' && Nat.beq c c' && Nat.beq d d'
  | .row a b c d, .row a' b' c' d' => Nat.beq a a' && Nat.beq b b' && Nat.beq c c' && Nat.beq d d'
  | .v a, .v b => vEqb a b
  | .agg l, .agg l' => eqbL l l'
  | _, _ => false
def eqbL : List SV → List SV → Bool
  | [], [] => true
  | x :: r, y :: t => SV.eqb x y && eqbL r t
  | _, _ => false
end
/-- Blocks that are as they were. -/
def sameB (h : List (Nat × Blk)) (i : Nat) (b : Blk) : Bool := match getB h i with
  | some c => match c.m, b.m with
    | .ex, .ex => Nat.beq c.ty b.ty && eqbL c.cells b.cells
    | .op x, .op y => Nat.beq c.ty b.ty && Nat.beq x y && eqbL c.cells b.cells
    | .dd, .dd => true
    | _, _ => false
  | none => false
def dropSame (h : List (Nat × Blk)) : List (Nat × Blk) → List (Nat × Blk)
  | [] => []
  | (i, b) :: r => sel (sameB h i b) (fun _ => dropSame h r) fun _ => (i, b) :: dropSame h r
/-- A floor for new numbers. -/
def floorB (n : Nat) (R : List Nat) (h : List (Nat × Blk)) : List (Nat × Blk) := match n with
  | 0 => h
  | m + 1 => sel (memN m R) (fun _ => h) fun _ => (m, ⟨0, [], .dd⟩) :: h
def nodupL : List Nat → Bool
  | [] => true
  | x :: r => sel (memN x r) (fun _ => false) fun _ => nodupL r
def subL (d : List Nat) : List Nat → Bool
  | [] => true
  | x :: r => sel (memN x d) (fun _ => subL d r) fun _ => false
def newL (R : List Nat) (n : Nat) : List Nat → Bool
  | [] => true
  | x :: r => sel (memN x R || Nat.ble n x) (fun _ => newL R n r) fun _ => false

abbrev RC := FuncId → List SV → List (Nat × Blk) → Option (SV × List (Nat × Blk))
abbrev RR := Option (St × List Nat × List Nat)

/-- A call that is walked through: what it is given leads to R; what is left of the callee's blocks are those of R and those that its result and R lead to. -/
def r_inl (cl : RC) (draw : Bool) (o : Oper) (s : St) (f : FuncId) (l : List SV) : RR :=
  oO (some (reach s.blks 1000000 (idsOfL l []) [])) fun R => oO (some (pickB R s.blks)) fun hR =>
  gO (idsL R l && closedB R hR) fun _ => oO (cl f l (floorB (nextB s.blks) R hR)) fun p =>
  oO (some (reach p.2 1000000 (SV.idsOf p.1 R) [])) fun D => oO (some (pickB D p.2)) fun h' => oO (some (h'.map (·.1))) fun d =>
  gO (SV.ids d p.1 && closedB d h' && subL d R && nodupL d && newL R (nextB s.blks) d) fun _ =>
  oO (some (sel draw (fun _ => dropSame s.blks h') fun _ => h')) fun W => oO (some (W.map (·.1))) fun u =>
  some (({ s with blks := setBs s.blks W } : St).put o p.1, R ++ u, u)

/-- The cells of a slice. -/
def cellsAt (s : St) (es : Nat) (n : Nat) : SV → Option (List Nat × List SV)
  | .sl id off len _ => gO (Nat.ble n len) fun _ => oO (getL s.blks id) fun b => oO (subC b.cells off (n * es)) fun l => some ([id], l)
  | .row id eo sz len => gO (Nat.ble n len) fun _ => oO (getL s.blks id) fun b => oO (subC b.cells (eo * sz) (n * es)) fun l => some ([id], l)
  | .emp _ => gO (Nat.beq n 0) fun _ => some ([], [])
  | .v (.slice none _ _) => gO (Nat.beq n 0) fun _ => some ([], [])
  | _ => none
def lenS : SV → Option Nat
  | .sl _ _ len _ => some len
  | .row _ _ _ len => some len
  | .emp _ => some 0
  | .v (.slice none n _) => some n
  | _ => none

/-- What an append comes to. -/
def r_append (tt : TT) (o : Oper) (s : St) (ts tx : TypeId) (a x : SV) : RR :=
  oO (tinf tt ts) fun i => oO (tinf tt tx) fun ix => match i.kind, ix.kind with
    | .slice e, .slice e' => oO (tinf tt e) fun et => gO (Nat.beq e e' && Nat.ble 1 et.size && Nat.ble et.bytes 1000000 && Nat.ble 1 et.bytes && Nat.beq et.zero.length et.size) fun _ =>
      oO (lenS x) fun n => oO (cellsAt s et.size n x) fun p => gO (p.2.all plainC && Nat.ble n 1000000) fun _ =>
      oO (some (nextB s.blks)) fun nid => match a with
      | .v (.slice none 0 0) => sel (Nat.beq n 0) (fun _ => some (s.put o a, p.1, [])) fun _ =>
          some ((s.setB nid ⟨e, p.2, .op et.size⟩).put o (.row nid 0 et.size n), nid :: p.1, [nid])
      | .emp id => gO (Nat.beq n 0) fun _ => some (s.put o a, p.1, [])
      | .row id eo sz len => sel (Nat.beq n 0) (fun _ => oO (getL s.blks id) fun b => match b.m with
            | .op sz' => gO (Nat.beq sz' sz && Nat.ble 1 sz && Nat.ble ((eo + len) * sz) b.cells.length) fun _ => some (s.put o a, id :: p.1, [])
            | _ => none) fun _ =>
          gO (Nat.beq eo 0 && Nat.beq sz et.size && Nat.ble len 1000000) fun _ => oO (getL s.blks id) fun b => match b.m with
          | .op sz' => gO (Nat.beq sz' sz && Nat.beq b.ty e) fun _ => oO (subC b.cells 0 (len * sz)) fun lo => gO (lo.all plainC) fun _ =>
            some (((s.setB id ⟨e, [], .dd⟩).setB nid ⟨e, lo ++ p.2, .op sz⟩).put o (.row nid 0 sz (len + n)), id :: nid :: p.1, [id, nid])
          | _ => none
      | .sl id off len cap => sel (Nat.ble (len + n) cap)
          (fun _ => sel (Nat.beq n 0) (fun _ => some (s.put o a, p.1, [])) fun _ => oO (getL s.blks id) fun b => gO (Nat.ble (off + len * et.size + n * et.size) b.cells.length) fun _ =>
            some ((s.setB id ⟨b.ty, splice b.cells (off + len * et.size) p.2, b.m⟩).put o (.sl id off (len + n) cap), id :: p.1, [id]))
          (fun _ => gO (Nat.ble len 1000000) fun _ => oO (getL s.blks id) fun b => oO (subC b.cells off (len * et.size)) fun lo => gO (lo.all plainC) fun _ =>
            some ((s.setB nid ⟨e, lo ++ p.2, .op et.size⟩).put o (.row nid 0 et.size (len + n)), id :: nid :: p.1, [nid]))
      | _ => none
    | _, _ => none

def litI (op : BinOp) (ka : IntKind) (a : Int) (kb : IntKind) (b : Int) : Option SV :=
  match op with
  | .shl => gO (decide (0 ≤ b)) fun _ => some (.lit ka (ka.wrap (a * 2 ^ (min b.toNat ka.bits))))
  | .shr => gO (decide (0 ≤ b)) fun _ => some (.lit ka (a.fdiv (2 ^ (min b.toNat ka.bits))))
  | op => gO (kEq ka kb) fun _ => match op with
    | .add => some (.lit ka (ka.wrap (a + b)))
    | .sub => some (.lit ka (ka.wrap (a - b)))
    | .mul => some (.lit ka (ka.wrap (a * b)))
    | .quo => gO (!(b == 0)) fun _ => some (.lit ka (ka.wrap (a.tdiv b)))
    | .rem => gO (!(b == 0)) fun _ => some (.lit ka (a.tmod b))
    | .and => some (.lit ka (bitsI .and ka a b))
    | .or => some (.lit ka (bitsI .or ka a b))
    | .xor => some (.lit ka (bitsI .xor ka a b))
    | .andNot => some (.lit ka (bitsI .andNot ka a b))
    | .eql => some (.bl (a == b))
    | .neq => some (.bl (!(a == b)))
    | .lss => some (.bl (decide (a < b)))
    | .leq => some (.bl (decide (a ≤ b)))
    | .gtr => some (.bl (decide (b < a)))
    | .geq => some (.bl (decide (b ≤ a)))
    | _ => none
def rBin (tt : TT) (t : TypeId) (op : BinOp) (x y : SV) : Option SV :=
  match x, y with
  | .lit ka a, .lit kb b => litI op ka a kb b
  | .v (.string a), .v (.string b) => match op with
    | .eql => some (.bl (a.data.toList == b.data.toList))
    | .neq => some (.bl (!(a.data.toList == b.data.toList)))
    | .add => gO (Nat.ble (a.size + b.size) 9223372036854775807) fun _ => some (.v (.string (a ++ b)))
    | _ => none
  | .bl a, .bl b => oO (tinf tt t) fun i => match i.kind with
    | .bool => match op with
      | .eql => some (.bl (a == b))
      | .neq => some (.bl (!(a == b)))
      | _ => none
    | _ => none
  | .agg xs, .agg ys => oO (tinf tt t) fun i => gO (isAg i && i.eqok) fun _ => oO (eqAt (std .cl) tt 6 i xs ys) fun e => match op with
    | .eql => some (.bl e)
    | .neq => some (.bl (!e))
    | _ => none
  | _, _ => none

def repC (z : List Value) : Nat → List SV
  | 0 => []
  | n + 1 => z.map ofC1 ++ repC z n
/-- A bound that is known. -/
def bnd (s : St) : Option Operand → Option (Option Nat)
  | none => some none
  | some x => match evO s x with
    | some (.lit _ m) => gO (decide (0 ≤ m)) fun _ => some (some m.toNat)
    | _ => none
def r_slice (tt : TT) (o : Oper) (s : St) (t : TypeId) (x : Operand) (lo hi mx : Option Operand) : RR :=
  match mx with
  | some _ => none
  | none => oO (evO s x) fun a => oO (bnd s lo) fun lo => oO (bnd s hi) fun hi => oO (tinf tt t) fun i => match i.kind with
    | .str => match a with
      | .v (.string b) => oO (some (hi.getD b.size)) fun h => oO (some (lo.getD 0)) fun l =>
        gO (Nat.ble h b.size && Nat.ble l h) fun _ => some (s.put o (.v (.string (b.extract l h))), [], [])
      | _ => none
    | .slice e => oO (tinf tt e) fun et => match a with
      | .sl id off len cap => oO (some (hi.getD len)) fun h => oO (some (lo.getD 0)) fun l =>
        gO (Nat.ble h cap && Nat.ble l h) fun _ => some (s.put o (.sl id (sel (Nat.beq cap l) (fun _ => off) fun _ => off + l * et.size) (h - l) (cap - l)), [], [])
      | .row id eo sz len => oO (some (hi.getD len)) fun h => oO (some (lo.getD 0)) fun l => oO (getL s.blks id) fun b => match b.m with
          | .op sz' => gO (Nat.beq sz' sz && Nat.beq sz et.size && Nat.ble 1 sz && Nat.ble h len && Nat.ble l h && Nat.ble ((eo + len) * sz) b.cells.length) fun _ =>
            sel (Nat.ble (l + 1) len || Nat.beq l 0) (fun _ => some (s.put o (.row id (eo + l) sz (h - l)), [id], [])) fun _ =>
              some ((s.setB (nextB s.blks) ⟨0, [], .dd⟩).put o (.emp (nextB s.blks)), [id, nextB s.blks], [nextB s.blks])
          | _ => none
      | .emp id => gO (Nat.beq (hi.getD 0) 0 && Nat.beq (lo.getD 0) 0) fun _ => some (s.put o (.emp id), [], [])
      | .v (.slice none len cap) => oO (some (hi.getD len)) fun h => oO (some (lo.getD 0)) fun l =>
        gO (Nat.ble h cap && Nat.ble l h) fun _ => some (s.put o (.v (.slice none (h - l) (cap - l))), [], [])
      | _ => none
    | .ptr arr => oO (tinf tt arr) fun ia => match ia.kind with
      | .arr n e => oO (tinf tt e) fun et => match a with
        | .ptr id off => oO (some (hi.getD n)) fun h => oO (some (lo.getD 0)) fun l =>
          gO (Nat.ble h n && Nat.ble l h) fun _ => some (s.put o (.sl id (sel (Nat.beq n l) (fun _ => off) fun _ => off + l * et.size) (h - l) (n - l)), [], [])
        | _ => none
      | _ => none
    | _ => none
def r_buildSlice (tt : TT) (o : Oper) (s : St) (t : TypeId) (len : Nat) (ps : Array (Nat × Operand)) : RR :=
  oO (tinf tt t) fun i => match i.kind with
    | .slice e => oO (tinf tt e) fun et => gO (Nat.ble (len * et.size) 16777216 && Nat.ble 1 et.size && Nat.beq et.zero.length et.size) fun _ => oO (evP s ps.toList) fun l =>
      oO (fillS (fun i => some (i * et.size, et.size)) (repC et.zero len) l) fun cs =>
      some ((s.setB (nextB s.blks) ⟨e, cs, .ex⟩).put o (.sl (nextB s.blks) 0 len len), [nextB s.blks], [nextB s.blks])
    | _ => none
def r_makeSlice (tt : TT) (o : Oper) (s : St) (t : TypeId) (x y : Operand) : RR :=
  oO (tinf tt t) fun i => oO (evO s x) fun a => oO (evO s y) fun b => match i.kind, a, b with
    | .slice e, .lit _ l, .lit _ c => oO (tinf tt e) fun et => gO (decide (0 ≤ l) && decide (l ≤ c) && decide (c ≤ 1000000) && Nat.ble et.bytes 1000000 && Nat.ble 1 et.size && Nat.beq et.zero.length et.size) fun _ =>
      some ((s.setB (nextB s.blks) ⟨e, repC et.zero c.toNat, .ex⟩).put o (.sl (nextB s.blks) 0 l.toNat c.toNat), [nextB s.blks], [nextB s.blks])
    | _, _, _ => none
def r_index (tt : TT) (o : Oper) (s : St) (addr : Bool) (t : TypeId) (x ix : Operand) : RR :=
  oO (evO s x) fun a => oO (evO s ix) fun iv => oO (tinf tt t) fun i => match iv with
    | .lit _ m => match i.kind with
      | .arr len e => oO (tinf tt e) fun et => gO (decide (0 ≤ m) && decide (m < (len : Int))) fun _ => match addr, a with
        | true, .ptr id o' => some (s.put o (.ptr id (o' + m.toNat * et.size)), [], [])
        | false, a => oO (aggOf a) fun l => oO (partOf et l (m.toNat * et.size)) fun r => some (s.put o r, [], [])
        | _, _ => none
      | .slice e => oO (tinf tt e) fun et => match addr, a with
        | true, .sl id o' len _ => gO (decide (0 ≤ m) && decide (m < (len : Int))) fun _ => some (s.put o (.ptr id (o' + m.toNat * et.size)), [], [])
        | true, .row id eo sz len => gO (decide (0 ≤ m) && decide (m < (len : Int))) fun _ => some (s.put o (.ptr id (eo * sz + m.toNat * et.size)), [], [])
        | _, _ => none
      | .str => match addr, a with
        | false, .v (.string b) => gO (decide (0 ≤ m) && decide (m < (b.size : Int))) fun _ => some (s.put o (.lit .u8 ((b.get! m.toNat).toNat : Int)), [], [])
        | _, _ => none
      | _ => none
    | _ => none
def r_len (tt : TT) (o : Oper) (s : St) (x : Operand) (u : TypeId) : RR :=
  oO (evO s x) fun a => oO (tinf tt u) fun i => match i.kind, a with
    | .slice _, .v (.slice _ len _) => some (s.put o (.lit .i64 (len : Int)), [], [])
    | .slice _, a => oO (lenS a) fun n => some (s.put o (.lit .i64 (n : Int)), [], [])
    | .str, .v (.string b) => some (s.put o (.lit .i64 (b.size : Int)), [], [])
    | _, _ => none
def r_copy (tt : TT) (o : Oper) (s : St) (u : TypeId) (a b : SV) : RR :=
  oO (tinf tt u) fun i => match i.kind with
    | .slice e => oO (tinf tt e) fun et => oO (lenS a) fun la => oO (lenS b) fun lb => oO (some (sel (Nat.ble lb la) (fun _ => lb) fun _ => la)) fun n =>
      oO (cellsAt s et.size n b) fun p => gO (p.2.all plainC && Nat.ble 1 et.size) fun _ => sel (Nat.beq n 0) (fun _ => some (s.put o (.lit .i64 0), p.1, [])) fun _ => match a with
        | .sl id off _ _ => oO (getL s.blks id) fun bk => gO (Nat.ble (off + n * et.size) bk.cells.length) fun _ => some ((s.setB id ⟨bk.ty, splice bk.cells off p.2, bk.m⟩).put o (.lit .i64 (n : Int)), id :: p.1, [id])
        | .row id eo sz _ => oO (getL s.blks id) fun bk => gO (Nat.ble (eo * sz + n * et.size) bk.cells.length) fun _ => some ((s.setB id ⟨bk.ty, splice bk.cells (eo * sz) p.2, bk.m⟩).put o (.lit .i64 (n : Int)), id :: p.1, [id])
        | _ => none
    | _ => none
/-- So many zeros, appended to nothing. -/
def r_zeros (tt : TT) (o : Oper) (s : St) (ts : TypeId) (a x : SV) : RR :=
  oO (tinf tt ts) fun i => match i.kind, a, x with
    | .slice e, .v (.slice none 0 0), .lit _ m => oO (tinf tt e) fun et => gO (Nat.ble 1 et.size && Nat.ble et.bytes 1000000 && Nat.beq et.zero.length et.size && decide (0 ≤ m) && decide (m ≤ 1000000)) fun _ =>
      sel (Nat.beq m.toNat 0) (fun _ => some (s.put o a, [], [])) fun _ =>
        some ((s.setB (nextB s.blks) ⟨e, repC et.zero m.toNat, .op et.size⟩).put o (.row (nextB s.blks) 0 et.size m.toNat), [nextB s.blks], [nextB s.blks])
    | _, _, _ => none
def r_call (tt : TT) (cl : RC) (draw : Bool) (o : Oper) (s : St) (c : Call) : RR :=
  match c.callee with
    | .value (.func f) => oO (evL s c.args.toList) fun l => r_inl cl draw o s f l
    | .value (.tmp t) => oO (evO s (.tmp t)) fun g => oO (evL s c.args.toList) fun l => match g with
      | .clo (.func f) cs => r_inl cl draw o s f (l ++ cs)
      | _ => none
    | .builtin .len => match c.args.toList, c.argTypes.toList with
      | [x], u :: _ => r_len tt o s x u
      | _, _ => none
    | .builtin .cap => match c.args.toList, c.argTypes.toList with
      | [x], u :: _ => oO (evO s x) fun a => oO (tinf tt u) fun i => match i.kind, a with
        | .slice _, .sl _ _ _ cap => some (s.put o (.lit .i64 (cap : Int)), [], [])
        | .slice _, .v (.slice _ _ cap) => some (s.put o (.lit .i64 (cap : Int)), [], [])
        | _, _ => none
      | _, _ => none
    | .builtin .append => match c.args.toList, c.argTypes.toList with
      | [x, y], u :: u' :: _ => oO (evO s x) fun a => oO (evO s y) fun b => oO (tinf tt u') fun ix => match ix.kind with
        | .int _ => r_zeros tt o s u a b
        | _ => r_append tt o s u u' a b
      | _, _ => none
    | .builtin .max => match c.args.toList with
      | [x, y] => oO (evO s x) fun a => oO (evO s y) fun b => match a, b with
        | .lit ka m, .lit kb n => some (s.put o (.lit ka (sel (decide (n > m)) (fun _ => n) fun _ => m)), [], [])
        | _, _ => none
      | _ => none
    | .builtin .min => match c.args.toList with
      | [x, y] => oO (evO s x) fun a => oO (evO s y) fun b => match a, b with
        | .lit ka m, .lit kb n => some (s.put o (.lit ka (sel (decide (n < m)) (fun _ => n) fun _ => m)), [], [])
        | _, _ => none
      | _ => none
    | .builtin .copy => match c.args.toList, c.argTypes.toList with
      | [x, y], u :: _ => oO (evO s x) fun a => oO (evO s y) fun b => r_copy tt o s u a b
      | _, _ => none
    | _ => none

def r_move (o : Oper) (s : St) (x : Operand) : RR := oO (evO s x) fun a => some (s.put o a, [], [])
def r_pick (o : Oper) (s : St) (c a b : Operand) : RR := oO (evO s c) fun cv => oO (evO s a) fun av => oO (evO s b) fun bv => match cv with
  | .bl t => some (s.put o (sel t (fun _ => av) fun _ => bv), [], [])
  | _ => none
def r_new (o : Oper) (s : St) (id : Nat) (t : TypeId) (l : List SV) : RR := some ((s.setB id ⟨t, l, .ex⟩).put o (.ptr id 0), [id], [id])
def r_alloc (tt : TT) (o : Oper) (s : St) (t : TypeId) : RR := oO (tinf tt t) fun i => r_new o s (nextB s.blks) t (i.zero.map ofC1)
def r_box (o : Oper) (s : St) (t : TypeId) (x : Operand) : RR := oO (evO s x) fun a => oO (cellsOf a) fun l => r_new o s (nextB s.blks) t l
def r_build (tt : TT) (o : Oper) (s : St) (t : TypeId) (ps : Array (Nat × Operand)) : RR :=
  oO (tinf tt t) fun i => gO (known tt i) fun _ => oO (evP s ps.toList) fun l => oO (fillS (placeOf tt i) (i.zero.map ofC1) l) fun cs => some (s.put o (.agg cs), [], [])
def r_makeFunc (o : Oper) (s : St) (fn : Fn) (first captured : Array Operand) : RR := match first.toList with
  | [] => oO (evL s captured.toList) fun l => some (s.put o (.clo fn l), [], [])
  | _ => none
def r_load (tt : TT) (o : Oper) (s : St) (t : TypeId) (x : Operand) : RR := oO (evO s x) fun a => oO (tinf tt t) fun i => match a with
  | .ptr id off => oO (getL s.blks id) fun b => oO (partOf i b.cells off) fun r => some (s.put o r, [id], [])
  | _ => none
def r_store (tt : TT) (o : Oper) (s : St) (t : TypeId) (x y : Operand) : RR := oO (evO s x) fun a => oO (evO s y) fun c => oO (tinf tt t) fun i => oO (cellsOf c) fun l => gO (Nat.beq l.length i.size && l.all plainC) fun _ => match a with
  | .ptr id off => oO (getL s.blks id) fun b => gO (Nat.ble (off + i.size) b.cells.length) fun _ => some ((s.setB id ⟨b.ty, splice b.cells off l, b.m⟩).put o (.v undef), [id], [id])
  | _ => none
def r_nilCheck (o : Oper) (s : St) (x : Operand) : RR := oO (evO s x) fun a => match a with
  | .ptr id off => some (s.put o (.ptr id off), [], [])
  | .clo fn l => match fn with
    | .func f => some (s.put o (.clo (.func f) l), [], [])
    | _ => none
  | _ => none
def r_binOp (tt : TT) (o : Oper) (s : St) (op : BinOp) (t : TypeId) (x y : Operand) : RR := oO (evO s x) fun a => oO (evO s y) fun b => oO (rBin tt t op a b) fun r => some (s.put o r, [], [])
def r_unOp (o : Oper) (s : St) (op : UnOp) (x : Operand) : RR := oO (evO s x) fun a => match op, a with
  | .neg, .lit k n => some (s.put o (.lit k (k.wrap (0 - n))), [], [])
  | .not, .bl b => some (s.put o (.bl (!b)), [], [])
  | _, _ => none
def r_convert (tt : TT) (o : Oper) (s : St) (src dst : TypeId) (x : Operand) : RR := oO (evO s x) fun a => oO (tinf tt src) fun _ => oO (tinf tt dst) fun i => match i.kind, a with
  | .int kk, .lit _ n => some (s.put o (.lit kk (kk.wrap n)), [], [])
  | _, _ => none
def r_fieldAddr (tt : TT) (o : Oper) (s : St) (t : TypeId) (x : Operand) (f : Nat) : RR := oO (evO s x) fun a => oO (tinf tt t) fun i => oO (fieldOf tt i f) fun p => gO (Nat.ble 1 p.1.size) fun _ => match a with
  | .ptr id o' => some (s.put o (.ptr id (o' + p.2)), [], [])
  | _ => none
def r_field (tt : TT) (o : Oper) (s : St) (t : TypeId) (x : Operand) (f : Nat) : RR := oO (evO s x) fun a => oO (tinf tt t) fun i => oO (fieldOf tt i f) fun p => oO (aggOf a) fun l => oO (partOf p.1 l p.2) fun r => some (s.put o r, [], [])
def r_extract (o : Oper) (s : St) (x : Operand) (ix : Nat) : RR := oO (evO s x) fun a => match a with
  | .tup l => oO (nth l ix) fun r => some (s.put o r, [], [])
  | _ => none
def rOp (tt : TT) (cl : RC) (draw : Bool) (o : Oper) (s : St) : RR :=
  match o.op with
  | .move x => r_move o s x
  | .assign x => r_move o s x
  | .pick c a b => r_pick o s c a b
  | .alloc t => r_alloc tt o s t
  | .box t x => r_box o s t x
  | .build t ps => r_build tt o s t ps
  | .buildSlice t len ps => r_buildSlice tt o s t len ps
  | .makeSlice t x y => r_makeSlice tt o s t x y
  | .makeFunc fn first captured => r_makeFunc o s fn first captured
  | .load t x => r_load tt o s t x
  | .store t x y => r_store tt o s t x y
  | .nilCheck x => r_nilCheck o s x
  | .binOp op t x y _ => r_binOp tt o s op t x y
  | .unOp op _ x => r_unOp o s op x
  | .convert src dst x => r_convert tt o s src dst x
  | .fieldAddr t x f => r_fieldAddr tt o s t x f
  | .field t x f => r_field tt o s t x f
  | .indexAddr t x ix => r_index tt o s true t x ix
  | .index t x ix => r_index tt o s false t x ix
  | .slice t x lo hi mx => r_slice tt o s t x lo hi mx
  | .extract x ix => r_extract o s x ix
  | .call c => r_call tt cl draw o s c
  | _ => none

def rWant (s : St) (o : Oper) : Option Bool := match o.guard with
  | none => some true
  | some (t, want) => match s.tmps.get t with
    | some (.bl b) => some (b == want)
    | some (.v (.tuple _)) => some false
    | _ => none
def rGo (draw : Bool) (B : List Nat) (j : Nat) (T : List (Nat × List Nat × List Nat)) (f : List (Nat × List Nat × List Nat) → St → Option St) : RR → Option St
  | none => none
  | some (s', r, w) => match r with
    | [] => f T s'
    | _ => gO (!draw || goes ((nth B j).getD 0) r w T) fun _ => f ((j, r, w) :: T) s'
def rOps (tt : TT) (cl : RC) (B : List Nat) (draw : Bool) : List Oper → Nat → List (Nat × List Nat × List Nat) → St → Option St
  | [], _, _, s => some s
  | o :: l, j, T, s =>
    match rWant s o with
    | some true => rGo draw B j T (fun T' s' => rOps tt cl B draw l (j + 1) T' s') (rOp tt cl draw o s)
    | some false => rOps tt cl B draw l (j + 1) T (s.put o (.v undef))
    | none => none

def rLoop (f : St → Option (Ex × St)) : Nat → St → Option (Ex × St)
  | 0, _ => none
  | n + 1, s => match f s with
    | some (.normal, s') => rLoop f n s'
    | some (.exit id, s') => some (.exit id, s')
    | some (.ret, s') => some (.ret, s')
    | none => none
def rThen (f : St → Option (Ex × St)) : Option (Ex × St) → Option (Ex × St)
  | some (.normal, s') => f s'
  | r => r
def rBlock (id : Nat) : Option (Ex × St) → Option (Ex × St)
  | some (.exit i, s') => match Nat.beq i id with
    | true => some (.normal, s')
    | false => some (.exit i, s')
  | r => r
def rCond (x : Option SV) (f g : Unit → Option (Ex × St)) : Option (Ex × St) := match x with
  | some (.bl true) => f ()
  | some (.bl false) => g ()
  | _ => none
def rEnd : Option St → Option (Ex × St)
  | some s => some (.normal, s)
  | none => none
def rC (tt : TT) (cl : RC) (fuel : Nat) : SC → St → Option (Ex × St)
  | .skip, s => some (.normal, s)
  | .reg draw B ops, s => rEnd (rOps tt cl B draw ops 0 [] s)
  | .seq a b, s => rThen (fun s' => rC tt cl fuel (b ()) s') (rC tt cl fuel (a ()) s)
  | .cond c a b, s => rCond (evO s c) (fun _ => rC tt cl fuel (a ()) s) fun _ => rC tt cl fuel (b ()) s
  | .block id a, s => rBlock id (rC tt cl fuel (a ()) s)
  | .loop a, s => rLoop (fun s => rC tt cl fuel (a ()) s) fuel s
  | .exit id, s => some (.exit id, s)
  | .ret, s => some (.ret, s)

/-- A function: its code, its slots, its results. -/
structure FE where
  sc : Unit → SC
  nt : Nat
  res : List ResultVar
/-- The functions of a program, looked up. -/
abbrev FT := FuncId → Option Func
/-- A function's code, not checked. -/
def scQ : Code → SC
  | .skip => .skip
  | .label _ => .skip
  | .region _ ops draw => .reg draw (cond draw (masks [] ops.toList) []) (ops.toList.map (stripG ops.toList))
  | .seq a b => .seq (fun _ => scQ a) fun _ => scQ b
  | .cond c a b => .cond c (fun _ => scQ a) fun _ => scQ b
  | .block id a => .block id fun _ => scQ a
  | .loop a => .loop fun _ => scQ a
  | .exit id => .exit id
  | .ret => .ret
  | _ => .exit 0
def ctOf (ft : FT) (f : FuncId) : Option FE := match ft f with
  | some fn => some ⟨fun _ => scQ (bodyOf fn), fn.ntmps, fn.results.toList⟩
  | none => none
/-- Functions whose results are told by others: from values to a value. -/
abbrev GV := FuncId → Option (List SV → Option SV)
def rRes (tt : TT) (res : List ResultVar) : Option (Ex × St) → Option (SV × List (Nat × Blk))
  | some (.normal, s') => oO (sxRes tt s' res) fun r => some (resOf r, s'.blks)
  | some (.ret, s') => oO (sxRes tt s' res) fun r => some (resOf r, s'.blks)
  | _ => none
def rCall (tt : TT) (ct : FuncId → Option FE) (gv : GV) (fuel : Nat) : Nat → RC
  | 0, _, _, _ => none
  | n + 1, f, l, h => match gv f with
    | some F => oO (F l) fun x => some (x, h)
    | none => oO (ct f) fun e => gO (Nat.ble l.length e.nt) fun _ => rRes tt e.res (rC tt (rCall tt ct gv fuel n) fuel (e.sc ()) ⟨Br.ofA l e.nt, h⟩)

end

noncomputable section

theorem oO_some {α β : Type} {o : Option α} {f : α → Option β} {r : β} (h : oO o f = some r) : ∃ a, o = some a ∧ f a = some r := by
  cases o with
  | none => cases h
  | some a => exact ⟨a, rfl, h⟩
theorem gO_some {β : Type} {b : Bool} {f : Unit → Option β} {r : β} (h : gO b f = some r) : b = true ∧ f () = some r := by
  cases b with
  | false => cases h
  | true => exact ⟨rfl, h⟩
theorem nextB_lt : ∀ (l : List (Nat × Blk)) {i : Nat} {b : Blk}, getB l i = some b → i < nextB l
  | [], i, b, h => by simp [getB_nil, getB_cons] at h
  | (j, c) :: r, i, b, h => by
    simp only [sel_eq, getB_nil, getB_cons] at h
    simp only [nextB]
    cases hj : Nat.beq j i with
    | true => have := Nat.eq_of_beq_eq_true hj; omega
    | false =>
      rw [hj] at h
      have := nextB_lt r h
      omega
theorem nextB_none (l : List (Nat × Blk)) : getB l (nextB l) = none := by
  cases h : getB l (nextB l) with
  | none => rfl
  | some b => have := nextB_lt l h; omega

def KE (p : St × List Nat × List Nat) : St → List Nat → List Nat → Prop := fun a b c => some (a, b, c) = some p

section
variable {E : Env} {ops : Array Oper} {o : Oper} {s : St} {tt : TT} {p : St × List Nat × List Nat}

theorem rs_move (ht : TTok E.P tt) {x : Operand} (hop : o.op = .move x ∨ o.op = .assign x) (hl : Sz E.nt s) (hd : ∀ t, o.dst = some t → t < E.nt) (h : r_move o s x = some p) : PostR E ops o s (KE p) := by
  replace h := oO_some h; obtain ⟨y, hy, h⟩ := h
  refine post_val (x := y) (r := []) h hl hd fun σ β a w hag hr => ⟨a.eval x, ?_, ev_ok hag hr ?_ hy⟩
  · rcases hop with hop | hop <;> simp only [execOp, hop, Sem.run_pure]
  · rcases hop with hop | hop <;> (rw [hop]; simp [Op.operands])

theorem rs_pick {c x z : Operand} (hop : o.op = .pick c x z) (hl : Sz E.nt s) (hd : ∀ t, o.dst = some t → t < E.nt) (h : r_pick o s c x z = some p) : PostR E ops o s (KE p) := by
  replace h := oO_some h; obtain ⟨cv, hc, h⟩ := h
  replace h := oO_some h; obtain ⟨xv, hx, h⟩ := h
  replace h := oO_some h; obtain ⟨zv, hz, h⟩ := h
  cases cv with
  | bl t =>
    simp only [sel_eq] at h
    refine post_val (r := []) h hl hd fun σ β a w hag hr => ⟨if t then a.eval x else a.eval z, ?_, ?_⟩
    · have := ev_ok hag hr (by rw [hop]; simp [Op.operands]) hc
      simp only [SV.den, Option.some.injEq] at this
      simp only [execOp, hop, ← this, asBool, Sem.run_bind, Sem.run_pure, Result.andThen_ok]
    · cases t
      · exact ev_ok hag hr (by rw [hop]; simp [Op.operands]) hz
      · exact ev_ok hag hr (by rw [hop]; simp [Op.operands]) hx
  | _ => cases h

theorem sx_to {base j : Nat} (ht : TTok E.P tt) (hl : Sz E.nt s) (hd : ∀ t, o.dst = some t → t < E.nt) (h : sxOp (std .cl) E tt base j o s (KE p)) : PostR E ops o s (KE p) := s_small ht hl hd h

theorem rs_alloc (ht : TTok E.P tt) {t : TypeId} (hop : o.op = .alloc t) (hl : Sz E.nt s) (hd : ∀ t, o.dst = some t → t < E.nt) (h : r_alloc tt o s t = some p) : PostR E ops o s (KE p) := by
  replace h := oO_some h; obtain ⟨i, hi, h⟩ := h
  refine sx_to (tt := tt) (base := nextB s.blks) (j := 0) ht hl hd ?_
  simp only [sxOp, hop, o_alloc, hi, oB, Nat.add_zero, nextB_none]
  exact h
theorem rs_box (ht : TTok E.P tt) {t : TypeId} {x : Operand} (hop : o.op = .box t x) (hl : Sz E.nt s) (hd : ∀ t, o.dst = some t → t < E.nt) (h : r_box o s t x = some p) : PostR E ops o s (KE p) := by
  replace h := oO_some h; obtain ⟨a, ha, h⟩ := h
  replace h := oO_some h; obtain ⟨l, hl', h⟩ := h
  refine sx_to (tt := tt) (base := nextB s.blks) (j := 0) ht hl hd ?_
  simp only [sxOp, hop, o_box, ha, hl', oB, Nat.add_zero, nextB_none]
  exact h
theorem rs_build (ht : TTok E.P tt) {t : TypeId} {ps : Array (Nat × Operand)} (hop : o.op = .build t ps) (hl : Sz E.nt s) (hd : ∀ t, o.dst = some t → t < E.nt) (h : r_build tt o s t ps = some p) : PostR E ops o s (KE p) := by
  replace h := oO_some h; obtain ⟨i, hi, h⟩ := h
  replace h := gO_some h; obtain ⟨hk, h⟩ := h
  replace h := oO_some h; obtain ⟨l, hl', h⟩ := h
  replace h := oO_some h; obtain ⟨cs, hcs, h⟩ := h
  refine sx_to (tt := tt) (base := 0) (j := 0) ht hl hd ?_
  simp only [sxOp, hop, o_build, hi, hk, hl', hcs, oB, iB]
  exact h
theorem rs_load (ht : TTok E.P tt) {t : TypeId} {x : Operand} (hop : o.op = .load t x) (hl : Sz E.nt s) (hd : ∀ t, o.dst = some t → t < E.nt) (h : r_load tt o s t x = some p) : PostR E ops o s (KE p) := by
  replace h := oO_some h; obtain ⟨a, ha, h⟩ := h
  replace h := oO_some h; obtain ⟨i, hi, h⟩ := h
  split at h
  · replace h := oO_some h; obtain ⟨b, hb, h⟩ := h
    replace h := oO_some h; obtain ⟨r, hr, h⟩ := h
    refine sx_to (tt := tt) (base := 0) (j := 0) ht hl hd ?_
    simp only [sxOp, hop, o_load, ha, hi, hb, hr, oB]
    exact h
  · cases h
theorem rs_store (ht : TTok E.P tt) {t : TypeId} {x y : Operand} (hop : o.op = .store t x y) (hl : Sz E.nt s) (hd : ∀ t, o.dst = some t → t < E.nt) (h : r_store tt o s t x y = some p) : PostR E ops o s (KE p) := by
  replace h := oO_some h; obtain ⟨a, ha, h⟩ := h
  replace h := oO_some h; obtain ⟨c, hc, h⟩ := h
  replace h := oO_some h; obtain ⟨i, hi, h⟩ := h
  replace h := oO_some h; obtain ⟨l, hl', h⟩ := h
  replace h := gO_some h; obtain ⟨hg, h⟩ := h
  split at h
  · replace h := oO_some h; obtain ⟨b, hb, h⟩ := h
    replace h := gO_some h; obtain ⟨hle, h⟩ := h
    refine sx_to (tt := tt) (base := 0) (j := 0) ht hl hd ?_
    simp only [sxOp, hop, o_store, ha, hc, hi, hl', hb, hg, hle, oB, sel]
    exact h
  · cases h
theorem rs_field (ht : TTok E.P tt) {t : TypeId} {x : Operand} {f : Nat} (hop : o.op = .field t x f) (hl : Sz E.nt s) (hd : ∀ t, o.dst = some t → t < E.nt) (h : r_field tt o s t x f = some p) : PostR E ops o s (KE p) := by
  replace h := oO_some h; obtain ⟨a, ha, h⟩ := h
  replace h := oO_some h; obtain ⟨i, hi, h⟩ := h
  replace h := oO_some h; obtain ⟨q, hq, h⟩ := h
  replace h := oO_some h; obtain ⟨l, hl', h⟩ := h
  obtain ⟨ft, off⟩ := q
  replace h := oO_some h; obtain ⟨r, hr, h⟩ := h
  refine sx_to (tt := tt) (base := 0) (j := 0) ht hl hd ?_
  simp only at hr
  simp only [sxOp, hop, o_field, ha, hi, hq, hl', hr, oB]
  exact h
theorem rs_fieldAddr (ht : TTok E.P tt) {t : TypeId} {x : Operand} {f : Nat} (hop : o.op = .fieldAddr t x f) (hl : Sz E.nt s) (hd : ∀ t, o.dst = some t → t < E.nt) (h : r_fieldAddr tt o s t x f = some p) : PostR E ops o s (KE p) := by
  replace h := oO_some h; obtain ⟨a, ha, h⟩ := h
  replace h := oO_some h; obtain ⟨i, hi, h⟩ := h
  replace h := oO_some h; obtain ⟨q, hq, h⟩ := h
  replace h := gO_some h; obtain ⟨hg, h⟩ := h
  obtain ⟨ft, off⟩ := q
  have hz : Nat.beq ft.size 0 = false := by
    have := Nat.le_of_ble_eq_true hg
    exact nbeq_ne (by simp only at this; omega)
  split at h
  · refine sx_to (tt := tt) (base := 0) (j := 0) ht hl hd ?_
    simp only [sxOp, hop, o_fieldAddr, ha, hi, hq, hz, oB, sel]
    exact h
  · cases h
theorem rs_extract (ht : TTok E.P tt) {x : Operand} {ix : Nat} (hop : o.op = .extract x ix) (hl : Sz E.nt s) (hd : ∀ t, o.dst = some t → t < E.nt) (h : r_extract o s x ix = some p) : PostR E ops o s (KE p) := by
  replace h := oO_some h; obtain ⟨a, ha, h⟩ := h
  split at h
  · replace h := oO_some h; obtain ⟨r, hr, h⟩ := h
    refine sx_to (tt := tt) (base := 0) (j := 0) ht hl hd ?_
    simp only [sxOp, hop, o_extract, ha, hr, oB]
    exact h
  · cases h
theorem rs_unOp (ht : TTok E.P tt) {op : UnOp} {t : TypeId} {x : Operand} (hop : o.op = .unOp op t x) (hl : Sz E.nt s) (hd : ∀ t, o.dst = some t → t < E.nt) (h : r_unOp o s op x = some p) : PostR E ops o s (KE p) := by
  replace h := oO_some h; obtain ⟨a, ha, h⟩ := h
  split at h
  · refine sx_to (tt := tt) (base := 0) (j := 0) ht hl hd ?_
    simp only [sxOp, hop, o_unOp, ha, oB, asI]
    exact h
  · refine sx_to (tt := tt) (base := 0) (j := 0) ht hl hd ?_
    simp only [sxOp, hop, o_unOp, ha, oB, asB]
    exact h
  · cases h
theorem rs_convert (ht : TTok E.P tt) {src dst : TypeId} {x : Operand} (hop : o.op = .convert src dst x) (hl : Sz E.nt s) (hd : ∀ t, o.dst = some t → t < E.nt) (h : r_convert tt o s src dst x = some p) : PostR E ops o s (KE p) := by
  replace h := oO_some h; obtain ⟨a, ha, h⟩ := h
  replace h := oO_some h; obtain ⟨i0, hi0, h⟩ := h
  replace h := oO_some h; obtain ⟨i, hi, h⟩ := h
  cases hk : i.kind with
  | int kk =>
    rw [hk] at h
    cases a with
    | lit k0 n =>
      refine sx_to (tt := tt) (base := 0) (j := 0) ht hl hd ?_
      simp only [sxOp, hop, o_convert, ha, hi0, hi, hk, oB]
      exact h
    | _ => cases h
  | _ => rw [hk] at h; cases h
theorem rs_nilCheck (ht : TTok E.P tt) {x : Operand} (hop : o.op = .nilCheck x) (hl : Sz E.nt s) (hd : ∀ t, o.dst = some t → t < E.nt) (h : r_nilCheck o s x = some p) : PostR E ops o s (KE p) := by
  replace h := oO_some h; obtain ⟨a, ha, h⟩ := h
  split at h
  · refine sx_to (tt := tt) (base := 0) (j := 0) ht hl hd ?_
    simp only [sxOp, hop, o_nilCheck, ha, oB]
    exact h
  · split at h
    · rename_i f
      refine post_val (r := []) h hl hd fun σ β a w hag hr => ?_
      have he := ev_ok hag hr (by rw [hop]; simp [Op.operands]) ha
      refine ⟨a.eval x, ?_, he⟩
      simp only [SV.den, Option.map_eq_some_iff] at he
      obtain ⟨vs, _, he⟩ := he
      simp only [execOp, hop, ← he, Sem.run_pure]
    · cases h
  · cases h
theorem rs_makeFunc {fn : Fn} {first captured : Array Operand} (hop : o.op = .makeFunc fn first captured) (hl : Sz E.nt s) (hd : ∀ t, o.dst = some t → t < E.nt) (h : r_makeFunc o s fn first captured = some p) : PostR E ops o s (KE p) := by
  unfold r_makeFunc at h
  split at h
  · rename_i hf
    replace h := oO_some h; obtain ⟨l, hl', h⟩ := h
    refine post_val (r := []) h hl hd fun σ β a w hag hr => ?_
    have hargs := evL_ok hag hr captured.toList l (fun y hy => by rw [hop]; simp only [Op.operands]; simp; exact .inr (by simpa using hy)) hl'
    refine ⟨.func fn #[] (captured.map a.eval), ?_, by simp only [SV.den, hargs, Option.map_some]; congr 2; apply Array.ext'; simp⟩
    have e : first = #[] := by apply Array.ext'; simpa using hf
    refine execv (x := Instr.makeFunc fn (first.map a.eval) (captured.map a.eval)) (by simp only [execOp, hop]) ?_
    subst e
    simp [Instr.makeFunc]
  · cases h

theorem litI_ok {P : Program} {op : BinOp} {ka kb : IntKind} {a b : Int} {r : SV} (h : litI op ka a kb b = some r) (t : TypeId) : ∃ v, (∀ β, r.den β = some v) ∧ ∀ w, (binOp op t (.int ka a) (.int kb b)).run P w = .ok v w := by
  have key : sxInt (std .cl) op (.lit kb b) ka a kb b (fun x => x = r) := by
    unfold litI at h
    unfold sxInt
    cases op
    case shl => obtain ⟨h1, h2⟩ := gO_some h; simp only [nneg, sel, h1]; exact Option.some.inj h2
    case shr => obtain ⟨h1, h2⟩ := gO_some h; simp only [nneg, sel, h1]; exact Option.some.inj h2
    all_goals
      simp only at h ⊢
      obtain ⟨h1, h2⟩ := gO_some h
      rw [h1]
      simp only [iB]
    case quo =>
      obtain ⟨h3, h4⟩ := gO_some h2
      have h3' : (b == 0) = false := by simpa using h3
      simp only [nz, sel, h3']; exact Option.some.inj h4
    case rem =>
      obtain ⟨h3, h4⟩ := gO_some h2
      have h3' : (b == 0) = false := by simpa using h3
      simp only [nz, sel, h3']; exact Option.some.inj h4
    all_goals first | exact Option.some.inj h2 | cases h2
  obtain ⟨x, v, h1, h2, h3⟩ := sxInt_ok (P := P) (y := .lit kb b) rfl key t
  subst h1
  exact ⟨v, h2, h3⟩

theorem rBin_ok (ht : TTok E.P tt) {op : BinOp} {x y r : SV} {t : TypeId} (h : rBin tt t op x y = some r) (xo yo : Operand) : BinRes E op t xo yo x y r := by
  unfold rBin at h
  split at h
  · rename_i ka a kb b
    intro β a' b' w hxa hyb
    simp only [SV.den, Option.some.injEq] at hxa hyb
    subst hxa; subst hyb
    obtain ⟨v, h1, h2⟩ := litI_ok (P := E.P) h t
    exact ⟨v, by simp only [Sem.run_bind, guard_int, Result.andThen_ok, h2], h1 β⟩
  · rename_i a b
    have key : sxBin (std .cl) tt (tinf tt t) op (.v (.string a)) (.v (.string b)) (fun z => z = r) := by
      have ea : ∀ s : ByteArray, s.toList = s.data.toList := fun s => ByteArray.toList_eq s
      split at h
      · simp only [sxBin, asI, std, mkB, ea]; exact Option.some.inj h
      · simp only [sxBin, asI, std, mkB, ea]; exact Option.some.inj h
      · obtain ⟨h1, h2⟩ := gO_some h
        have h1' := Nat.le_of_ble_eq_true h1
        simp only [sxBin, asI, std, must, sel]
        have : decide (((a.size + b.size : Nat) : Int) ≤ 9223372036854775807) = true := by
          rw [decide_eq_true_eq]; omega
        rw [this]; exact Option.some.inj h2
      · cases h
    obtain ⟨z, h1, h2⟩ := sxBin_ok (E := E) ht key xo yo
    subst h1; exact h2
  · rename_i a b
    replace h := oO_some h; obtain ⟨i, hi, h⟩ := h
    split at h
    · rename_i hk
      have key : sxBin (std .cl) tt (tinf tt t) op (.bl a) (.bl b) (fun z => z = r) := by
        split at h
        · simp only [sxBin, asI, asB, hi, oB, hk, mkB, std]; exact Option.some.inj h
        · simp only [sxBin, asI, asB, hi, oB, hk, mkB, std]; exact Option.some.inj h
        · cases h
      obtain ⟨z, h1, h2⟩ := sxBin_ok (E := E) ht key xo yo
      subst h1; exact h2
    · cases h
  · rename_i xs ys
    replace h := oO_some h; obtain ⟨i, hi, h⟩ := h
    replace h := gO_some h; obtain ⟨hg, h⟩ := h
    replace h := oO_some h; obtain ⟨e, he, h⟩ := h
    have key : sxBin (std .cl) tt (tinf tt t) op (.agg xs) (.agg ys) (fun z => z = r) := by
      split at h
      · simp only [sxBin, asI, asB, hi, oB, iB, hg, aggOf, he, mkB]; exact Option.some.inj h
      · simp only [sxBin, asI, asB, hi, oB, iB, hg, aggOf, he, mkB]; exact Option.some.inj h
      · cases h
    obtain ⟨z, h1, h2⟩ := sxBin_ok (E := E) ht key xo yo
    subst h1; exact h2
  · cases h
theorem rs_binOp (ht : TTok E.P tt) {op : BinOp} {t u : TypeId} {x y : Operand} (hop : o.op = .binOp op t x y u) (hl : Sz E.nt s) (hd : ∀ t, o.dst = some t → t < E.nt) (h : r_binOp tt o s op t x y = some p) : PostR E ops o s (KE p) := by
  replace h := oO_some h; obtain ⟨a', ha, h⟩ := h
  replace h := oO_some h; obtain ⟨b', hb, h⟩ := h
  replace h := oO_some h; obtain ⟨r, hr', h⟩ := h
  refine post_val (r := []) h hl hd fun σ β a w hag hr => ?_
  have e1 := ev_ok hag hr (by rw [hop]; simp [Op.operands]) ha
  have e2 := ev_ok hag hr (by rw [hop]; simp [Op.operands]) hb
  obtain ⟨v, h1, h2⟩ := rBin_ok (E := E) ht hr' x y β _ _ w e1 e2
  exact ⟨v, execv (by simp only [execOp, hop]) h1, h2⟩

theorem rs_index (ht : TTok E.P tt) {addr : Bool} {t : TypeId} {x ix : Operand} (hop : o.op = if addr then .indexAddr t x ix else .index t x ix) (hl : Sz E.nt s) (hd : ∀ t, o.dst = some t → t < E.nt) (h : r_index tt o s addr t x ix = some p) : PostR E ops o s (KE p) := by
  replace h := oO_some h; obtain ⟨a', ha, h⟩ := h
  replace h := oO_some h; obtain ⟨iv, hiv, h⟩ := h
  replace h := oO_some h; obtain ⟨i, hi, h⟩ := h
  obtain ⟨_, _, d, _, _, _, _, _, hu, hdk⟩ := (tinf_ok ht hi).parts
  have hm1 : x ∈ o.op.operands.toList := by rw [hop]; cases addr <;> simp [Op.operands]
  have hm2 : ix ∈ o.op.operands.toList := by rw [hop]; cases addr <;> simp [Op.operands]
  split at h
  · rename_i kx m
    have e2 : ∀ {σ : Sg} {β : Ren} {a : Act} {w : World} {r : List Nat}, Agree ops o s r σ → Rl E σ β a w → a.eval ix = .int kx m := by
      intro σ β a w r hag hr
      have := ev_ok hag hr hm2 hiv
      simp only [SV.den, Option.some.injEq] at this
      exact this.symm
    split at h
    · rename_i len e hk
      rw [hk] at hdk
      obtain rfl := kindOf_arr hdk
      replace h := oO_some h; obtain ⟨et, het, h⟩ := h
      replace h := gO_some h; obtain ⟨hc, h⟩ := h
      simp only [Bool.and_eq_true, decide_eq_true_eq] at hc
      split at h
      · rename_i id o'
        refine post_val (r := []) h hl hd fun σ β a w hag hr => ?_
        have e1 := ev_ok hag hr hm1 ha
        simp only [SV.den, Option.map_eq_some_iff] at e1
        obtain ⟨q, hq, e1⟩ := e1
        refine ⟨.pointer (some ⟨q.p, o' + m.toNat * et.size, none⟩), ?_, by simp [SV.den, hq]⟩
        refine execv (x := Instr.indexAt t (a.eval x) (a.eval ix)) (by simp only [execOp, hop, if_true]) ?_
        rw [← e1, e2 hag hr]
        simp only [Instr.indexAt, asIntOf, Sem.run_bind, run_underlying' w hu, Result.andThen_ok, Instr.sureAddr, Sem.run_pure]
        rw [if_pos hc]
        simp only [Sem.run_bind, run_sizeOf' w (tinf_ok ht het), Result.andThen_ok, Sem.run_pure, Addr.add_eq]
      · rename_i a0
        replace h := oO_some h; obtain ⟨l, hl', h⟩ := h
        replace h := oO_some h; obtain ⟨r, hr', h⟩ := h
        refine post_val (r := []) h hl hd fun σ β a w hag hr => ?_
        have e1 := ev_ok hag hr hm1 ha
        obtain ⟨vs, e3, e4⟩ := aggOf_den hl' e1
        obtain ⟨v, e5, e6⟩ := run_part' (P := E.P) (w := w) (vs := vs.toArray) (tinf_ok ht het) (by simpa using e4) hr'
        refine ⟨v, ?_, e6⟩
        refine execv (x := Instr.index t (a.eval x) (a.eval ix)) (by simp [execOp, hop]) ?_
        rw [e3, e2 hag hr]
        simp only [Instr.index, asIntOf, Sem.run_bind, run_underlying' w hu, Result.andThen_ok, Sem.run_pure]
        rw [if_pos hc]
        simp only [Sem.run_bind, run_sizeOf' w (tinf_ok ht het), Result.andThen_ok, e5]
      · cases h
    · rename_i e hk
      rw [hk] at hdk
      obtain rfl := kindOf_slice hdk
      replace h := oO_some h; obtain ⟨et, het, h⟩ := h
      have gen : ∀ {id o' len : Nat}, (0 ≤ m ∧ m < (len : Int)) → (∀ β v, a'.den β = some v → ∃ q c, β id = some q ∧ v = .slice (some ⟨q.p, o', none⟩) len c) → addr = true → some (s.put o (.ptr id (o' + m.toNat * et.size)), ([] : List Nat), ([] : List Nat)) = some p → PostR E ops o s (KE p) := by
        intro id o' len hc hden hadr h
        refine post_val (r := []) h hl hd fun σ β a w hag hr => ?_
        have e1 := ev_ok hag hr hm1 ha
        obtain ⟨q, c, hq, e3⟩ := hden β _ e1
        refine ⟨.pointer (some ⟨q.p, o' + m.toNat * et.size, none⟩), ?_, by simp [SV.den, hq]⟩
        refine execv (x := Instr.indexAt t (a.eval x) (a.eval ix)) (by simp only [execOp, hop, hadr, if_true]) ?_
        rw [e3, e2 hag hr]
        simp only [Instr.indexAt, asIntOf, Sem.run_bind, run_underlying' w hu, Result.andThen_ok, Instr.sureAddr, Sem.run_pure]
        rw [if_pos hc]
        simp only [Sem.run_bind, run_sizeOf' w (tinf_ok ht het), Result.andThen_ok, Sem.run_pure, Addr.add_eq]
      split at h
      · rename_i id o' len _
        replace h := gO_some h; obtain ⟨hc, h⟩ := h
        simp only [Bool.and_eq_true, decide_eq_true_eq] at hc
        exact gen hc (fun β v hv => by simp only [SV.den, Option.map_eq_some_iff] at hv; obtain ⟨q, h1, h2⟩ := hv; exact ⟨q, _, h1, h2.symm⟩) rfl h
      · rename_i id eo sz len
        replace h := gO_some h; obtain ⟨hc, h⟩ := h
        simp only [Bool.and_eq_true, decide_eq_true_eq] at hc
        exact gen hc (fun β v hv => by simp only [SV.den, Option.map_eq_some_iff] at hv; obtain ⟨q, h1, h2⟩ := hv; exact ⟨q, _, h1, h2.symm⟩) rfl h
      · cases h
    · rename_i hk
      rw [hk] at hdk
      obtain rfl := kindOf_str hdk
      split at h
      · rename_i b
        replace h := gO_some h; obtain ⟨hc, h⟩ := h
        simp only [Bool.and_eq_true, decide_eq_true_eq] at hc
        refine post_val (r := []) h hl hd fun σ β a w hag hr => ⟨.int .u8 ((b.get! m.toNat).toNat : Int), ?_, rfl⟩
        have e1 := ev_ok hag hr hm1 ha
        simp only [SV.den, Option.some.injEq] at e1
        refine execv (x := Instr.index t (a.eval x) (a.eval ix)) (by simp [execOp, hop]) ?_
        rw [← e1, e2 hag hr]
        have hlt : m.toNat < b.size := by omega
        have hg : b[m.toNat]? = some b[m.toNat] := by simp [hlt]
        have hg2 : b.get! m.toNat = b[m.toNat] := by
          show b.data[m.toNat]! = b.data[m.toNat]
          exact getElem!_pos b.data m.toNat hlt
        simp only [Instr.index, asIntOf, Sem.run_bind, run_underlying' w hu, Result.andThen_ok, Sem.run_pure, if_pos hc.1, hg, hg2]
      · cases h
    · cases h
  · cases h

end
end

noncomputable section

theorem Rl.drew {E : Env} {σ : Sg} {β : Ren} {a : Act} {w : World} (h : Rl E σ β a w) : Rl E σ β a w.drew :=
  ⟨⟨h.blk, h.fresh, h.inj, ⟨h.keep.os, h.keep.tape, h.keep.output, h.keep.size, h.keep.block⟩, h.anc⟩, h.size, h.defers, h.tmp⟩

/-- A new number for a block that no other one stands for. -/
theorem Rl.adopt {E : Env} {σ : Sg} {β : Ren} {a : Act} {w : World} (h : Rl E σ β a w) {id : Nat} (hid : σ (.blk id) = none) {ty : TypeId} {cells : List SV} {vs : List Value} (rest : List Value) (m : BM) (p c : Nat) (hm : m.fits c (vs ++ rest).length rest) (hv : denL β cells = some vs)
    (hp : p < w.heap.size) (hpr : ¬ E.prot p) (hne : ∀ j b q, σ (.blk j) = some (.blk b) → b.m.live = true → β j = some q → q.p ≠ p) :
    let β' : Ren := fun i => if i = id then some ⟨p, 0, c⟩ else β i
    Le β β' ∧ Rl E (upd σ [(.blk id, .blk ⟨ty, cells, m⟩)]) β' a { w with heap := w.heap.setIfInBounds p (.cells (vs ++ rest).toArray ty) } := by
  intro β'
  have hle : Le β β' := by
    intro i q hq
    by_cases hi : i = id
    · subst hi; rw [h.fresh i hid] at hq; cases hq
    · simp [β', hi, hq]
  have hu : ∀ i, i ≠ id → upd σ [(Key.blk id, Dn.blk ⟨ty, cells, m⟩)] (.blk i) = σ (.blk i) := by intro i hi; simp [upd, look, Ne.symm hi]
  have hu1 : upd σ [(Key.blk id, Dn.blk ⟨ty, cells, m⟩)] (.blk id) = some (.blk ⟨ty, cells, m⟩) := by simp [upd, look]
  refine ⟨hle, ⟨?_, ?_, ?_, ?_, ?_⟩, h.size, h.defers, ?_⟩
  · intro i b hb hlive
    by_cases hi : i = id
    · subst hi
      rw [hu1] at hb
      obtain rfl : (⟨ty, cells, m⟩ : Blk) = b := by injection hb with hb; injection hb
      exact ⟨⟨p, 0, c⟩, vs, rest, by simp [β'], denL_mono hle _ hv, by simp [hp], hm, hpr⟩
    · rw [hu i hi] at hb
      obtain ⟨q, us, rs, h1, h2, h3, h4, h5⟩ := h.blk i b hb hlive
      refine ⟨q, us, rs, hle _ _ h1, denL_mono hle _ h2, ?_, h4, h5⟩
      have := hne i b q hb hlive h1
      simp [Array.getElem?_setIfInBounds, Ne.symm this, h3]
  · intro i hi
    by_cases hie : i = id
    · subst hie; rw [hu1] at hi; cases hi
    · rw [hu i hie] at hi
      simp [β', hie, h.fresh i hi]
  · intro i j b c' q r h1 h2 h3 h4 h5 h6 h7
    by_cases hi : i = id
    · by_cases hj : j = id
      · rw [hi, hj]
      · rw [hu j hj] at h3
        simp only [β', hj, if_false] at h6
        simp only [β', hi, if_true, Option.some.injEq] at h5
        subst h5
        exact absurd h7.symm (hne j c' r h3 h4 h6)
    · rw [hu i hi] at h1
      by_cases hj : j = id
      · simp only [β', hi, if_false] at h5
        simp only [β', hj, if_true, Option.some.injEq] at h6
        subst h6
        exact absurd h7 (hne i b q h1 h2 h5)
      · rw [hu j hj] at h3
        simp only [β', hi, hj, if_false] at h5 h6
        exact h.inj i j b c' q r h1 h2 h3 h4 h5 h6 h7
  · refine ⟨h.keep.os, h.keep.tape, h.keep.output, by simpa using h.keep.size, fun k hk => ?_⟩
    have : p ≠ k := fun e => hpr (by rw [e]; exact hk)
    simp only [Array.getElem?_setIfInBounds, this, if_false]
    exact h.keep.block k hk
  · intro i q hq; exact hle _ _ (h.anc i q hq)
  · intro u y hy
    have : upd σ [(Key.blk id, Dn.blk ⟨ty, cells, m⟩)] (.tmp u) = σ (.tmp u) := by simp [upd, look]
    rw [this] at hy
    obtain ⟨h1, h2⟩ := h.tmp u y hy
    exact ⟨h1, fun hun => SV.den_mono hle _ (h2 hun)⟩

theorem subC_some {cells : List SV} {off n : Nat} {l : List SV} (h : subC cells off n = some l) : l = (cells.drop off).take n ∧ l.length = n := by
  unfold subC at h
  simp only [sel_eq] at h
  cases hb : Nat.beq ((cells.drop off).take n).length n with
  | false => rw [hb] at h; cases h
  | true =>
    rw [hb] at h
    simp only [cond_true, Option.some.injEq] at h
    subst h
    exact ⟨rfl, Nat.eq_of_beq_eq_true hb⟩

section
variable {E : Env} {ops : Array Oper} {o : Oper} {s : St} {tt : TT} {p : St × List Nat × List Nat}

theorem spl_at : ∀ (us A B : List Value), us.length ≤ B.length → spl (A ++ B) A.length us = A ++ us ++ B.drop us.length
  | [], A, B, _ => by simp [spl]
  | u :: r, A, [], h => by simp at h
  | u :: r, A, b :: B, h => by
    have e : (A ++ b :: B).set A.length u = (A ++ [u]) ++ B := by simp
    have l : A.length + 1 = (A ++ [u]).length := by simp
    simp only [spl]
    rw [e, l, spl_at r (A ++ [u]) B (by simpa using h)]
    simp
theorem spl_eq (us vs : List Value) (off : Nat) (h : off + us.length ≤ vs.length) : spl vs off us = vs.take off ++ us ++ vs.drop (off + us.length) := by
  have := spl_at us (vs.take off) (vs.drop off) (by simp; omega)
  rw [List.take_append_drop, List.length_take, Nat.min_eq_left (by omega), List.drop_drop] at this
  exact this

/-- What is read through a slice. -/
theorem cellsAt_ok {es n : Nat} {x : SV} {rx : List Nat} {lx : List SV} (h : cellsAt s es n x = some (rx, lx)) {r : List Nat} (hsub : ∀ i ∈ rx, i ∈ r) {σ : Sg} {β : Ren} {a : Act} {w : World} (hag : Agree ops o s r σ) (hr : Rl E σ β a w) {v : Value} (hv : x.den β = some v)
    (hpl : lx.all plainC = true) : ∃ us, denL β lx = some us ∧ us.length = n * es ∧ (∀ u ∈ us, u.oneCell' = true) ∧ (Builtin.firstCells es n v).run E.P w = .ok us.toArray w ∧ (Builtin.firstCells es n v).run E.P w.drew = .ok us.toArray w.drew := by
  have main : ∀ {id off len c : Nat} {b : Blk} {l : List SV}, getL s.blks id = some b → subC b.cells off (n * es) = some l → id ∈ r → lx = l → (∃ q, β id = some q ∧ v = .slice (some ⟨q.p, off, none⟩) len c) →
      ∃ us, denL β lx = some us ∧ us.length = n * es ∧ (∀ u ∈ us, u.oneCell' = true) ∧ (Builtin.firstCells es n v).run E.P w = .ok us.toArray w ∧ (Builtin.firstCells es n v).run E.P w.drew = .ok us.toArray w.drew := by
    rintro id off len c b l hb hs hid hl ⟨q, hq, rfl⟩
    obtain ⟨hb, hlv⟩ := getL_some hb
    have hs' : σ (.blk id) = some (.blk b) := by rw [hag.2 id hid]; simp [St.sg, hb]
    obtain ⟨q', vs, rest, h1, h2, h3, -⟩ := hr.blk id b hs' hlv
    rw [hq] at h1; injection h1 with h1; subst h1
    obtain ⟨e1, e2⟩ := subC_some hs
    have hd := denL_take (n * es) (denL_drop off h2)
    rw [← e1, ← hl] at hd
    have hlen := denL_length hd
    have hg : ∀ j u, ((vs.drop off).take (n * es))[j]? = some u → w.cell? ((⟨q.p, off, none⟩ : Addr).add j) = some u := by
      intro j u hu
      rw [Addr.add_eq, cell_of h3]
      rw [List.getElem?_take] at hu
      split at hu
      · rw [List.getElem?_drop] at hu
        have hlt := (List.getElem?_eq_some_iff.1 hu).1
        simp only [List.getElem?_toArray, List.getElem?_append_left hlt]
        exact hu
      · cases hu
    have hl2 : ((vs.drop off).take (n * es)).length = n * es := by rw [hlen, hl, e2]
    exact ⟨_, hd, hl2, plain_all hpl hd, run_firstCells_some w es n _ len c _ hl2 hg, run_firstCells_some w.drew es n _ len c _ hl2 (by simpa using hg)⟩
  unfold cellsAt at h
  split at h
  · rename_i id off len cap
    replace h := gO_some h; obtain ⟨_, h⟩ := h
    replace h := oO_some h; obtain ⟨b, hb, h⟩ := h
    replace h := oO_some h; obtain ⟨l, hl, h⟩ := h
    simp only [Option.some.injEq, Prod.mk.injEq] at h
    obtain ⟨rfl, rfl⟩ := h
    simp only [SV.den, Option.map_eq_some_iff] at hv
    obtain ⟨q, hq, rfl⟩ := hv
    exact main hb hl (hsub id (by simp)) rfl ⟨q, hq, rfl⟩
  · rename_i id eo sz len
    replace h := gO_some h; obtain ⟨_, h⟩ := h
    replace h := oO_some h; obtain ⟨b, hb, h⟩ := h
    replace h := oO_some h; obtain ⟨l, hl, h⟩ := h
    simp only [Option.some.injEq, Prod.mk.injEq] at h
    obtain ⟨rfl, rfl⟩ := h
    simp only [SV.den, Option.map_eq_some_iff] at hv
    obtain ⟨q, hq, rfl⟩ := hv
    exact main hb hl (hsub id (by simp)) rfl ⟨q, hq, rfl⟩
  · replace h := gO_some h; obtain ⟨hn, h⟩ := h
    obtain rfl := Nat.eq_of_beq_eq_true hn
    simp only [Option.some.injEq, Prod.mk.injEq] at h
    obtain ⟨rfl, rfl⟩ := h
    simp only [SV.den, Option.map_eq_some_iff] at hv
    obtain ⟨q, hq, rfl⟩ := hv
    exact ⟨[], by simp [denL], by simp, by simp, by simp [Builtin.firstCells, loadCells, loadCellsFrom], by simp [Builtin.firstCells, loadCells, loadCellsFrom]⟩
  · replace h := gO_some h; obtain ⟨hn, h⟩ := h
    obtain rfl := Nat.eq_of_beq_eq_true hn
    simp only [Option.some.injEq, Prod.mk.injEq] at h
    obtain ⟨rfl, rfl⟩ := h
    simp only [SV.den, Option.some.injEq] at hv
    subst hv
    exact ⟨[], by simp [denL], by simp, by simp, by simp [Builtin.firstCells], by simp [Builtin.firstCells]⟩
  · cases h

theorem cond_pq' {α : Type} {b : Bool} {x y z : α} (h : cond b x y = z) : (b = true ∧ x = z) ∨ (b = false ∧ y = z) := by cases b <;> simp_all
theorem lenS_ok {x : SV} {n : Nat} (h : lenS x = some n) {β : Ren} {v : Value} (hv : x.den β = some v) : ∃ a c, v = .slice a n c := by
  unfold lenS at h
  split at h
  · simp only [Option.some.injEq] at h; subst h; simp only [SV.den, Option.map_eq_some_iff] at hv; obtain ⟨q, hq, rfl⟩ := hv; exact ⟨_, _, rfl⟩
  · simp only [Option.some.injEq] at h; subst h; simp only [SV.den, Option.map_eq_some_iff] at hv; obtain ⟨q, hq, rfl⟩ := hv; exact ⟨_, _, rfl⟩
  · simp only [Option.some.injEq] at h; subst h; simp only [SV.den, Option.map_eq_some_iff] at hv; obtain ⟨q, hq, rfl⟩ := hv; exact ⟨_, _, rfl⟩
  · simp only [Option.some.injEq] at h; subst h; simp only [SV.den, Option.some.injEq] at hv; exact ⟨_, _, hv.symm⟩
  · cases h

/-- A row that grows into a new block. -/
theorem grow_new {E : Env} {σ : Sg} {β : Ren} {a : Act} {w : World} (hr : Rl E σ β a w) {id : Nat} (hid : σ (.blk id) = none) {e : TypeId} {cells : List SV} {us : List Value} {n cap sz : Nat} {z : Value} (hz : z.cells.size = sz)
    (hd : denL β cells = some us) (hl : us.length = n * sz) (hc : n ≤ cap) :
    let β' : Ren := fun i => if i = id then some ⟨w.heap.size, 0, cap⟩ else β i
    Le β β' ∧ Rl E (upd σ [(.blk id, .blk ⟨e, cells, .op sz⟩)]) β' a (w.drew.alloc (.cells (us.toArray ++ Builtin.zeroCells z.cells (cap - n)) e)) := by
  have h := hr.drew.alloc hid (ty := e) (vs := us) (Builtin.zeroCells z.cells (cap - n)).toList (.op sz) cap (by
    simp only [BM.fits, List.length_append, Array.length_toList, size_zeroCells, hl, hz]
    rw [← Nat.add_mul]; congr 1; omega) hd
  have e1 : (us ++ (Builtin.zeroCells z.cells (cap - n)).toList).toArray = us.toArray ++ Builtin.zeroCells z.cells (cap - n) := by apply Array.ext'; simp
  rw [e1] at h
  exact h

theorem rs_append (ht : TTok E.P tt) {c : Call} {x y : Operand} {u u' : TypeId} {us : List TypeId} {a' b' : SV} (hop : o.op = .call c) (hc : c.callee = .builtin .append) (hargs : c.args.toList = [x, y]) (htys : c.argTypes.toList = u :: u' :: us) (ha : evO s x = some a') (hb : evO s y = some b')
    (hl : Sz E.nt s) (hd : ∀ t, o.dst = some t → t < E.nt) (h : r_append tt o s u u' a' b' = some p) : PostR E ops o s (KE p) := by
  have hm1 : x ∈ o.op.operands.toList := by rw [hop]; simp only [Op.operands, Call.operands, hc]; simp [hargs]
  have hm2 : y ∈ o.op.operands.toList := by rw [hop]; simp only [Op.operands, Call.operands, hc]; simp [hargs]
  unfold r_append at h
  replace h := oO_some h; obtain ⟨i, hi, h⟩ := h
  replace h := oO_some h; obtain ⟨ix, hix, h⟩ := h
  obtain ⟨_, _, d, _, _, _, _, _, hu, hdk⟩ := (tinf_ok ht hi).parts
  obtain ⟨_, _, dx, _, _, _, _, _, hux, hdkx⟩ := (tinf_ok ht hix).parts
  split at h
  · rename_i e e' hk hkx
    rw [hk] at hdk
    rw [hkx] at hdkx
    obtain rfl := kindOf_slice hdk
    obtain rfl := kindOf_slice hdkx
    replace h := oO_some h; obtain ⟨et, het, h⟩ := h
    replace h := gO_some h; obtain ⟨hg, h⟩ := h
    simp only [Bool.and_eq_true] at hg
    obtain ⟨⟨⟨⟨hg1, hg2⟩, hg3⟩, hg4⟩, hg5⟩ := hg
    have hsz := Nat.le_of_ble_eq_true hg2
    have hby := Nat.le_of_ble_eq_true hg3
    obtain ⟨ti, z, _, hti1, hti2, hti3, hti4, hti5, _, _⟩ := (tinf_ok ht het).parts
    have hzs : z.cells.size = et.size := by
      have h1 : z.cells.toList.length = et.size := by rw [hti5]; exact Nat.eq_of_beq_eq_true hg5
      simpa using h1
    replace h := oO_some h; obtain ⟨n, hn, h⟩ := h
    replace h := oO_some h; obtain ⟨⟨rx, lx⟩, hca, h⟩ := h
    replace h := gO_some h; obtain ⟨hg, h⟩ := h
    simp only [Bool.and_eq_true] at hg
    obtain ⟨hpl, hn6⟩ := hg
    have hn6 := Nat.le_of_ble_eq_true hn6
    simp only at h hpl
    have hty : c.argTypes[0]? = some u ∧ c.argTypes[1]? = some u' := by
      constructor
      · rw [← Array.getElem?_toList, htys]; rfl
      · rw [← Array.getElem?_toList, htys]; rfl
    -- the run, by that of the law of append
    have hrun : ∀ {a : Act} {w : World} {r : Result Value}, (Builtin.append_ #[u, u'] o.type #[a.eval x, a.eval y]).run E.P w = r → (∀ v w', r = .ok v w' → (execOp a.eval o).run E.P w = .ok (.value v) w') := by
      intro a w r hr v w' e0
      have hA : c.args.map a.eval = #[a.eval x, a.eval y] := by apply Array.ext'; simp [hargs]
      have hT : Builtin.append_ c.argTypes o.type #[a.eval x, a.eval y] = Builtin.append_ #[u, u'] o.type #[a.eval x, a.eval y] := by
        unfold Builtin.append_
        simp only [hty.1, hty.2]
        rfl
      simp only [execOp, hop, resolve, hc, Sem.run_bind, Sem.run_pure, Result.andThen_ok, invoke, builtin, hA, hT, hr, e0]
    have hsrc : ∀ {r : List Nat} {σ : Sg} {β : Ren} {a : Act} {w : World}, (∀ i ∈ rx, i ∈ r) → Agree ops o s r σ → Rl E σ β a w → ∃ us, denL β lx = some us ∧ Src E.P ti.size u' (a.eval y) n us w := by
      intro r σ β a w hsub hag hr
      have e2 := ev_ok hag hr hm2 hb
      obtain ⟨us, k1, k2, k3, k4, k5⟩ := cellsAt_ok hca hsub hag hr e2 hpl
      obtain ⟨ad, cc, hv⟩ := lenS_ok hn e2
      rw [hti2]
      exact ⟨us, k1, ⟨.inl ⟨e', hux⟩, fun w' => by rw [hv]; rfl, k4, k5, k2, k3⟩⟩
    have fit : ∀ {old : Nat} (need : Nat), old < need → need ≤ 2000000 → Builtin.nextslicecap need old * ti.bytes ≤ 281474976710656 := by
      intro old need h1 h2
      refine growslice_fits h1 ?_
      rw [hti3]
      calc need * et.bytes ≤ 2000000 * 1000000 := Nat.mul_le_mul h2 hby
        _ ≤ _ := by omega
    replace h := oO_some h; obtain ⟨nid, hnid, h⟩ := h
    simp only [Option.some.injEq] at hnid
    subst hnid
    have hfresh := nextB_none s.blks
    generalize nextB s.blks = nid at h hfresh
    have zero : n = 0 → ∀ {base : Option Addr} {len cap : Nat} {r : List Nat}, (∀ i ∈ rx, i ∈ r) → (∀ σ β a w, Agree ops o s r σ → Rl E σ β a w → ∃ base cap, a.eval x = .slice base len cap ∧ len ≤ cap) → some (s.put o a', r, ([] : List Nat)) = some p → PostR E ops o s (KE p) := by
      intro hn0 base len cap r hsub hval h2
      subst hn0
      refine post_val (r := r) h2 hl hd fun σ β a w hag hr => ?_
      obtain ⟨us, k1, k2⟩ := hsrc hsub hag hr
      obtain ⟨base, cap, hv, hle⟩ := hval σ β a w hag hr
      have hus : us = [] := by have := k2.newsLen; simpa using this
      subst hus
      have := run_append_nothing (P := E.P) w u u' o.type e ti hu hti1 base len cap hle (a.eval y) k2
      rw [← hv] at this
      exact ⟨_, hrun this _ _ rfl, ev_ok hag hr hm1 ha⟩
    split at h
    · -- nothing yet
      simp only [sel_eq] at h
      replace h := cond_pq' h; rcases h with ⟨hn0, h⟩ | ⟨hn0, h⟩
      · exact zero (Nat.eq_of_beq_eq_true hn0) (base := none) (len := 0) (cap := 0) (fun _ h => h) (fun σ β a w hag hr => by
          have := ev_ok hag hr hm1 ha
          simp only [SV.den, Option.some.injEq] at this
          exact ⟨none, 0, this.symm, Nat.le_refl _⟩) h
      · have hn0' : n ≠ 0 := fun e => by subst e; simp at hn0
        rw [setB_eq] at h
        refine post_gen (W := [(nid, ⟨e, lx, .op et.size⟩)]) h hl hd (by simp) (by simp) ?_
        intro Q K σ β a w hag hr hK
        have hs : σ (.blk nid) = none := by rw [hag.2 nid (by simp)]; simp [St.sg, hfresh]
        obtain ⟨us, k1, k2⟩ := hsrc (fun i hi => List.mem_cons_of_mem _ hi) hag hr
        have hx := ev_ok hag hr hm1 ha
        simp only [SV.den, Option.some.injEq] at hx
        have hrr := run_append_grow_src (P := E.P) w u u' o.type e ti z hu hti1 hti4 none 0 0 [] (run_firstCells_none w.drew ti.size 0 0 0) (a.eval y) n us k2 (by omega) (by omega) (fit _ (by omega) (by omega))
        rw [hx] at hrr
        rw [Nat.zero_add, List.nil_append] at hrr
        have hex := hrun hrr _ _ rfl
        unfold Oper.wp
        rw [hex, Oper.upon_value]
        obtain ⟨hle, hr1⟩ := grow_new hr hs (e := e) hzs k1 (by have := k2.newsLen; rwa [hti2] at this) (grownCap_ge w n 0 e)
        exact hK _ _ _ hr1 (by simp [SV.den])
    · -- an empty one
      rename_i id
      replace h := gO_some h; obtain ⟨hn0, h⟩ := h
      exact zero (Nat.eq_of_beq_eq_true hn0) (base := none) (len := 0) (cap := 0) (fun _ h => h) (fun σ β a w hag hr => by
          have := ev_ok hag hr hm1 ha
          simp only [SV.den, Option.map_eq_some_iff] at this
          obtain ⟨q, _, hq⟩ := this
          exact ⟨_, _, hq.symm, Nat.zero_le _⟩) h
    · -- a row that grows
      rename_i id eo sz len
      simp only [sel_eq] at h
      replace h := cond_pq' h; rcases h with ⟨hn0, h⟩ | ⟨hn0, h⟩
      · replace h := oO_some h; obtain ⟨b, hb', h⟩ := h
        split at h
        · rename_i sz' hbm
          replace h := gO_some h; obtain ⟨hg, h⟩ := h
          simp only [Bool.and_eq_true] at hg
          obtain ⟨⟨hg1, hg2⟩, hg3⟩ := hg
          obtain rfl := Nat.eq_of_beq_eq_true hg1
          have hg2 := Nat.le_of_ble_eq_true hg2
          have hg3 := Nat.le_of_ble_eq_true hg3
          exact zero (Nat.eq_of_beq_eq_true hn0) (base := none) (len := len) (cap := 0) (fun i hi => List.mem_cons_of_mem _ hi) (fun σ β a w hag hr => by
            have hx := ev_ok hag hr hm1 ha
            simp only [SV.den, Option.map_eq_some_iff] at hx
            obtain ⟨q, hq, hx⟩ := hx
            obtain ⟨hb', hlv⟩ := getL_some hb'
            have hs : σ (.blk id) = some (.blk b) := by rw [hag.2 id (by simp)]; simp [St.sg, hb']
            obtain ⟨q', vs, rest, h1, h2, h3, h4, -⟩ := hr.blk id b hs hlv
            rw [hq] at h1; injection h1 with h1; subst h1
            rw [hbm] at h4
            simp only [BM.fits, List.length_append] at h4
            have := denL_length h2
            refine ⟨_, _, hx.symm, ?_⟩
            have h5 : (eo + len) * sz' ≤ q.c * sz' := by omega
            have h6 := Nat.le_of_mul_le_mul_right h5 (by omega)
            omega) h
        · cases h
      · have hn0' : n ≠ 0 := fun e => by subst e; simp at hn0
        replace h := gO_some h; obtain ⟨hg, h⟩ := h
        simp only [Bool.and_eq_true] at hg
        obtain ⟨⟨hg1, hg2⟩, hg3⟩ := hg
        obtain rfl := Nat.eq_of_beq_eq_true hg1
        obtain rfl := Nat.eq_of_beq_eq_true hg2
        have hg3 := Nat.le_of_ble_eq_true hg3
        replace h := oO_some h; obtain ⟨b, hb', h⟩ := h
        split at h
        · rename_i sz' hbm
          replace h := gO_some h; obtain ⟨hg, h⟩ := h
          simp only [Bool.and_eq_true] at hg
          obtain ⟨hg4, hg5⟩ := hg
          obtain rfl := Nat.eq_of_beq_eq_true hg4
          have hbe := Nat.eq_of_beq_eq_true hg5
          replace h := oO_some h; obtain ⟨lo, hlo, h⟩ := h
          replace h := gO_some h; obtain ⟨hpl2, h⟩ := h
          obtain ⟨hb2, hlv⟩ := getL_some hb'
          have hne : id ≠ nid := fun e => by subst e; rw [hfresh] at hb2; cases hb2
          refine post_gen (W := [(id, ⟨e, [], .dd⟩), (nid, ⟨e, lo ++ lx, .op et.size⟩)]) h hl hd (by simp) (by simp) ?_
          intro Q K σ β a w hag hr hK
          have hs : σ (.blk nid) = none := by rw [hag.2 nid (by simp)]; simp [St.sg, hfresh]
          have hsb : σ (.blk id) = some (.blk b) := by rw [hag.2 id (by simp)]; simp [St.sg, hb2]
          obtain ⟨us, k1, k2⟩ := hsrc (fun i hi => List.mem_cons_of_mem _ (List.mem_cons_of_mem _ hi)) hag hr
          have hx := ev_ok hag hr hm1 ha
          simp only [SV.den, Option.map_eq_some_iff, Nat.zero_mul, Nat.sub_zero] at hx
          obtain ⟨q, hq, hx⟩ := hx
          obtain ⟨q', vs, rest, h1, h2, h3, h4, h5⟩ := hr.blk id b hsb hlv
          rw [hq] at h1; injection h1 with h1; subst h1
          rw [hbm] at h4
          simp only [BM.fits] at h4
          obtain ⟨e1, e2⟩ := subC_some hlo
          have hdlo : denL β lo = some (vs.take (len * et.size)) := by have := denL_take (len * et.size) (denL_drop 0 h2); rw [← e1] at this; simpa using this
          have hllo : (vs.take (len * et.size)).length = len * et.size := by rw [denL_length hdlo, e2]
          have hvl : len * et.size ≤ vs.length := by rw [List.length_take] at hllo; omega
          have hnl : us.length = n * et.size := by have := k2.newsLen; rwa [hti2] at this
          have hkill := hr.kill id ⟨e, [], .dd⟩ rfl ⟨0, 0, 0⟩
          have hβ : (fun i => if i = id ∧ β id = none then some (⟨0, 0, 0⟩ : Bd) else β i) = β := by funext i; simp [hq]
          rw [hβ] at hkill
          have hs2 : upd σ [(Key.blk id, Dn.blk ⟨e, [], .dd⟩)] (.blk nid) = none := by simp [upd, look, hne, hs]
          have hW : WB [(id, (⟨e, [], .dd⟩ : Blk)), (nid, ⟨e, lo ++ lx, .op et.size⟩)] = [(Key.blk nid, Dn.blk ⟨e, lo ++ lx, .op et.size⟩)] ++ [(Key.blk id, Dn.blk ⟨e, [], .dd⟩)] := rfl
          have hden : denL β (lo ++ lx) = some (vs.take (len * et.size) ++ us) := denL_append _ _ hdlo k1
          have hcap : (len + n) * et.size = len * et.size + n * et.size := Nat.add_mul _ _ _
          unfold Oper.wp
          by_cases hroom : len + n ≤ q.c
          · have h6 : (len + n) * et.size ≤ q.c * et.size := Nat.mul_le_mul_right _ hroom
            have hst := storeCells_ok (P := E.P) us w (vs ++ rest) (len * et.size) 0 h3 (by omega) k2.one
            have hrr : (Builtin.append_ #[u, u'] o.type #[.slice (some ⟨q.p, 0, none⟩) len q.c, a.eval y]).run E.P w = .ok (.slice (some ⟨q.p, 0, none⟩) (len + n) q.c) { w with heap := w.heap.setIfInBounds q.p (.cells (spl (vs ++ rest) (len * et.size + 0) us).toArray b.ty (0, 0)) } := by
              have hc1 := k2.cells
              have hl1 := k2.len
              rw [hti2] at hc1
              simp [Builtin.append_, run_underlying hu, run_underlying hux, sizeOf, typeInfo, hti1, hl1, hti2, hroom, hc1, Addr.add_eq]
              simpa using congrArg (fun r => Result.andThen r fun _ w' => Result.ok (Value.slice (some ⟨q.p, 0, none⟩) (len + n) q.c) w') hst
            rw [hx] at hrr
            rw [hrun hrr _ _ rfl, Oper.upon_value]
            have hsp : spl (vs ++ rest) (len * et.size + 0) us = (vs.take (len * et.size) ++ us) ++ (vs ++ rest).drop (len * et.size + us.length) := by
              rw [Nat.add_zero, spl_eq _ _ _ (by omega), List.take_append_of_le_length hvl]
            rw [hsp, hbe] at hrr ⊢
            obtain ⟨hle, hr1⟩ := hkill.adopt hs2 (ty := e) ((vs ++ rest).drop (len * et.size + us.length)) (.op et.size) q.p q.c (by
              simp only [BM.fits, List.length_append, List.length_drop, hllo]
              simp only [List.length_append] at h4
              omega) hden (heap_lt h3) h5 (by
              intro j bj qj hj hjl hqj hpj
              have hji : j ≠ id := fun e' => by subst e'; simp [upd, look] at hj; subst hj; cases hjl
              have hj' : σ (.blk j) = some (.blk bj) := by simpa [upd, look, Ne.symm hji] using hj
              exact hji (hr.inj j id bj b qj q hj' hjl hsb hlv hqj hq hpj))
            rw [← upd_app, ← hW] at hr1
            exact hK _ _ _ hr1 (by simp [SV.den])
          · have hfirst : (Builtin.firstCells ti.size len (.slice (some ⟨q.p, 0, none⟩) len q.c)).run E.P w.drew = .ok (vs.take (len * et.size)).toArray w.drew := by
              rw [hti2]
              refine run_firstCells_some w.drew et.size len ⟨q.p, 0, none⟩ len q.c _ hllo ?_
              intro j v hj
              rw [Addr.add_eq]
              have hjl := (List.getElem?_eq_some_iff.1 hj).1
              rw [List.getElem?_take_of_lt (by omega)] at hj
              have : w.cell? ⟨q.p, 0 + j, none⟩ = some v := by
                rw [cell_of h3]; simp only [Nat.zero_add, List.getElem?_toArray]
                rw [List.getElem?_append_left (by omega)]; exact hj
              exact this
            have hrr := run_append_grow_src (P := E.P) w u u' o.type e ti z hu hti1 hti4 (some ⟨q.p, 0, none⟩) len q.c _ hfirst (a.eval y) n us k2 (by omega) (by omega) (fit _ (by omega) (by omega))
            rw [hx] at hrr
            rw [hrun hrr _ _ rfl, Oper.upon_value]
            obtain ⟨hle, hr1⟩ := grow_new hkill hs2 (e := e) hzs hden (show (vs.take (len * et.size) ++ us).length = (len + n) * et.size by rw [List.length_append, hllo, hnl, hcap]) (grownCap_ge w (len + n) q.c e)
            rw [← upd_app, ← hW] at hr1
            exact hK _ _ _ hr1 (by simp [SV.den])
        · cases h
    · -- a slice of a known row
      rename_i id off len cap
      simp only [sel_eq] at h
      have hval : ∀ {σ : Sg} {β : Ren} {a : Act} {w : World} {r : List Nat}, Agree ops o s r σ → Rl E σ β a w → ∃ q, β id = some q ∧ a.eval x = .slice (some ⟨q.p, off, none⟩) len cap := by
        intro σ β a w r hag hr
        have hx := ev_ok hag hr hm1 ha
        simp only [SV.den, Option.map_eq_some_iff] at hx
        obtain ⟨q, hq, hx⟩ := hx
        exact ⟨q, hq, hx.symm⟩
      replace h := cond_pq' h; rcases h with ⟨hroom, h⟩ | ⟨hroom, h⟩
      · have hroom := Nat.le_of_ble_eq_true hroom
        replace h := cond_pq' h; rcases h with ⟨hn0, h⟩ | ⟨hn0, h⟩
        · exact zero (Nat.eq_of_beq_eq_true hn0) (base := none) (len := len) (cap := cap) (fun _ h => h) (fun σ β a w hag hr => by
            obtain ⟨q, _, hx⟩ := hval hag hr
            exact ⟨_, _, hx, by omega⟩) h
        · replace h := oO_some h; obtain ⟨b, hb', h⟩ := h
          replace h := gO_some h; obtain ⟨hg, h⟩ := h
          have hg := Nat.le_of_ble_eq_true hg
          obtain ⟨hb2, hlv⟩ := getL_some hb'
          rw [setB_eq] at h
          refine post_gen (W := [(id, ⟨b.ty, splice b.cells (off + len * et.size) lx, b.m⟩)]) h hl hd (by simp) (by simp) ?_
          intro Q K σ β a w hag hr hK
          have hsb : σ (.blk id) = some (.blk b) := by rw [hag.2 id (by simp)]; simp [St.sg, hb2]
          obtain ⟨us, k1, k2⟩ := hsrc (fun i hi => List.mem_cons_of_mem _ hi) hag hr
          obtain ⟨q, hq, hx⟩ := hval hag hr
          obtain ⟨q', vs, rest, h1, h2, h3, h4, h5⟩ := hr.blk id b hsb hlv
          rw [hq] at h1; injection h1 with h1; subst h1
          have hnl : us.length = n * et.size := by have := k2.newsLen; rwa [hti2] at this
          have hvl := denL_length h2
          have hst := storeCells_ok (P := E.P) us w (vs ++ rest) (off + len * et.size) 0 h3 (by simp; omega) k2.one
          have hrr : (Builtin.append_ #[u, u'] o.type #[a.eval x, a.eval y]).run E.P w = .ok (.slice (some ⟨q.p, off, none⟩) (len + n) cap) { w with heap := w.heap.setIfInBounds q.p (.cells (spl (vs ++ rest) (off + len * et.size + 0) us).toArray b.ty (0, 0)) } := by
            have hc1 := k2.cells
            have hl1 := k2.len
            rw [hti2] at hc1
            rw [hx]
            simp [Builtin.append_, run_underlying hu, run_underlying hux, sizeOf, typeInfo, hti1, hl1, hti2, hroom, hc1, Addr.add_eq]
            simpa using congrArg (fun r => Result.andThen r fun _ w' => Result.ok (Value.slice (some ⟨q.p, off, none⟩) (len + n) cap) w') hst
          unfold Oper.wp
          rw [hrun hrr _ _ rfl, Oper.upon_value, Nat.add_zero, spl_append _ _ _ _ (by omega)]
          refine hK β _ _ (hr.setBlk hsb hlv hq (denL_spl _ _ _ _ _ k1 h2) ?_) (by simp [SV.den, hq])
          have : (spl vs (off + len * et.size) us ++ rest).length = (vs ++ rest).length := by simp [spl_length]
          rw [this]; exact h4
      · have hroom : ¬ (len + n ≤ cap) := fun hh => by have := Nat.ble_eq_true_of_le hh; rw [this] at hroom; cases hroom
        replace h := gO_some h; obtain ⟨hg3, h⟩ := h
        have hg3 := Nat.le_of_ble_eq_true hg3
        replace h := oO_some h; obtain ⟨b, hb', h⟩ := h
        replace h := oO_some h; obtain ⟨lo, hlo, h⟩ := h
        replace h := gO_some h; obtain ⟨hpl2, h⟩ := h
        obtain ⟨hb2, hlv⟩ := getL_some hb'
        rw [setB_eq] at h
        refine post_gen (W := [(nid, ⟨e, lo ++ lx, .op et.size⟩)]) h hl hd (by simp) (by simp) ?_
        intro Q K σ β a w hag hr hK
        have hs : σ (.blk nid) = none := by rw [hag.2 nid (by simp)]; simp [St.sg, hfresh]
        have hsb : σ (.blk id) = some (.blk b) := by rw [hag.2 id (by simp)]; simp [St.sg, hb2]
        obtain ⟨us, k1, k2⟩ := hsrc (fun i hi => List.mem_cons_of_mem _ (List.mem_cons_of_mem _ hi)) hag hr
        obtain ⟨q, hq, hx⟩ := hval hag hr
        obtain ⟨q', vs, rest, h1, h2, h3, h4, h5⟩ := hr.blk id b hsb hlv
        rw [hq] at h1; injection h1 with h1; subst h1
        obtain ⟨e1, e2⟩ := subC_some hlo
        have hdlo : denL β lo = some ((vs.drop off).take (len * et.size)) := by have := denL_take (len * et.size) (denL_drop off h2); rwa [← e1] at this
        have hllo : ((vs.drop off).take (len * et.size)).length = len * et.size := by rw [denL_length hdlo, e2]
        have hnl : us.length = n * et.size := by have := k2.newsLen; rwa [hti2] at this
        have hden : denL β (lo ++ lx) = some ((vs.drop off).take (len * et.size) ++ us) := denL_append _ _ hdlo k1
        have hfirst : (Builtin.firstCells ti.size len (.slice (some ⟨q.p, off, none⟩) len cap)).run E.P w.drew = .ok ((vs.drop off).take (len * et.size)).toArray w.drew := by
          rw [hti2]
          refine run_firstCells_some w.drew et.size len ⟨q.p, off, none⟩ len cap _ hllo ?_
          intro j v hj
          rw [Addr.add_eq]
          have hjl := (List.getElem?_eq_some_iff.1 hj).1
          rw [List.getElem?_take_of_lt (by omega), List.getElem?_drop] at hj
          have hlt := (List.getElem?_eq_some_iff.1 hj).1
          have : w.cell? ⟨q.p, off + j, none⟩ = some v := by
            rw [cell_of h3]; simp only [List.getElem?_toArray]
            rw [List.getElem?_append_left hlt]; exact hj
          exact this
        have hrr := run_append_grow_src (P := E.P) w u u' o.type e ti z hu hti1 hti4 (some ⟨q.p, off, none⟩) len cap _ hfirst (a.eval y) n us k2 (by omega) (by omega) (fit _ (by omega) (by omega))
        rw [← hx] at hrr
        unfold Oper.wp
        rw [hrun hrr _ _ rfl, Oper.upon_value]
        obtain ⟨hle, hr1⟩ := grow_new hr hs (e := e) hzs hden (show ((vs.drop off).take (len * et.size) ++ us).length = (len + n) * et.size by rw [List.length_append, hllo, hnl, Nat.add_mul]) (grownCap_ge w (len + n) cap e)
        exact hK _ _ _ hr1 (by simp [SV.den])
    · cases h
  · cases h

end
end

noncomputable section

section
variable {E : Env} {ops : Array Oper} {o : Oper} {s : St} {tt : TT} {p : St × List Nat × List Nat}

theorem kindOf_ptr {d : TypeDesc} {e : Nat} (h : kindOf d = .ptr e) : d = .pointer e := by
  cases d <;> simp [kindOf] at h; subst h; rfl
theorem bnd_ok {x : Option Operand} {y : Option Nat} (h : bnd s x = some y) {r : List Nat} {σ : Sg} {β : Ren} {a : Act} {w : World} (hag : Agree ops o s r σ) (hr : Rl E σ β a w) (hm : ∀ z, x = some z → z ∈ o.op.operands.toList) :
    (x.map a.eval = none ∧ y = none) ∨ ∃ k m, x.map a.eval = some (.int k m) ∧ 0 ≤ m ∧ y = some m.toNat := by
  cases x with
  | none => simp only [bnd, Option.some.injEq] at h; exact .inl ⟨rfl, h.symm⟩
  | some z =>
    simp only [bnd] at h
    split at h
    · rename_i k m hz
      replace h := gO_some h; obtain ⟨h1, h⟩ := h
      have := ev_ok hag hr (hm z rfl) hz
      simp only [SV.den, Option.some.injEq] at this
      exact .inr ⟨k, m, by simp [← this], by simpa using h1, (Option.some.inj h).symm⟩
    · cases h

theorem bounds_run {P : Program} {w : World} {b : Bool} {len cap : Nat} {lo hi : Option Value} {l h : Option Nat} (hlo : (lo = none ∧ l = none) ∨ ∃ k m, lo = some (.int k m) ∧ 0 ≤ m ∧ l = some m.toNat) (hhi : (hi = none ∧ h = none) ∨ ∃ k m, hi = some (.int k m) ∧ 0 ≤ m ∧ h = some m.toNat)
    (h1 : h.getD len ≤ cap) (h2 : l.getD 0 ≤ h.getD len) : (Instr.sliceBounds b len cap lo hi none).run P w = .ok (l.getD 0, h.getD len, cap) w := by
  rcases hlo with ⟨rfl, rfl⟩ | ⟨k, m, rfl, hm, rfl⟩ <;> rcases hhi with ⟨rfl, rfl⟩ | ⟨k', m', rfl, hm', rfl⟩
  · simp [Instr.sliceBounds]
  · simp only [Option.getD_some, Option.getD_none] at h1 h2
    simp [Instr.sliceBounds, Instr.sliceBound, asIntOf, hm', show m' ≤ (cap : Int) by omega]
  · simp only [Option.getD_some, Option.getD_none] at h1 h2
    simp [Instr.sliceBounds, Instr.sliceBound, asIntOf, hm, show m ≤ (len : Int) by omega]
  · simp only [Option.getD_some, Option.getD_none] at h1 h2
    simp [Instr.sliceBounds, Instr.sliceBound, asIntOf, hm, hm', show m' ≤ (cap : Int) by omega, show m ≤ max m' 0 by omega]

theorem rs_slice (ht : TTok E.P tt) {t : TypeId} {x : Operand} {lo hi mx : Option Operand} (hop : o.op = .slice t x lo hi mx) (hl : Sz E.nt s) (hd : ∀ t, o.dst = some t → t < E.nt) (h : r_slice tt o s t x lo hi mx = some p) : PostR E ops o s (KE p) := by
  have hm1 : x ∈ o.op.operands.toList := by rw [hop]; simp [Op.operands]
  have hm2 : ∀ z, lo = some z → z ∈ o.op.operands.toList := by rintro z rfl; rw [hop]; simp [Op.operands]
  have hm3 : ∀ z, hi = some z → z ∈ o.op.operands.toList := by rintro z rfl; rw [hop]; simp [Op.operands]
  unfold r_slice at h
  cases mx with
  | some _ => cases h
  | none =>
    simp only at h
    replace h := oO_some h; obtain ⟨a', ha, h⟩ := h
    replace h := oO_some h; obtain ⟨l', hlo, h⟩ := h
    replace h := oO_some h; obtain ⟨h', hhi, h⟩ := h
    replace h := oO_some h; obtain ⟨i, hi', h⟩ := h
    obtain ⟨_, _, d, _, _, _, _, _, hu, hdk⟩ := (tinf_ok ht hi').parts
    have run : ∀ {a : Act} {w : World} {v : Value} {w' : World}, (Instr.sliceAt t (a.eval x) (lo.map a.eval) (hi.map a.eval) none).run E.P w = .ok v w' → (execOp a.eval o).run E.P w = .ok (.value v) w' := by
      intro a w v w' hh
      exact execv' (x := Instr.sliceAt t (a.eval x) (lo.map a.eval) (hi.map a.eval) (Option.map a.eval none)) (by simp only [execOp, hop]) (by simpa using hh)
    split at h
    · -- a string
      rename_i hk
      rw [hk] at hdk
      obtain rfl := kindOf_str hdk
      split at h
      · rename_i b
        replace h := oO_some h; obtain ⟨hh, hhe, h⟩ := h
        replace h := oO_some h; obtain ⟨ll, hle, h⟩ := h
        simp only [Option.some.injEq] at hhe hle
        subst hhe hle
        replace h := gO_some h; obtain ⟨hg, h⟩ := h
        simp only [Bool.and_eq_true] at hg
        have g1 := Nat.le_of_ble_eq_true hg.1
        have g2 := Nat.le_of_ble_eq_true hg.2
        refine post_val (r := []) h hl hd fun σ β a w hag hr => ⟨_, ?_, rfl⟩
        have e1 := ev_ok hag hr hm1 ha
        simp only [SV.den, Option.some.injEq] at e1
        refine run ?_
        have hb := bounds_run (P := E.P) (w := w) (b := false) (bnd_ok hlo hag hr hm2) (bnd_ok hhi hag hr hm3) g1 g2
        simp only [Instr.sliceAt, Instr.slice, Sem.run_bind, run_underlying' w hu, Result.andThen_ok, ← e1]
        simp [hb]
      · cases h
    · -- a slice
      rename_i e hk
      rw [hk] at hdk
      obtain rfl := kindOf_slice hdk
      replace h := oO_some h; obtain ⟨et, het, h⟩ := h
      split at h
      · rename_i id off len cap
        replace h := oO_some h; obtain ⟨hh, hhe, h⟩ := h
        replace h := oO_some h; obtain ⟨ll, hle, h⟩ := h
        simp only [Option.some.injEq] at hhe hle
        subst hhe hle
        replace h := gO_some h; obtain ⟨hg, h⟩ := h
        simp only [Bool.and_eq_true] at hg
        have g1 := Nat.le_of_ble_eq_true hg.1
        have g2 := Nat.le_of_ble_eq_true hg.2
        refine post_val (r := []) h hl hd fun σ β a w hag hr => ?_
        have e1 := ev_ok hag hr hm1 ha
        simp only [SV.den, Option.map_eq_some_iff] at e1
        obtain ⟨q, hq, e1⟩ := e1
        refine ⟨.slice (some ⟨q.p, if cap = l'.getD 0 then off else off + l'.getD 0 * et.size, none⟩) (h'.getD len - l'.getD 0) (cap - l'.getD 0), run ?_, ?_⟩
        · simp only [Instr.sliceAt, Instr.slice, Sem.run_bind, run_underlying' w hu, Result.andThen_ok, ← e1, bounds_run (bnd_ok hlo hag hr hm2) (bnd_ok hhi hag hr hm3) g1 g2, run_sizeOf' w (tinf_ok ht het), Sem.run_pure]
          by_cases hc : cap = l'.getD 0 <;> simp [hc, Addr.add_eq]
        · simp only [SV.den, hq, Option.map_some, sel_eq]
          by_cases hc : cap = l'.getD 0
          · rw [if_pos hc, show Nat.beq cap (l'.getD 0) = true by rw [← hc]; simp]; rfl
          · rw [if_neg hc, nbeq_ne hc]; rfl
      · -- a row that may have room
        rename_i id eo sz len
        replace h := oO_some h; obtain ⟨hh, hhe, h⟩ := h
        replace h := oO_some h; obtain ⟨ll, hle, h⟩ := h
        simp only [Option.some.injEq] at hhe hle
        subst hhe hle
        replace h := oO_some h; obtain ⟨b, hb, h⟩ := h
        split at h
        · rename_i sz' hbm
          replace h := gO_some h; obtain ⟨hg, h⟩ := h
          simp only [Bool.and_eq_true] at hg
          obtain ⟨⟨⟨⟨⟨k1, k2⟩, k3⟩, k4⟩, k5⟩, k6⟩ := hg
          obtain rfl := Nat.eq_of_beq_eq_true k1
          have k2 := Nat.eq_of_beq_eq_true k2
          have k3 := Nat.le_of_ble_eq_true k3
          have k4 := Nat.le_of_ble_eq_true k4
          have k5 := Nat.le_of_ble_eq_true k5
          have k6 := Nat.le_of_ble_eq_true k6
          obtain ⟨hb2, hlv⟩ := getL_some hb
          have fact : ∀ {r : List Nat} {σ : Sg} {β : Ren} {a : Act} {w : World}, id ∈ r → Agree ops o s r σ → Rl E σ β a w → ∃ q, β id = some q ∧ a.eval x = .slice (some ⟨q.p, eo * sz', none⟩) len (q.c - eo) ∧ eo + len ≤ q.c := by
            intro r σ β a w hid hag hr
            have e1 := ev_ok hag hr hm1 ha
            simp only [SV.den, Option.map_eq_some_iff] at e1
            obtain ⟨q, hq, e1⟩ := e1
            have hs : σ (.blk id) = some (.blk b) := by rw [hag.2 id hid]; simp [St.sg, hb2]
            obtain ⟨q', vs, rest, h1, h2, h3, h4, -⟩ := hr.blk id b hs hlv
            rw [hq] at h1; injection h1 with h1; subst h1
            rw [hbm] at h4
            simp only [BM.fits, List.length_append] at h4
            have := denL_length h2
            refine ⟨q, hq, e1.symm, ?_⟩
            have h5 : (eo + len) * sz' ≤ q.c * sz' := by omega
            exact Nat.le_of_mul_le_mul_right h5 (by omega)
          simp only [sel_eq] at h
          replace h := cond_pq' h; rcases h with ⟨hcase, h⟩ | ⟨hcase, h⟩
          · refine post_val (r := [id]) h hl hd fun σ β a w hag hr => ?_
            obtain ⟨q, hq, e1, hcap⟩ := fact (by simp) hag hr
            refine ⟨.slice (some ⟨q.p, (eo + l'.getD 0) * sz', none⟩) (h'.getD len - l'.getD 0) (q.c - eo - l'.getD 0), run ?_, ?_⟩
            · simp only [Instr.sliceAt, Instr.slice, Sem.run_bind, run_underlying' w hu, Result.andThen_ok, e1, bounds_run (bnd_ok hlo hag hr hm2) (bnd_ok hhi hag hr hm3) (show h'.getD len ≤ q.c - eo by omega) k5, run_sizeOf' w (tinf_ok ht het), Sem.run_pure]
              rw [← k2]
              have hadd : (⟨q.p, eo * sz', none⟩ : Addr).add (l'.getD 0 * sz') = ⟨q.p, (eo + l'.getD 0) * sz', none⟩ := by rw [Addr.add_eq, Nat.add_mul]
              by_cases hc : q.c - eo = l'.getD 0
              · have hl0 : l'.getD 0 = 0 := by
                  simp only [Bool.or_eq_true] at hcase
                  rcases hcase with hc1 | hc1
                  · have := Nat.le_of_ble_eq_true hc1; omega
                  · exact Nat.eq_of_beq_eq_true hc1
                simp [hc, hl0]
              · simp [hc, hadd]
            · simp only [SV.den, hq, Option.map_some]
              congr 2
              omega
          · rw [setB_eq] at h
            refine post_gen (W := [(nextB s.blks, ⟨0, [], .dd⟩)]) h hl hd (by simp) (by simp) ?_
            intro Q K σ β a w hag hr hK
            have hs : σ (.blk (nextB s.blks)) = none := by rw [hag.2 _ (by simp)]; simp [St.sg, nextB_none]
            obtain ⟨q, hq, e1, hcap⟩ := fact (by simp) hag hr
            have hn := hr.fresh _ hs
            have hl0 : h'.getD len - l'.getD 0 = 0 := by
              simp only [Bool.or_eq_false_iff] at hcase
              have : ¬ (l'.getD 0 + 1 ≤ len) := fun hh => by have := Nat.ble_eq_true_of_le hh; rw [this] at hcase; cases hcase.1
              omega
            have hrun := bounds_run (P := E.P) (w := w) (b := true) (len := len) (cap := q.c - eo) (bnd_ok hlo hag hr hm2) (bnd_ok hhi hag hr hm3) (show h'.getD len ≤ q.c - eo by omega) k5
            obtain ⟨off, hoff⟩ : ∃ off, (execOp a.eval o).run E.P w = .ok (.value (.slice (some ⟨q.p, off, none⟩) 0 (q.c - eo - l'.getD 0))) w := by
              refine ⟨if q.c - eo = l'.getD 0 then eo * sz' else eo * sz' + l'.getD 0 * et.size, run ?_⟩
              simp only [Instr.sliceAt, Instr.slice, Sem.run_bind, run_underlying' w hu, Result.andThen_ok, e1, hrun, run_sizeOf' w (tinf_ok ht het), Sem.run_pure, hl0]
              by_cases hc : q.c - eo = l'.getD 0 <;> simp [hc, Addr.add_eq]
            unfold Oper.wp
            rw [hoff, Oper.upon_value]
            have hk := hr.kill (nextB s.blks) ⟨0, [], .dd⟩ rfl ⟨q.p, off, q.c - eo - l'.getD 0⟩
            exact hK _ _ _ hk (by simp [SV.den, hn])
        · cases h
      · -- an empty one
        rename_i id
        replace h := gO_some h; obtain ⟨hg, h⟩ := h
        simp only [Bool.and_eq_true] at hg
        have g1 := Nat.eq_of_beq_eq_true hg.1
        have g2 := Nat.eq_of_beq_eq_true hg.2
        refine post_val (r := []) h hl hd fun σ β a w hag hr => ?_
        have e1 := ev_ok hag hr hm1 ha
        simp only [SV.den, Option.map_eq_some_iff] at e1
        obtain ⟨q, hq, e1⟩ := e1
        refine ⟨.slice (some ⟨q.p, q.o, none⟩) 0 q.c, run ?_, by simp [SV.den, hq]⟩
        simp only [Instr.sliceAt, Instr.slice, Sem.run_bind, run_underlying' w hu, Result.andThen_ok, ← e1, bounds_run (bnd_ok hlo hag hr hm2) (bnd_ok hhi hag hr hm3) (show h'.getD 0 ≤ q.c by omega) (show l'.getD 0 ≤ h'.getD 0 by omega), run_sizeOf' w (tinf_ok ht het), Sem.run_pure]
        simp [g1, g2, Addr.add_eq]
      · rename_i len cap
        replace h := oO_some h; obtain ⟨hh, hhe, h⟩ := h
        replace h := oO_some h; obtain ⟨ll, hle, h⟩ := h
        simp only [Option.some.injEq] at hhe hle
        subst hhe hle
        replace h := gO_some h; obtain ⟨hg, h⟩ := h
        simp only [Bool.and_eq_true] at hg
        have g1 := Nat.le_of_ble_eq_true hg.1
        have g2 := Nat.le_of_ble_eq_true hg.2
        refine post_val (r := []) h hl hd fun σ β a w hag hr => ⟨_, run ?_, rfl⟩
        have e1 := ev_ok hag hr hm1 ha
        simp only [SV.den, Option.some.injEq] at e1
        simp only [Instr.sliceAt, Instr.slice, Sem.run_bind, run_underlying' w hu, Result.andThen_ok, ← e1, bounds_run (bnd_ok hlo hag hr hm2) (bnd_ok hhi hag hr hm3) g1 g2, run_sizeOf' w (tinf_ok ht het), Sem.run_pure]
        simp
      · cases h
    · -- an array behind a pointer
      rename_i arr hk
      rw [hk] at hdk
      obtain rfl := kindOf_ptr hdk
      replace h := oO_some h; obtain ⟨ia, hia, h⟩ := h
      obtain ⟨_, _, da, _, _, _, _, _, hua, hdka⟩ := (tinf_ok ht hia).parts
      split at h
      · rename_i n e hk2
        rw [hk2] at hdka
        obtain rfl := kindOf_arr hdka
        replace h := oO_some h; obtain ⟨et, het, h⟩ := h
        split at h
        · rename_i id off
          replace h := oO_some h; obtain ⟨hh, hhe, h⟩ := h
          replace h := oO_some h; obtain ⟨ll, hle, h⟩ := h
          simp only [Option.some.injEq] at hhe hle
          subst hhe hle
          replace h := gO_some h; obtain ⟨hg, h⟩ := h
          simp only [Bool.and_eq_true] at hg
          have g1 := Nat.le_of_ble_eq_true hg.1
          have g2 := Nat.le_of_ble_eq_true hg.2
          refine post_val (r := []) h hl hd fun σ β a w hag hr => ?_
          have e1 := ev_ok hag hr hm1 ha
          simp only [SV.den, Option.map_eq_some_iff] at e1
          obtain ⟨q, hq, e1⟩ := e1
          refine ⟨.slice (some ⟨q.p, if n = l'.getD 0 then off else off + l'.getD 0 * et.size, none⟩) (h'.getD n - l'.getD 0) (n - l'.getD 0), run ?_, ?_⟩
          · simp only [Instr.sliceAt, Instr.slice, Sem.run_bind, run_underlying' w hu, run_underlying' w hua, Result.andThen_ok, ← e1, asAddr, Sem.run_pure, bounds_run (bnd_ok hlo hag hr hm2) (bnd_ok hhi hag hr hm3) g1 g2, run_sizeOf' w (tinf_ok ht het)]
            by_cases hc : n = l'.getD 0 <;> simp [hc, Addr.add_eq]
          · simp only [SV.den, hq, Option.map_some, sel_eq]
            by_cases hc : n = l'.getD 0
            · rw [if_pos hc, show Nat.beq n (l'.getD 0) = true by rw [← hc]; simp]; rfl
            · rw [if_neg hc, nbeq_ne hc]; rfl
        · cases h
      · cases h
    · cases h

end
end

noncomputable section

theorem range_step (k n : Nat) : List.range ((n + 1) * k) = List.range k ++ (List.range (n * k)).map (k + ·) := by
  rw [Nat.add_mul, Nat.one_mul, Nat.add_comm, List.range_add]
theorem repC_den (β : Ren) {z : List Value} {k : Nat} (hz : z.length = k) (hk : 0 < k) : ∀ n, denL β (repC z n) = some ((List.range (n * k)).map fun i => z.toArray[i % k]!)
  | 0 => by simp [repC, denL]
  | n + 1 => by
    simp only [repC]
    rw [range_step, List.map_append, List.map_map]
    have h1 : (List.range k).map (fun i => z.toArray[i % k]!) = z := by
      apply List.ext_getElem
      · simp [hz]
      · intro i h2 h3
        simp only [List.length_map, List.length_range] at h2
        simp [Nat.mod_eq_of_lt h2, h3]
    have h2 : ((fun i => z.toArray[i % k]!) ∘ fun x => k + x) = fun i => z.toArray[i % k]! := by
      funext i
      simp
    rw [h1, h2]
    exact denL_append _ _ (denL_ofC1 β z) (repC_den β hz hk n)

section
variable {E : Env} {ops : Array Oper} {o : Oper} {s : St} {tt : TT} {p : St × List Nat × List Nat}

theorem rs_buildSlice (ht : TTok E.P tt) {t : TypeId} {len : Nat} {ps : Array (Nat × Operand)} (hop : o.op = .buildSlice t len ps) (hl : Sz E.nt s) (hd : ∀ t, o.dst = some t → t < E.nt) (h : r_buildSlice tt o s t len ps = some p) : PostR E ops o s (KE p) := by
  unfold r_buildSlice at h
  replace h := oO_some h; obtain ⟨i, hi, h⟩ := h
  obtain ⟨_, _, d, _, _, _, _, _, hu, hdk⟩ := (tinf_ok ht hi).parts
  split at h
  · rename_i e hk
    rw [hk] at hdk
    obtain rfl := kindOf_slice hdk
    replace h := oO_some h; obtain ⟨et, het, h⟩ := h
    replace h := gO_some h; obtain ⟨hg, h⟩ := h
    simp only [Bool.and_eq_true] at hg
    obtain ⟨⟨k1, k2⟩, k3⟩ := hg
    have k1 := Nat.le_of_ble_eq_true k1
    have k2 := Nat.le_of_ble_eq_true k2
    have k3 := Nat.eq_of_beq_eq_true k3
    replace h := oO_some h; obtain ⟨l, hl2, h⟩ := h
    replace h := oO_some h; obtain ⟨cs, hcs, h⟩ := h
    refine post_alloc h hl hd (nextB_none _) fun σ β a w hag hr => ?_
    obtain ⟨vs, e1, e2, e3⟩ := evP_ok hag hr ps.toList l (fun p hp => by rw [hop]; simp only [Op.operands]; simp; exact ⟨p.1, by simpa using hp⟩) hl2
    subst e3
    have hz := repC_den β k3 (by omega) len
    obtain ⟨ws, f1, f2⟩ := fill_ok l _ cs _ _ hcs hz e2
    rw [e1, zip_map_fst] at f1
    obtain ⟨ti, z, _, hti1, hti2, hti3, hti4, hti5, _, _⟩ := (tinf_ok ht het).parts
    refine ⟨ws.toList, .slice (some ⟨w.heap.size, 0, none⟩) len len, ?_, by simpa using f2, fun β' hb' => by simp [SV.den, hb']⟩
    have hps : (ps.map fun x => (x.1, a.eval x.2)).toList = ps.toList.map fun p => (p.1, a.eval p.2) := by simp
    have hzz : z.cells = et.zero.toArray := by apply Array.ext'; simp [hti5]
    have hzero : (zeroValue e).run E.P w = .ok z w := by simp [zeroValue, run_typeInfo' w hti1, hti4]
    have hrow : ((Array.range (len * et.size)).map (z.cells[· % z.cells.size]!)) = ((List.range (len * et.size)).map fun i => et.zero.toArray[i % et.size]!).toArray := by
      apply Array.ext'
      rw [hzz]
      simp [k3]
    refine execv' (x := Instr.buildSlice t len (ps.map fun (i, x) => (i, a.eval x))) (by simp only [execOp, hop]) ?_
    simp only [Instr.buildSlice, Sem.run_bind, run_underlying' w hu, run_sizeOf' w (tinf_ok ht het), Result.andThen_ok]
    rw [if_neg (by omega)]
    by_cases h0 : len * et.size = 0
    · have hl0 : len = 0 := by rcases Nat.mul_eq_zero.1 h0 with h | h <;> omega
      simp only [h0, if_true, Sem.run_pure, Sem.run_bind, Result.andThen_ok]
      rw [hps]
      have : ((Array.range 0).map ((#[] : Array Value)[· % (#[] : Array Value).size]!)) = ((List.range (len * et.size)).map fun i => et.zero.toArray[i % et.size]!).toArray := by simp [h0]
      rw [this, f1]
      simp [newRow, run_newObj]
    · simp only [h0, if_false, Sem.run_pure, Sem.run_bind, Result.andThen_ok, hzero]
      rw [hps, hrow, f1]
      simp [newRow, run_newObj]
  · cases h

theorem rs_makeSlice (ht : TTok E.P tt) {t : TypeId} {x y : Operand} (hop : o.op = .makeSlice t x y) (hl : Sz E.nt s) (hd : ∀ t, o.dst = some t → t < E.nt) (h : r_makeSlice tt o s t x y = some p) : PostR E ops o s (KE p) := by
  unfold r_makeSlice at h
  replace h := oO_some h; obtain ⟨i, hi, h⟩ := h
  replace h := oO_some h; obtain ⟨av, ha, h⟩ := h
  replace h := oO_some h; obtain ⟨bv, hb, h⟩ := h
  obtain ⟨_, _, d, _, _, _, _, _, hu, hdk⟩ := (tinf_ok ht hi).parts
  split at h
  · rename_i e kl l kc c hk
    rw [hk] at hdk
    obtain rfl := kindOf_slice hdk
    replace h := oO_some h; obtain ⟨et, het, h⟩ := h
    replace h := gO_some h; obtain ⟨hg, h⟩ := h
    simp only [Bool.and_eq_true, decide_eq_true_eq] at hg
    obtain ⟨⟨⟨⟨⟨g1, g2⟩, g3⟩, g4⟩, k2⟩, k3⟩ := hg
    have g4 := Nat.le_of_ble_eq_true g4
    have k2 := Nat.le_of_ble_eq_true k2
    have k3 := Nat.eq_of_beq_eq_true k3
    refine post_alloc h hl hd (nextB_none _) fun σ β a w hag hr => ?_
    have e1 := ev_ok hag hr (by rw [hop]; simp [Op.operands]) ha
    have e2 := ev_ok hag hr (by rw [hop]; simp [Op.operands]) hb
    simp only [SV.den, Option.some.injEq] at e1 e2
    have hz := repC_den β k3 (by omega) c.toNat
    obtain ⟨ti, z, _, hti1, hti2, hti3, hti4, hti5, _, _⟩ := (tinf_ok ht het).parts
    refine ⟨_, .slice (some ⟨w.heap.size, 0, none⟩) l.toNat c.toNat, ?_, hz, fun β' hb' => by simp [SV.den, hb']⟩
    have hzz : z.cells = et.zero.toArray := by apply Array.ext'; simp [hti5]
    have hzero : (zeroValue e).run E.P w = .ok z w := by simp [zeroValue, run_typeInfo' w hti1, hti4]
    have hrow : ((Array.range (c.toNat * et.size)).map (z.cells[· % z.cells.size]!)) = ((List.range (c.toNat * et.size)).map fun i => et.zero.toArray[i % et.size]!).toArray := by
      apply Array.ext'
      rw [hzz]
      simp [k3]
    have wl : IntKind.i64.wrap l = l := IntWalk.i64_in _ (by omega)
    have wc : IntKind.i64.wrap c = c := IntWalk.i64_in _ (by omega)
    have hb : (et.bytes : Int) * c ≤ 281474976710656 := by
      have : (et.bytes : Int) * c ≤ 1000000 * 1000000 := Int.mul_le_mul (by omega) (by omega) (by omega) (by omega)
      omega
    have hroom : ∀ n, (askRoom n).run E.P w = .ok () w := by intro n; unfold askRoom; split <;> simp [Sem.run]
    refine execv' (x := Instr.makeSlice t (a.eval x) (a.eval y)) (by simp only [execOp, hop]) ?_
    rw [← e1, ← e2]
    simp only [Instr.makeSlice, Sem.run_bind, run_underlying' w hu, Result.andThen_ok, asInt, asIntOf, Sem.run_pure, run_typeInfo' w hti1, wl, wc, hti3]
    have c1 : ¬ ((decide (c < 0) || decide ((et.bytes : Int) * c > 2 ^ 48)) || decide (l < 0) || decide (l > c)) = true := by
      simp
      omega
    rw [if_neg c1]
    simp only [Sem.run_bind, hroom, Result.andThen_ok, run_sizeOf' w (tinf_ok ht het)]
    by_cases h0 : c.toNat * et.size = 0
    · have e0 : ((Array.range 0).map fun _ => (default : Value)) = #[] := by simp
      simp [h0, newRow, run_newObj, e0]
    · simp only [h0, if_false, Sem.run_pure, Sem.run_bind, Result.andThen_ok, hzero, hrow]
      simp [newRow, run_newObj]
  · cases h

theorem bi_run {c : Call} {b : Builtin} (hop : o.op = .call c) (hc : c.callee = .builtin b) {a : Act} {w w' : World} {n : Next} (h : (builtin b c.argTypes o.type (c.args.map fun | .const _ => true | _ => false) (c.args.map a.eval)).run E.P w = .ok n w') : (execOp a.eval o).run E.P w = .ok n w' := by
  simp only [execOp, hop, resolve, hc, Sem.run_bind, Sem.run_pure, Result.andThen_ok, invoke]
  exact h
theorem bi_mem {c : Call} {b : Builtin} (hop : o.op = .call c) (hc : c.callee = .builtin b) {x : Operand} (hx : x ∈ c.args.toList) : x ∈ o.op.operands.toList := by
  rw [hop]; simp only [Op.operands, Call.operands, hc]; simpa using hx
theorem args1 {c : Call} {x : Operand} (h : c.args.toList = [x]) (f : Operand → Value) : c.args.map f = #[f x] := by apply Array.ext'; simp [h]
theorem args2 {c : Call} {x y : Operand} (h : c.args.toList = [x, y]) (f : Operand → Value) : c.args.map f = #[f x, f y] := by apply Array.ext'; simp [h]
theorem at0 {c : Call} {u : TypeId} {us : List TypeId} (h : c.argTypes.toList = u :: us) : c.argTypes[0]? = some u := by rw [← Array.getElem?_toList, h]; rfl

theorem rs_len (ht : TTok E.P tt) {c : Call} {x : Operand} {u : TypeId} {us : List TypeId} (hop : o.op = .call c) (hc : c.callee = .builtin .len) (hargs : c.args.toList = [x]) (htys : c.argTypes.toList = u :: us)
    (hl : Sz E.nt s) (hd : ∀ t, o.dst = some t → t < E.nt) (h : r_len tt o s x u = some p) : PostR E ops o s (KE p) := by
  unfold r_len at h
  replace h := oO_some h; obtain ⟨y, hy, h⟩ := h
  replace h := oO_some h; obtain ⟨i, hi, h⟩ := h
  obtain ⟨_, _, d, _, _, _, _, _, hu, hdk⟩ := (tinf_ok ht hi).parts
  have gen : ∀ {n : Nat}, (∀ β v w, y.den β = some v → (Builtin.len_ c.argTypes o.type #[v]).run E.P w = .ok (.int .i64 (n : Int)) w) → some (s.put o (.lit .i64 (n : Int)), ([] : List Nat), ([] : List Nat)) = some p → PostR E ops o s (KE p) := by
    intro n hden h
    refine post_val (r := []) h hl hd fun σ β a w hag hr => ⟨_, ?_, rfl⟩
    have e1 := ev_ok hag hr (bi_mem hop hc (by rw [hargs]; simp)) hy
    refine bi_run hop hc ?_
    simp only [builtin, args1 hargs, Sem.run_bind, hden β _ w e1, Result.andThen_ok, Sem.run_pure]
  split at h
  · rename_i ad len cap hk
    rw [hk] at hdk
    obtain rfl := kindOf_slice hdk
    refine gen (fun β v w hv => ?_) h
    simp only [SV.den, Option.some.injEq] at hv
    subst hv
    simp [Builtin.len_, at0 htys, run_underlying' w hu, goInt]
  · rename_i hk _
    rw [hk] at hdk
    obtain rfl := kindOf_slice hdk
    replace h := oO_some h; obtain ⟨n, hn, h⟩ := h
    refine gen (fun β v w hv => ?_) h
    obtain ⟨ad, cc, rfl⟩ := lenS_ok hn hv
    simp [Builtin.len_, at0 htys, run_underlying' w hu, goInt]
  · rename_i b hk
    rw [hk] at hdk
    obtain rfl := kindOf_str hdk
    refine gen (fun β v w hv => ?_) h
    simp only [SV.den, Option.some.injEq] at hv
    subst hv
    simp [Builtin.len_, at0 htys, run_underlying' w hu, goInt]
  · cases h

theorem rs_copy (ht : TTok E.P tt) {c : Call} {x y : Operand} {u : TypeId} {us : List TypeId} {a' b' : SV} (hop : o.op = .call c) (hc : c.callee = .builtin .copy) (hargs : c.args.toList = [x, y]) (htys : c.argTypes.toList = u :: us) (ha : evO s x = some a') (hb : evO s y = some b')
    (hl : Sz E.nt s) (hd : ∀ t, o.dst = some t → t < E.nt) (h : r_copy tt o s u a' b' = some p) : PostR E ops o s (KE p) := by
  unfold r_copy at h
  replace h := oO_some h; obtain ⟨i, hi, h⟩ := h
  obtain ⟨_, _, d, _, _, _, _, _, hu, hdk⟩ := (tinf_ok ht hi).parts
  split at h
  · rename_i e hk
    rw [hk] at hdk
    obtain rfl := kindOf_slice hdk
    replace h := oO_some h; obtain ⟨et, het, h⟩ := h
    replace h := oO_some h; obtain ⟨la, hla, h⟩ := h
    replace h := oO_some h; obtain ⟨lb, hlb, h⟩ := h
    replace h := oO_some h; obtain ⟨n, hn, h⟩ := h
    simp only [sel_eq, Option.some.injEq] at hn
    have hn' : Nat.min lb la = n := by
      cases hh : Nat.ble lb la with
      | true => rw [hh] at hn; simp only [cond_true] at hn; have := Nat.le_of_ble_eq_true hh; rw [← hn]; exact Nat.min_eq_left this
      | false =>
        rw [hh] at hn; simp only [cond_false] at hn
        have : ¬ lb ≤ la := fun h => by have := Nat.ble_eq_true_of_le h; rw [this] at hh; cases hh
        rw [← hn]; exact Nat.min_eq_right (by omega)
    replace h := oO_some h; obtain ⟨⟨rx, lx⟩, hca, h⟩ := h
    replace h := gO_some h; obtain ⟨hg, h⟩ := h
    simp only [Bool.and_eq_true] at hg
    obtain ⟨hpl, hsz⟩ := hg
    have hsz := Nat.le_of_ble_eq_true hsz
    simp only at hpl h
    have hrun : ∀ {a : Act} {w w' : World} {v : Value}, (Builtin.copy_ c.argTypes o.type #[a.eval x, a.eval y]).run E.P w = .ok v w' → (execOp a.eval o).run E.P w = .ok (.value v) w' := by
      intro a w w' v hh
      refine bi_run hop hc ?_
      simp only [builtin, args2 hargs, Sem.run_bind, hh, Result.andThen_ok, Sem.run_pure]
    have hsrc : ∀ {r : List Nat} {σ : Sg} {β : Ren} {a : Act} {w : World}, (∀ i ∈ rx, i ∈ r) → Agree ops o s r σ → Rl E σ β a w → ∃ us ad cc, denL β lx = some us ∧ us.length = n * et.size ∧ (∀ u ∈ us, u.oneCell' = true) ∧ a.eval y = .slice ad lb cc ∧ (Builtin.firstCells et.size n (a.eval y)).run E.P w = .ok us.toArray w := by
      intro r σ β a w hsub hag hr
      have e2 := ev_ok hag hr (bi_mem hop hc (by rw [hargs]; simp)) hb
      obtain ⟨us, k1, k2, k3, k4, k5⟩ := cellsAt_ok hca hsub hag hr e2 hpl
      obtain ⟨ad, cc, hv⟩ := lenS_ok hlb e2
      exact ⟨us, ad, cc, k1, k2, k3, hv, k4⟩
    simp only [sel_eq] at h
    replace h := cond_pq' h; rcases h with ⟨hn0, h⟩ | ⟨hn0, h⟩
    · have hn0 := Nat.eq_of_beq_eq_true hn0
      refine post_val (r := rx) h hl hd fun σ β a w hag hr => ⟨.int .i64 0, hrun ?_, rfl⟩
      obtain ⟨us, ad, cc, k1, k2, k3, k4, k5⟩ := hsrc (fun _ h => h) hag hr
      have e1 := ev_ok hag hr (bi_mem hop hc (by rw [hargs]; simp)) ha
      obtain ⟨ad', cc', hv⟩ := lenS_ok hla e1
      have hus : us = [] := by rw [hn0] at k2; simpa using k2
      subst hus
      rw [hv]
      rw [k4] at k5 ⊢
      have hu' := run_underlying' w hu
      have hs' := run_sizeOf' w (tinf_ok ht het)
      rw [hn0] at k5
      cases ad' <;> simp [Builtin.copy_, at0 htys, hu', Builtin.lenOf, hn', hs', k5, storeCells, goInt, hn0]
    · have gen : ∀ {id off : Nat} {b : Blk}, getL s.blks id = some b → off + n * et.size ≤ b.cells.length → (∀ β v, a'.den β = some v → ∃ q cc, β id = some q ∧ v = .slice (some ⟨q.p, off, none⟩) la cc) →
          some ((s.setB id ⟨b.ty, splice b.cells off lx, b.m⟩).put o (.lit .i64 (n : Int)), id :: rx, [id]) = some p → PostR E ops o s (KE p) := by
        intro id off b hb' hle hden h
        obtain ⟨hb2, hlv⟩ := getL_some hb'
        rw [setB_eq] at h
        refine post_gen (W := [(id, ⟨b.ty, splice b.cells off lx, b.m⟩)]) h hl hd (by simp) (by simp) ?_
        intro Q K σ β a w hag hr hK
        have hsb : σ (.blk id) = some (.blk b) := by rw [hag.2 id (by simp)]; simp [St.sg, hb2]
        obtain ⟨us, ad, cc, k1, k2, k3, k4, k5⟩ := hsrc (fun i hi => List.mem_cons_of_mem _ hi) hag hr
        obtain ⟨q, cq, hq, hx⟩ := hden β _ (ev_ok hag hr (bi_mem hop hc (by rw [hargs]; simp)) ha)
        obtain ⟨q', vs, rest, h1, h2, h3, h4, h5⟩ := hr.blk id b hsb hlv
        rw [hq] at h1; injection h1 with h1; subst h1
        have hvl := denL_length h2
        have hst := storeCells_ok (P := E.P) us w (vs ++ rest) off 0 h3 (by simp; omega) k3
        have hrr : (Builtin.copy_ c.argTypes o.type #[a.eval x, a.eval y]).run E.P w = .ok (.int .i64 (n : Int)) { w with heap := w.heap.setIfInBounds q.p (.cells (spl (vs ++ rest) (off + 0) us).toArray b.ty (0, 0)) } := by
          rw [hx]
          rw [k4] at k5 ⊢
          have hu' := run_underlying' w hu
          have hs' := run_sizeOf' w (tinf_ok ht het)
          have hst' : (storeCells ⟨q.p, off, none⟩ us).run E.P w = _ := hst
          simp [Builtin.copy_, at0 htys, hu', Builtin.lenOf, hn', hs', k5, hst', goInt]
        unfold Oper.wp
        rw [hrun hrr, Oper.upon_value, Nat.add_zero, spl_append _ _ _ _ (by omega)]
        refine hK β _ _ (hr.setBlk hsb hlv hq (denL_spl _ _ _ _ _ k1 h2) ?_) (by simp [SV.den])
        have : (spl vs off us ++ rest).length = (vs ++ rest).length := by simp [spl_length]
        rw [this]; exact h4
      split at h
      · rename_i id off ln cp
        replace h := oO_some h; obtain ⟨b, hb', h⟩ := h
        replace h := gO_some h; obtain ⟨hg, h⟩ := h
        simp only [lenS, Option.some.injEq] at hla
        subst hla
        exact gen hb' (Nat.le_of_ble_eq_true hg) (fun β v hv => by simp only [SV.den, Option.map_eq_some_iff] at hv; obtain ⟨q, h1, h2⟩ := hv; exact ⟨q, _, h1, h2.symm⟩) h
      · rename_i id eo sz ln
        replace h := oO_some h; obtain ⟨b, hb', h⟩ := h
        replace h := gO_some h; obtain ⟨hg, h⟩ := h
        simp only [lenS, Option.some.injEq] at hla
        subst hla
        exact gen hb' (Nat.le_of_ble_eq_true hg) (fun β v hv => by simp only [SV.den, Option.map_eq_some_iff] at hv; obtain ⟨q, h1, h2⟩ := hv; exact ⟨q, _, h1, h2.symm⟩) h
      · cases h
  · cases h

theorem rs_zeros (ht : TTok E.P tt) {c : Call} {x y : Operand} {u u' : TypeId} {us : List TypeId} {a' b' : SV} {ix : TI} {kx : IntKind} (hop : o.op = .call c) (hc : c.callee = .builtin .append) (hargs : c.args.toList = [x, y]) (htys : c.argTypes.toList = u :: u' :: us) (ha : evO s x = some a') (hb : evO s y = some b') (hix : tinf tt u' = some ix) (hkx : ix.kind = .int kx)
    (hl : Sz E.nt s) (hd : ∀ t, o.dst = some t → t < E.nt) (h : r_zeros tt o s u a' b' = some p) : PostR E ops o s (KE p) := by
  unfold r_zeros at h
  replace h := oO_some h; obtain ⟨i, hi, h⟩ := h
  obtain ⟨_, _, d, _, _, _, _, _, hu, hdk⟩ := (tinf_ok ht hi).parts
  obtain ⟨_, _, dx, _, _, _, _, _, hux, hdkx⟩ := (tinf_ok ht hix).parts
  rw [hkx] at hdkx
  obtain rfl := kindOf_int hdkx
  split at h
  · rename_i e k2 m hk
    rw [hk] at hdk
    obtain rfl := kindOf_slice hdk
    replace h := oO_some h; obtain ⟨et, het, h⟩ := h
    replace h := gO_some h; obtain ⟨hg, h⟩ := h
    simp only [Bool.and_eq_true, decide_eq_true_eq] at hg
    obtain ⟨⟨⟨⟨g1, g2⟩, g3⟩, g4⟩, g5⟩ := hg
    have g1 := Nat.le_of_ble_eq_true g1
    have g2 := Nat.le_of_ble_eq_true g2
    have g3 := Nat.eq_of_beq_eq_true g3
    obtain ⟨ti, z, _, hti1, hti2, hti3, hti4, hti5, _, _⟩ := (tinf_ok ht het).parts
    have hty1 := at0 htys
    have hty2 : c.argTypes[1]? = some u' := by rw [← Array.getElem?_toList, htys]; rfl
    have wm : IntKind.i64.wrap m = m := IntWalk.i64_in _ (by omega)
    have hvals : ∀ {r : List Nat} {σ : Sg} {β : Ren} {a : Act} {w : World}, Agree ops o s r σ → Rl E σ β a w → a.eval x = .slice none 0 0 ∧ a.eval y = .int k2 m := by
      intro r σ β a w hag hr
      have e1 := ev_ok hag hr (bi_mem hop hc (x := x) (by rw [hargs]; simp)) ha
      have e2 := ev_ok hag hr (bi_mem hop hc (x := y) (by rw [hargs]; simp)) hb
      simp only [SV.den, Option.some.injEq] at e1 e2
      exact ⟨e1.symm, e2.symm⟩
    have hb48 : ∀ n : Nat, n ≤ 2000000 → n * ti.bytes ≤ 281474976710656 := by
      intro n hn
      rw [hti3]
      calc n * et.bytes ≤ 2000000 * 1000000 := Nat.mul_le_mul hn g2
        _ ≤ _ := by omega
    have hmb : ¬ (m * (ti.bytes : Int) > 2 ^ 48) := by
      have h1 : m * (ti.bytes : Int) ≤ 1000000 * 1000000 := Int.mul_le_mul g5 (by rw [hti3]; omega) (by omega) (by omega)
      omega
    simp only [sel_eq] at h
    replace h := cond_pq' h; rcases h with ⟨hn0, h⟩ | ⟨hn0, h⟩
    · have hn0 := Nat.eq_of_beq_eq_true hn0
      have hm0 : m = 0 := by omega
      subst hm0
      refine post_val (r := []) h hl hd fun σ β a w hag hr => ⟨.slice none 0 0, ?_, rfl⟩
      obtain ⟨e1, e2⟩ := hvals hag hr
      refine bi_run hop hc ?_
      rw [args2 hargs, e1, e2]
      simp [builtin, Builtin.append_, hty1, hty2, run_underlying' w hu, run_underlying' w hux, run_sizeOf' w (tinf_ok ht het), run_typeInfo' w hti1, asInt, asIntOf, wm]
    · have hn0' : m.toNat ≠ 0 := fun e => by rw [e] at hn0; simp at hn0
      rw [setB_eq] at h
      refine post_gen (W := [(nextB s.blks, ⟨e, repC et.zero m.toNat, .op et.size⟩)]) h hl hd (by simp) (by simp) ?_
      intro Q K σ β a w hag hr hK
      have hs : σ (.blk (nextB s.blks)) = none := by rw [hag.2 _ (by simp)]; simp [St.sg, nextB_none]
      obtain ⟨e1, e2⟩ := hvals hag hr
      have hz := repC_den β g3 (by omega) m.toNat
      have hzz : z.cells = et.zero.toArray := by apply Array.ext'; simp [hti5]
      have hzs : z.cells.size = et.size := by rw [hzz]; simpa using g3
      have hzc : (Builtin.zeroCells z.cells m.toNat).toList = (List.range (m.toNat * et.size)).map fun i => et.zero.toArray[i % et.size]! := by
        unfold Builtin.zeroCells
        rw [hzs, hzz]
        simp
      have hfit : ¬ (Builtin.nextslicecap m.toNat 0 * ti.bytes > 2 ^ 48) := by
        have : Builtin.nextslicecap m.toNat 0 = m.toNat := by unfold Builtin.nextslicecap; rw [if_pos (by omega)]
        rw [this]
        have := hb48 m.toNat (by omega)
        omega
      have hroom : ∀ n (v : World), (askRoom n).run E.P v = .ok () v := by intro n v; unfold askRoom; split <;> simp [Sem.run]
      have hrun : (Builtin.append_ c.argTypes o.type #[.slice none 0 0, .int k2 m]).run E.P w = .ok (.slice (some ⟨w.heap.size, 0, none⟩) m.toNat (grownCap w m.toNat 0 e))
          (w.drew.alloc (.cells ((Builtin.zeroCells z.cells m.toNat) ++ Builtin.zeroCells z.cells (grownCap w m.toNat 0 e - m.toNat)) e)) := by
        obtain ⟨n, rfl⟩ : ∃ n : Nat, m = n := ⟨m.toNat, by omega⟩
        simp only [Int.toNat_natCast] at *
        have hneg : ¬ ((n : Int) < 0) := by omega
        have hbig : ¬ (281474976710656 < (n : Int) * (ti.bytes : Int)) := by omega
        have hn : ¬ (n = 0) := hn0'
        have h63' : ¬ (9223372036854775807 < (n : Int)) := by omega
        have h48' : ¬ (281474976710656 < Builtin.nextslicecap n 0 * ti.bytes) := by omega
        have hmz : ¬ (n * ti.size = 0) := Nat.mul_ne_zero hn0' (by omega)
        have hfo := run_firstCells_none (P := E.P) w.drew ti.size 0 0 0
        simp [Builtin.append_, hty1, hty2, run_underlying hu, run_underlying hux, sizeOf, typeInfo, zeroValue, hti1, hti4, asInt, asIntOf, wm, hneg, hbig, hn, h63', h48', Question.forced, hfo, newRow, grownCap, hmz]
      have hex := bi_run (E := E) (o := o) (a := a) (w := w) hop hc (n := .value _) (by rw [args2 hargs, e1, e2]; simp only [builtin, Sem.run_bind]; rw [hrun]; simp only [Result.andThen_ok, Sem.run_pure]; rfl)
      unfold Oper.wp
      rw [hex, Oper.upon_value]
      rw [← hzc] at hz
      have hlz : (Builtin.zeroCells z.cells m.toNat).toList.length = m.toNat * et.size := by rw [Array.length_toList, size_zeroCells, hzs]
      obtain ⟨hle, hr1⟩ := grow_new hr hs (e := e) hzs hz hlz (grownCap_ge w m.toNat 0 e)
      rw [Array.toArray_toList] at hr1
      exact hK _ _ _ hr1 (by simp [SV.den])
  · cases h

end
end

noncomputable section

theorem memN_iff : ∀ {l : List Nat} {x : Nat}, memN x l = true ↔ x ∈ l
  | [], x => by simp [memN]
  | y :: r, x => by
    simp only [memN, sel_eq, List.mem_cons]
    cases h : Nat.beq x y with
    | true => simp [Nat.eq_of_beq_eq_true h]
    | false =>
      have : x ≠ y := fun e => by subst e; simp at h
      simp [this, memN_iff]
theorem getB_pickB (R : List Nat) : ∀ (l : List (Nat × Blk)) (i : Nat), getB (pickB R l) i = if i ∈ R then getB l i else none
  | [], i => by simp [pickB, getB_nil, getB_cons]
  | (j, b) :: r, i => by
    simp only [pickB, sel_eq]
    cases hj : memN j R with
    | true =>
      have hj' := memN_iff.1 hj
      simp only [cond_true, getB_nil, getB_cons, sel_eq, getB_pickB R r i]
      cases hji : Nat.beq j i with
      | true => obtain rfl := Nat.eq_of_beq_eq_true hji; simp [hj']
      | false => simp
    | false =>
      have hj' : j ∉ R := fun h => by rw [memN_iff.2 h] at hj; cases hj
      simp only [cond_false, getB_nil, getB_cons, sel_eq, getB_pickB R r i]
      cases hji : Nat.beq j i with
      | true => obtain rfl := Nat.eq_of_beq_eq_true hji; simp [hj']
      | false => simp
theorem getB_floorB {n : Nat} {R : List Nat} {h : List (Nat × Blk)} (i : Nat) : getB (floorB n R h) i = getB h i ∨ (i ∉ R ∧ getB (floorB n R h) i = some ⟨0, [], .dd⟩) := by
  cases n with
  | zero => exact .inl rfl
  | succ m =>
    simp only [floorB, sel_eq]
    cases hm : memN m R with
    | true => exact .inl rfl
    | false =>
      simp only [cond_false, getB_nil, getB_cons, sel_eq]
      cases hi : Nat.beq m i with
      | true =>
        obtain rfl := Nat.eq_of_beq_eq_true hi
        exact .inr ⟨fun h => (by rw [memN_iff.2 h] at hm; cases hm), rfl⟩
      | false => exact .inl rfl

mutual
theorem SV.den_ids {d : List Nat} {β β' : Ren} (hb : ∀ i ∈ d, β i = β' i) : ∀ (x : SV), x.ids d = true → x.den β = x.den β'
  | .lit _ _, _ => rfl
  | .bl _, _ => rfl
  | .v _, _ => rfl
  | .un, _ => rfl
  | .ptr id o, h => by simp only [SV.den, hb id (mem_of_any h)]
  | .px id o, h => by simp only [SV.den, hb id (mem_of_any h)]
  | .sl id o l c, h => by simp only [SV.den, hb id (mem_of_any h)]
  | .row id _ _ _, h => by simp only [SV.den, hb id (mem_of_any h)]
  | .emp id, h => by simp only [SV.den, hb id (mem_of_any h)]
  | .agg l, h => by simp only [SV.den, denL_ids hb l h]
  | .tup l, h => by simp only [SV.den, denL_ids hb l h]
  | .clo f l, h => by simp only [SV.den, denL_ids hb l h]
  | .ifc t x, h => by simp only [SV.den, SV.den_ids hb x h]
theorem denL_ids {d : List Nat} {β β' : Ren} (hb : ∀ i ∈ d, β i = β' i) : ∀ (l : List SV), idsL d l = true → denL β l = denL β' l
  | [], _ => rfl
  | x :: r, h => by
    simp only [idsL, Bool.and_eq_true] at h
    simp only [denL, SV.den_ids hb x h.1, denL_ids hb r h.2]
end
theorem closedB_ok {d : List Nat} : ∀ {h : List (Nat × Blk)}, closedB d h = true → ∀ p ∈ h, p.2.m.live = true → idsL d p.2.cells = true
  | [], _, p, hp, _ => by cases hp
  | (i, b) :: r, h, p, hp, hl => by
    simp only [closedB, Bool.and_eq_true] at h
    rcases List.mem_cons.1 hp with rfl | hp
    · have := h.1
      simp only at hl
      split at this
      · rename_i hm; rw [hm] at hl; cases hl
      · exact this
    · exact closedB_ok h.2 p hp hl
theorem subL_ok {d : List Nat} : ∀ {l : List Nat}, subL d l = true → ∀ x ∈ l, x ∈ d
  | [], _, x, h => by cases h
  | y :: r, h, x, hx => by
    simp only [subL, sel_eq] at h
    cases hy : memN y d with
    | false => rw [hy] at h; cases h
    | true =>
      rw [hy] at h
      rcases List.mem_cons.1 hx with rfl | hx
      · exact memN_iff.1 hy
      · exact subL_ok h x hx
theorem newL_ok {R : List Nat} {n : Nat} : ∀ {l : List Nat}, newL R n l = true → ∀ x ∈ l, x ∈ R ∨ n ≤ x
  | [], _, x, h => by cases h
  | y :: r, h, x, hx => by
    simp only [newL, sel_eq] at h
    cases hy : (memN y R || Nat.ble n y) with
    | false => rw [hy] at h; cases h
    | true =>
      rw [hy] at h
      rcases List.mem_cons.1 hx with rfl | hx
      · simp only [Bool.or_eq_true] at hy
        exact hy.imp memN_iff.1 Nat.le_of_ble_eq_true
      · exact newL_ok h x hx
theorem nodupL_ok : ∀ {h : List (Nat × Blk)}, nodupL (h.map (·.1)) = true → ∀ i b, (i, b) ∈ h → getB h i = some b
  | [], _, i, b, hm => by cases hm
  | (j, c) :: r, h, i, b, hm => by
    simp only [List.map_cons, nodupL, sel_eq] at h
    cases hj : memN j (r.map (·.1)) with
    | true => rw [hj] at h; cases h
    | false =>
      rw [hj] at h
      simp only [getB_nil, getB_cons, sel_eq]
      rcases List.mem_cons.1 hm with e | hm
      · injection e with e1 e2; subst e1; subst e2; simp
      · have hne : j ≠ i := fun e => by
          subst e
          have : memN j (r.map (·.1)) = true := memN_iff.2 (List.mem_map.2 ⟨_, hm, rfl⟩)
          rw [this] at hj; cases hj
        rw [nbeq_ne hne]
        exact nodupL_ok h i b hm
theorem dropSame_ok (s : List (Nat × Blk)) : ∀ (h : List (Nat × Blk)), (∀ p ∈ dropSame s h, p ∈ h) ∧ ∀ i b, (i, b) ∈ h → (i, b) ∈ dropSame s h ∨ sameB s i b = true
  | [] => ⟨fun p hp => (by cases hp), fun i b h => (by cases h)⟩
  | (j, c) :: r => by
    obtain ⟨h1, h2⟩ := dropSame_ok s r
    simp only [dropSame, sel_eq]
    cases hs : sameB s j c with
    | true =>
      refine ⟨fun p hp => List.mem_cons_of_mem _ (h1 p hp), fun i b hm => ?_⟩
      rcases List.mem_cons.1 hm with e | hm
      · injection e with e1 e2; subst e1; subst e2; exact .inr hs
      · exact h2 i b hm
    | false =>
      refine ⟨fun p hp => ?_, fun i b hm => ?_⟩
      · rcases List.mem_cons.1 hp with rfl | hp
        · exact List.mem_cons_self
        · exact List.mem_cons_of_mem _ (h1 p hp)
      · rcases List.mem_cons.1 hm with e | hm
        · rw [e]; exact .inl List.mem_cons_self
        · exact (h2 i b hm).imp (List.mem_cons_of_mem _) id
theorem vEqb_ok {a b : Value} (h : vEqb a b = true) : a = b := by
  unfold vEqb at h
  split at h
  · simp only [Bool.and_eq_true] at h
    rw [Nat.eq_of_beq_eq_true h.1, Nat.eq_of_beq_eq_true h.2]
  · rename_i a b
    obtain ⟨a⟩ := a
    obtain ⟨b⟩ := b
    have := eq_of_beq h
    simp only at this
    rw [Array.ext' this]
  · cases h
mutual
theorem SV.eqb_ok : ∀ (x y : SV), SV.eqb x y = true → x = y
  | .lit k m, y, h => by
    cases y <;> simp only [SV.eqb, Bool.and_eq_true, Bool.false_eq_true] at h
    rw [kEq_iff h.1, eq_of_beq h.2]
  | .bl a, y, h => by
    cases y <;> simp only [SV.eqb, Bool.false_eq_true] at h
    rw [eq_of_beq h]
  | .ptr a b, y, h => by
    cases y <;> simp only [SV.eqb, Bool.and_eq_true, Bool.false_eq_true] at h
    rw [Nat.eq_of_beq_eq_true h.1, Nat.eq_of_beq_eq_true h.2]
  | .px a b, y, h => by cases y <;> simp only [SV.eqb, Bool.false_eq_true] at h
  | .sl a b c d, y, h => by
    cases y <;> simp only [SV.eqb, Bool.and_eq_true, Bool.false_eq_true] at h
    rw [Nat.eq_of_beq_eq_true h.1.1.1, Nat.eq_of_beq_eq_true h.1.1.2, Nat.eq_of_beq_eq_true h.1.2, Nat.eq_of_beq_eq_true h.2]
  | .row a b c d, y, h => by
    cases y <;> simp only [SV.eqb, Bool.and_eq_true, Bool.false_eq_true] at h
    rw [Nat.eq_of_beq_eq_true h.1.1.1, Nat.eq_of_beq_eq_true h.1.1.2, Nat.eq_of_beq_eq_true h.1.2, Nat.eq_of_beq_eq_true h.2]
  | .v a, y, h => by
    cases y <;> simp only [SV.eqb, Bool.false_eq_true] at h
    rw [vEqb_ok h]
  | .agg l, y, h => by
    cases y <;> simp only [SV.eqb, Bool.false_eq_true] at h
    rw [eqbL_ok _ _ h]
  | .tup l, y, h => by cases y <;> simp only [SV.eqb, Bool.false_eq_true] at h
  | .clo f l, y, h => by cases y <;> simp only [SV.eqb, Bool.false_eq_true] at h
  | .ifc t x, y, h => by cases y <;> simp only [SV.eqb, Bool.false_eq_true] at h
  | .emp i, y, h => by cases y <;> simp only [SV.eqb, Bool.false_eq_true] at h
  | .un, y, h => by cases y <;> simp only [SV.eqb, Bool.false_eq_true] at h
theorem eqbL_ok : ∀ (l m : List SV), eqbL l m = true → l = m
  | [], m, h => by cases m <;> simp only [eqbL, Bool.false_eq_true] at h; rfl
  | x :: r, m, h => by
    cases m <;> simp only [eqbL, Bool.and_eq_true, Bool.false_eq_true] at h
    rw [SV.eqb_ok x _ h.1, eqbL_ok r _ h.2]
end
theorem sameB_ok {s : List (Nat × Blk)} {i : Nat} {b : Blk} (h : sameB s i b = true) : ∃ c, getB s i = some c ∧ c.m.live = b.m.live ∧ (b.m.live = true → c = b) := by
  unfold sameB at h
  split at h
  · rename_i c hc
    obtain ⟨ty, cells, m⟩ := c
    obtain ⟨ty', cells', m'⟩ := b
    simp only at h
    refine ⟨_, hc, ?_⟩
    cases m <;> cases m' <;> simp only [Bool.and_eq_true, Bool.false_eq_true] at h
    · exact ⟨rfl, fun _ => by rw [Nat.eq_of_beq_eq_true h.1, eqbL_ok _ _ h.2]⟩
    · exact ⟨rfl, fun _ => by rw [Nat.eq_of_beq_eq_true h.1.1, Nat.eq_of_beq_eq_true h.1.2, eqbL_ok _ _ h.2]⟩
    · exact ⟨rfl, fun e => by cases e⟩
  · cases h

def sgH (h : List (Nat × Blk)) : Sg := St.sg ⟨.lf, h⟩
theorem sgH_some {h : List (Nat × Blk)} {i : Nat} {b : Blk} : sgH h (.blk i) = some (.blk b) ↔ getB h i = some b := by
  simp [sgH, St.sg]
theorem sgH_none {h : List (Nat × Blk)} {i : Nat} : sgH h (.blk i) = none ↔ getB h i = none := by simp [sgH, St.sg]

/-- What a way to meet calls must show. -/
def RCok (P : Program) (cl : RC) : Prop := ∀ f l h x h', cl f l h = some (x, h') →
  (∃ fn, P.funcs[f]? = some fn ∧ (fn.name == "runtime.NumGoroutine") = false ∧ fn.body.isSome = true) ∧
  ∀ (E : Env) β w vs, E.P = P → denL β l = some vs → Hl E (sgH h) β w → Calls P f vs.toArray w fun e w' => ∃ β' v, e = .returned v ∧ x.den β' = some v ∧ Hl E (sgH h') β' w'

section
variable {E : Env} {ops : Array Oper} {o : Oper} {s : St} {tt : TT} {p : St × List Nat × List Nat}

theorem rs_inl {cl : RC} (hcl : RCok E.P cl) {draw : Bool} {f : FuncId} {l : List SV} {avs : Act → List Value}
    (hrun : ∀ {a : Act} {w : World} {fn : Func}, E.P.funcs[f]? = some fn → (fn.name == "runtime.NumGoroutine") = false → fn.body.isSome = true → (∀ r σ β, Agree ops o s r σ → Rl E σ β a w → (execOp a.eval o).run E.P w = .ok (.enter f (avs a).toArray) w))
    (hargs : ∀ r σ β a w, Agree ops o s r σ → Rl E σ β a w → denL β l = some (avs a))
    (hl : Sz E.nt s) (hd : ∀ t, o.dst = some t → t < E.nt) (h : r_inl cl draw o s f l = some p) : PostR E ops o s (KE p) := by
  unfold r_inl at h
  replace h := oO_some h; obtain ⟨R, hR, h⟩ := h
  replace h := oO_some h; obtain ⟨hr0, hhr0, h⟩ := h
  simp only [Option.some.injEq] at hhr0
  clear hR
  subst hhr0
  replace h := gO_some h; obtain ⟨hg, h⟩ := h
  simp only [Bool.and_eq_true] at hg
  obtain ⟨hg1, hg2⟩ := hg
  replace h := oO_some h; obtain ⟨⟨x, h1⟩, hcall, h⟩ := h
  replace h := oO_some h; obtain ⟨D, hD, h⟩ := h
  clear hD
  replace h := oO_some h; obtain ⟨h', hh', h⟩ := h
  simp only [Option.some.injEq] at hh'
  replace h := oO_some h; obtain ⟨d, hd', h⟩ := h
  simp only [Option.some.injEq] at hd'
  subst hd'
  replace h := gO_some h; obtain ⟨hg, h⟩ := h
  simp only [Bool.and_eq_true] at hg
  obtain ⟨⟨⟨⟨c1, c2⟩, c3⟩, c4⟩, c5⟩ := hg
  replace h := oO_some h; obtain ⟨W, hW, h⟩ := h
  simp only [Option.some.injEq] at hW
  replace h := oO_some h; obtain ⟨u, hu, h⟩ := h
  simp only [Option.some.injEq] at hu
  subst hu
  simp only at c1 h hh'
  have c3 := subL_ok c3
  have c5 := newL_ok c5
  have hWs : (∀ q ∈ W, q ∈ h') ∧ ∀ i b, (i, b) ∈ h' → (i, b) ∈ W ∨ sameB s.blks i b = true := by
    subst hW
    rw [sel_eq]
    cases draw with
    | true => exact dropSame_ok s.blks h'
    | false => exact ⟨fun _ h => h, fun _ _ h => .inl h⟩
  clear hW
  have hget : ∀ i b, (i, b) ∈ h' → getB h' i = some b := nodupL_ok c4
  have hgetD : ∀ {i b}, getB h' i = some b → getB h1 i = some b := by
    intro i b hb
    rw [← hh', getB_pickB] at hb
    split at hb
    · exact hb
    · cases hb
  have hlook : ∀ i dn, look (WB W) (.blk i) = some dn → ∃ b, (i, b) ∈ W ∧ getB h' i = some b ∧ dn = .blk b := by
    intro i dn hh
    obtain ⟨b, hb, e⟩ := look_WB_mem hh
    exact ⟨b, hb, hget i b (hWs.1 _ hb), e⟩
  have hlookN : ∀ i, look (WB W) (.blk i) = none → ∀ b, (i, b) ∉ W := by
    intro i
    have gen : ∀ (V : List (Nat × Blk)), look (WB V) (.blk i) = none → ∀ b, (i, b) ∉ V := by
      intro V
      induction V with
      | nil => intro _ b hb; cases hb
      | cons q r ih =>
        intro hh b hb
        obtain ⟨j, c⟩ := q
        simp only [WB, look_app] at hh
        split at hh
        · cases hh
        · rename_i hn
          rcases List.mem_cons.1 hb with e | hb
          · injection e with e1 e2; subst e1; simp [look] at hh
          · exact ih hn b hb
    exact gen W
  obtain ⟨⟨fn, hf1, hf2, hf3⟩, hsem⟩ := hcl _ _ _ _ _ hcall
  refine post_gen (W := W) h hl hd (fun q hq => List.mem_map.2 ⟨q, hq, rfl⟩) (fun i hi => List.mem_append_right _ hi) ?_
  intro Q K σ β a w hag hr hK
  have hσR : ∀ i ∈ R, σ (.blk i) = s.sg (.blk i) := fun i hi => hag.2 i (List.mem_append_left _ hi)
  have hσu : ∀ i b, (i, b) ∈ W → σ (.blk i) = s.sg (.blk i) := fun i b hi => hag.2 i (List.mem_append_right _ (List.mem_map.2 ⟨_, hi, rfl⟩))
  have hsg : ∀ i c, s.sg (.blk i) = some (.blk c) ↔ getB s.blks i = some c := fun i c => by simp [St.sg]
  have hsgn : ∀ i, s.sg (.blk i) = none ↔ getB s.blks i = none := fun i => by simp [St.sg]
  let βR : Ren := fun i => if i ∈ R then β i else none
  let E' : Env := ⟨E.P, w, fun q => q < w.heap.size ∧ ∀ i c b, i ∈ R → getB s.blks i = some c → c.m.live = true → β i = some b → b.p ≠ q, 0, fun _ h => h.1, βR⟩
  have hagR : ∀ i ∈ R, β i = βR i := fun i hi => by simp [βR, hi]
  have hstart : ∀ i b, getB (floorB (nextB s.blks) R (pickB R s.blks)) i = some b → b.m.live = true → i ∈ R ∧ getB s.blks i = some b := by
    intro i b hb hlv
    rcases getB_floorB (n := nextB s.blks) (R := R) (h := pickB R s.blks) i with e | ⟨_, e⟩
    · rw [e, getB_pickB] at hb
      split at hb
      · exact ⟨by assumption, hb⟩
      · cases hb
    · rw [e] at hb; injection hb with hb; subst hb; cases hlv
  have hH : Hl E' (sgH (floorB (nextB s.blks) R (pickB R s.blks))) βR w := by
    refine ⟨?_, ?_, ?_, ⟨rfl, rfl, rfl, Nat.le_refl _, fun _ _ => rfl⟩, fun _ _ h => h⟩
    · intro i b hb hlv
      obtain ⟨hi, hb⟩ := hstart i b (sgH_some.1 hb) hlv
      obtain ⟨q, vs, rest, e1, e2, e3, e4, e5⟩ := hr.blk i b (by rw [hσR i hi]; exact (hsg i b).2 hb) hlv
      have hm : (i, b) ∈ pickB R s.blks := getB_mem _ (by rw [getB_pickB, if_pos hi]; exact hb)
      refine ⟨q, vs, rest, by rw [← hagR i hi]; exact e1, ?_, e3, e4, fun hp => hp.2 i b q hi hb hlv e1 rfl⟩
      rw [← denL_ids hagR b.cells (closedB_ok hg2 _ hm hlv)]; exact e2
    · intro i hi
      by_cases hiR : i ∈ R
      · rw [← hagR i hiR]
        refine hr.fresh i ?_
        rw [hσR i hiR, hsgn]
        have := sgH_none.1 hi
        rcases getB_floorB (n := nextB s.blks) (R := R) (h := pickB R s.blks) i with e | ⟨hn, _⟩
        · rw [e, getB_pickB, if_pos hiR] at this; exact this
        · exact absurd hiR hn
      · simp [βR, hiR]
    · intro i j b c q r hi hil hj hjl hq hr' hqr
      obtain ⟨hiR, hi⟩ := hstart i b (sgH_some.1 hi) hil
      obtain ⟨hjR, hj⟩ := hstart j c (sgH_some.1 hj) hjl
      rw [← hagR i hiR] at hq
      rw [← hagR j hjR] at hr'
      exact hr.inj i j b c q r (by rw [hσR i hiR]; exact (hsg i b).2 hi) hil (by rw [hσR j hjR]; exact (hsg j c).2 hj) hjl hq hr' hqr
  have hargsR : denL βR l = some (avs a) := by rw [← denL_ids hagR l hg1]; exact hargs _ σ β a w hag hr
  unfold Oper.wp
  rw [hrun hf1 hf2 hf3 _ σ β hag hr, Oper.upon_enter]
  refine (hsem E' βR w _ rfl hargsR hH).mono ?_
  rintro e w' ⟨β', v, rfl, hxv, hH'⟩
  -- the numbers, as they are known behind the call
  let dd := h'.map (·.1)
  have hdm : ∀ i, i ∈ dd → ∃ b, (i, b) ∈ h' := by
    intro i hi
    obtain ⟨q, hq, e⟩ := List.mem_map.1 hi
    exact ⟨q.2, by rw [← e]; exact hq⟩
  let βn : Ren := fun i => if i ∈ dd then β' i else β i
  have hβn : ∀ i ∈ dd, βn i = β' i := fun i hi => by simp [βn, hi]
  have hβo : ∀ i, i ∉ dd → βn i = β i := fun i hi => by simp [βn, hi]
  have hnew : ∀ i, i ∈ dd → i ∉ R → σ (.blk i) = none ∧ ∃ b, (i, b) ∈ W := by
    intro i hi hn
    have hge := (c5 i hi).resolve_left hn
    have hnone : getB s.blks i = none := by
      cases hh : getB s.blks i with
      | none => rfl
      | some b => have := nextB_lt _ hh; omega
    obtain ⟨b, hb⟩ := hdm i hi
    have hbW : (i, b) ∈ W := by
      rcases hWs.2 i b hb with h | h
      · exact h
      · obtain ⟨c, hc, _⟩ := sameB_ok h
        rw [hnone] at hc; cases hc
    exact ⟨by rw [hσu i b hbW, hsgn]; exact hnone, b, hbW⟩
  have hle : Le β βn := by
    intro i q hq
    by_cases hi : i ∈ dd
    · rw [hβn i hi]
      by_cases hiR : i ∈ R
      · exact hH'.anc i q (by show βR i = some q; rw [← hagR i hiR]; exact hq)
      · rw [hr.fresh i (hnew i hi hiR).1] at hq; cases hq
    · rw [hβo i hi]; exact hq
  have hprot : ∀ q, E.prot q → E'.prot q := by
    intro q hq
    refine ⟨Nat.lt_of_lt_of_le (E.low q hq) hr.keep.size, fun i c b hi hc hlv hb e => ?_⟩
    obtain ⟨b', vs, rest, e1, e2, e3, e4, e5⟩ := hr.blk i c (by rw [hσR i hi]; exact (hsg i c).2 hc) hlv
    rw [hb] at e1; injection e1 with e1; subst e1
    rw [e] at e5; exact e5 hq
  -- what is known of each number
  have hcase : ∀ i b, upd σ (WB W) (.blk i) = some (.blk b) → b.m.live = true → (i ∈ dd ∧ getB h1 i = some b ∧ (i, b) ∈ h') ∨ (i ∉ dd ∧ σ (.blk i) = some (.blk b)) := by
    intro i b hb hlv
    simp only [upd] at hb
    cases hL : look (WB W) (.blk i) with
    | some dn =>
      rw [hL] at hb
      obtain ⟨b', q1, q2, q3⟩ := hlook i dn hL
      subst q3
      simp only [Option.some.injEq, Dn.blk.injEq] at hb
      subst hb
      exact .inl ⟨List.mem_map.2 ⟨_, hWs.1 _ q1, rfl⟩, hgetD q2, hWs.1 _ q1⟩
    | none =>
      rw [hL] at hb
      by_cases hi : i ∈ dd
      · obtain ⟨b', hb'⟩ := hdm i hi
        have hsm := (hWs.2 i b' hb').resolve_left (hlookN i hL b')
        obtain ⟨c, k1, k2, k3⟩ := sameB_ok hsm
        by_cases hiR : i ∈ R
        · rw [hσR i hiR] at hb
          have := (hsg i b).1 hb
          rw [k1] at this; injection this with this; subst this
          rw [k2] at hlv
          have := k3 hlv
          subst this
          exact .inl ⟨hi, hgetD (hget i _ hb'), hb'⟩
        · rw [(hnew i hi hiR).1] at hb; cases hb
      · exact .inr ⟨hi, hb⟩
  have hout : ∀ i b q, i ∉ dd → σ (.blk i) = some (.blk b) → b.m.live = true → β i = some q → E'.prot q.p := by
    intro i b q hi hb hlv hq
    obtain ⟨q', vs, rest, e1, e2, e3, e4, e5⟩ := hr.blk i b hb hlv
    rw [hq] at e1; injection e1 with e1; subst e1
    refine ⟨heap_lt e3, fun j c r hj hc hcl hrj e => ?_⟩
    have : j = i := hr.inj j i c b r q (by rw [hσR j hj]; exact (hsg j c).2 hc) hcl hb hlv hrj hq e
    subst this
    exact hi (c3 j hj)
  refine hK βn v w' ⟨⟨?_, ?_, ?_, ?_, ?_⟩, hr.size, hr.defers, ?_⟩ ?_
  · intro i b hb hlv
    rcases hcase i b hb hlv with ⟨hi, hg, hm⟩ | ⟨hi, hσ⟩
    · obtain ⟨q, vs, rest, e1, e2, e3, e4, e5⟩ := hH'.blk i b (sgH_some.2 hg) hlv
      refine ⟨q, vs, rest, by rw [hβn i hi]; exact e1, ?_, e3, e4, fun hp => e5 (hprot _ hp)⟩
      rw [denL_ids hβn b.cells (closedB_ok c2 _ hm hlv)]; exact e2
    · obtain ⟨q, vs, rest, e1, e2, e3, e4, e5⟩ := hr.blk i b hσ hlv
      refine ⟨q, vs, rest, hle _ _ e1, denL_mono hle _ e2, ?_, e4, e5⟩
      rw [hH'.keep.block q.p (hout i b q hi hσ hlv e1)]; exact e3
  · intro i hi
    simp only [upd] at hi
    cases hL : look (WB W) (.blk i) with
    | some dn => rw [hL] at hi; cases hi
    | none =>
      rw [hL] at hi
      by_cases hid : i ∈ dd
      · obtain ⟨b', hb'⟩ := hdm i hid
        have hsm := (hWs.2 i b' hb').resolve_left (hlookN i hL b')
        obtain ⟨c, k1, k2, k3⟩ := sameB_ok hsm
        by_cases hiR : i ∈ R
        · simp only at hi
          rw [hσR i hiR, hsgn, k1] at hi; cases hi
        · obtain ⟨_, b, hb⟩ := hnew i hid hiR
          exact absurd hb (hlookN i hL b)
      · rw [hβo i hid]; exact hr.fresh i hi
  · intro i j b c q r hi hil hj hjl hq hr' hqr
    rcases hcase i b hi hil with ⟨hid, hg, hm⟩ | ⟨hid, hσ⟩ <;> rcases hcase j c hj hjl with ⟨hjd, hgj, hmj⟩ | ⟨hjd, hσj⟩
    · rw [hβn i hid] at hq
      rw [hβn j hjd] at hr'
      exact hH'.inj i j b c q r (sgH_some.2 hg) hil (sgH_some.2 hgj) hjl hq hr' hqr
    · rw [hβn i hid] at hq
      rw [hβo j hjd] at hr'
      obtain ⟨q', vs, rest, e1, e2, e3, e4, e5⟩ := hH'.blk i b (sgH_some.2 hg) hil
      rw [hq] at e1; injection e1 with e1; subst e1
      rw [hqr] at e5
      exact absurd (hout j c r hjd hσj hjl hr') e5
    · rw [hβo i hid] at hq
      rw [hβn j hjd] at hr'
      obtain ⟨q', vs, rest, e1, e2, e3, e4, e5⟩ := hH'.blk j c (sgH_some.2 hgj) hjl
      rw [hr'] at e1; injection e1 with e1; subst e1
      rw [← hqr] at e5
      exact absurd (hout i b q hid hσ hil hq) e5
    · rw [hβo i hid] at hq
      rw [hβo j hjd] at hr'
      exact hr.inj i j b c q r hσ hil hσj hjl hq hr' hqr
  · refine ⟨hH'.keep.os.trans hr.keep.os, hH'.keep.tape.trans hr.keep.tape, hH'.keep.output.trans hr.keep.output, Nat.le_trans hr.keep.size hH'.keep.size, fun q hq => ?_⟩
    rw [hH'.keep.block q (hprot q hq)]
    exact hr.keep.block q hq
  · exact fun i q hq => hle _ _ (hr.anc i q hq)
  · intro t y hy
    have : upd σ (WB W) (.tmp t) = σ (.tmp t) := by simp [upd, look_WB_tmp]
    rw [this] at hy
    obtain ⟨k1, k2⟩ := hr.tmp t y hy
    exact ⟨k1, fun hun => SV.den_mono hle _ (k2 hun)⟩
  · rw [SV.den_ids hβn x c1]; exact hxv

end
end

noncomputable section

section
variable {E : Env} {ops : Array Oper} {o : Oper} {s : St} {tt : TT} {p : St × List Nat × List Nat}

theorem rs_minmax {c : Call} {x y : Operand} {ka kb : IntKind} {m n : Int} {bi : Builtin} {f : Int → Int → Int} (hop : o.op = .call c) (hc : c.callee = .builtin bi) (hargs : c.args.toList = [x, y]) (ha : evO s x = some (.lit ka m)) (hb : evO s y = some (.lit kb n))
    (hrun : ∀ w, (builtin bi c.argTypes o.type (c.args.map fun | .const _ => true | _ => false) #[.int ka m, .int kb n]).run E.P w = .ok (.value (.int ka (f m n))) w)
    (hl : Sz E.nt s) (hd : ∀ t, o.dst = some t → t < E.nt) (h : some (s.put o (.lit ka (f m n)), ([] : List Nat), ([] : List Nat)) = some p) : PostR E ops o s (KE p) := by
  refine post_val (r := []) h hl hd fun σ β a w hag hr => ⟨_, ?_, rfl⟩
  have e1 := ev_ok hag hr (bi_mem hop hc (x := x) (by rw [hargs]; simp)) ha
  have e2 := ev_ok hag hr (bi_mem hop hc (x := y) (by rw [hargs]; simp)) hb
  simp only [SV.den, Option.some.injEq] at e1 e2
  refine bi_run hop hc ?_
  rw [args2 hargs, ← e1, ← e2]
  exact hrun w

theorem rs_call {cl : RC} (hcl : RCok E.P cl) (ht : TTok E.P tt) {draw : Bool} {c : Call} (hop : o.op = .call c) (hl : Sz E.nt s) (hd : ∀ t, o.dst = some t → t < E.nt) (h : r_call tt cl draw o s c = some p) : PostR E ops o s (KE p) := by
  unfold r_call at h
  split at h
  · rename_i f hc
    replace h := oO_some h; obtain ⟨l, hle, h⟩ := h
    have hops : ∀ y ∈ c.args.toList, y ∈ o.op.operands.toList := by
      intro y hy; rw [hop]; simp only [Op.operands, Call.operands, hc]; simp; exact .inr (by simpa using hy)
    refine rs_inl hcl (avs := fun a => c.args.toList.map a.eval) ?_ ?_ hl hd h
    · intro a w fn hf1 hf2 hf3 r σ β hag hr
      have e1 : c.args.map a.eval = (c.args.toList.map a.eval).toArray := by apply Array.ext'; simp
      have hb : fn.body.isNone = false := by simpa using hf3
      simp only [execOp, hop, resolve, hc, Act.eval, Deferred.ofValue, Sem.run_bind, Sem.run_pure, Result.andThen_ok, invoke, callFunc, run_program, hf1]
      simp only [hf2, Bool.false_eq_true, if_false, hb, Sem.run_pure]
      simpa using e1
    · intro r σ β a w hag hr
      exact evL_ok hag hr c.args.toList l hops hle
  · rename_i t hc
    replace h := oO_some h; obtain ⟨g, hg, h⟩ := h
    replace h := oO_some h; obtain ⟨l, hle, h⟩ := h
    have hops : ∀ y ∈ c.args.toList, y ∈ o.op.operands.toList := by
      intro y hy; rw [hop]; simp only [Op.operands, Call.operands, hc]; simp; exact .inr (by simpa using hy)
    have hopt : Operand.tmp t ∈ o.op.operands.toList := by rw [hop]; simp only [Op.operands, Call.operands, hc]; simp
    split at h
    · rename_i f cs
      have hfun : ∀ {a : Act} {w : World} {r : List Nat} {σ : Sg} {β : Ren}, Agree ops o s r σ → Rl E σ β a w → ∃ vs, denL β cs = some vs ∧ a.eval (.tmp t) = .func (.func f) #[] vs.toArray := by
        intro a w r σ β hag hr
        have := ev_ok hag hr hopt hg
        simp only [SV.den, Option.map_eq_some_iff] at this
        obtain ⟨vs, h1, h2⟩ := this
        exact ⟨vs, h1, h2.symm⟩
      refine rs_inl hcl (avs := fun a => c.args.toList.map a.eval ++ (match a.eval (.tmp t) with | .func _ _ cap => cap.toList | _ => [])) ?_ ?_ hl hd h
      · intro a w fn hf1 hf2 hf3 r σ β hag hr
        obtain ⟨vs, h1, h2⟩ := hfun hag hr
        have hb : fn.body.isNone = false := by simpa using hf3
        simp only [execOp, hop, resolve, hc, h2, Deferred.ofValue, Sem.run_bind, Sem.run_pure, Result.andThen_ok, invoke, callFunc, run_program, hf1]
        simp only [hf2, Bool.false_eq_true, if_false, hb, Sem.run_pure]
        congr 2
        apply Array.ext'
        simp
      · intro r σ β a w hag hr
        obtain ⟨vs, h1, h2⟩ := hfun hag hr
        simp only [h2]
        exact denL_append _ _ (evL_ok hag hr c.args.toList l hops hle) h1
    · cases h
  · rename_i hc
    split at h
    · rename_i x u us hx hu; exact rs_len ht hop hc hx hu hl hd h
    · cases h
  · rename_i hc
    split at h
    · rename_i x u us hx hu'
      replace h := oO_some h; obtain ⟨a', ha, h⟩ := h
      replace h := oO_some h; obtain ⟨i, hi, h⟩ := h
      obtain ⟨_, _, d, _, _, _, _, _, hu, hdk⟩ := (tinf_ok ht hi).parts
      have gen : ∀ {n : Nat}, (∀ β v w, a'.den β = some v → (Builtin.cap_ c.argTypes o.type #[v]).run E.P w = .ok (.int .i64 (n : Int)) w) → some (s.put o (.lit .i64 (n : Int)), ([] : List Nat), ([] : List Nat)) = some p → PostR E ops o s (KE p) := by
        intro n hden h
        refine post_val (r := []) h hl hd fun σ β a w hag hr => ⟨_, ?_, rfl⟩
        have e1 := ev_ok hag hr (bi_mem hop hc (x := x) (by rw [hx]; simp)) ha
        refine bi_run hop hc ?_
        simp only [builtin, args1 hx, Sem.run_bind, hden β _ w e1, Result.andThen_ok, Sem.run_pure]
      split at h
      · rename_i id off len cap hk
        rw [hk] at hdk
        obtain rfl := kindOf_slice hdk
        refine gen (fun β v w hv => ?_) h
        simp only [SV.den, Option.map_eq_some_iff] at hv
        obtain ⟨q, _, rfl⟩ := hv
        simp [Builtin.cap_, at0 hu', run_underlying' w hu, goInt]
      · rename_i ad len cap hk
        rw [hk] at hdk
        obtain rfl := kindOf_slice hdk
        refine gen (fun β v w hv => ?_) h
        simp only [SV.den, Option.some.injEq] at hv
        subst hv
        simp [Builtin.cap_, at0 hu', run_underlying' w hu, goInt]
      · cases h
    · cases h
  · rename_i hc
    split at h
    · rename_i x y u u' us hx hu
      replace h := oO_some h; obtain ⟨a', ha, h⟩ := h
      replace h := oO_some h; obtain ⟨b', hb, h⟩ := h
      replace h := oO_some h; obtain ⟨ix, hix, h⟩ := h
      split at h
      · rename_i hk; exact rs_zeros ht hop hc hx hu ha hb hix hk hl hd h
      · exact rs_append ht hop hc hx hu ha hb hl hd h
    · cases h
  · rename_i hc
    split at h
    · rename_i x y hx
      replace h := oO_some h; obtain ⟨a', ha, h⟩ := h
      replace h := oO_some h; obtain ⟨b', hb, h⟩ := h
      split at h
      · rename_i ka m kb n
        refine rs_minmax (f := fun m n => if n > m then n else m) hop hc hx ha hb (fun w => ?_) hl hd (by rw [← h, sel_eq]; by_cases hh : n > m <;> simp [hh])
        simp [builtin, Builtin.max_, Builtin.max2]
      · cases h
    · cases h
  · rename_i hc
    split at h
    · rename_i x y hx
      replace h := oO_some h; obtain ⟨a', ha, h⟩ := h
      replace h := oO_some h; obtain ⟨b', hb, h⟩ := h
      split at h
      · rename_i ka m kb n
        refine rs_minmax (f := fun m n => if n < m then n else m) hop hc hx ha hb (fun w => ?_) hl hd (by rw [← h, sel_eq]; by_cases hh : n < m <;> simp [hh])
        simp [builtin, Builtin.min_, Builtin.min2]
      · cases h
    · cases h
  · rename_i hc
    split at h
    · rename_i x y u us hx hu
      replace h := oO_some h; obtain ⟨a', ha, h⟩ := h
      replace h := oO_some h; obtain ⟨b', hb, h⟩ := h
      exact rs_copy ht hop hc hx hu ha hb hl hd h
    · cases h
  · cases h

theorem rs_op {cl : RC} (hcl : RCok E.P cl) (ht : TTok E.P tt) {draw : Bool} (hl : Sz E.nt s) (hd : ∀ t, o.dst = some t → t < E.nt) (h : rOp tt cl draw o s = some p) : PostR E ops o s (KE p) := by
  unfold rOp at h
  split at h
  · rename_i x hop; exact rs_move ht (.inl hop) hl hd h
  · rename_i x hop; exact rs_move ht (.inr hop) hl hd h
  · rename_i hop; exact rs_pick hop hl hd h
  · rename_i hop; exact rs_alloc ht hop hl hd h
  · rename_i hop; exact rs_box ht hop hl hd h
  · rename_i hop; exact rs_build ht hop hl hd h
  · rename_i hop; exact rs_buildSlice ht hop hl hd h
  · rename_i hop; exact rs_makeSlice ht hop hl hd h
  · rename_i hop; exact rs_makeFunc hop hl hd h
  · rename_i hop; exact rs_load ht hop hl hd h
  · rename_i hop; exact rs_store ht hop hl hd h
  · rename_i hop; exact rs_nilCheck ht hop hl hd h
  · rename_i hop; exact rs_binOp ht hop hl hd h
  · rename_i hop; exact rs_unOp ht hop hl hd h
  · rename_i hop; exact rs_convert ht hop hl hd h
  · rename_i hop; exact rs_fieldAddr ht hop hl hd h
  · rename_i hop; exact rs_field ht hop hl hd h
  · rename_i hop; exact rs_index (addr := true) ht hop hl hd h
  · rename_i hop; exact rs_index (addr := false) ht hop hl hd h
  · rename_i hop; exact rs_slice ht hop hl hd h
  · rename_i hop; exact rs_extract ht hop hl hd h
  · rename_i hop; exact rs_call hcl ht hop hl hd h
  · cases h

theorem rOp_strip {cl : RC} {draw : Bool} {o' : Oper} (h1 : o'.op = o.op) (h2 : o'.dst = o.dst) (h : rOp tt cl draw o' s = some p) : rOp tt cl draw o s = some p := by
  obtain ⟨d, op, ty, pos, af, g⟩ := o
  obtain ⟨d', op', ty', pos', af', g'⟩ := o'
  simp only at h1 h2
  subst h1; subst h2
  exact h

theorem PostR.mono {k k' : St → List Nat → List Nat → Prop} (h : PostR E ops o s k) (hk : ∀ a b c, k a b c → k' a b c) : PostR E ops o s k' := by
  obtain ⟨s', r, u, W, h1, h2⟩ := h
  exact ⟨s', r, u, W, hk _ _ _ h1, h2⟩

theorem rstep {cl : RC} (hcl : RCok E.P cl) (ht : TTok E.P tt) {draw : Bool} {j : Nat} {k : St → List Nat → List Nat → Prop} (hl : Sz E.nt s) (ho : ops[j]? = some o) (hd : ∀ t, o.dst = some t → t < E.nt)
    (h : (rWant s (stripG ops.toList o) = some true ∧ ∃ p, rOp tt cl draw (stripG ops.toList o) s = some p ∧ k p.1 p.2.1 p.2.2) ∨ (rWant s (stripG ops.toList o) = some false ∧ k (s.put (stripG ops.toList o) (.v undef)) [] [])) : PostS E ops j o s k := by
  have ke : ∀ {p : St × List Nat × List Nat}, k p.1 p.2.1 p.2.2 → ∀ a b c, KE p a b c → k a b c := by
    intro p hk a b c e
    have := Option.some.inj e
    subst this
    exact hk
  cases hg : o.guard with
  | none =>
    have hst : stripG ops.toList o = ⟨o.dst, o.op, 0, "", #[], none⟩ := by simp [stripG, hg]
    rcases h with ⟨_, p, h1, h2⟩ | ⟨h1, _⟩
    · have h3 := rOp_strip (o := o) (by rw [hst]) (by rw [hst]) h1
      exact postS_of ((rs_op hcl ht hl hd h3).mono (ke h2)) ho (fun σ β a w r _ _ => by simp [Region.wanted, hg])
    · rw [hst] at h1; simp [rWant] at h1
  | some gw =>
    obtain ⟨g, want⟩ := gw
    cases hdst : (nth ops.toList g).bind (·.dst) with
    | none =>
      have hst : stripG ops.toList o = ⟨o.dst, .panic (.const undef), 0, "", #[], none⟩ := by simp [stripG, hg, hdst]
      rcases h with ⟨_, p, h1, _⟩ | ⟨h1, _⟩
      · rw [hst] at h1; simp [rOp] at h1
      · rw [hst] at h1; simp [rWant] at h1
    | some t =>
      have hst : stripG ops.toList o = ⟨o.dst, o.op, 0, "", #[], some (t, want)⟩ := by simp [stripG, hg, hdst]
      have hdst' : (ops[g]?).bind (·.dst) = some t := by rw [← hdst, nth_eq]; simp
      rw [hst] at h
      simp only [rWant] at h
      cases hx : s.tmps.get t with
      | none => rw [hx] at h; simp at h
      | some x =>
        rw [hx] at h
        have hput : s.put (⟨o.dst, o.op, 0, "", #[], some (t, want)⟩ : Oper) (.v undef) = s.put o (.v undef) := rfl
        split at h
        · rename_i b hxb
          obtain rfl : x = .bl b := by simpa using hxb
          rcases h with ⟨h0, p, h1, h2⟩ | ⟨h0, h1⟩
          · have hb : b = want := by simpa using h0
            have h3 := rOp_strip (o := o) rfl rfl h1
            refine postS_of ((rs_op hcl ht hl hd h3).mono (ke h2)) ho (fun σ β a w r hag hr => ?_)
            obtain ⟨v, h1, h2⟩ := yield_of hg hdst' hx rfl hag hr
            simp only [SV.den, Option.some.injEq] at h1
            subst h1
            simp [Region.wanted, hg, h2, hb]
          · have hb : b ≠ want := by simpa using h0
            rw [hput] at h1
            refine postS_skip h1 hl hd ho (fun σ β a w hag hr => ?_)
            obtain ⟨v, h1, h2⟩ := yield_of hg hdst' hx rfl hag hr
            simp only [SV.den, Option.some.injEq] at h1
            subst h1
            simp [Region.wanted, hg, h2, hb]
        · rename_i cs hxb
          obtain rfl : x = .v (.tuple cs) := by simpa using hxb
          rcases h with ⟨h0, _⟩ | ⟨h0, h1⟩
          · simp at h0
          · rw [hput] at h1
            refine postS_skip h1 hl hd ho (fun σ β a w hag hr => ?_)
            obtain ⟨v, h1, h2⟩ := yield_of hg hdst' hx rfl hag hr
            simp only [SV.den, Option.some.injEq] at h1
            subst h1
            simp [Region.wanted, hg, h2]
        · simp at h

theorem r_region {cl : RC} (hcl : RCok E.P cl) (ht : TTok E.P tt) (hm : E.P.follows .mixedOrders = true) {id : Nat} {draw : Bool} {s s' : St} (hok : regOk E.nt ops draw = true)
    (hl : Sz E.nt s) (h : rOps tt cl (cond draw (masks [] ops.toList) []) draw (ops.toList.map (stripG ops.toList)) 0 [] s = some s') {Q : Exit → Act → World → Prop}
    (hQ : ∀ β a w, Sz E.nt s' → Rl E s'.sg β a w → Q .normal a w) : ∀ β a w, Rl E s.sg β a w → (Code.region id ops draw).wp E.P Q a w := by
  refine region_gen hm hok hl (k := fun x => x = s') (fun l j T s => rOps tt cl (cond draw (masks [] ops.toList) []) draw (l.map (stripG ops.toList)) j T s = some s') (fun j T s h => by simpa [rOps] using h) ?_ h (fun s1 β a w h1 h2 h3 => by subst h3; exact hQ β a w h1 h2)
  intro hd o l j T s _ ho hmem hl h
  rw [List.map_cons, rOps] at h
  refine rstep (draw := draw) hcl ht hl ho (hd o hmem) ?_
  split at h
  · rename_i hw
    refine .inl ⟨hw, ?_⟩
    cases hp : rOp tt cl draw (stripG ops.toList o) s with
    | none => rw [hp] at h; cases h
    | some q =>
      obtain ⟨s1, r, u⟩ := q
      rw [hp] at h
      refine ⟨_, rfl, ?_⟩
      simp only [rGo] at h
      simp only [kGo]
      cases r with
      | nil => exact h
      | cons r0 rs =>
        replace h := gO_some h; obtain ⟨h1, h⟩ := h
        simp only at h1 ⊢
        rw [h1]
        exact h
  · rename_i hw
    exact .inr ⟨hw, h⟩
  · cases h

end

theorem rC_ok {E : Env} {tt : TT} {cl : RC} (hcl : RCok E.P cl) (ht : TTok E.P tt) (hm : E.P.follows .mixedOrders = true) (fuel : Nat) : ∀ (c : Code) (x : SC) (s : St) (e : Ex) (s' : St), ofCode E.nt c = some x → Sz E.nt s → rC tt cl fuel x s = some (e, s') →
    ∀ β a w, Rl E s.sg β a w → c.wp E.P (QK E fun e1 s1 => e1 = e ∧ s1 = s') a w
  | .skip, x, s, e, s', hx, hl, h, β, a, w, hr => by
    simp only [ofCode, Option.some.injEq] at hx; subst hx
    simp only [rC, Option.some.injEq, Prod.mk.injEq] at h
    obtain ⟨rfl, rfl⟩ := h
    exact wp_skip ⟨s, β, hl, hr, rfl, rfl⟩
  | .label _, x, s, e, s', hx, hl, h, β, a, w, hr => by
    simp only [ofCode, Option.some.injEq] at hx; subst hx
    simp only [rC, Option.some.injEq, Prod.mk.injEq] at h
    obtain ⟨rfl, rfl⟩ := h
    exact wp_label ⟨s, β, hl, hr, rfl, rfl⟩
  | .region id ops draw, x, s, e, s', hx, hl, h, β, a, w, hr => by
    simp only [ofCode] at hx
    split at hx
    · rename_i hok
      simp only [Option.some.injEq] at hx
      subst hx
      simp only [rC] at h
      cases ho : rOps tt cl (cond draw (masks [] ops.toList) []) draw (ops.toList.map (stripG ops.toList)) 0 [] s with
      | none => rw [ho] at h; cases h
      | some s1 =>
        rw [ho] at h
        simp only [rEnd, Option.some.injEq, Prod.mk.injEq] at h
        obtain ⟨rfl, rfl⟩ := h
        exact r_region hcl ht hm hok hl ho (fun β a w hl' hr' => ⟨s1, β, hl', hr', rfl, rfl⟩) β a w hr
    · cases hx
  | .seq y z, x, s, e, s', hx, hl, h, β, a, w, hr => by
    simp only [ofCode] at hx
    split at hx
    · rename_i u v hu hv
      simp only [Option.some.injEq] at hx
      subst hx
      simp only [rC] at h
      cases h1 : rC tt cl fuel u s with
      | none => rw [h1] at h; cases h
      | some q =>
        obtain ⟨e1, s1⟩ := q
        rw [h1] at h
        refine wp_seq (wp_mono (rC_ok hcl ht hm fuel y u s e1 s1 hu hl h1 β a w hr) ?_)
        intro ee a' w' hq
        cases ee with
        | normal =>
          obtain ⟨s2, β', hl', hr', rfl, rfl⟩ := hq
          simp only [rThen] at h
          exact rC_ok hcl ht hm fuel z v s2 e s' hv hl' h β' a' w' hr'
        | exit id =>
          obtain ⟨s2, β', hl', hr', rfl, rfl⟩ := hq
          simp only [rThen, Option.some.injEq, Prod.mk.injEq] at h
          obtain ⟨rfl, rfl⟩ := h
          exact ⟨s2, β', hl', hr', rfl, rfl⟩
        | ret =>
          obtain ⟨s2, β', hl', hr', rfl, rfl⟩ := hq
          simp only [rThen, Option.some.injEq, Prod.mk.injEq] at h
          obtain ⟨rfl, rfl⟩ := h
          exact ⟨s2, β', hl', hr', rfl, rfl⟩
        | goto l => exact hq.elim
        | panic c => exact hq.elim
        | outgrown => exact hq.elim
    · cases hx
  | .cond c y z, x, s, e, s', hx, hl, h, β, a, w, hr => by
    simp only [ofCode] at hx
    split at hx
    · rename_i u v hu hv
      simp only [Option.some.injEq] at hx
      subst hx
      simp only [rC] at h
      have hev : ∀ b, evO s c = some (.bl b) → a.eval c = .bool b := by
        intro b hb
        cases c with
        | tmp t =>
          simp only [evO] at hb
          obtain ⟨hb, hun⟩ := known_ok hb
          have := (hr.tmp t _ (by simp [St.sg, hb])).2 hun
          simp only [SV.den, Option.some.injEq] at this
          exact this.symm
        | const v =>
          simp only [evO, Option.some.injEq] at hb
          have := den_ofC β v
          rw [hb] at this
          simp only [SV.den, Option.some.injEq] at this
          exact this.symm
        | global g => simp [evO] at hb
        | func f => simp [evO] at hb
      cases hc : evO s c with
      | none => rw [hc] at h; cases h
      | some xv =>
        rw [hc] at h
        cases xv with
        | bl b =>
          refine wp_cond (t := b) (hev b hc) ?_
          cases b with
          | true => exact rC_ok hcl ht hm fuel y u s e s' hu hl h β a w hr
          | false => exact rC_ok hcl ht hm fuel z v s e s' hv hl h β a w hr
        | _ => cases h
    · cases hx
  | .block id y, x, s, e, s', hx, hl, h, β, a, w, hr => by
    simp only [ofCode] at hx
    split at hx
    · rename_i u hu
      simp only [Option.some.injEq] at hx
      subst hx
      simp only [rC] at h
      cases h1 : rC tt cl fuel u s with
      | none => rw [h1] at h; cases h
      | some q =>
        obtain ⟨e1, s1⟩ := q
        rw [h1] at h
        refine wp_block (wp_mono (rC_ok hcl ht hm fuel y u s e1 s1 hu hl h1 β a w hr) ?_)
        intro ee a' w' hq
        cases ee with
        | normal =>
          obtain ⟨s2, β', hl', hr', rfl, rfl⟩ := hq
          simp only [rBlock, Option.some.injEq, Prod.mk.injEq] at h
          obtain ⟨rfl, rfl⟩ := h
          exact ⟨s2, β', hl', hr', rfl, rfl⟩
        | exit i =>
          obtain ⟨s2, β', hl', hr', rfl, rfl⟩ := hq
          simp only [Exit.inBlock]
          simp only [rBlock] at h
          split at h
          · rename_i hi
            simp only [Option.some.injEq, Prod.mk.injEq] at h
            obtain ⟨rfl, rfl⟩ := h
            rw [if_pos (Nat.eq_of_beq_eq_true hi)]; exact ⟨s2, β', hl', hr', rfl, rfl⟩
          · rename_i hi
            simp only [Option.some.injEq, Prod.mk.injEq] at h
            obtain ⟨rfl, rfl⟩ := h
            rw [if_neg (fun e => by rw [e] at hi; simp at hi)]; exact ⟨s2, β', hl', hr', rfl, rfl⟩
        | ret =>
          obtain ⟨s2, β', hl', hr', rfl, rfl⟩ := hq
          simp only [rBlock, Option.some.injEq, Prod.mk.injEq] at h
          obtain ⟨rfl, rfl⟩ := h
          exact ⟨s2, β', hl', hr', rfl, rfl⟩
        | goto l => exact hq.elim
        | panic c => exact hq.elim
        | outgrown => exact hq.elim
    · cases hx
  | .loop y, x, s, e, s', hx, hl, h, β, a, w, hr => by
    simp only [ofCode] at hx
    split at hx
    · rename_i u hu
      simp only [Option.some.injEq] at hx
      subst hx
      simp only [rC] at h
      refine wp_loop_rounds fuel ?_
      have key : ∀ (n : Nat) (s : St), Sz E.nt s → rLoop (fun s => rC tt cl fuel u s) n s = some (e, s') → ∀ β a w, Rl E s.sg β a w → Code.rounds E.P y (QK E fun e1 s1 => e1 = e ∧ s1 = s') n a w := by
        intro n
        induction n with
        | zero => intro s _ h; cases h
        | succ n ih =>
          intro s hl h β a w hr
          rw [rounds_succ]
          simp only [rLoop] at h
          cases h1 : rC tt cl fuel u s with
          | none => rw [h1] at h; cases h
          | some q =>
            obtain ⟨e1, s1⟩ := q
            rw [h1] at h
            refine wp_mono (rC_ok hcl ht hm fuel y u s e1 s1 hu hl h1 β a w hr) ?_
            intro ee a' w' hq
            cases ee with
            | normal => obtain ⟨s2, β', hl', hr', rfl, rfl⟩ := hq; exact ih s2 hl' h β' a' w' hr'
            | exit id =>
              obtain ⟨s2, β', hl', hr', rfl, rfl⟩ := hq
              simp only [Option.some.injEq, Prod.mk.injEq] at h
              obtain ⟨rfl, rfl⟩ := h
              exact ⟨s2, β', hl', hr', rfl, rfl⟩
            | ret =>
              obtain ⟨s2, β', hl', hr', rfl, rfl⟩ := hq
              simp only [Option.some.injEq, Prod.mk.injEq] at h
              obtain ⟨rfl, rfl⟩ := h
              exact ⟨s2, β', hl', hr', rfl, rfl⟩
            | goto l => exact hq.elim
            | panic c => exact hq.elim
            | outgrown => exact hq.elim
      exact key fuel s hl h β a w hr
    · cases hx
  | .exit id, x, s, e, s', hx, hl, h, β, a, w, hr => by
    simp only [ofCode, Option.some.injEq] at hx; subst hx
    simp only [rC, Option.some.injEq, Prod.mk.injEq] at h
    obtain ⟨rfl, rfl⟩ := h
    exact wp_exit ⟨s, β, hl, hr, rfl, rfl⟩
  | .ret, x, s, e, s', hx, hl, h, β, a, w, hr => by
    simp only [ofCode, Option.some.injEq] at hx; subst hx
    simp only [rC, Option.some.injEq, Prod.mk.injEq] at h
    obtain ⟨rfl, rfl⟩ := h
    exact wp_ret ⟨s, β, hl, hr, rfl, rfl⟩
  | .rangeFunc .., x, s, e, s', hx, _, _, _, _, _, _ => by simp [ofCode] at hx
  | .scope _, x, s, e, s', hx, _, _, _, _, _, _ => by simp [ofCode] at hx
  | .goto _, x, s, e, s', hx, _, _, _, _, _, _ => by simp [ofCode] at hx
  | .refuse _, x, s, e, s', hx, _, _, _, _, _, _ => by simp [ofCode] at hx

/-- A table of functions that a program has. -/
structure FEok (P : Program) (f : FuncId) (e : FE) : Prop where
  out : ∃ fn, P.funcs[f]? = some fn ∧ (fn.name == "runtime.NumGoroutine") = false ∧ fn.body.isSome = true ∧ ofCode fn.ntmps (bodyOf fn) = some (e.sc ()) ∧ e.nt = fn.ntmps ∧ e.res = fn.results.toList
def CTok (P : Program) (ct : FuncId → Option FE) : Prop := ∀ f e, ct f = some e → FEok P f e
def okF (fn : Func) : Bool := fn.body.isSome && !(fn.name == "runtime.NumGoroutine") && (ofCode fn.ntmps (bodyOf fn)).isSome
def FTok (P : Program) (ft : FT) : Prop := ∀ f fn, ft f = some fn → P.funcs[f]? = some fn ∧ okF fn = true
theorem scQ_ok {nt : Nat} : ∀ (c : Code) (x : SC), ofCode nt c = some x → scQ c = x
  | .skip, x, h => by simp only [ofCode, Option.some.injEq] at h; exact h
  | .label _, x, h => by simp only [ofCode, Option.some.injEq] at h; exact h
  | .region _ ops draw, x, h => by
    simp only [ofCode] at h
    split at h
    · simp only [Option.some.injEq] at h; exact h
    · cases h
  | .seq a b, x, h => by
    simp only [ofCode] at h
    split at h
    · rename_i u v hu hv
      simp only [Option.some.injEq] at h
      rw [← h, scQ, scQ_ok a u hu, scQ_ok b v hv]
    · cases h
  | .cond c a b, x, h => by
    simp only [ofCode] at h
    split at h
    · rename_i u v hu hv
      simp only [Option.some.injEq] at h
      rw [← h, scQ, scQ_ok a u hu, scQ_ok b v hv]
    · cases h
  | .block id a, x, h => by
    simp only [ofCode] at h
    split at h
    · rename_i u hu
      simp only [Option.some.injEq] at h
      rw [← h, scQ, scQ_ok a u hu]
    · cases h
  | .loop a, x, h => by
    simp only [ofCode] at h
    split at h
    · rename_i u hu
      simp only [Option.some.injEq] at h
      rw [← h, scQ, scQ_ok a u hu]
    · cases h
  | .exit _, x, h => by simp only [ofCode, Option.some.injEq] at h; exact h
  | .ret, x, h => by simp only [ofCode, Option.some.injEq] at h; exact h
  | .rangeFunc .., x, h => by simp [ofCode] at h
  | .scope _, x, h => by simp [ofCode] at h
  | .goto _, x, h => by simp [ofCode] at h
  | .refuse _, x, h => by simp [ofCode] at h
theorem ctOf_ok {P : Program} {ft : FT} (h : FTok P ft) : CTok P (ctOf ft) := by
  intro f e he
  unfold ctOf at he
  split at he
  · rename_i fn hf
    obtain ⟨h1, h2⟩ := h f fn hf
    unfold okF at h2
    simp only [Bool.and_eq_true, Bool.not_eq_true'] at h2
    simp only [Option.some.injEq] at he
    subst he
    obtain ⟨x, hx⟩ := Option.isSome_iff_exists.1 h2.2
    exact ⟨fn, h1, h2.1.2, h2.1.1, by rw [hx, scQ_ok _ x hx], rfl, rfl⟩
  · cases he
theorem ftLeaf {P : Program} {g : FuncId} {fn : Func} {f : FuncId} (h1 : P.funcs[g]? = some fn) (h2 : okF fn = true) : ∀ x, sel (Nat.beq f g) (fun _ => some fn) (fun _ => none) = some x → P.funcs[f]? = some x ∧ okF x = true := by
  intro x hx
  rw [sel_eq] at hx
  cases hb : Nat.beq f g with
  | true =>
    obtain rfl := Nat.eq_of_beq_eq_true hb
    rw [hb] at hx
    simp only [cond_true, Option.some.injEq] at hx
    subst hx
    exact ⟨h1, h2⟩
  | false => rw [hb] at hx; cases hx
theorem ftBr {P : Program} {f : FuncId} {b : Bool} {x y : Option Func} (hx : ∀ z, x = some z → P.funcs[f]? = some z ∧ okF z = true) (hy : ∀ z, y = some z → P.funcs[f]? = some z ∧ okF z = true) :
    ∀ z, sel b (fun _ => x) (fun _ => y) = some z → P.funcs[f]? = some z ∧ okF z = true := by
  intro z hz
  rw [sel_eq] at hz
  cases b with
  | true => exact hx z hz
  | false => exact hy z hz

/-- Functions whose results are told. -/
def GVok (P : Program) (gv : GV) : Prop := ∀ f F l x, gv f = some F → F l = some x →
  (∃ fn, P.funcs[f]? = some fn ∧ (fn.name == "runtime.NumGoroutine") = false ∧ fn.body.isSome = true) ∧ ∃ vs V, (∀ β, denL β l = some vs) ∧ (∀ β, x.den β = some V) ∧ ∀ w, Calls P f vs.toArray w fun e w' => e = .returned V ∧ Below w.heap.size w w'
theorem gvNone (P : Program) : GVok P (fun _ => none) := fun f F l x h => by cases h

theorem rCall_ok {P : Program} {tt : TT} {ct : FuncId → Option FE} {gv : GV} (ht : TTok P tt) (hm : P.follows .mixedOrders = true) (hct : CTok P ct) (hgv : GVok P gv) (fuel : Nat) : ∀ n, RCok P (rCall tt ct gv fuel n)
  | 0 => fun f l h x h' hh => by cases hh
  | n + 1 => by
    intro f l h x h' hh
    simp only [rCall] at hh
    split at hh
    · rename_i F hF
      replace hh := oO_some hh; obtain ⟨y, hy, hh⟩ := hh
      simp only [Option.some.injEq, Prod.mk.injEq] at hh
      obtain ⟨rfl, rfl⟩ := hh
      obtain ⟨h1, us, V, h2, h3, h4⟩ := hgv f F l y hF hy
      refine ⟨h1, fun E β w vs hP hvs hH => ?_⟩
      rw [h2 β] at hvs
      injection hvs with hvs
      subst hvs
      refine (h4 w).mono ?_
      rintro e w' ⟨rfl, hb⟩
      exact ⟨β, V, rfl, h3 β, hH.below hb⟩
    · replace hh := oO_some hh; obtain ⟨e, he, hh⟩ := hh
      replace hh := gO_some hh; obtain ⟨hn, hh⟩ := hh
      have hn := Nat.le_of_ble_eq_true hn
      obtain ⟨fn, hf1, hf2, hf3, hf4, hf5, hf6⟩ := (hct f e he).out
      refine ⟨⟨fn, hf1, hf2, hf3⟩, fun E β w vs hP hvs hH => ?_⟩
      subst hP
      rw [hf5] at hn hh
      cases hr : rC tt (rCall tt ct gv fuel n) fuel (e.sc ()) ⟨Br.ofA l fn.ntmps, h⟩ with
      | none => rw [hr] at hh; cases hh
      | some q =>
        obtain ⟨ex, s'⟩ := q
        rw [hr, hf6] at hh
        let E' : Env := ⟨E.P, E.w0, E.prot, fn.ntmps, E.low, E.anc⟩
        have hlv := denL_length hvs
        have hlen : Sz E'.nt ⟨Br.ofA l fn.ntmps, h⟩ := by
          intro t
          show (∃ x, (Br.ofA l fn.ntmps).get t = some x) ↔ t < fn.ntmps
          rw [Br.get_ofA l fn.ntmps t hn]
          by_cases h1 : t < l.length
          · rw [if_pos h1, nth_eq]; exact ⟨fun _ => by omega, fun _ => ⟨l[t], by simp [h1]⟩⟩
          · rw [if_neg h1]
            by_cases h2 : t < fn.ntmps
            · rw [if_pos h2]; exact ⟨fun _ => h2, fun _ => ⟨_, rfl⟩⟩
            · rw [if_neg h2]; exact ⟨fun h => (by obtain ⟨x, hx⟩ := h; cases hx), fun h => absurd h h2⟩
        have hRl : Rl E' (St.sg ⟨Br.ofA l fn.ntmps, h⟩) β { tmps := vs.toArray ++ Array.replicate (fn.ntmps - vs.toArray.size) undef, defers := [] } w := by
          refine ⟨⟨hH.blk, hH.fresh, hH.inj, ⟨hH.keep.os, hH.keep.tape, hH.keep.output, hH.keep.size, hH.keep.block⟩, hH.anc⟩, ?_, rfl, ?_⟩
          · simp; show vs.length + (fn.ntmps - vs.length) = fn.ntmps; omega
          · intro t x hx
            simp only [St.sg, Option.map_eq_some_iff] at hx
            obtain ⟨y, hy, e⟩ := hx
            injection e with e
            subst e
            have hlt : t < fn.ntmps := (hlen t).1 ⟨y, hy⟩
            refine ⟨hlt, fun _ => ?_⟩
            rw [Br.get_ofA l fn.ntmps t hn] at hy
            rw [Array.getD_eq_getD_getElem?]
            by_cases h1 : t < l.length
            · rw [if_pos h1] at hy
              obtain ⟨v, g1, g2⟩ := denL_nth hvs hy
              rw [g2]
              have : (vs.toArray ++ Array.replicate (fn.ntmps - vs.toArray.size) undef)[t]? = some v := by
                rw [← Array.getElem?_toList]
                have h3 : t < vs.length := by omega
                simpa [List.getElem?_append_left h3] using g1
              rw [this]; rfl
            · rw [if_neg h1, if_pos hlt] at hy
              injection hy with hy
              subst hy
              have : (vs.toArray ++ Array.replicate (fn.ntmps - vs.toArray.size) undef)[t]? = some undef := by
                rw [← Array.getElem?_toList]
                have h3 : vs.length ≤ t := by omega
                simp only [Array.toList_append, Array.toList_replicate, List.size_toArray]
                rw [List.getElem?_append_right h3, List.getElem?_replicate, if_pos (by omega)]
              rw [this]; rfl
        refine calls_of_wp hf1 (body_some hf3) ?_
        refine wp_mono (rC_ok (E := E') (rCall_ok ht hm hct hgv fuel n) ht hm fuel (bodyOf fn) _ _ ex s' hf4 hlen hr β _ w hRl) ?_
        have fin : ∀ {s2 : St} {β' : Ren} {a' : Act} {w' : World}, Rl E' s2.sg β' a' w' → (oO (sxRes tt s2 fn.results.toList) fun r => some (resOf r, s2.blks)) = some (x, h') →
            a'.defers = [] ∧ ∃ v, (results fn a'.tmps).run E.P w' = .ok v w' ∧ ∃ β' v', Ending.returned v = .returned v' ∧ x.den β' = some v' ∧ Hl E (sgH h') β' w' := by
          intro s2 β' a' w' hr' hh
          replace hh := oO_some hh; obtain ⟨rl, hrl, hh⟩ := hh
          simp only [Option.some.injEq, Prod.mk.injEq] at hh
          obtain ⟨rfl, rfl⟩ := hh
          obtain ⟨v, h1, h2⟩ := results_ok (E := E') ht hr' hrl
          exact ⟨hr'.defers, v, h1, β', v, rfl, h2, ⟨hr'.blk, hr'.fresh, hr'.inj, ⟨hr'.keep.os, hr'.keep.tape, hr'.keep.output, hr'.keep.size, hr'.keep.block⟩, hr'.anc⟩⟩
        intro ee a' w' hq
        cases ee with
        | normal =>
          obtain ⟨s2, β', hl', hr', rfl, rfl⟩ := hq
          obtain ⟨k1, v, k2, k3⟩ := fin hr' hh
          exact ⟨k1, v, k2, k3⟩
        | ret =>
          obtain ⟨s2, β', hl', hr', rfl, rfl⟩ := hq
          obtain ⟨k1, v, k2, k3⟩ := fin hr' hh
          exact ⟨k1, v, k2, k3⟩
        | exit id => obtain ⟨s2, β', hl', hr', rfl, rfl⟩ := hq; cases hh
        | goto l => exact hq.elim
        | panic c => exact hq.elim
        | outgrown => exact hq.elim

/-- The way in: values in, a value out. -/
theorem rx {P : Program} {tt : TT} {ft : FT} {gv : GV} (ht : TTok P tt) (hm : P.follows .mixedOrders = true) (hft : FTok P ft) (hgv : GVok P gv) (fuel n : Nat) {f : FuncId} {l : List SV} {x : SV} {vs : List Value} {V : Value}
    (h : (rCall tt (ctOf ft) gv fuel n f l []).map (·.1) = some x) (hargs : ∀ β, denL β l = some vs) (hx : ∀ β v, x.den β = some v → v = V) (w : World) : Calls P f vs.toArray w fun e w' => e = .returned V ∧ Below w.heap.size w w' := by
  rw [Option.map_eq_some_iff] at h
  obtain ⟨⟨y, h'⟩, h, e⟩ := h
  simp only at e
  subst e
  obtain ⟨_, hs⟩ := rCall_ok ht hm (ctOf_ok hft) hgv fuel n f l [] y h' h
  refine (hs (envOf P w 0) (fun _ => none) w vs rfl (hargs _) ?_).mono ?_
  · refine ⟨fun id b hb => ?_, fun _ _ => rfl, fun i j b c q r hb => ?_, ⟨rfl, rfl, rfl, Nat.le_refl _, fun _ _ => rfl⟩, fun _ _ h => by cases h⟩
    · simp [sgH, St.sg, getB_nil, getB_cons] at hb
    · simp [sgH, St.sg, getB_nil, getB_cons] at hb
  · rintro e w' ⟨β', v, rfl, hv, hH⟩
    exact ⟨by rw [hx β' v hv], keeps_below rfl (fun _ => Iff.rfl) hH.keep⟩

end

end Go.Proofs.Ytpopapmmceopmaa.X
