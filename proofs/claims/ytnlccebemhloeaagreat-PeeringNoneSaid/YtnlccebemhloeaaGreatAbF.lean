/- Proved here: a faster evaluator that is the same; what it answers a call answers in any world; tables of answers; a law that is one run. -/
import Derived.Test.YtnlccebemhloeaaGreatAbA
import Derived.Test.YtnlccebemhloeaaGreatAbE
import Derived.ProofKit
import Derived.Below
import Derived.ChangeSame
set_option linter.all false
namespace Go.Ab

inductive I8 where
  | a | b | c | d | e | f | g | h
  deriving DecidableEq

structure N8 (α : Type) where
  a : α
  b : α
  c : α
  d : α
  e : α
  f : α
  g : α
  h : α

noncomputable def N8.sel {α : Type} (i : I8) (t : N8 α) : α := I8.rec (motive := fun _ => α) t.a t.b t.c t.d t.e t.f t.g t.h i
noncomputable def N8.puta {α : Type} (x : α) (t : N8 α) : N8 α := N8.rec (motive := fun _ => N8 α) (fun _ b c d e f g h => N8.mk x b c d e f g h) t
noncomputable def N8.putb {α : Type} (x : α) (t : N8 α) : N8 α := N8.rec (motive := fun _ => N8 α) (fun a _ c d e f g h => N8.mk a x c d e f g h) t
noncomputable def N8.putc {α : Type} (x : α) (t : N8 α) : N8 α := N8.rec (motive := fun _ => N8 α) (fun a b _ d e f g h => N8.mk a b x d e f g h) t
noncomputable def N8.putd {α : Type} (x : α) (t : N8 α) : N8 α := N8.rec (motive := fun _ => N8 α) (fun a b c _ e f g h => N8.mk a b c x e f g h) t
noncomputable def N8.pute {α : Type} (x : α) (t : N8 α) : N8 α := N8.rec (motive := fun _ => N8 α) (fun a b c d _ f g h => N8.mk a b c d x f g h) t
noncomputable def N8.putf {α : Type} (x : α) (t : N8 α) : N8 α := N8.rec (motive := fun _ => N8 α) (fun a b c d e _ g h => N8.mk a b c d e x g h) t
noncomputable def N8.putg {α : Type} (x : α) (t : N8 α) : N8 α := N8.rec (motive := fun _ => N8 α) (fun a b c d e f _ h => N8.mk a b c d e f x h) t
noncomputable def N8.puth {α : Type} (x : α) (t : N8 α) : N8 α := N8.rec (motive := fun _ => N8 α) (fun a b c d e f g _ => N8.mk a b c d e f g x) t
noncomputable def N8.put {α : Type} (i : I8) (x : α) (t : N8 α) : N8 α := I8.rec (motive := fun _ => N8 α) (N8.puta x t) (N8.putb x t) (N8.putc x t) (N8.putd x t) (N8.pute x t) (N8.putf x t) (N8.putg x t) (N8.puth x t) i
def N8.all {α : Type} (x : α) : N8 α := ⟨x, x, x, x, x, x, x, x⟩

abbrev RT := N8 (N8 (N8 AV))

inductive Pth where
  | p (i j k : I8)
  | out

def I8.of (n : Nat) : I8 := match n with
  | 0 => .a | 1 => .b | 2 => .c | 3 => .d | 4 => .e | 5 => .f | 6 => .g | _ => .h

/-- Where the place 'n' lies. -/
def pth (n : Nat) : Pth := cond (Nat.blt n 512) (.p (I8.of (n / 64)) (I8.of (n / 8 % 8)) (I8.of (n % 8))) .out

noncomputable def RT.at (T : RT) (q : Pth) : AV := Pth.rec (motive := fun _ => AV) (fun i j k => N8.sel k (N8.sel j (N8.sel i T))) undefA q
noncomputable def RT.put (T : RT) (v : AV) (q : Pth) : RT := Pth.rec (motive := fun _ => RT) (fun i j k => N8.put i (N8.put j (N8.put k v (N8.sel j (N8.sel i T))) (N8.sel i T)) T) T q
noncomputable def RT.get (T : RT) (n : Nat) : AV := RT.at T (pth n)
def RT.none : RT := N8.all (N8.all (N8.all undefA))

/-- Where 'd' lies among so many. -/
def dth (len d : Nat) : Pth := cond (Nat.blt d len) (pth d) .out
noncomputable def RT.set (len : Nat) (T : RT) (d : Nat) (v : AV) : RT := RT.put T v (dth len d)

noncomputable def Opd.evT (T : RT) (x : Opd) : AV := Opd.rec (motive := fun _ => AV) (fun n => RT.get T n) (fun v => v) x

noncomputable def Opd.evsT (T : RT) : List Opd → List AV
  | [] => []
  | x :: l => x.evT T :: Opd.evsT T l

noncomputable def evPartsT (T : RT) : List (Nat × Nat × Opd) → List (Nat × Nat × AV)
  | [] => []
  | (o, n, x) :: l => (o, n, x.evT T) :: evPartsT T l

noncomputable def boundT (T : RT) (d most : Nat) : Option Opd → Option Nat
  | none => some d
  | some x => match natIn (x.evT T) with
    | none => none
    | some n => cond (Nat.ble n most) (some n) none

noncomputable def boundsT (T : RT) (len cap : Nat) (lo hi mx : Option Opd) : Option (Nat × Nat × Nat) :=
  match boundT T cap cap mx with
  | none => none
  | some m => cond (hi.isNone && mx.isSome) none (match boundT T len m hi with
    | none => none
    | some h => match boundT T 0 h lo with
      | none => none
      | some l => some (l, h, m))

def q_bad (H : AHeap) (w : String) : OR := .bad w
def q_mv (H : AHeap) (x : AV) : OR := .val x H
def q_pick (H : AHeap) (c : AV) (a : AV) (b : AV) : OR := match c with
  | .bool true => .val a H
  | .bool false => .val b H
  | _ => .bad "pick"
def q_alloc (H : AHeap) (z : Tr AV) (n : Nat) : OR := .val (.ptr H.nx 0) (H.new (.cells z n))
def q_box (H : AHeap) (n : Nat) (x : AV) : OR := cond (Nat.beq x.cells.length n && x.cells.all AV.one) (.val (.ptr H.nx 0) (H.new (.cells (Tr.ofList x.cells) n))) (.bad "box")
def q_build (H : AHeap) (z : List AV) (ps : List (Nat × Nat × AV)) : OR := match fillA z ps with
  | some cs => .val (.agg cs) H
  | none => .bad "build"
def q_buildSlice (H : AHeap) (z : List AV) (n : Nat) (es : Nat) (len : Nat) (ps : List (Nat × Nat × AV)) : OR := match fillA z ps with
  | some cs => cond (Nat.beq cs.length n && cs.all AV.one) (.val (.slice H.nx 0 len len es true) (H.new (.cells (Tr.ofList cs) n))) (.bad "buildSlice")
  | none => .bad "buildSlice"
def q_load1 (H : AHeap) (a : AV) : OR := match a with
  | .ptr b o => match load1 H b o with
    | some v => .val v H
    | none => .bad "load"
  | _ => .bad "load: pointer"
def q_loadN (H : AHeap) (n : Nat) (a : AV) : OR := match a with
  | .ptr b o => match load H b o n with
    | some l => .val (.agg l) H
    | none => .bad "load"
  | _ => .bad "load: pointer"
def q_store (H : AHeap) (n : Nat) (a : AV) (x : AV) : OR := match a with
  | .ptr b o => cond (Nat.beq x.cells.length n) (match storeL H b o x.cells with
    | some H' => .val undefA H'
    | none => .bad "store") (.bad "store: size")
  | _ => .bad "store: pointer"
def q_nilCheck (H : AHeap) (x : AV) : OR := match x with
  | .nilPtr => .bad "nil pointer"
  | .nilIface => .bad "nil iface"
  | .nilFunc => .bad "nil func"
  | .ptr b o => .val (.ptr b o) H
  | .func (.func f) x y => .val (.func (.func f) x y) H
  | .func (.via t p f q) x y => .val (.func (.via t p f q) x y) H
  | _ => .bad "nilCheck"
def q_bin (H : AHeap) (op : BinOp) (x : AV) (y : AV) : OR := match binA op x y with
  | some v => .val v H
  | none => .bad "bin"
def q_eq (H : AHeap) (neg : Bool) (e : EqT) (x : AV) (y : AV) : OR := match eqA e x y with
  | some b => .val (.bool (cond neg (!b) b)) H
  | none => .bad "eq"
def q_not (H : AHeap) (x : AV) : OR := match x with
  | .bool b => .val (.bool (!b)) H
  | _ => .bad "not"
def q_neg (H : AHeap) (x : AV) : OR := match x with
  | .int k n => .val (.int k (wrapA k (Int.neg n))) H
  | _ => .bad "neg"
def q_com (H : AHeap) (x : AV) : OR := match x with
  | .int k n => .val (.int k (wrapN k (Nat.xor (modN k - 1) (modI k n)))) H
  | _ => .bad "com"
def q_toInt (H : AHeap) (k : IntKind) (x : AV) : OR := match x with
  | .int _ n => .val (.int k (wrapA k n)) H
  | _ => .bad "toInt"
def q_toStr (H : AHeap) (x : AV) : OR := match x with
  | .nilSlice => .val (.str []) H
  | .slice b o len _ _ _ => match load H b o len with
    | some l => match bytesOf l with
      | some s => .val (.str s) H
      | none => .bad "toStr"
    | none => .bad "toStr: load"
  | _ => .bad "toStr"
def q_toBytes (H : AHeap) (x : AV) : OR := match x with
  | .str s => .val (.slice H.nx 0 s.length s.length 1 false) (H.new (.cells (Tr.ofList (byteCells s)) s.length))
  | _ => .bad "toBytes"
def q_same (H : AHeap) (x : AV) : OR := match x with
  | .str s => .val (.str s) H
  | _ => .bad "same"
def q_toUnsafe (H : AHeap) (x : AV) : OR := match x with
  | .ptr b o => match H.get b with
    | some (.cells _ N) => cond (Nat.blt o N) (.val (.ptr b o) H) (.bad "toUnsafe")
    | _ => .bad "toUnsafe"
  | .nilPtr => .val .nilPtr H
  | _ => .bad "toUnsafe"
def q_again (H : AHeap) (x : AV) : OR := match x with
  | .slice b o len cap es ex => match H.get b with
    | some (.cells c N) => .val (.slice b o len cap es ex) (H.put b (.cells c N))
    | _ => .bad "again"
  | _ => .bad "again"
def q_mkIface (H : AHeap) (t : Nat) (x : AV) : OR := .val (.iface t x) H
def q_mkFunc (H : AHeap) (fn : AFn) (a : List AV) (b : List AV) : OR := .val (.func fn a b) H
def q_mkMap (H : AHeap)  : OR := .val (.map H.nx) (H.new (.map [] 0))
def q_mkSlice (H : AHeap) (z : List AV) (es : Nat) (bytes : Nat) (l : AV) (c : AV) : OR := match natIn l with
  | none => .bad "makeSlice"
  | some l => match natIn c with
    | none => .bad "makeSlice"
    | some c => cond (Nat.ble l c && Nat.ble (c * bytes) 1099511627776)
      (.val (.slice H.nx 0 l c es true) (H.new (.cells (Tr.ofList ((List.replicate c z).flatten)) (c * es)))) (.bad "makeSlice: size")
set_option linter.unusedVariables false
noncomputable def q_sliceStr (T : RT) (H : AHeap) (x : AV) (lo : Option Opd) (hi : Option Opd) : OR := match x with
  | .str s => match boundsT T s.length s.length lo hi none with
    | some (l, h, _) => .val (.str ((s.take h).drop l)) H
    | none => .bad "slice: bounds"
  | _ => .bad "slice"
noncomputable def q_slice (T : RT) (H : AHeap) (es : Nat) (x : AV) (lo : Option Opd) (hi : Option Opd) (mx : Option Opd) : OR := match x with
  | .nilSlice => match boundsT T 0 0 lo hi mx with
    | some _ => .val .nilSlice H
    | none => .bad "slice: bounds"
  | .slice b o len cap es' ex => cond (Nat.beq es es') (match boundsT T len cap lo hi mx with
    | some (l, h, m) => .val (.slice b (o + l * es) (h - l) (m - l) es (ex || mx.isSome)) H
    | none => .bad "slice: bounds") (.bad "slice: es")
  | _ => .bad "slice"
noncomputable def q_sliceArr (T : RT) (H : AHeap) (n : Nat) (es : Nat) (x : AV) (lo : Option Opd) (hi : Option Opd) (mx : Option Opd) : OR := match x with
  | .ptr b o => match H.get b with
    | some (.cells _ N) => cond (Nat.ble (o + n * es) N) (match boundsT T n n lo hi mx with
      | some (l, h, m) => .val (.slice b (o + l * es) (h - l) (m - l) es true) H
      | none => .bad "slice: bounds") (.bad "slice: the array")
    | _ => .bad "slice: array"
  | _ => .bad "slice: array"
def q_fieldAddr (H : AHeap) (off : Nat) (x : AV) : OR := match x with
  | .ptr b o => .val (.ptr b (o + off)) H
  | _ => .bad "fieldAddr"
def q_field (H : AHeap) (off : Nat) (n : Option Nat) (x : AV) : OR := match x with
  | .agg cs => match partA cs off n with
    | some v => .val v H
    | none => .bad "field"
  | _ => .bad "field"
def q_indexAddr (H : AHeap) (es : Nat) (x : AV) (i : AV) : OR := match natIn i with
  | none => .bad "index"
  | some i => match x with
    | .slice b o len _ _ _ => cond (Nat.blt i len) (.val (.ptr b (o + i * es)) H) (.bad "index out of range")
    | _ => .bad "indexAddr"
def q_indexArr (H : AHeap) (n : Nat) (es : Nat) (x : AV) (i : AV) : OR := match natIn i with
  | none => .bad "index"
  | some i => match x with
    | .ptr b o => cond (Nat.blt i n) (.val (.ptr b (o + i * es)) H) (.bad "index out of range")
    | _ => .bad "indexArr"
def q_index (H : AHeap) (n : Nat) (es : Nat) (ag : Bool) (x : AV) (i : AV) : OR := match natIn i with
  | none => .bad "index"
  | some i => match x with
    | .agg cs => cond (Nat.blt i n) (match partA cs (i * es) (cond ag (some es) none) with
      | some v => .val v H
      | none => .bad "index") (.bad "index out of range")
    | _ => .bad "index: array"
def q_indexStr (H : AHeap) (x : AV) (i : AV) : OR := match natIn i with
  | none => .bad "index"
  | some i => match x with
    | .str s => match s[i]? with
      | some n => .val (.int .u8 (.ofNat n)) H
      | none => .bad "index out of range"
    | _ => .bad "index: string"
def q_lookup (H : AHeap) (e : EqT) (z : AV) (ok : Bool) (x : AV) (k : AV) : OR := match x with
  | .nilMap => match eqA e k k with
    | some true => .val (cond ok (.tup [z, .bool false]) z) H
    | _ => .bad "lookup: key"
  | .map b => match H.get b with
    | some (.map es _) => match matchA e k es with
      | some (some j) => match es[j]? with
        | some p => .val (cond ok (.tup [p.2, .bool true]) p.2) H
        | none => .bad "lookup: place"
      | some none => .val (cond ok (.tup [z, .bool false]) z) H
      | none => .bad "lookup: key"
    | _ => .bad "lookup: map"
  | _ => .bad "lookup"
def q_mapUpdate (H : AHeap) (e : EqT) (m : AV) (k : AV) (x : AV) : OR := match m with
  | .map b => match H.get b with
    | some (.map es clock) => match matchA e k es with
      | some (some j) => match es[j]? with
        | some p => cond (keyLike p.1 && beqA p.1 k) (.val undefA (H.put b (.map (es.set j (p.1, x)) (clock + 1)))) (.bad "mapUpdate: key")
        | none => .bad "mapUpdate: place"
      | some none => .val undefA (H.put b (.map (insA k x es) (clock + 1)))
      | none => .bad "mapUpdate: key"
    | _ => .bad "mapUpdate: map"
  | _ => .bad "mapUpdate"
def q_delete (H : AHeap) (e : EqT) (m : AV) (k : AV) : OR := match m with
  | .nilMap => match eqA e k k with
    | some true => .val (.tup []) H
    | _ => .bad "delete: key"
  | .map b => match H.get b with
    | some (.map es clock) => match matchA e k es with
      | some (some j) => .val (.tup []) (H.put b (.map (es.eraseIdx j) (clock + 1)))
      | some none => .val (.tup []) (H.put b (.map es (clock + 1)))
      | none => .bad "delete: key"
    | _ => .bad "delete: map"
  | _ => .bad "delete"
def q_range (H : AHeap) (isStr : Bool) (x : AV) : OR := match x with
  | .str s => cond isStr (.val (.ptr H.nx 0) (H.new (.siter s 0))) (.bad "range")
  | .nilMap => cond isStr (.bad "range") (.val (.ptr H.nx 0) (H.new (.miter none 0 [] none)))
  | .map b => cond isStr (.bad "range") (match H.get b with
    | some (.map es clock) => .val (.ptr H.nx 0) (H.new (.miter (some b) clock es none))
    | _ => .bad "range: map")
  | _ => .bad "range"
def q_next (H : AHeap) (isStr : Bool) (x : AV) : OR := match x with
  | .ptr r 0 => cond isStr (match H.get r with
    | some (.siter s pos) => match s[pos]? with
      | none => .val (.tup [.bool false]) H
      | some c => cond (Nat.blt c 128) (.val (.tup [.bool true, .int .i64 (.ofNat pos), .int .i32 (.ofNat c)]) (H.put r (.siter s (pos + 1)))) (.bad "next: rune")
    | _ => .bad "next") (match H.get r with
    | some (.miter none _ _ _) => .val (.tup [.bool false]) H
    | some (.miter (some m) ver left _) => match H.get m with
      | some (.map _ clock) => cond (Nat.beq clock ver) (match left with
        | [] => .val (.tup [.bool false]) (H.put r .dead)
        | e :: l => match l with
          | [] => .val (.tup [.bool true, e.1, e.2]) (H.put r (.miter (some m) ver [] (some e)))
          | _ :: _ => match H.om with
            | [] => .need (l.length + 1)
            | c :: om => match (e :: l)[c]? with
              | some e' => .val (.tup [.bool true, e'.1, e'.2]) ({ H with om }.put r (.miter (some m) ver ((e :: l).eraseIdx c) (some e')))
              | none => .bad "next: choice") (.bad "next: the map is another one")
      | _ => .bad "next: map"
    | _ => .bad "next: iterator")
  | _ => .bad "next"
def q_entry (H : AHeap) (x : AV) : OR := match x with
  | .ptr r 0 => match H.get r with
    | some (.miter (some m) ver _ (some e)) => match H.get m with
      | some (.map _ clock) => cond (Nat.beq clock ver) (.val (.tup [e.1, e.2]) H) (.bad "entry: the map is another one")
      | _ => .bad "entry: map"
    | _ => .bad "entry: iterator"
  | _ => .bad "entry"
def q_assert (H : AHeap) (t : Nat) (z : AV) (ok : Bool) (x : AV) : OR := match x with
  | .iface t' v => cond (Nat.beq t t') (.val (cond ok (.tup [v, .bool true]) v) H) (cond ok (.val (.tup [z, .bool false]) H) (.bad "assert"))
  | .nilIface => cond ok (.val (.tup [z, .bool false]) H) (.bad "assert")
  | _ => .bad "assert"
def q_extract (H : AHeap) (x : AV) (i : Nat) : OR := match x with
  | .tup vs => match vs[i]? with
    | some v => .val v H
    | none => .bad "extract"
  | _ => .bad "extract"
def q_lenA (H : AHeap) (n : Nat) : OR := .val (.int .i64 (.ofNat n)) H
def q_len (H : AHeap) (k : Nat) (x : AV) : OR := match x with
  | .str s => match k with
    | 0 => .val (.int .i64 (.ofNat s.length)) H
    | _ => .bad "len"
  | .nilSlice => match k with
    | 1 => .val (.int .i64 (.ofNat 0)) H
    | _ => .bad "len"
  | .slice _ _ len _ _ _ => match k with
    | 1 => .val (.int .i64 (.ofNat len)) H
    | _ => .bad "len"
  | .nilMap => match k with
    | 2 => .val (.int .i64 (.ofNat 0)) H
    | _ => .bad "len"
  | .map b => match k with
    | 2 => match H.get b with
      | some (.map es _) => .val (.int .i64 (.ofNat es.length)) H
      | _ => .bad "len: map"
    | _ => .bad "len"
  | _ => .bad "len"
def q_cap (H : AHeap) (x : AV) : OR := match x with
  | .nilSlice => .val (.int .i64 0) H
  | .slice _ _ _ cap _ true => .val (.int .i64 (.ofNat cap)) H
  | _ => .bad "cap"
def q_min (H : AHeap) (x : AV) (y : AV) : OR := match x, y with
  | .int k a, .int _ b => .val (.int k (cond (ltb b a) b a)) H
  | _, _ => .bad "min"
def q_max (H : AHeap) (x : AV) (y : AV) : OR := match x, y with
  | .int k a, .int _ b => .val (.int k (cond (ltb a b) b a)) H
  | _, _ => .bad "max"
def q_append (H : AHeap) (es : Nat) (bytes : Nat) (s : AV) (x : AV) : OR := appendA es bytes H s x
def q_copy (H : AHeap) (es : Nat) (d : AV) (s : AV) : OR := match d with
  | .nilSlice => match srcCells H es 0 s with
    | some _ => .val (.int .i64 0) H
    | none => .bad "copy"
  | .slice b o len _ es' _ => cond (Nat.beq es es') (match srcCells H es len s with
    | some (n, l) => match storeL H b o l with
      | some H' => .val (.int .i64 (.ofNat n)) H'
      | none => .bad "copy: store"
    | none => .bad "copy: source") (.bad "copy: es")
  | _ => .bad "copy"
def q_recover (H : AHeap)  : OR := .recover
def q_call (H : AHeap) (f : AV) (args : List AV) : OR := .call f args
def q_invoke (H : AHeap) (r : AV) (n : String) (args : List AV) : OR := .invoke r n args
def q_dfr (H : AHeap) (f : AV) (args : List AV) : OR := .dfr f args
def q_panic (H : AHeap) (x : AV) : OR := match x with
  | .iface t v => .panic (.iface t v) H
  | _ => .bad "panic"

noncomputable def step1T (T : RT) (H : AHeap) : AOp → OR
  | .bad w => q_bad H w
  | .mv x => q_mv H (Opd.evT T x)
  | .pick c a b => q_pick H (Opd.evT T c) (Opd.evT T a) (Opd.evT T b)
  | .alloc z n => q_alloc H z n
  | .box n x => q_box H n (Opd.evT T x)
  | .build z ps => q_build H z (evPartsT T ps)
  | .buildSlice z n es len ps => q_buildSlice H z n es len (evPartsT T ps)
  | .load1 a => q_load1 H (Opd.evT T a)
  | .loadN n a => q_loadN H n (Opd.evT T a)
  | .store n a x => q_store H n (Opd.evT T a) (Opd.evT T x)
  | .nilCheck x => q_nilCheck H (Opd.evT T x)
  | .bin op x y => q_bin H op (Opd.evT T x) (Opd.evT T y)
  | .eq neg e x y => q_eq H neg e (Opd.evT T x) (Opd.evT T y)
  | .not x => q_not H (Opd.evT T x)
  | .neg x => q_neg H (Opd.evT T x)
  | .com x => q_com H (Opd.evT T x)
  | .toInt k x => q_toInt H k (Opd.evT T x)
  | .toStr x => q_toStr H (Opd.evT T x)
  | .toBytes x => q_toBytes H (Opd.evT T x)
  | .same x => q_same H (Opd.evT T x)
  | .toUnsafe x => q_toUnsafe H (Opd.evT T x)
  | .again x => q_again H (Opd.evT T x)
  | .mkIface t x => q_mkIface H t (Opd.evT T x)
  | .mkFunc fn a b => q_mkFunc H fn (Opd.evsT T a) (Opd.evsT T b)
  | .mkMap  => q_mkMap H 
  | .mkSlice z es bytes l c => q_mkSlice H z es bytes (Opd.evT T l) (Opd.evT T c)
  | .sliceStr x lo hi => q_sliceStr T H (Opd.evT T x) lo hi
  | .slice es x lo hi mx => q_slice T H es (Opd.evT T x) lo hi mx
  | .sliceArr n es x lo hi mx => q_sliceArr T H n es (Opd.evT T x) lo hi mx
  | .fieldAddr off x => q_fieldAddr H off (Opd.evT T x)
  | .field off n x => q_field H off n (Opd.evT T x)
  | .indexAddr es x i => q_indexAddr H es (Opd.evT T x) (Opd.evT T i)
  | .indexArr n es x i => q_indexArr H n es (Opd.evT T x) (Opd.evT T i)
  | .index n es ag x i => q_index H n es ag (Opd.evT T x) (Opd.evT T i)
  | .indexStr x i => q_indexStr H (Opd.evT T x) (Opd.evT T i)
  | .lookup e z ok x k => q_lookup H e z ok (Opd.evT T x) (Opd.evT T k)
  | .mapUpdate e m k x => q_mapUpdate H e (Opd.evT T m) (Opd.evT T k) (Opd.evT T x)
  | .delete e m k => q_delete H e (Opd.evT T m) (Opd.evT T k)
  | .range isStr x => q_range H isStr (Opd.evT T x)
  | .next isStr x => q_next H isStr (Opd.evT T x)
  | .entry x => q_entry H (Opd.evT T x)
  | .assert t z ok x => q_assert H t z ok (Opd.evT T x)
  | .extract x i => q_extract H (Opd.evT T x) i
  | .lenA n => q_lenA H n
  | .len k x => q_len H k (Opd.evT T x)
  | .cap x => q_cap H (Opd.evT T x)
  | .min x y => q_min H (Opd.evT T x) (Opd.evT T y)
  | .max x y => q_max H (Opd.evT T x) (Opd.evT T y)
  | .append es bytes s x => q_append H es bytes (Opd.evT T s) (Opd.evT T x)
  | .copy es d s => q_copy H es (Opd.evT T d) (Opd.evT T s)
  | .recover  => q_recover H 
  | .call f args => q_call H (Opd.evT T f) (Opd.evsT T args)
  | .invoke r n args => q_invoke H (Opd.evT T r) n (Opd.evsT T args)
  | .dfr f args => q_dfr H (Opd.evT T f) (Opd.evsT T args)
  | .panic x => q_panic H (Opd.evT T x)


inductive FR where
  | ok (e : AEx) (T : RT) (ds : List ADef) (H : AHeap) (up : UM)
  | need (k : Nat)
  | bad (why : String)

noncomputable def putT (len : Nat) (T : RT) (d : Option Nat) (v : AV) : RT := match d with
  | some d => RT.set len T d v
  | none => T

noncomputable def callT (len : Nat) (T : RT) (ds : List ADef) (up : UM) (dst : Option Nat) (K : RT → List ADef → AHeap → UM → FR) : CR → FR
  | .ret v H _ => K (putT len T dst v) ds H up
  | .pan l H _ => .ok (.panic l) T ds H up
  | .need k => .need k
  | .bad w => .bad w

/-- One operation, calls included, and what goes on behind it. -/
noncomputable def runT (call : UM → AV → List AV → AHeap → CR) (inv : AV → String → Option AV) (len : Nat) (rd : Option Nat) (T : RT) (ds : List ADef) (H : AHeap) (up : UM) (dst : Option Nat) (K : RT → List ADef → AHeap → UM → FR) : OR → FR
  | .val v H => K (putT len T dst v) ds H up
  | .panic v H => .ok (.panic [⟨v, false⟩]) T ds H up
  | .call f args => callT len T ds up dst K (call .no f args H)
  | .invoke r n args => match inv r n with
    | none => .bad "invoke"
    | some f => callT len T ds up dst K (call .no f args H)
  | .dfr f args => match rd with
    | some _ => .bad "defer in a round"
    | none => match f with
      | .func fn first cap => K (putT len T dst undefA) (⟨fn, first, cap, args, none⟩ :: ds) H up
      | _ => .bad "defer"
  | .recover => match rd with
    | some _ => .bad "recover in a round"
    | none => match up with
      | .pan (⟨v, false⟩ :: older) => K (putT len T dst v) ds H (.pan (⟨v, true⟩ :: older))
      | .no => .bad "recover in a plain frame"
      | up => K (putT len T dst .nilIface) ds H up
  | .need k => .need k
  | .bad w => .bad w

noncomputable def wantedT (T : RT) : Gd → Bool
  | .no => true
  | .is d b => match RT.get T d with
    | .bool c => boolEq c b
    | _ => false
  | .never => false

noncomputable def chkT (len : Nat) (T : RT) (dst : Option Nat) (go : FR) : OR → FR
  | .val v _ => match dst with
    | some d => cond (Nat.blt d len && beqA v (RT.get T d)) go (.bad "the order matters")
    | none => .bad "check"
  | _ => .bad "check"

/-- A step, and what goes on behind it. -/
noncomputable def stepT (call : UM → AV → List AV → AHeap → CR) (inv : AV → String → Option AV) (len : Nat) (rd : Option Nat) (dst : Option Nat) (g : Gd) (op : AOp) (chk : Bool)
    (K : RT → List ADef → AHeap → UM → FR) (T : RT) (ds : List ADef) (H : AHeap) (up : UM) : FR :=
  Bool.rec (motive := fun _ => FR)
    (Bool.rec (motive := fun _ => FR) (K (putT len T dst undefA) ds H up) (K T ds H up) chk)
    (Bool.rec (motive := fun _ => FR) (runT call inv len rd T ds H up dst K (step1T T H op)) (chkT len T dst (K T ds H up) (step1T T H op)) chk)
    (wantedT T g)

noncomputable def stepsT (call : UM → AV → List AV → AHeap → CR) (inv : AV → String → Option AV) (len : Nat) (rd : Option Nat) (l : List RStep) : RT → List ADef → AHeap → UM → FR :=
  List.rec (motive := fun _ => RT → List ADef → AHeap → UM → FR) (fun T ds H up => FR.ok .normal T ds H up)
    (fun r _ K => RStep.rec (motive := fun _ => RT → List ADef → AHeap → UM → FR) (fun dst g op chk => stepT call inv len rd dst g op chk K) r) l

def calmT (draw : Bool) (r : FR) : FR := cond draw (match r with
  | .ok (.panic _) _ _ _ _ => .bad "a panic in a region that draws"
  | r => r) r

abbrev FK := RT → List ADef → AHeap → UM → FR

def loopT : Nat → FK → FK
  | 0, _, _, _, _, _ => .bad "loop: out of fuel"
  | k + 1, body, T, ds, H, up => match body T ds H up with
    | .ok .normal T ds H up => loopT k body T ds H up
    | r => r

noncomputable def condT (ng : Nat) (T : RT) (c : Operand) : Option Bool := match opd ng c with
  | some x => match x.evT T with
    | .bool b => some b
    | _ => none
  | none => none

def scopeT : Nat → (Nat → RT → List ADef → AHeap → UM → Option FR) → FR → FR
  | 0, _, _ => .bad "scope: out of fuel"
  | k + 1, from_, r => match r with
    | .ok (.goto l) T ds H up => match from_ l T ds H up with
      | some r' => scopeT k from_ r'
      | none => .ok (.goto l) T ds H up
    | r => r

noncomputable def RT.list (T : RT) : Nat → Nat → List AV
  | 0, _ => []
  | n + 1, i => RT.get T i :: RT.list T n (i + 1)

noncomputable def RT.ofL : RT → Nat → List AV → RT
  | T, _, [] => T
  | T, i, v :: l => RT.ofL (RT.put T v (pth i)) (i + 1) l

noncomputable def rangeT (ng : Nat) (call : UM → AV → List AV → AHeap → CR) (len : Nat) (rd : Option Nat) (f : Operand) (params : Array Tmp) (assign body : Code) (T : RT) (ds : List ADef) (H : AHeap) (up : UM) : FR :=
  match rangeA ng call f params assign body ⟨RT.list T len 0, ds, H, up, rd⟩ with
  | .ok e s => .ok e T s.ds s.H s.up
  | .need k => .need k
  | .bad w => .bad w

noncomputable def exec2T (C : Ctx) (call : UM → AV → List AV → AHeap → CR) (inv : AV → String → Option AV) (K : Nat) (len : Nat) (rd : Option Nat) : Code → FK × (Nat → RT → List ADef → AHeap → UM → Option FR)
  | .skip => (fun T ds H up => .ok .normal T ds H up, fun _ _ _ _ _ => none)
  | .label l => (fun T ds H up => .ok .normal T ds H up, fun l' T ds H up => cond (Nat.beq l l') (some (.ok .normal T ds H up)) none)
  | .region _ ops draw => (fun T ds H up => calmT draw (stepsT call inv len rd (C.region ops draw) T ds H up), fun _ _ _ _ _ => none)
  | .seq a b => (fun T ds H up => match (exec2T C call inv K len rd a).1 T ds H up with
      | .ok .normal T ds H up => (exec2T C call inv K len rd b).1 T ds H up
      | r => r, fun l T ds H up => match (exec2T C call inv K len rd a).2 l T ds H up with
        | none => (exec2T C call inv K len rd b).2 l T ds H up
        | some (.ok .normal T ds H up) => some ((exec2T C call inv K len rd b).1 T ds H up)
        | some r => some r)
  | .cond c a b => (fun T ds H up => match condT C.ng T c with
    | some true => (exec2T C call inv K len rd a).1 T ds H up
    | some false => (exec2T C call inv K len rd b).1 T ds H up
    | none => .bad "cond", fun _ _ _ _ _ => none)
  | .block id b => (fun T ds H up => match (exec2T C call inv K len rd b).1 T ds H up with
    | .ok (.exit n) T ds H up => cond (Nat.beq n id) (.ok .normal T ds H up) (.ok (.exit n) T ds H up)
    | r => r, fun _ _ _ _ _ => none)
  | .loop b => (fun T ds H up => loopT K (exec2T C call inv K len rd b).1 T ds H up, fun _ _ _ _ _ => none)
  | .rangeFunc f params assign body => (fun T ds H up => rangeT C.ng call len rd f params assign body T ds H up, fun _ _ _ _ _ => none)
  | .exit n => (fun T ds H up => .ok (.exit n) T ds H up, fun _ _ _ _ _ => none)
  | .scope b => (fun T ds H up => scopeT K (exec2T C call inv K len rd b).2 ((exec2T C call inv K len rd b).1 T ds H up), fun _ _ _ _ _ => none)
  | .goto l => (fun T ds H up => .ok (.goto l) T ds H up, fun _ _ _ _ _ => none)
  | .ret => (fun T ds H up => .ok .ret T ds H up, fun _ _ _ _ _ => none)
  | .refuse w => (fun _ _ _ _ => .bad w, fun _ _ _ _ _ => none)

noncomputable def resultT (H : AHeap) (T : RT) (C : Ctx) : List ResultVar → Option (List AV)
  | [] => some []
  | .tmp t :: l => match resultT H T C l with
    | some r => some (RT.get T t :: r)
    | none => none
  | .cell a t :: l => match RT.get T a with
    | .ptr b o => match C.aggSize t with
      | some (some n) => match load H b o n with
        | some cs => match resultT H T C l with
          | some r => some (.agg cs :: r)
          | none => none
        | none => none
      | some none => match load1 H b o with
        | some v => match resultT H T C l with
          | some r => some (v :: r)
          | none => none
        | none => none
      | none => none
    | _ => none

noncomputable def leaveT (C : Ctx) (call : UM → AV → List AV → AHeap → CR) (fn : Func) (T : RT) (up : UM) : Nat → List ADef → UM → AHeap → CR
  | 0, _, _, _ => .bad "defers"
  | _ + 1, [], .ret, H => match resultT H T C fn.results.toList with
    | some l => .ret (tupled l) H up
    | none => .bad "results"
  | _ + 1, [], .pan l, H => .pan l H up
  | _ + 1, [], .no, _ => .bad "leave"
  | n + 1, d :: ds, u, H => match d.coll with
    | some r => match H.get r with
      | some (.dfr false l) => leaveT C call fn T up n (l ++ ds) u (H.put r (.dfr true []))
      | _ => .bad "collected"
    | none => match call u (.func d.fn d.first d.captured) d.args H with
      | .ret _ H' u' => leaveT C call fn T up n ds (settleA u') H'
      | .pan l H' u' => leaveT C call fn T up n ds (raisedA u' l) H'
      | .need k => .need k
      | .bad w => .bad w

noncomputable def bodyT (C : Ctx) (K : Nat) (call : UM → AV → List AV → AHeap → CR) (up : UM) (fn : Func) (c : Code) (args : List AV) (H : AHeap) : CR :=
  cond (Nat.ble args.length fn.ntmps && Nat.ble fn.ntmps 512)
    (match (exec2T C call (invA C) K fn.ntmps none c).1 (RT.ofL RT.none 0 args) [] H up with
    | .ok .normal T ds H up => leaveT C call fn T up 20 ds .ret H
    | .ok .ret T ds H up => leaveT C call fn T up 20 ds .ret H
    | .ok (.panic l) T ds H up => leaveT C call fn T up 20 ds (.pan l) H
    | .ok (.exit _) _ _ _ _ => .bad "exit"
    | .ok (.goto _) _ _ _ _ => .bad "goto"
    | .need k => .need k
    | .bad w => .bad (w ++ " < " ++ fn.name))
    (bodyA C K call up fn c args H)

noncomputable def endRoundT (up : UM) (l : Nat) : FR → CR
  | .ok e _ ds H _ => match ds with
    | _ :: _ => .bad "defer in a round"
    | [] => match H.get l with
      | some (.loop _ _ fn tm ps a b d) => match e with
        | .normal => .ret (.bool true) (H.put l (.loop .ready none fn tm ps a b d)) up
        | .exit n => .ret (.bool false) (H.put l (.loop .done (some (.exit n)) fn tm ps a b d)) up
        | .ret => .ret (.bool false) (H.put l (.loop .done (some .ret) fn tm ps a b d)) up
        | .goto _ => .bad "goto"
        | .panic ch => .pan ch H up
      | _ => .bad "endRound"
  | .need k => .need k
  | .bad w => .bad w

noncomputable def roundT (C : Ctx) (K : Nat) (call : UM → AV → List AV → AHeap → CR) (up : UM) (l : Nat) (args : List AV) (H : AHeap) : CR :=
  match H.get l with
  | some (.loop .ready _ _ tm ps a b _) => match setParams ps args tm with
    | none => .bad "yield"
    | some tm' => cond (Nat.ble tm'.length 512)
      (match (exec2T C call (invA C) K tm'.length (some l) a).1 (RT.ofL RT.none 0 tm') [] H .no with
      | .ok .normal T ds H up' => match ds with
        | _ :: _ => .bad "defer in a round"
        | [] => match H.get l with
          | some (.loop .ready pd fn tm ps a' b' d) => endRoundT up l ((exec2T C call (invA C) K tm'.length (some l) b).1 T [] (H.put l (.loop .busy pd fn tm ps a' b' d)) up')
          | _ => .bad "beginRound"
      | .ok _ _ _ _ _ => .bad "assign"
      | .need k => .need k
      | .bad w => .bad w)
      (roundA C K call up l args H)
  | _ => .bad "yield"

/-- A call of a function's value. -/
noncomputable def callT2 (C : Ctx) (K : Nat) : Nat → UM → AV → List AV → AHeap → CR
  | 0, _, _, _, _ => .bad "calls: out of fuel"
  | n + 1, up, f, args, H => match f with
    | .func (.func i) first cap =>
      match C.sum i with
      | some g => match up with
        | .no => match g (first ++ (args ++ cap)) H with
          | some (v, H') => .ret v H' up
          | none => .bad "summary"
        | _ => .bad "summary: deferred"
      | none => match C.funcs.get i with
        | none => .bad "no such function"
        | some fn => match fn.body with
          | some c => cond (C.all i) (match up with
              | .no => wholeA H (explore (fun om => leafA H.nx (bodyT C K (callT2 C K n) .no fn c (first ++ (args ++ cap)) { H with om, mn := H.nx })) 20 [])
              | _ => .bad "all orders: deferred") (bodyT C K (callT2 C K n) up fn c (first ++ (args ++ cap)) H)
          | none => match C.ext i with
            | some e => match extA e (first ++ (args ++ cap)) H with
              | some (v, H') => match up with
                | .no => .ret v H' up
                | _ => .bad "extern: deferred"
              | none => .bad "extern"
            | none => .bad ("no extern " ++ fn.name)
    | .func (.via t [] i p) first cap => match cap with
      | [] => match first ++ args with
        | [] => .bad "via"
        | _ :: _ => match C.und t with
          | some (.pointer _) => cond p (callT2 C K n up (.func (.func i) first []) args H) (.bad "via")
          | some _ => cond p (.bad "via") (callT2 C K n up (.func (.func i) first []) args H)
          | none => .bad "via"
      | _ => .bad "via"
    | .func (.method name) first _ => match first ++ args with
      | r :: rest => match invA C r name with
        | some f => callT2 C K n up f rest H
        | none => .bad "method"
      | [] => .bad "method"
    | .func (.yield l) first _ => match first with
      | [] => match up with
        | .no => roundT C K (callT2 C K n) up l args H
        | _ => .bad "yield: deferred"
      | _ :: _ => .bad "yield"
    | .nilFunc => .bad "call of nil"
    | _ => .bad "call"
end Go.Ab

set_option linter.unusedSimpArgs false
set_option linter.unusedVariables false
namespace Go.Ab

theorem N8.sel_put {α : Type} (i j : I8) (x : α) (t : N8 α) : N8.sel i (N8.put j x t) = if i = j then x else N8.sel i t := by
  cases t
  cases i <;> cases j <;> rfl

theorem RT.at_put (T : RT) (v : AV) (i j k i' j' k' : I8) : RT.at (RT.put T v (.p i j k)) (.p i' j' k') = if i' = i ∧ j' = j ∧ k' = k then v else RT.at T (.p i' j' k') := by
  show N8.sel k' (N8.sel j' (N8.sel i' (N8.put i (N8.put j (N8.put k v (N8.sel j (N8.sel i T))) (N8.sel i T)) T))) = _
  simp only [N8.sel_put]
  by_cases h1 : i' = i
  · subst h1
    simp only [if_true, true_and, N8.sel_put]
    by_cases h2 : j' = j
    · subst h2
      simp only [if_true, true_and, N8.sel_put]
      rfl
    · simp [h2]; rfl
  · simp [h1]; rfl

def I8.nat : I8 → Nat
  | .a => 0 | .b => 1 | .c => 2 | .d => 3 | .e => 4 | .f => 5 | .g => 6 | .h => 7

theorem I8.nat_of (n : Nat) (h : n < 8) : (I8.of n).nat = n := by
  match n, h with
  | 0, _ | 1, _ | 2, _ | 3, _ | 4, _ | 5, _ | 6, _ | 7, _ => rfl

theorem blt_iff (a b : Nat) : Nat.blt a b = true ↔ a < b := by
  show Nat.ble (a + 1) b = true ↔ a + 1 ≤ b
  exact ble_iff _ _

theorem pth_lt {n : Nat} (h : n < 512) : pth n = .p (I8.of (n / 64)) (I8.of (n / 8 % 8)) (I8.of (n % 8)) := by
  unfold pth
  rw [(blt_iff _ _).2 h]; rfl

theorem pth_ge {n : Nat} (h : ¬ n < 512) : pth n = .out := by
  unfold pth
  cases hb : Nat.blt n 512
  · rfl
  · exact absurd ((blt_iff _ _).1 hb) h

theorem pth_inj {n m : Nat} (hn : n < 512) (hm : m < 512) (h : I8.of (n / 64) = I8.of (m / 64) ∧ I8.of (n / 8 % 8) = I8.of (m / 8 % 8) ∧ I8.of (n % 8) = I8.of (m % 8)) : n = m := by
  obtain ⟨h1, h2, h3⟩ := h
  have e1 := congrArg I8.nat h1
  have e2 := congrArg I8.nat h2
  have e3 := congrArg I8.nat h3
  rw [I8.nat_of _ (by omega), I8.nat_of _ (by omega)] at e1 e2 e3
  omega

theorem RT.get_put (T : RT) (v : AV) (n m : Nat) (hn : n < 512) : RT.get (RT.put T v (pth n)) m = if m = n then v else RT.get T m := by
  unfold RT.get
  by_cases hm : m < 512
  · rw [pth_lt hn, pth_lt hm, RT.at_put]
    by_cases e : m = n
    · subst e; simp
    · rw [if_neg e, if_neg]
      intro h
      exact e (pth_inj hm hn h)
  · rw [pth_ge hm, if_neg (by omega)]
    rfl

theorem RT.get_none (n : Nat) : RT.get RT.none n = undefA := by
  unfold RT.get
  by_cases h : n < 512
  · rw [pth_lt h]
    show N8.sel _ (N8.sel _ (N8.sel _ _)) = _
    generalize I8.of (n / 64) = i
    generalize I8.of (n / 8 % 8) = j
    generalize I8.of (n % 8) = k
    cases i <;> cases j <;> cases k <;> rfl
  · rw [pth_ge h]; rfl

/-- The tree holds the list. -/
def TRel (T : RT) (tm : List AV) : Prop := tm.length ≤ 512 ∧ ∀ n, RT.get T n = (tm[n]?).getD undefA

theorem TRel.set {T : RT} {tm : List AV} (h : TRel T tm) (d : Nat) (v : AV) : TRel (RT.set tm.length T d v) (tm.set d v) := by
  refine ⟨by simpa using h.1, fun n => ?_⟩
  unfold RT.set dth
  by_cases hd : d < tm.length
  · rw [(blt_iff _ _).2 hd]
    simp only [cond_true]
    rw [RT.get_put _ _ _ _ (by have := h.1; omega)]
    by_cases e : n = d
    · subst e; simp [hd]
    · rw [if_neg e, List.getElem?_set_ne (Ne.symm e)]; exact h.2 n
  · have hb : Nat.blt d tm.length = false := by
      cases hb : Nat.blt d tm.length
      · rfl
      · exact absurd ((blt_iff _ _).1 hb) hd
    rw [hb, List.set_eq_of_length_le (by omega)]
    exact h.2 n

theorem TRel.put {T : RT} {s : AS} (h : TRel T s.tm) (d : Option Nat) (v : AV) : TRel (putT s.tm.length T d v) (s.put d v).tm := by
  cases d with
  | none => exact h
  | some d => exact h.set d v

theorem TRel.ofL : ∀ (args : List AV) (T : RT) (i : Nat) (pre : List AV) (k : Nat), pre.length = i → TRel T (pre ++ List.replicate (args.length + k) undefA) → TRel (RT.ofL T i args) (pre ++ args ++ List.replicate k undefA) := by
  intro args
  induction args with
  | nil => intro T i pre k hi h; simpa [RT.ofL] using h
  | cons v args ih =>
    intro T i pre k hi h
    simp only [RT.ofL]
    have hlen : (pre ++ List.replicate ((v :: args).length + k) undefA).length ≤ 512 := h.1
    simp only [List.length_append, List.length_replicate, List.length_cons] at hlen
    have h2 : TRel (RT.put T v (pth i)) ((pre ++ [v]) ++ List.replicate (args.length + k) undefA) := by
      refine ⟨by simp; omega, fun n => ?_⟩
      rw [RT.get_put _ _ _ _ (by omega), h.2]
      by_cases e : n = i
      · subst e; subst hi; simp
      · rw [if_neg e]
        by_cases hlt : n < pre.length
        · rw [List.getElem?_append_left hlt, List.append_assoc, List.getElem?_append_left hlt]
        · rw [List.getElem?_append_right (by omega), List.getElem?_append_right (by simp; omega)]
          simp only [List.length_append, List.length_cons, List.length_nil, List.getElem?_replicate]
          by_cases h3 : n < pre.length + (args.length + 1 + k)
          · rw [if_pos (by omega), if_pos (by omega)]
          · rw [if_neg (by omega), if_neg (by omega)]
    have := ih (RT.put T v (pth i)) (i + 1) (pre ++ [v]) k (by simp [hi]) h2
    simpa using this

theorem TRel.start (args : List AV) (k : Nat) (h : args.length + k ≤ 512) : TRel (RT.ofL RT.none 0 args) (args ++ List.replicate k undefA) := by
  have h0 : TRel RT.none ([] ++ List.replicate (args.length + k) undefA) := by
    refine ⟨by simpa using h, fun n => ?_⟩
    rw [RT.get_none]
    simp only [List.nil_append, List.getElem?_replicate]
    split <;> rfl
  simpa using TRel.ofL args RT.none 0 [] k rfl h0

theorem TRel.list {T : RT} {tm : List AV} (h : TRel T tm) : RT.list T tm.length 0 = tm := by
  have key : ∀ n i, i + n = tm.length → RT.list T n i = tm.drop i := by
    intro n
    induction n with
    | zero => intro i hi; simp [RT.list]; omega
    | succ n ih =>
      intro i hi
      simp only [RT.list]
      rw [ih (i + 1) (by omega), h.2, List.getElem?_eq_getElem (by omega), Option.getD_some, ← List.drop_eq_getElem_cons]
  simpa using key tm.length 0 (by omega)

section
variable {T : RT} {tm : List AV}

theorem TRel.ev (h : TRel T tm) (x : Opd) : x.evT T = x.ev tm := by
  cases x with
  | t n => exact h.2 n
  | c v => rfl

theorem TRel.evs (h : TRel T tm) : ∀ l : List Opd, Opd.evsT T l = Opd.evs tm l := by
  intro l
  induction l with
  | nil => rfl
  | cons x l ih => simp only [Opd.evsT, Opd.evs, ih, h.ev]

theorem TRel.parts (h : TRel T tm) : ∀ l : List (Nat × Nat × Opd), evPartsT T l = evParts tm l := by
  intro l
  induction l with
  | nil => rfl
  | cons x l ih =>
    obtain ⟨o, n, x⟩ := x
    simp only [evPartsT, evParts, ih, h.ev]

theorem TRel.bound (h : TRel T tm) (d most : Nat) (x : Option Opd) : boundT T d most x = bound tm d most x := by
  cases x with
  | none => rfl
  | some x => simp only [boundT, Ab.bound, h.ev]; rfl

theorem TRel.bounds (h : TRel T tm) (len cap : Nat) (lo hi mx : Option Opd) : boundsT T len cap lo hi mx = bounds tm len cap lo hi mx := by
  unfold boundsT Ab.bounds
  simp only [h.bound]
  rfl

theorem TRel.step (h : TRel T tm) (H : AHeap) (op : AOp) : step1T T H op = step1 tm H op := by
  cases op <;> simp only [step1T, h.ev, h.evs, h.parts] <;> first
    | rfl
    | (simp only [q_sliceStr, q_slice, q_sliceArr, step1, h.bounds]; done)
    | (simp only [q_sliceStr, q_slice, q_sliceArr, step1, h.bounds]; rfl)
end
end Go.Ab

set_option linter.unusedSimpArgs false
set_option linter.unusedVariables false
namespace Go.Ab

def FrRel (rd : Option Nat) (len : Nat) : FR → AR → Prop
  | .ok e T ds H up, .ok e' s => e = e' ∧ s.ds = ds ∧ s.H = H ∧ s.up = up ∧ s.rd = rd ∧ s.tm.length = len ∧ TRel T s.tm
  | .need k, .need k' => k = k'
  | .bad w, .bad w' => w = w'
  | _, _ => False

/-- The same from states that are the same. -/
def FKR (rd : Option Nat) (len : Nat) (K : FK) (f : AS → AR) : Prop := ∀ T s, s.rd = rd → s.tm.length = len → TRel T s.tm → FrRel rd len (K T s.ds s.H s.up) (f s)

def FOR (rd : Option Nat) (len : Nat) (K : RT → List ADef → AHeap → UM → Option FR) (f : AS → Option AR) : Prop := ∀ T s, s.rd = rd → s.tm.length = len → TRel T s.tm → match K T s.ds s.H s.up, f s with
  | none, none => True
  | some r, some q => FrRel rd len r q
  | _, _ => False

section
variable {call : UM → AV → List AV → AHeap → CR} {inv : AV → String → Option AV} {rd : Option Nat} {len : Nat} {K : FK} {f : AS → AR} {T : RT} {s : AS}

theorem put_go (hK : FKR rd len K f) (h1 : s.rd = rd) (h2 : s.tm.length = len) (h3 : TRel T s.tm) (d : Option Nat) (v : AV) (ds : List ADef) (H : AHeap) (up : UM) :
    FrRel rd len (K (putT len T d v) ds H up) (f (AS.put { s with ds := ds, H := H, up := up } d v)) := by
  obtain ⟨p1, p2, p3, p4⟩ := AS.put_parts { s with ds := ds, H := H, up := up } d v
  have h4 : TRel (putT len T d v) (AS.put { s with ds := ds, H := H, up := up } d v).tm := by
    subst h2
    have := h3.put (s := s) d v
    cases d <;> exact this
  have := hK (putT len T d v) (AS.put { s with ds := ds, H := H, up := up } d v) (by rw [p4]; exact h1) (by cases d <;> simp [AS.put, h2]) h4
  rw [p1, p2, p3] at this
  exact this

theorem call_go (hK : FKR rd len K f) (h1 : s.rd = rd) (h2 : s.tm.length = len) (h3 : TRel T s.tm) (d : Option Nat) (r : CR) :
    FrRel rd len (callT len T s.ds s.up d K r) (thenA f (match r with
      | .ret v H _ => .ok .normal (AS.put { s with H := H } d v)
      | .pan l H _ => .ok (.panic l) { s with H := H }
      | .need k => .need k
      | .bad w => .bad w)) := by
  cases r with
  | ret v H u => exact put_go hK h1 h2 h3 d v s.ds H s.up
  | pan l H u => exact ⟨rfl, rfl, rfl, rfl, h1, h2, h3⟩
  | need k => rfl
  | bad w => rfl

theorem run_go (hK : FKR rd len K f) (h1 : s.rd = rd) (h2 : s.tm.length = len) (h3 : TRel T s.tm) (d : Option Nat) (r : OR) :
    FrRel rd len (runT call inv len rd T s.ds s.H s.up d K r) (thenA f (runOp call s d r inv)) := by
  cases r with
  | val v H => exact put_go hK h1 h2 h3 d v s.ds H s.up
  | panic v H => exact ⟨rfl, rfl, rfl, rfl, h1, h2, h3⟩
  | call g args =>
    have := call_go hK h1 h2 h3 d (call .no g args s.H)
    simp only [runT, runOp]
    revert this
    cases call .no g args s.H <;> exact id
  | invoke g n args =>
    simp only [runT, runOp]
    cases inv g n with
    | none => rfl
    | some x =>
      have := call_go hK h1 h2 h3 d (call .no x args s.H)
      simp only
      revert this
      cases call .no x args s.H <;> exact id
  | dfr g args =>
    obtain ⟨tm0, ds0, H0, up0, rd0⟩ := s
    simp only at h1 h2 h3
    subst h1
    simp only [runT, runOp]
    cases rd0 with
    | some l => rfl
    | none =>
      cases g <;> first
        | exact put_go (s := ⟨tm0, ds0, H0, up0, none⟩) hK rfl h2 h3 d undefA (_ :: ds0) H0 up0
        | rfl
  | recover =>
    obtain ⟨tm0, ds0, H0, up0, rd0⟩ := s
    simp only at h1 h2 h3
    subst h1
    simp only [runT, runOp]
    cases rd0 with
    | some l => rfl
    | none =>
      have hput : ∀ v u, FrRel none len (K (putT len T d v) ds0 H0 u) (f (AS.put ⟨tm0, ds0, H0, u, none⟩ d v)) := fun v u => put_go (s := ⟨tm0, ds0, H0, up0, none⟩) hK rfl h2 h3 d v ds0 H0 u
      cases up0 with
      | no => rfl
      | ret => exact hput _ _
      | pan l =>
        cases l with
        | nil => exact hput _ _
        | cons a l =>
          obtain ⟨v, b⟩ := a
          cases b with
          | true => exact hput _ _
          | false => exact hput _ _
  | need k => rfl
  | bad w => rfl

theorem wanted_go (h3 : TRel T s.tm) (g : Gd) : wantedT T g = wantedA s.tm g := by
  cases g with
  | no => rfl
  | never => rfl
  | is d b =>
    simp only [wantedT, wantedA]
    rw [h3.2 d]
    cases s.tm[d]? with
    | none => rfl
    | some v => cases v <;> rfl

theorem steps_go (call : UM → AV → List AV → AHeap → CR) (inv : AV → String → Option AV) (rd : Option Nat) (len : Nat) : ∀ l : List RStep, FKR rd len (stepsT call inv len rd l) (stepsA call inv l) := by
  intro l
  induction l with
  | nil => intro T s h1 h2 h3; exact ⟨rfl, rfl, rfl, rfl, h1, h2, h3⟩
  | cons r l ih =>
    intro T s h1 h2 h3
    obtain ⟨dst, g, op, chk⟩ := r
    show FrRel rd len (stepT call inv len rd dst g op chk (stepsT call inv len rd l) T s.ds s.H s.up) _
    unfold stepT
    rw [wanted_go h3, h3.step]
    cases chk with
    | false =>
      rw [stepsA_cons _ _ _ _ _ rfl]
      cases hw : wantedA s.tm g with
      | false =>
        have := put_go ih h1 h2 h3 dst undefA s.ds s.H s.up
        simpa only [hw, cond_false] using this
      | true =>
        simp only [hw, cond_true]
        exact run_go ih h1 h2 h3 dst (step1 s.tm s.H op)
    | true =>
      simp only [stepsA]
      cases hw : wantedA s.tm g with
      | false =>
        simp only [cond_false, cond_true]
        exact ih T s h1 h2 h3
      | true =>
        simp only [cond_true]
        show FrRel rd len (chkT len T dst (stepsT call inv len rd l T s.ds s.H s.up) (step1 s.tm s.H op)) _
        generalize step1 s.tm s.H op = r
        cases r <;> try rfl
        rename_i v H
        cases dst with
        | none => rfl
        | some d =>
          simp only [chkT]
          rw [h3.2 d]
          by_cases hd : d < s.tm.length
          · rw [List.getElem?_eq_getElem hd, (blt_iff d len).2 (by omega)]
            simp only [Option.getD_some, Bool.true_and]
            cases beqA v s.tm[d] with
            | false => rfl
            | true => exact ih T s h1 h2 h3
          · have hb : Nat.blt d len = false := by
              cases hb : Nat.blt d len
              · rfl
              · exact absurd ((blt_iff _ _).1 hb) (by omega)
            rw [hb, List.getElem?_eq_none (by omega)]
            rfl

theorem calm_go {draw : Bool} {r : FR} {q : AR} (h : FrRel rd len r q) : FrRel rd len (calmT draw r) (calm draw q) := by
  cases draw with
  | false => exact h
  | true =>
    cases r <;> cases q <;> simp only [FrRel] at h <;> try exact h.elim
    · rename_i e T ds H up e' s
      obtain ⟨rfl, h⟩ := h
      cases e <;> first | exact ⟨rfl, h⟩ | rfl
    · exact h
    · exact h

theorem loop_go {body : FK} {g : AS → AR} (h : FKR rd len body g) : ∀ n, FKR rd len (loopT n body) (loopA n g) := by
  intro n
  induction n with
  | zero => intro T s _ _ _; rfl
  | succ n ih =>
    intro T s h1 h2 h3
    simp only [loopT, loopA]
    have := h T s h1 h2 h3
    revert this
    generalize body T s.ds s.H s.up = r
    generalize g s = q
    intro this
    cases r <;> cases q <;> simp only [FrRel] at this <;> try exact this.elim
    · rename_i e T' ds H up e' s'
      obtain ⟨rfl, rfl, rfl, rfl, t1, t2, t3⟩ := this
      cases e <;> first | exact ih T' s' t1 t2 t3 | exact ⟨rfl, rfl, rfl, rfl, t1, t2, t3⟩
    · exact this
    · exact this

theorem scope_go {fr : Nat → RT → List ADef → AHeap → UM → Option FR} {g : Nat → AS → Option AR} (h : ∀ l, FOR rd len (fr l) (g l)) : ∀ (n : Nat) (r : FR) (q : AR), FrRel rd len r q → FrRel rd len (scopeT n fr r) (scopeA n g q) := by
  intro n
  induction n with
  | zero => intro r q _; rfl
  | succ n ih =>
    intro r q hr
    cases r <;> cases q <;> simp only [FrRel] at hr <;> try exact hr.elim
    · rename_i e T' ds H up e' s'
      obtain ⟨rfl, rfl, rfl, rfl, t1, t2, t3⟩ := hr
      cases e <;> try exact ⟨rfl, rfl, rfl, rfl, t1, t2, t3⟩
      rename_i l
      simp only [scopeT, scopeA]
      have := h l T' s' t1 t2 t3
      revert this
      generalize fr l T' s'.ds s'.H s'.up = a
      generalize g l s' = b
      intro this
      cases a <;> cases b <;> simp only at this <;> try exact this.elim
      · exact ⟨rfl, rfl, rfl, rfl, t1, t2, t3⟩
      · exact ih _ _ this
    · exact hr
    · exact hr

theorem rangeEnd_keeps {s s' : AS} {q : CR} {e : AEx} (h : rangeEnd s q = .ok e s') : s'.tm = s.tm ∧ s'.up = s.up ∧ s'.rd = s.rd := by
  unfold rangeEnd at h
  repeat' (first | (cases h; done) | (cases h; exact ⟨rfl, rfl, rfl⟩) | split at h)

theorem range_keeps {ng : Nat} {fo : Operand} {ps : Array Tmp} {a b : Code} {s s' : AS} {e : AEx} (h : rangeA ng call fo ps a b s = .ok e s') : s'.tm = s.tm ∧ s'.up = s.up ∧ s'.rd = s.rd := by
  unfold rangeA at h
  split at h
  · cases h
  · rename_i hrd
    split at h
    · cases h
    · repeat' (first | (cases h; done) | (cases h; exact ⟨rfl, rfl, hrd.symm⟩) | (cases h; exact ⟨rfl, rfl, rfl⟩) | split at h)

variable {C : Ctx}

theorem cond_go (h3 : TRel T s.tm) (c : Operand) : condT C.ng T c = condA C.ng s.tm c := by
  unfold condT condA
  cases opd C.ng c with
  | none => rfl
  | some x => simp only [h3.ev]; cases x.ev s.tm <;> rfl

theorem exec_go (C : Ctx) (call : UM → AV → List AV → AHeap → CR) (inv : AV → String → Option AV) (N : Nat) (len : Nat) (rd : Option Nat) : ∀ c : Code,
    FKR rd len (exec2T C call inv N len rd c).1 (exec2 C call inv N c).1 ∧ ∀ l, FOR rd len ((exec2T C call inv N len rd c).2 l) ((exec2 C call inv N c).2 l) := by
  intro c
  have nof : ∀ {c : Code}, (∀ l T ds H up, (exec2T C call inv N len rd c).2 l T ds H up = none) → (∀ l s, (exec2 C call inv N c).2 l s = none) → ∀ l, FOR rd len ((exec2T C call inv N len rd c).2 l) ((exec2 C call inv N c).2 l) := by
    intro c a b l T s _ _ _
    rw [a, b]
    trivial
  induction c with
  | skip => exact ⟨fun T s h1 h2 h3 => ⟨rfl, rfl, rfl, rfl, h1, h2, h3⟩, nof (fun _ _ _ _ _ => rfl) fun _ _ => rfl⟩
  | label l0 =>
    refine ⟨fun T s h1 h2 h3 => ⟨rfl, rfl, rfl, rfl, h1, h2, h3⟩, fun l T s h1 h2 h3 => ?_⟩
    simp only [exec2T, exec2]
    cases Nat.beq l0 l with
    | true => exact ⟨rfl, rfl, rfl, rfl, h1, h2, h3⟩
    | false => trivial
  | region id ops draw => exact ⟨fun T s h1 h2 h3 => calm_go (steps_go call inv rd len _ T s h1 h2 h3), nof (fun _ _ _ _ _ => rfl) fun _ _ => rfl⟩
  | seq x y ihx ihy =>
    have hseq : ∀ {r : FR} {q : AR}, FrRel rd len r q → FrRel rd len (match r with
        | .ok .normal T ds H up => (exec2T C call inv N len rd y).1 T ds H up
        | r => r) (match q with
        | .ok .normal s' => (exec2 C call inv N y).1 s'
        | r => r) := by
      intro r q hr
      cases r <;> cases q <;> simp only [FrRel] at hr <;> try exact hr.elim
      · rename_i e T' ds H up e' s'
        obtain ⟨rfl, rfl, rfl, rfl, t1, t2, t3⟩ := hr
        cases e <;> first | exact ihy.1 T' s' t1 t2 t3 | exact ⟨rfl, rfl, rfl, rfl, t1, t2, t3⟩
      · exact hr
      · exact hr
    refine ⟨fun T s h1 h2 h3 => hseq (ihx.1 T s h1 h2 h3), fun l T s h1 h2 h3 => ?_⟩
    simp only [exec2T, exec2]
    have := ihx.2 l T s h1 h2 h3
    revert this
    generalize (exec2T C call inv N len rd x).2 l T s.ds s.H s.up = a
    generalize (exec2 C call inv N x).2 l s = b
    intro this
    cases a <;> cases b <;> simp only at this <;> try exact this.elim
    · exact ihy.2 l T s h1 h2 h3
    · rename_i r q
      have h := hseq this
      cases r <;> cases q <;> simp only [FrRel] at this <;> try exact this.elim
      · rename_i e T' ds H up e' s'
        obtain ⟨rfl, _⟩ := this
        cases e <;> exact h
      · exact h
      · exact h
  | cond c x y ihx ihy =>
    refine ⟨fun T s h1 h2 h3 => ?_, nof (fun _ _ _ _ _ => rfl) fun _ _ => rfl⟩
    simp only [exec2T, exec2]
    rw [cond_go (s := s) h3]
    cases condA C.ng s.tm c with
    | none => rfl
    | some b =>
      cases b with
      | true => exact ihx.1 T s h1 h2 h3
      | false => exact ihy.1 T s h1 h2 h3
  | block id x ih =>
    refine ⟨fun T s h1 h2 h3 => ?_, nof (fun _ _ _ _ _ => rfl) fun _ _ => rfl⟩
    simp only [exec2T, exec2]
    have := ih.1 T s h1 h2 h3
    revert this
    generalize (exec2T C call inv N len rd x).1 T s.ds s.H s.up = r
    generalize (exec2 C call inv N x).1 s = q
    intro this
    cases r <;> cases q <;> simp only [FrRel] at this <;> try exact this.elim
    · rename_i e T' ds H up e' s'
      obtain ⟨rfl, rfl, rfl, rfl, t1, t2, t3⟩ := this
      cases e <;> try exact ⟨rfl, rfl, rfl, rfl, t1, t2, t3⟩
      rename_i n
      simp only
      cases Nat.beq n id <;> exact ⟨rfl, rfl, rfl, rfl, t1, t2, t3⟩
    · exact this
    · exact this
  | loop x ih => exact ⟨loop_go ih.1 N, nof (fun _ _ _ _ _ => rfl) fun _ _ => rfl⟩
  | rangeFunc fo ps asg bd _ _ =>
    refine ⟨fun T s h1 h2 h3 => ?_, nof (fun _ _ _ _ _ => rfl) fun _ _ => rfl⟩
    simp only [exec2T, exec2, rangeT]
    have hl : RT.list T len 0 = s.tm := by rw [← h2]; exact h3.list
    have hs : (⟨RT.list T len 0, s.ds, s.H, s.up, rd⟩ : AS) = s := by rw [hl, ← h1]
    rw [hs]
    cases hr : rangeA C.ng call fo ps asg bd s with
    | ok e s' =>
      obtain ⟨k1, k2, k3⟩ := range_keeps hr
      exact ⟨rfl, rfl, rfl, rfl, k3.trans h1, by rw [k1]; exact h2, by rw [k1]; exact h3⟩
    | need k => rfl
    | bad w => rfl
  | exit n => exact ⟨fun T s h1 h2 h3 => ⟨rfl, rfl, rfl, rfl, h1, h2, h3⟩, nof (fun _ _ _ _ _ => rfl) fun _ _ => rfl⟩
  | scope x ih => exact ⟨fun T s h1 h2 h3 => scope_go ih.2 N _ _ (ih.1 T s h1 h2 h3), nof (fun _ _ _ _ _ => rfl) fun _ _ => rfl⟩
  | goto n => exact ⟨fun T s h1 h2 h3 => ⟨rfl, rfl, rfl, rfl, h1, h2, h3⟩, nof (fun _ _ _ _ _ => rfl) fun _ _ => rfl⟩
  | ret => exact ⟨fun T s h1 h2 h3 => ⟨rfl, rfl, rfl, rfl, h1, h2, h3⟩, nof (fun _ _ _ _ _ => rfl) fun _ _ => rfl⟩
  | refuse w => exact ⟨fun T s h1 h2 h3 => rfl, nof (fun _ _ _ _ _ => rfl) fun _ _ => rfl⟩

theorem result_go (h3 : TRel T s.tm) (H : AHeap) : ∀ l : List ResultVar, resultT H T C l = resultA H s.tm C l := by
  intro l
  induction l with
  | nil => rfl
  | cons x l ih =>
    cases x with
    | tmp t =>
      simp only [resultT, resultA, ih, h3.2]
      cases resultA H s.tm C l <;> rfl
    | cell a t =>
      simp only [resultT, resultA, ih, h3.2]
      rfl

theorem leave_go (h3 : TRel T s.tm) (fn : Func) (up : UM) : ∀ (n : Nat) (ds : List ADef) (u : UM) (H : AHeap), leaveT C call fn T up n ds u H = leaveA C call fn s.tm up n ds u H := by
  intro n
  induction n with
  | zero => intro ds u H; rfl
  | succ n ih =>
    intro ds u H
    cases ds with
    | nil =>
      cases u <;> simp only [leaveT, leaveA]
      rw [result_go h3]
      rfl
    | cons d ds =>
      simp only [leaveT, leaveA]
      cases d.coll with
      | some r =>
        simp only
        cases H.get r with
        | none => rfl
        | some o =>
          cases o <;> try rfl
          rename_i t l
          cases t
          · exact ih _ _ _
          · rfl
      | none =>
        simp only
        cases call u (.func d.fn d.first d.captured) d.args H <;> first | exact ih _ _ _ | rfl

theorem body_go (C : Ctx) (N : Nat) (call : UM → AV → List AV → AHeap → CR) (up : UM) (fn : Func) (c : Code) (args : List AV) (H : AHeap) : bodyT C N call up fn c args H = bodyA C N call up fn c args H := by
  unfold bodyT
  cases hc : (Nat.ble args.length fn.ntmps && Nat.ble fn.ntmps 512) with
  | false => rfl
  | true =>
    simp only [cond_true]
    simp only [Bool.and_eq_true] at hc
    have e1 := Nat.le_of_ble_eq_true hc.1
    have e2 := Nat.le_of_ble_eq_true hc.2
    have h0 := TRel.start args (fn.ntmps - args.length) (by omega)
    have hlen : (args ++ List.replicate (fn.ntmps - args.length) undefA).length = fn.ntmps := by simp; omega
    have := (exec_go C call (invA C) N fn.ntmps none c).1 (RT.ofL RT.none 0 args) ⟨args ++ List.replicate (fn.ntmps - args.length) undefA, [], H, up, none⟩ rfl hlen h0
    simp only [bodyA, execA]
    revert this
    generalize (exec2T C call (invA C) N fn.ntmps none c).1 (RT.ofL RT.none 0 args) [] H up = r
    generalize (exec2 C call (invA C) N c).1 ⟨args ++ List.replicate (fn.ntmps - args.length) undefA, [], H, up, none⟩ = q
    intro this
    cases r <;> cases q <;> simp only [FrRel] at this <;> try exact this.elim
    · rename_i e T' ds H' up' e' s'
      obtain ⟨rfl, rfl, rfl, rfl, t1, t2, t3⟩ := this
      cases e <;> first | exact leave_go (s := s') t3 _ _ _ _ _ _ | rfl
    · rw [this]
    · rw [this]

theorem endRound_go {up : UM} {l : Nat} {r : FR} {q : AR} (h : FrRel rd len r q) : endRoundT up l r = endRoundA up l q := by
  cases r <;> cases q <;> simp only [FrRel] at h <;> try exact h.elim
  · obtain ⟨rfl, rfl, rfl, rfl, t1, t2, t3⟩ := h
    rename_i s
    simp only [endRoundT, endRoundA]
    cases s.ds with
    | cons d l => rfl
    | nil =>
      simp only
      cases s.H.get l with
      | none => rfl
      | some o => cases o <;> rfl
  · rw [h]; rfl
  · rw [h]; rfl

theorem round_go (C : Ctx) (N : Nat) (call : UM → AV → List AV → AHeap → CR) (l : Nat) (args : List AV) (H : AHeap) : roundT C N call .no l args H = roundA C N call .no l args H := by
  unfold roundT
  have hunf : roundA C N call .no l args H = (match H.get l with
    | some (.loop .ready _ _ tm ps a b _) => match setParams ps args tm with
      | none => .bad "yield"
      | some tm' => match execA C call (invA C) N a ⟨tm', [], H, .no, some l⟩ with
        | .ok .normal s => match s.ds with
          | _ :: _ => .bad "defer in a round"
          | [] => match s.H.get l with
            | some (.loop .ready pd fn tm ps a' b' d) => endRoundA .no l (execA C call (invA C) N b { s with H := s.H.put l (.loop .busy pd fn tm ps a' b' d) })
            | _ => .bad "beginRound"
        | .ok _ _ => .bad "assign"
        | .need k => .need k
        | .bad w => .bad w
    | _ => .bad "yield") := rfl
  cases hg : H.get l with
  | none => rw [hunf, hg]
  | some o =>
    cases o <;> try (rw [hunf, hg]; done)
    rename_i st pd fnn tm ps a b d
    cases st <;> try (rw [hunf, hg]; done)
    simp only
    cases hset : setParams ps args tm with
    | none => rw [hunf, hg]; simp only [hset]
    | some tm' =>
      simp only
      cases hle : Nat.ble tm'.length 512 with
      | false => rfl
      | true =>
        simp only [cond_true]
        rw [hunf, hg]
        simp only [hset]
        have h0 : TRel (RT.ofL RT.none 0 tm') tm' := by
          have := TRel.start tm' 0 (by have := Nat.le_of_ble_eq_true hle; omega)
          simpa using this
        have := (exec_go C call (invA C) N tm'.length (some l) a).1 (RT.ofL RT.none 0 tm') ⟨tm', [], H, .no, some l⟩ rfl rfl h0
        simp only [execA]
        revert this
        generalize (exec2T C call (invA C) N tm'.length (some l) a).1 (RT.ofL RT.none 0 tm') [] H .no = r
        generalize (exec2 C call (invA C) N a).1 ⟨tm', [], H, .no, some l⟩ = q
        intro this
        cases r <;> cases q <;> simp only [FrRel] at this <;> try exact this.elim
        · rename_i e T' ds H' up' e' s'
          obtain ⟨rfl, rfl, rfl, rfl, t1, t2, t3⟩ := this
          cases e <;> try rfl
          simp only
          cases hds : s'.ds with
          | cons d0 l0 => rfl
          | nil =>
            simp only
            cases hg2 : s'.H.get l with
            | none => rfl
            | some o2 =>
              cases o2 <;> try rfl
              rename_i st2 pd2 fn2 tm2 ps2 a2 b2 d2
              cases st2 <;> try rfl
              simp only
              have h4 := (exec_go C call (invA C) N tm'.length (some l) b).1 T' { s' with H := s'.H.put l (.loop .busy pd2 fn2 tm2 ps2 a2 b2 d2) } t1 t2 t3
              have h5 := endRound_go (up := .no) (l := l) h4
              have e1 : ({ s' with H := s'.H.put l (.loop .busy pd2 fn2 tm2 ps2 a2 b2 d2) } : AS).ds = [] := hds
              rw [e1] at h5
              exact h5
        · rw [this]
        · rw [this]

theorem callT_eq (C : Ctx) (N : Nat) : ∀ n, callT2 C N n = callA C N n := by
  intro n
  induction n with
  | zero => funext up f args H; rfl
  | succ n ih =>
    funext up f args H
    cases f with
    | func fn first cap =>
      cases fn with
      | func i =>
        simp only [callT2, callA, ih, body_go]
        rfl
      | yield l =>
        cases first with
        | cons a0 l0 => rfl
        | nil => cases up <;> simp only [callT2, callA, ih, round_go]
      | via t p i b =>
        cases p with
        | cons a0 l0 => rfl
        | nil =>
          cases cap <;> simp only [callT2, callA, ih]
          all_goals rfl
      | method name =>
        simp only [callT2, callA, ih]
        rfl
    | _ => rfl
end
end Go.Ab

set_option linter.unusedSimpArgs false
set_option linter.unusedVariables false
namespace Go.Ab

section
variable {C : Ctx}

/-- What the evaluator answers, a call answers. -/
theorem top (hF : CtxFull C) {i : Nat} {fn : Func} {c : Code} (hf : C.P.funcs[i]? = some fn) (hb : fn.body = some c) {K n : Nat} {args : List AV} {args' : List Value} {μ : Mu} {H H1 : AHeap} {w : World} {v : AV}
    (hgl : Gl C.ng μ) (ha : LRel μ args args') (hh : HRel C.P μ H w) (h : callA C K n .no (.func (.func i) [] []) args (H.wo []) = .ret v H1 .no) (cs : List Frame) :
    CallsAt C.P i args'.toArray w cs fun e w' => ∃ v' μ' H', e = .returned v' ∧ VRel μ' v v' ∧ HRel C.P μ' H' w' ∧ Go μ H w μ' H' w' ∧ H'.wo [] = H1 := by
  have hv : VRel μ (.func (.func i) [] []) (.func (.func i) #[] #[]) := .func _ _ [] [] #[] #[] rfl rfl rfl (fun i h => absurd h (by simp)) (fun i h => absurd h (by simp))
  obtain ⟨ω, r, o, ok⟩ := callA_sim hF K n μ H w .no none (.func (.func i) [] []) args _ args' cs hgl hv ha hh .no
  have hω : ω = [] := by
    cases ω with
    | nil => rfl
    | cons a l =>
      obtain ⟨k, h1, h2⟩ := o.path 0 (by simp)
      simp only [List.take_zero] at h1
      rw [h] at h1
      cases h1
  subst hω
  have hd := o.done []
  simp only [List.nil_append] at hd
  rw [h] at hd
  have hrun : (Deferred.ofValue (.func (.func i) #[] #[]) args'.toArray >>= fun d => invoke d.target d.args).run C.P w = .ok (.enter i args'.toArray) w := by
    have : (Deferred.ofValue (.func (.func i) #[] #[]) args'.toArray >>= fun d => invoke d.target d.args).run C.P w = (callFunc i args'.toArray).run C.P w := by
      simp [Deferred.ofValue, Sem.run_bind, invoke]
    rw [this]
    exact run_callFunc_enter hf (hF.names i fn hf) hb _
  rw [hrun] at ok
  cases r with
  | need k => cases hd
  | bad w => cases hd
  | pan l H u => cases hd
  | ret v2 H2 u2 =>
    simp only [CR.wo, CR.ret.injEq] at hd
    obtain ⟨rfl, hH, rfl⟩ := hd
    obtain ⟨e, w', fr, ⟨v', μ', rfl, h1, h2, h3, h4⟩, h5⟩ := ok
    exact ⟨.returned v', w', fr, ⟨v', μ', H2, rfl, h1, h2, h3, hH.symm⟩, h5⟩

def H0 : AHeap := ⟨.nil, 0, [], 0⟩

theorem H0_rel (P : Program) (w : World) : HRel P (fun _ => none) H0 w := by
  have hg : ∀ b, H0.get b = none := fun _ => rfl
  exact ⟨fun b l h => (by cases h), fun b l o h => (by cases h), fun b b' l l' h => (by cases h), fun b l m ver left last h => (by cases h), Nat.le_refl _, fun b o h => (by rw [hg] at h; cases h)⟩

/-- From nothing: in any world. -/
theorem world_calls (hF : CtxFull C) (hng : C.ng = 0) {i : Nat} {fn : Func} {c : Code} (hf : C.P.funcs[i]? = some fn) (hb : fn.body = some c) {K n : Nat} {args : List AV} {args' : List Value} {H1 : AHeap} {v : AV}
    (ha : LRel (fun _ => none) args args') (h : callA C K n .no (.func (.func i) [] []) args H0 = .ret v H1 .no) (w : World) :
    Calls C.P i args'.toArray w fun e w' => ∃ v' μ', e = .returned v' ∧ VRel μ' v v' ∧ w.heap.size ≤ w'.heap.size ∧ (∀ k, k < w.heap.size → w'.heap[k]? = w.heap[k]?) ∧ w'.tape = w.tape ∧ w'.os = w.os ∧ w'.output = w.output := by
  intro cs
  have hgl : Gl C.ng (fun _ => none) := fun g hg => by rw [hng] at hg; exact absurd hg (by omega)
  obtain ⟨e, w', fr, ⟨v', μ', H', rfl, h1, h2, h3, h4⟩, h5⟩ := top hF hf hb hgl ha (H0_rel C.P w) (show callA C K n .no (.func (.func i) [] []) args (H0.wo []) = .ret v H1 .no from h) cs
  exact ⟨.returned v', w', fr, ⟨v', μ', rfl, h1, h3.size, fun k hk => h3.frame k hk (fun b l hb => by cases hb), h3.tape, h3.os, h3.output⟩, h5⟩

/-! ### summaries: what a function of plain values gave -/

def scalarA : AV → Bool
  | .bool _ => true
  | .int _ _ => true
  | .str _ => true
  | _ => false

theorem scalar_rel {μ μ' : Mu} {a : AV} {v : Value} (hs : scalarA a = true) (h : VRel μ a v) : VRel μ' a v := by
  cases h <;> simp only [scalarA, Bool.false_eq_true] at hs
  · exact .bool _
  · exact .int _ _
  · exact .str _

def look : List (List AV × AV) → List AV → Option AV
  | [], _ => none
  | (k, v) :: t, l => cond (beqL k l) (some v) (look t l)

theorem look_mem {l : List AV} {v : AV} : ∀ (t : List (List AV × AV)), look t l = some v → (l, v) ∈ t := by
  intro t
  induction t with
  | nil => intro h; cases h
  | cons p t ih =>
    intro h
    obtain ⟨k, u⟩ := p
    simp only [look] at h
    cases hb : beqL k l with
    | true =>
      rw [hb] at h
      simp only [cond_true] at h
      cases h
      rw [beqL_eq _ _ hb]
      simp
    | false =>
      rw [hb] at h
      simp only [cond_false] at h
      exact List.mem_cons_of_mem _ (ih h)

/-- A table; 'recv': the first argument is a pointer that is only held against nil. -/
def tabSum (recv : Bool) (tab : List (List AV × AV)) (args : List AV) (H : AHeap) : Option (AV × AHeap) :=
  match recv with
  | false => match look tab args with
    | some v => some (v, H)
    | none => none
  | true => match args with
    | .ptr _ _ :: l => match look tab l with
      | some v => some (v, H)
      | none => none
    | _ => none

def Hd : AHeap := ⟨.node .nil (some .dead) .nil, 1, [], 1⟩

def rowRuns (recv : Bool) (v : AV) : CR → Bool
  | .ret v' H .no => beqA v v' && cond recv (Nat.ble 1 H.mn) true
  | _ => false

/-- A row of a table. -/
def rowOk (run : List AV → AHeap → CR) (recv : Bool) (e : List AV × AV) : Bool :=
  e.1.all scalarA && (scalarA e.2 && rowRuns recv e.2 (run (cond recv (.ptr 0 0 :: e.1) e.1) Hd))

theorem HRel.kept {P : Program} {μ : Mu} {H : AHeap} {w w' : World} (h : HRel P μ H w) (hsz : w.heap.size ≤ w'.heap.size) (hk : ∀ k, k < w.heap.size → w'.heap[k]? = w.heap[k]?) : HRel P μ H w' := by
  refine ⟨fun b l hb => ⟨(h.lt b l hb).1, Nat.lt_of_lt_of_le (h.lt b l hb).2 hsz⟩, fun b l o hb hg hd => ?_, h.inj, fun b l m ver left last hb hg => ?_, h.mn, h.wf⟩
  · obtain ⟨o', h1, h2⟩ := h.obj b l o hb hg hd
    exact ⟨o', by rw [hk _ (h.lt b l hb).2]; exact h1, h2⟩
  · refine (h.it b l m ver left last hb hg).mono (MuLe.refl μ) (hk _ (h.lt b l hb).2) fun xs v hm lm hlm => ⟨xs, v, hm, Nat.le_refl _, fun _ => hk _ (h.lt m lm hlm).2⟩

theorem Go.kept {μ : Mu} {H : AHeap} {w w' : World} (hsz : w.heap.size ≤ w'.heap.size) (hk : ∀ k, k < w.heap.size → w'.heap[k]? = w.heap[k]?) (h1 : w'.tape = w.tape) (h2 : w'.os = w.os) (h3 : w'.output = w.output) : Go μ H w μ H w' :=
  ⟨MuLe.refl μ, fun b l h h' => (by rw [h] at h'; cases h'), fun b l h h' => (by rw [h] at h'; cases h'), hsz, fun k hk' _ => hk k hk', Nat.le_refl _, Nat.le_refl _, fun _ _ _ => rfl, fun _ _ _ => rfl, h1, h2, h3⟩

theorem scalars_rel {μ μ' : Mu} : ∀ {l : List AV} {l' : List Value}, l.all scalarA = true → LRel μ l l' → LRel μ' l l' := by
  intro l
  induction l with
  | nil => intro l' _ h; rw [h.nil_inv]; exact .nil μ'
  | cons a l ih =>
    intro l' hs h
    obtain ⟨v, y, rfl, h1, h2⟩ := h.uncons
    simp only [List.all_cons, Bool.and_eq_true] at hs
    exact .cons (scalar_rel hs.1 h1) (ih hs.2 h2)

/-- A table is a summary, in every context over the same program. -/
theorem tab_sum {C' : Ctx} {P : Program} (hF : CtxFull C) (hng : C.ng = 0) (hCP : C.P = P) (hP : C'.P = P) {i : Nat} (hbody : ∃ fn c, P.funcs[i]? = some fn ∧ fn.body = some c) {K n : Nat} {recv : Bool} {tab : List (List AV × AV)}
    (htab : tab.all (rowOk (callA C K n .no (.func (.func i) [] [])) recv) = true) : SumOk C' i (tabSum recv tab) := by
  subst hCP
  refine ⟨fun args H x => ?_, by rw [hP]; exact hbody, fun μ H w args args' cs v H' hgl ha hh hg => ?_⟩
  · unfold tabSum
    cases recv with
    | false => simp only; cases look tab args <;> rfl
    | true =>
      simp only
      split
      · rename_i b o l
        cases look tab l <;> rfl
      · rfl
  · rw [hP] at hh ⊢
    obtain ⟨fn, c, hf, hb⟩ := hbody
    -- the row
    have hrow : ∀ l, look tab l = some v → l.all scalarA = true ∧ scalarA v = true ∧ ∃ H1, callA C K n .no (.func (.func i) [] []) (cond recv (.ptr 0 0 :: l) l) Hd = .ret v H1 .no ∧ (recv = true → 1 ≤ H1.mn) := by
      intro l hl
      have hm := look_mem tab hl
      rw [List.all_eq_true] at htab
      have h := htab _ hm
      simp only [rowOk, Bool.and_eq_true] at h
      obtain ⟨h1, h2, h3⟩ := h
      refine ⟨h1, h2, ?_⟩
      revert h3
      generalize callA C K n .no (.func (.func i) [] []) (cond recv (.ptr 0 0 :: l) l) Hd = r
      intro h3
      cases r with
      | ret v' H1 u =>
        cases u <;> simp only [rowRuns, Bool.and_eq_true, Bool.false_eq_true] at h3
        rw [beqA_eq _ _ h3.1]
        refine ⟨H1, rfl, fun hr => ?_⟩
        rw [hr] at h3
        exact Nat.le_of_ble_eq_true h3.2
      | _ => simp only [rowRuns, Bool.false_eq_true] at h3
    -- what the small run says of the great world
    have key : ∀ (μd : Mu) (xs : List AV) (H1 : AHeap), (∀ b l, μd b = some l → b = 0 ∧ l.blk < w.heap.size) → LRel μd xs args' → callA C K n .no (.func (.func i) [] []) xs Hd = .ret v H1 .no → (∀ b l, μd b = some l → 1 ≤ H1.mn) → scalarA v = true →
        CallsAt C.P i args'.toArray w cs fun e w' => ∃ v' μ', e = .returned v' ∧ VRel μ' v v' ∧ HRel C.P μ' H w' ∧ Go μ H w μ' H w' := by
      intro μd xs H1 hd hxs hrun hmn hsc
      have hhd : HRel C.P μd Hd w := by
        have hget : ∀ b, Hd.get b = some .dead ∨ Hd.get b = none := by
          intro b
          cases b with
          | zero => exact .inl rfl
          | succ b =>
            right
            show Tr.get _ (b + 1) = none
            simp only [Hd, Tr.get]
            cases Nat.beq (b % 2) 0 <;> rfl
        have hget1 : ∀ b o, Hd.get b = some o → b < 1 := by
          intro b o h
          cases b with
          | zero => omega
          | succ b =>
            have : Hd.get (b + 1) = none := by
              show Tr.get _ (b + 1) = none
              simp only [Hd, Tr.get]
              cases Nat.beq (b % 2) 0 <;> rfl
            rw [this] at h; cases h
        refine ⟨fun b l hb => ⟨by rw [(hd b l hb).1]; decide, (hd b l hb).2⟩, fun b l o hb hg hdd => ?_, fun b b' l l' hb hb' hne => ?_, fun b l m ver left last hb hg => ?_, Nat.le_refl _, hget1⟩
        · rcases hget b with h | h
          · rw [h] at hg; cases hg; exact absurd rfl hdd
          · rw [h] at hg; cases hg
        · exact absurd ((hd b l hb).1.trans (hd b' l' hb').1.symm) hne
        · rcases hget b with h | h
          · rw [h] at hg; cases hg
          · rw [h] at hg; cases hg
      obtain ⟨e, w', fr, ⟨v', μ', H', rfl, h1, h2, h3, h4⟩, h5⟩ := top hF hf hb (fun g hg => by rw [hng] at hg; exact absurd hg (by omega)) hxs hhd (show callA C K n .no (.func (.func i) [] []) xs (Hd.wo []) = .ret v H1 .no from hrun) cs
      have hmn' : H1.mn = H'.mn := by rw [← h4]; rfl
      have hk : ∀ k, k < w.heap.size → w'.heap[k]? = w.heap[k]? := fun k hk => h3.frame k hk fun b l hb hm => by
        have h8 := (hd b l hb).1
        have h9 := hmn b l hb
        omega
      exact ⟨.returned v', w', fr, ⟨v', μ, rfl, scalar_rel hsc h1, hh.kept h3.size hk, Go.kept h3.size hk h3.tape h3.os h3.output⟩, h5⟩
    unfold tabSum at hg
    cases recv with
    | false =>
      simp only at hg
      cases hl : look tab args with
      | none => rw [hl] at hg; cases hg
      | some v0 =>
        rw [hl] at hg
        cases hg
        obtain ⟨s1, s2, H1, s3, s4⟩ := hrow args hl
        exact key (fun _ => none) args H1 (fun b l h => by cases h) (scalars_rel s1 ha) s3 (fun b l h => by cases h) s2
    | true =>
      simp only at hg
      split at hg
      · rename_i b o l
        cases hl : look tab l with
        | none => rw [hl] at hg; cases hg
        | some v0 =>
          rw [hl] at hg
          cases hg
          obtain ⟨s1, s2, H1, s3, s4⟩ := hrow l hl
          obtain ⟨p', y, rfl, q1, q2⟩ := ha.uncons
          obtain ⟨lc, hlc, rfl⟩ := q1.ptr_inv
          refine key (fun c => if c = 0 then some ⟨lc.blk, lc.base + o, lc.csz⟩ else none) (.ptr 0 0 :: l) H1 (fun b' l' h => ?_) (.cons ?_ (scalars_rel s1 q2)) s3 (fun _ _ _ => s4 rfl) s2
          · split at h
            · cases h
              rename_i e
              exact ⟨e, (hh.lt _ _ hlc).2⟩
            · cases h
          · exact .ptr 0 0 ⟨lc.blk, lc.base + o, lc.csz⟩ rfl
      · cases hg

theorem tab_sumT {C' : Ctx} {P : Program} (hF : CtxFull C) (hng : C.ng = 0) (hCP : C.P = P) (hP : C'.P = P) {i : Nat} (hbody : ∃ fn c, P.funcs[i]? = some fn ∧ fn.body = some c) {K n : Nat} {recv : Bool} {tab : List (List AV × AV)}
    (htab : tab.all (rowOk (callT2 C K n .no (.func (.func i) [] [])) recv) = true) : SumOk C' i (tabSum recv tab) :=
  tab_sum hF hng hCP hP hbody (by rw [callT_eq] at htab; exact htab)
end
end Go.Ab

set_option linter.unusedSimpArgs false
set_option linter.unusedVariables false
namespace Go.Ab
open Go.ChangeShapes Go.WideShapes Go.ChangeAt Go.RowKit

/-! ### what came in, read as whatever it may be -/

theorem okWide_any {P : Program} {w : World} {r : Reach} {base : Nat} {u : TypeId} {v : Value} (h : Cell.okWide P w r base u v) :
    (∀ cs, v ≠ .agg cs) ∧ (∀ cs, v ≠ .tuple cs) ∧ (P.underlying u = some .bool → ∃ b, v = .bool b) ∧ (∀ b, v = .bool b → P.underlying u = some .bool) := by
  unfold Cell.okWide Cell.ok at h
  cases hu : P.underlying u with
  | none => rw [hu] at h; cases v <;> simp at h
  | some d =>
    rw [hu] at h
    cases d <;> cases v <;> simp_all

def isB (P : Program) (u : TypeId) : Bool := match P.underlying u with
  | some .bool => true
  | _ => false

def fillB : List Bool → List Bool → List AV
  | [], _ => []
  | false :: r, xs => .any :: fillB r xs
  | true :: r, x :: xs => .bool x :: fillB r xs
  | true :: r, [] => .bool false :: fillB r []

theorem fill_rel {P : Program} {w : World} {r : Reach} {base : Nat} (μ : Mu) : ∀ (us : List TypeId) (cs : List Value), us.length = cs.length → (∀ (i : Nat) (u : TypeId) (v : Value), us[i]? = some u → cs[i]? = some v → Cell.okWide P w r base u v) →
    ∃ xs : List Bool, xs.length = (us.map (isB P)).countP id ∧ LRel μ (fillB (us.map (isB P)) xs) cs := by
  intro us
  induction us with
  | nil => intro cs hl _; cases cs with
    | nil => exact ⟨[], rfl, .nil μ⟩
    | cons _ _ => simp at hl
  | cons u us ih =>
    intro cs hl hc
    cases cs with
    | nil => simp at hl
    | cons v cs =>
      obtain ⟨xs, h1, h2⟩ := ih cs (by simpa using hl) fun i u' v' hu hv => hc (i + 1) u' v' (by simpa using hu) (by simpa using hv)
      obtain ⟨q1, q2, q3, q4⟩ := okWide_any (hc 0 u v rfl rfl)
      cases hb : isB P u with
      | true =>
        have hu : P.underlying u = some .bool := by
          unfold isB at hb
          split at hb
          · assumption
          · cases hb
        obtain ⟨b, rfl⟩ := q3 hu
        refine ⟨b :: xs, ?_, ?_⟩
        · simp only [List.map_cons, hb, List.length_cons, h1]
          simp
        · simp only [List.map_cons, hb, fillB]
          exact .cons (.bool b) h2
      | false =>
        have hn : ∀ b, v ≠ .bool b := fun b e => by
          have := q4 b e
          unfold isB at hb
          rw [this] at hb
          cases hb
        refine ⟨xs, ?_, ?_⟩
        · simp only [List.map_cons, hb, h1]
          simp
        · simp only [List.map_cons, hb, fillB]
          exact .cons (.any v q1 q2 hn) h2

/-- A struct that came in. -/
theorem struct_rel {P : Program} {w : World} {r : Reach} {base : Nat} (μ : Mu) {t : TypeId} {v : Value} {fs : Array Field} (hu : P.underlying t = some (.struct fs)) (hv : Value.okWide P w r base t v)
    {us : List TypeId} (hus : P.cellTypes P.depth t = some us) (hlen : P.cellsOf t = us.length) {bs : List Bool} (hbs : us.map (isB P) = bs) :
    ∃ xs : List Bool, xs.length = bs.countP id ∧ VRel μ (.agg (fillB bs xs)) v := by
  unfold Value.okWide at hv
  rw [hu] at hv
  obtain ⟨cs, rfl, hsz, ts, hts, ⟨n, hn⟩, hc⟩ := hv
  rw [hus] at hts
  cases hts
  have hl : us.length = cs.toList.length := by simp [hsz, hlen]
  obtain ⟨xs, h1, h2⟩ := fill_rel (P := P) (w := w) (r := r) (base := base) μ us cs.toList hl fun i u v hu' hv' => by
    obtain ⟨u', hu2, hok⟩ := hc i v (by simpa using hv')
    have hi : i < us.length := (List.getElem?_eq_some_iff.1 hu').1
    rw [Nat.mod_eq_of_lt hi, hu'] at hu2
    cases hu2
    exact hok
  rw [hbs] at h1 h2
  refine ⟨xs, h1, ?_⟩
  have := VRel.agg_of h2
  simpa using this

theorem post_of_below {H : Type} {enc : TypeId × Value → H} {P : Program} {f : Func} {s : ChangeSpec} {apart fresh handsOn again : Bool} {W W' : World} {args : Array Value} {v : Value} {ds gs : List (DataW H)} {before pa pv : List MemPlace}
    (hW : DataW.Whole enc P f.params.toList s.vars apart W args.toList ds gs before)
    (hres : ∀ (b : Nat) (sp : Nat → Bool) (hd : Bool), DataW.TrodAll enc P W' b sp hd f.resultTypes.toList (v.resultList f.resultTypes.size) (s.fn H (ds ++ gs)).results [])
    (hargs : ∀ sp : Nat → Bool, (∀ p ∈ before, sp p.block = true) → DataW.TrodAll enc P W' 0 sp true f.params.toList args.toList (s.fn H (ds ++ gs)).args pa)
    (hvars : ∀ sp : Nat → Bool, (∀ p ∈ before, sp p.block = true) → DataW.TrodVars enc P W' sp s.vars (s.fn H (ds ++ gs)).vars pv)
    (hps : before = pa ++ pv) (hb : Below W.heap.size W W')
    (hok : ∀ (j : Nat) (t : TypeId) (r : Value), f.resultTypes[j]? = some t → (v.resultList f.resultTypes.size)[j]? = some r → Value.okWide P W' .any 0 t r) :
    s.post enc P f apart fresh handsOn again W args v W' := by
  have hlt : ∀ p ∈ before, p.block < W.heap.size := fun p hp => hW.lt p hp
  have hold : ∀ p ∈ before, (fun b => decide (b < W.heap.size)) p.block = true := fun p hp => by simpa using hlt p hp
  refine ⟨ds, gs, before, [], pa, pv, hW, hres _ _ _, hargs _ hold, hvars _ hold, World.keptBut_mono (fun p hp => ⟨hp, ?_⟩) (hb.frame (· ∈ before)), fun _ => ?_⟩
  · rw [hps, List.mem_append] at hp
    exact Or.inr hp
  · obtain ⟨_, _, _, _, _, hz, hn⟩ := hW
    refine ⟨hok, _, _, ([] ++ pa) ++ pv, ⟨[] ++ pa, pv, trodAll_append (hargs _ (fun _ _ => rfl)) (hres _ _ _), hvars _ (fun _ _ => rfl), rfl, ?_, ?_⟩, ?_⟩
    · intro b off hp
      have hin : MemPlace.cell b off ∈ before := by rw [hps]; simpa using hp
      rw [hb.frozen (hlt _ hin)]
      exact hz b off hin
    · intro ha
      have := hn ha
      rw [hps] at this
      simpa using this
    · intro p hp _
      rw [hps]
      simpa using hp

def isTrue : CR → Bool
  | .ret (.bool true) _ .no => true
  | _ => false

/-- A law that is one run of the evaluator. -/
theorem law_calls {C : Ctx} {P : Program} (hP : C.P = P) (hF : CtxFull C) (hng : C.ng = 0) {i : Nat} {fn : Func} {c : Code} (hf : P.funcs[i]? = some fn) (hb : fn.body = some c) {K n : Nat} {args : List AV} {args' : List Value}
    (ha : LRel (fun _ => none) args args') (hT : isTrue (callT2 C K n .no (.func (.func i) [] []) args H0) = true) (w : World) :
    Calls P i args'.toArray w fun e w' => e = .returned (.bool true) ∧ Below w.heap.size w w' := by
  subst hP
  have h := hT
  rw [callT_eq] at h
  cases hr : callA C K n .no (.func (.func i) [] []) args H0 with
  | need k => rw [hr] at h; cases h
  | bad why => rw [hr] at h; cases h
  | pan l H u => rw [hr] at h; cases h
  | ret v H u =>
    rw [hr] at h
    cases v <;> try (cases h; done)
    rename_i b
    cases b <;> try (cases h; done)
    cases u <;> try (cases h; done)
    refine (world_calls hF hng hf hb ha hr w).mono fun e w' ⟨v', μ', h1, h2, h3, h4, h5, h6, h7⟩ => ?_
    have := h2.bool_inv
    subst this
    exact ⟨h1, ⟨h6, h5, h7, h3, h4⟩⟩
end Go.Ab
