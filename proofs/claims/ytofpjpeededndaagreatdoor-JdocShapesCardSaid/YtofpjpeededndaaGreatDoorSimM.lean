/- THE MACHINE: its step, its tables, and the theorem: what a call comes to in the machine, it comes to in the program. -/
import Derived.Test.YtofpjpeededndaaGreatDoorSimX
set_option linter.unusedVariables false
namespace Go.Proofs.YtofpjpeededndaaGreatDoorSim
noncomputable section
open Go.RowKit (Below)

def isSl (E : Env) (t : TypeId) : Bool :=
  match E.ti t with
  | some x => match x.desc with
    | .slice _ => true
    | _ => false
  | none => false

def isUP (E : Env) (t : TypeId) : Bool :=
  match E.ti t with
  | some x => match x.desc with
    | .unsafePointer => true
    | _ => false
  | none => false

def quietB : Builtin → Bool
  | .len | .max | .min | .unsafeSliceData => true
  | _ => false

def effO (E : Env) (o : Oper) : Bool :=
  match o.op with
  | .store .. | .alloc _ | .box .. | .buildSlice .. | .makeSlice .. => true
  | .convert s d _ => isSl E d && !isSl E s
  | .call c => match c.callee with
    | .builtin b => !quietB b
    | _ => true
  | _ => false

def readsO (E : Env) (o : Oper) : Bool :=
  match o.op with
  | .load .. => true
  | .convert s d _ => isSl E s || (isUP E s || isUP E d)
  | _ => false

def bytesOf : List AV → Option (List Nat)
  | [] => some []
  | .int .u8 (.ofNat n) :: vs => match Nat.blt n 256, bytesOf vs with
    | true, some ns => some (n :: ns)
    | _, _ => none
  | _ => none

/-- The text of a row of bytes. -/
def aText (E : Env) (H : AH) (src dst : TypeId) (x : AV) : Option AV :=
  match E.ti src, E.ti dst with
  | some s, some d => match s.desc, d.desc, x with
    | .slice e, .string, .nils => match E.ti e with
      | some te => match te.desc with
        | .int .u8 => some (.str [])
        | _ => none
      | none => none
    | .slice e, .string, .slice b o len sz _ => match E.ti e, Nat.beq sz 1 with
      | some te, true => match te.desc, oldCells H b o 1 len with
        | .int .u8, some vs => match bytesOf vs with
          | some ns => some (.str ns)
          | none => none
        | _, _ => none
      | _, _ => none
    | _, _, _ => none
  | _, _ => none

/-- The row of a text's bytes. -/
def aBytes (E : Env) (H : AH) (src dst : TypeId) (x : AV) : Option (AV × AH) :=
  match E.ti src, E.ti dst with
  | some s, some d => match s.desc, d.desc, x with
    | .string, .slice e, .str l => match E.ti e with
      | some te => match te.desc with
        | .int .u8 => newSlice H (u8s l) true [] l.length 1 (some e)
        | _ => none
      | none => none
    | _, _, _ => none
  | _, _ => none

/-- A row of bytes, marked behind its end (a text's bytes that are handed on as a row). -/
def aSame (E : Env) (H : AH) (src dst : TypeId) (x : AV) : Option AV :=
  match Nat.beq src dst, E.ti src, x with
  | true, some s, .slice b o len sz cap => match s.desc with
    | .slice e => match E.ti e, H.m.get b with
      | some te, some ab => match te.desc, (ab.w || ab.t) && Nat.blt 0 len with
        | .int .u8, true => some (.slice b o len sz cap)
        | _, _ => none
      | _, _ => none
    | _ => none
  | _, _, _ => none

/-- A pointer to unsafe.Pointer and back, to a block of its own type. -/
def aUnsafe (E : Env) (H : AH) (s d : TypeId) (x : AV) : Option AV :=
  match E.ti s, E.ti d with
  | some a, some b => match a.desc, b.desc, x with
    | .pointer t, .unsafePointer, .ptr k o => match E.ti t, H.m.get k with
      | some te, some ab => match Nat.blt 0 te.size && Nat.blt o ab.cells.length with
        | true => some (.ptr k o)
        | false => none
      | _, _ => none
    | .unsafePointer, .pointer u, .ptr k 0 => match E.ti u, H.m.get k with
      | some te, some ab => match Nat.blt 0 te.size && Nat.ble te.size ab.cells.length, ab.ty with
        | true, some e => match Nat.beq e u with
          | true => some (.ptr k 0)
          | false => none
        | _, _ => none
      | _, _ => none
    | _, _, _ => none
  | _, _ => none

/-- unsafe.String of a row's head: the row may no longer be written. -/
def aUString (E : Env) (H : AH) (ts : List TypeId) (p n : AV) : Option (AV × AH) :=
  match ts, n with
  | [t, _], .int .i64 (.ofNat n) => match p, n with
    | .nilp, 0 => some (.str [], H)
    | .ptr _ _, 0 => some (.str [], H)
    | .ptr b 0, n => match E.ti t, H.m.get b with
      | some ti, some ab => match ti.desc, ab.ty with
        | .pointer e, some e' => match E.ti e, bytesOf (ab.cells.take n) with
          | some te, some ns => match Nat.beq e e' && Nat.beq te.size 1 && Nat.ble n ab.cells.length && Nat.ble n 9223372036854775807 && (ab.w || ab.t) with
            | true => match H.put b (some ⟨ab.cells, false, false, ab.anc, ab.ty⟩) with
              | some H' => some (.str ns, H')
              | none => none
            | false => none
          | _, _ => none
        | _, _ => none
      | _, _ => none
    | _, _ => none
  | _, _ => none

def aAlloc (E : Env) (H : AH) (t : TypeId) : Option (AV × AH) :=
  match E.ti t with
  | some ti => match ti.zero with
    | some z => match aNew H t z.cells with
      | some (b, H') => some (.ptr b 0, H')
      | none => none
    | none => none
  | none => none

def aBox (H : AH) (t : TypeId) (v : AV) : Option (AV × AH) :=
  match aNew H t v.cells with
  | some (b, H') => some (.ptr b 0, H')
  | none => none

def aBuildSlice (E : Env) (H : AH) (t : TypeId) (len : Nat) (parts : List (Nat × AV)) : Option (AV × AH) :=
  match E.ti t with
  | some ti => match ti.desc with
    | .slice elem => match E.ti elem with
      | some te => match te.zero with
        | some z => match Nat.ble (len * te.size) 16777216 && Nat.blt 0 te.size && Nat.beq z.cells.length te.size with
          | true => match aFill (fun i => some (i * te.size, te.size)) (zeros z.cells len) parts with
            | some cs => match aNew H elem cs with
              | some (b, H') => some (.slice b 0 len te.size (some len), H')
              | none => none
            | none => none
          | false => none
        | none => none
      | none => none
    | _ => none
  | none => none

def aMake (E : Env) (H : AH) (t : TypeId) (l c : AV) : Option (AV × AH) :=
  match E.ti t, l, c with
  | some ti, .int _ (.ofNat n), .int _ (.ofNat m) => match ti.desc with
    | .slice elem => match E.ti elem with
      | some te => match te.zero with
        | some z => match Nat.ble n m && Nat.ble (te.bytes * m) 281474976710656 && Nat.ble m 281474976710656 && Nat.blt 0 te.size && Nat.beq z.cells.length te.size with
          | true => match aNew H elem (zeros z.cells m) with
            | some (b, H') => some (.slice b 0 n te.size (some m), H')
            | none => none
          | false => none
        | none => none
      | none => none
    | _ => none
  | _, _, _ => none

def mk (E : Env) (callf : CallF) : StepF := fun g H o =>
  match o.op with
  | .load t a => match evg E g a with
    | some p => match aLoad E H t p with
      | some v => some (v, H)
      | none => none
    | none => none
  | .store t a x => match evg E g a, evg E g x with
    | some p, some v => match aStore E H t p v with
      | some H' => some (.und, H')
      | none => none
    | _, _ => none
  | .alloc t => aAlloc E H t
  | .box t x => match evg E g x with
    | some v => aBox H t v
    | none => none
  | .buildSlice t n parts => match aParts E g parts.toList with
    | some ps => aBuildSlice E H t n ps
    | none => none
  | .makeSlice t l c => match evg E g l, evg E g c with
    | some a, some b => aMake E H t a b
    | _, _ => none
  | .convert s d x => match evg E g x with
    | some a => match isSl E d, isSl E s with
      | true, false => aBytes E H s d a
      | true, true => match aSame E H s d a with
        | some v => some (v, H)
        | none => none
      | false, true => match aText E H s d a with
        | some v => some (v, H)
        | none => none
      | false, false => match isUP E s || isUP E d with
        | true => match aUnsafe E H s d a with
          | some v => some (v, H)
          | none => none
        | false => match aConv E s d a with
          | some v => some (v, H)
          | none => none
    | none => none
  | .call c => match c.callee with
    | .builtin .append => match evgs E g c.args.toList with
      | some [s, x] => aAppend E H c.argTypes.toList s x
      | _ => none
    | .builtin .unsafeString => match evgs E g c.args.toList with
      | some [p, n] => aUString E H c.argTypes.toList p n
      | _ => none
    | .value f => match evg E g f with
      | some (.func fid) => match E.fn fid, evgs E g c.args.toList with
        | some _, some vs => callf fid vs H
        | none, some [v] => match E.ext fid with
          | true => some (v, H)
          | false => none
        | _, _ => none
      | some (.clo fid cs) => match E.fn fid, evgs E g c.args.toList with
        | some _, some vs => callf fid (vs ++ cs) H
        | _, _ => none
      | _ => none
    | _ => match aQuietB E g c with
      | some v => some (v, H)
      | none => none
  | op => match pureV E g op with
    | some v => some (v, H)
    | none => none

end
end Go.Proofs.YtofpjpeededndaaGreatDoorSim
