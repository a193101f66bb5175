/- Plain law of event texts: what an event's text is and how it is read, over numbers and lists of bytes; no program. -/
import Derived.Lib.ItoaNum
import Derived.Lib.ValidU
import Derived.Lib.AtoiAll
namespace Go.Proofs.YtemiamajgjfnbaaGreatDoor
namespace Ev
open Go
abbrev Bytes := List UInt8
def within (n lo hi : Int) : Bool := decide (lo ≤ n) && decide (n ≤ hi)
def digB (b : UInt8) : Bool := decide (48 ≤ b.toNat) && decide (b.toNat ≤ 57)
def lowB (b : UInt8) : Bool := decide (97 ≤ b.toNat) && decide (b.toNat ≤ 122)
/-- plain, over the number of a byte -/
def plainI (b : Int) : Bool := decide (32 < b) && decide (b < 127) && (b != 37)
def plainB (b : UInt8) : Bool := plainI b.toNat
def nib (n : Nat) : UInt8 := if n < 10 then UInt8.ofNat (48 + n) else UInt8.ofNat (87 + n)
def esc1 (b : UInt8) : Bytes := if plainB b = true then [b] else [37, nib (b.toNat / 16), nib (b.toNat % 16)]
def esc (l : Bytes) : Bytes := l.flatMap esc1
/-- A small sixteen's worth. -/
def val? (b : UInt8) : Option Nat := if 48 ≤ b.toNat ∧ b.toNat ≤ 57 then some (b.toNat - 48) else if 97 ≤ b.toNat ∧ b.toNat ≤ 102 then some (b.toNat - 87) else none
/-- An escaped text read: the place of what is wrong, or the text. -/
def dec : Bytes → Nat → Bytes → Sum Nat Bytes
  | [], _, acc => .inr acc
  | b :: r, i, acc =>
    if plainB b = true then dec r (i + 1) (acc ++ [b])
    else match r with
      | x :: y :: r' =>
        if b = 37 then
          match val? x, val? y with
          | some h, some l => if plainB (UInt8.ofNat (16 * h + l)) = true then .inl i else dec r' (i + 3) (acc ++ [UInt8.ofNat (16 * h + l)])
          | _, _ => .inl i
        else .inl i
      | _ => .inl i
def digVal (l : Bytes) : Nat := l.foldl (fun n b => 10 * n + (b.toNat - 48)) 0
def sgn (l : Bytes) : Nat := if l.head? = some 45 then 1 else 0
def digs (l : Bytes) : Bytes := (l.drop (sgn l)).takeWhile digB
def numV (l : Bytes) : Int := if sgn l = 1 then -(digVal (digs l) : Int) else (digVal (digs l) : Int)
/-- A whole number at the beginning: the number, and how many bytes. -/
def numAt (l : Bytes) : Option (Int × Nat) :=
  if (digs l).length ≤ 9 ∧ Lib.itoa (numV l) = l.take (sgn l + (digs l).length) then some (numV l, sgn l + (digs l).length) else none
/-- A reader: at a place, or wrong at a place. -/
inductive RS where
  | ok (a : Nat)
  | bad (p : Nat)
  deriving DecidableEq
def blankS (l : Bytes) : RS → RS
  | .ok a => if l[a]? = some 32 then .ok (a + 1) else .bad a
  | .bad p => .bad p
def numR (l : Bytes) : RS → Int × RS
  | .ok a => match numAt (l.drop a) with
    | some (n, c) => (n, .ok (a + c))
    | none => (0, .bad a)
  | .bad p => (0, .bad p)
def numS (l : Bytes) (σ : RS) : Int × RS := numR l (blankS l σ)
def word (l : Bytes) : Bytes := l.takeWhile (fun b => b != 32)
def textR (l : Bytes) : RS → Bytes × RS
  | .ok a => if word (l.drop a) = [] then ([], .bad a) else
    match dec (word (l.drop a)) 0 [] with
    | .inl i => ([], .bad (a + i))
    | .inr v => (v, .ok (a + (word (l.drop a)).length))
  | .bad p => ([], .bad p)
def textS (l : Bytes) (σ : RS) : Bytes × RS := textR l (blankS l σ)
structure E where
  kind : Int
  ax : Int
  ay : Int
  sw : Int
  sh : Int
  name : Bytes
  mods : Int
  text : Bytes
  n : Int
  deriving DecidableEq
def E0 : E := ⟨0, 0, 0, 0, 0, [], 0, [], 0⟩
/-- May an event be? -/
def chk (e : E) : Bool :=
  (within e.ax (-16384) 16384 && within e.ay (-16384) 16384) &&
  (if e.kind = 1 then (within e.name.length 1 64 && Lib.validD e.name && decide (e.mods ≤ 7)) && decide (e = ⟨1, 0, 0, 0, 0, e.name, e.mods, [], 0⟩)
   else if e.kind = 2 then within e.text.length 1 65536 && decide (e = ⟨2, 0, 0, 0, 0, [], 0, e.text, 0⟩)
   else if e.kind = 3 then within e.n 1 3 && decide (e = ⟨3, e.ax, e.ay, 0, 0, [], 0, [], e.n⟩)
   else if e.kind = 4 then within e.n 1 3 && decide (e = ⟨4, e.ax, e.ay, 0, 0, [], 0, [], e.n⟩)
   else if e.kind = 5 then decide (e = ⟨5, e.ax, e.ay, 0, 0, [], 0, [], 0⟩)
   else if e.kind = 6 then (decide (e.n ≠ 0) && within e.n (-16384) 16384) && decide (e = ⟨6, e.ax, e.ay, 0, 0, [], 0, [], e.n⟩)
   else if e.kind = 7 then within e.n 1 1048576 && decide (e = ⟨7, 0, 0, 0, 0, [], 0, [], e.n⟩)
   else if e.kind = 8 then (within e.sw 0 32768 && within e.sh 0 32768) && decide (e = ⟨8, 0, 0, e.sw, e.sh, [], 0, [], 0⟩)
   else if e.kind = 9 then within e.text.length 1 64 && decide (e = ⟨9, e.ax, e.ay, 0, 0, [], 0, e.text, 0⟩)
   else if e.kind = 10 then within e.text.length 1 64 && decide (e = ⟨10, e.ax, e.ay, 0, 0, [], 0, e.text, 0⟩)
   else false)
def chkE (e : E) : Int := if chk e = true then 0 else 190
/-- The kinds' words. -/
def words : List Bytes := [[107, 101, 121], [116, 101, 120, 116], [100, 111, 119, 110], [117, 112], [109, 111, 118, 101], [119, 104, 101, 101, 108], [116, 105, 99, 107], [114, 101, 115, 105, 122, 101], [100, 114, 97, 103], [100, 114, 111, 112]]
def sp (l : Bytes) : Bytes := 32 :: l
def itoa (n : Int) : Bytes := Lib.itoa n
/-- The text of an event that may be. -/
def body (e : E) : Bytes :=
  if e.kind = 1 then [107, 101, 121] ++ sp (itoa e.mods) ++ sp (esc e.name)
  else if e.kind = 2 then [116, 101, 120, 116] ++ sp (esc e.text)
  else if e.kind = 3 then [100, 111, 119, 110] ++ sp (itoa e.ax) ++ sp (itoa e.ay) ++ sp (itoa e.n)
  else if e.kind = 4 then [117, 112] ++ sp (itoa e.ax) ++ sp (itoa e.ay) ++ sp (itoa e.n)
  else if e.kind = 5 then [109, 111, 118, 101] ++ sp (itoa e.ax) ++ sp (itoa e.ay)
  else if e.kind = 6 then [119, 104, 101, 101, 108] ++ sp (itoa e.ax) ++ sp (itoa e.ay) ++ sp (itoa e.n)
  else if e.kind = 7 then [116, 105, 99, 107] ++ sp (itoa e.n)
  else if e.kind = 8 then [114, 101, 115, 105, 122, 101] ++ sp (itoa e.sw) ++ sp (itoa e.sh)
  else if e.kind = 9 then [100, 114, 97, 103] ++ sp (itoa e.ax) ++ sp (itoa e.ay) ++ sp (esc e.text)
  else [100, 114, 111, 112] ++ sp (itoa e.ax) ++ sp (itoa e.ay) ++ sp (esc e.text)
def textB (e : E) : Bytes := if chk e = true ∧ (body e).length ≤ 65536 then body e else []
def textE (e : E) : Int := if chk e = true then (if (body e).length ≤ 65536 then 0 else 3) else 190
/-- Which kind a word is: 0: none. -/
def kindOf (l : Bytes) : Nat := if l ∈ words then words.idxOf l + 1 else 0
/-- The fields behind the kind's word. -/
def fields (l : Bytes) (k : Nat) (σ : RS) : E × Int × RS :=
  match k with
  | 1 => let m := numS l σ; let t := textS l m.2; (⟨1, 0, 0, 0, 0, t.1, m.1 % 256, [], 0⟩, m.1, t.2)
  | 2 => let t := textS l σ; (⟨2, 0, 0, 0, 0, [], 0, t.1, 0⟩, 0, t.2)
  | 7 => let m := numS l σ; (⟨7, 0, 0, 0, 0, [], 0, [], m.1⟩, 0, m.2)
  | 8 => let m := numS l σ; let n := numS l m.2; (⟨8, 0, 0, m.1, n.1, [], 0, [], 0⟩, 0, n.2)
  | 5 => let m := numS l σ; let n := numS l m.2; (⟨5, m.1, n.1, 0, 0, [], 0, [], 0⟩, 0, n.2)
  | 9 => let m := numS l σ; let n := numS l m.2; let t := textS l n.2; (⟨9, m.1, n.1, 0, 0, [], 0, t.1, 0⟩, 0, t.2)
  | 10 => let m := numS l σ; let n := numS l m.2; let t := textS l n.2; (⟨10, m.1, n.1, 0, 0, [], 0, t.1, 0⟩, 0, t.2)
  | 3 => let m := numS l σ; let n := numS l m.2; let o := numS l n.2; (⟨3, m.1, n.1, 0, 0, [], 0, [], o.1⟩, 0, o.2)
  | 4 => let m := numS l σ; let n := numS l m.2; let o := numS l n.2; (⟨4, m.1, n.1, 0, 0, [], 0, [], o.1⟩, 0, o.2)
  | 6 => let m := numS l σ; let n := numS l m.2; let o := numS l n.2; (⟨6, m.1, n.1, 0, 0, [], 0, [], o.1⟩, 0, o.2)
  | _ => (E0, 0, .bad 0)
def done (l : Bytes) : RS → RS
  | .ok a => if a < l.length then .bad a else .ok a
  | .bad p => .bad p
def finish (e : E) (mods : Int) : RS → E × Int × Int
  | .bad p => (E0, p, 190)
  | .ok _ => if (mods < 0 ∨ 7 < mods) ∨ chk e = false then (E0, 0, 190) else (e, 0, 0)
/-- An event's text read. -/
def parse (l : Bytes) : E × Int × Int :=
  if 65536 < l.length then (E0, 0, 3) else
  let w := l.takeWhile lowB
  let f := fields l (kindOf w) (.ok w.length)
  finish f.1 f.2.1 (done l f.2.2)
end Ev
end Go.Proofs.YtemiamajgjfnbaaGreatDoor
