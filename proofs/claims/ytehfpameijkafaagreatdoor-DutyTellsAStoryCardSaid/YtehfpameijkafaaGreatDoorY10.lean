/-
  What the lexer of chapter 31 reads and prints: plain functions over lists of bytes. No program.
-/
import Derived.ProofKit
set_option linter.unusedVariables false
set_option linter.unusedSimpArgs false
namespace Go.Lx
def BE (c:UInt8):Bool:=(97<=c&&c<=122)||(65<=c&&c<=90)||c == 95
def isDigit (c:UInt8):Bool:=48<=c&&c<=57
def Dr (c:UInt8):Bool:=c == 32||c == 9||c == 10||c == 13
def isWord (c:UInt8):Bool:=BE c||isDigit c
def skip:Bool->List UInt8->List UInt8
 |_,[]=>[]
 |false,c::r=>if Dr c then skip false r else if c=35 then skip true r else c::r
 |true,c::r=>if c=10 then skip false r else skip true r
structure Tok where
 kind:Nat
 at_:Nat
 s:List UInt8
 n:Nat
deriving DecidableEq
inductive Out where
 |ok (kind:Nat) (s:List UInt8) (n:Nat) (rest:List UInt8)
 |bad (e:Nat)
deriving DecidableEq
def Dj (l:List UInt8):Nat:=l.foldl (fun n c=>10*n+(c.toNat-48)) 0
def name (r:List UInt8):Out :=
 if 32<(r.takeWhile isWord).length then .bad 2 else .ok 1 (r.takeWhile isWord) 0 (r.dropWhile isWord)
def Cl (p:UInt8->Bool)(r:List UInt8):Bool:=match r with | []=>false|c::_=>p c
def number (r:List UInt8):Out :=
 let d:=r.takeWhile isDigit
 let t:=r.dropWhile isDigit
 if 15<d.length||(decide (1<d.length)&&Cl (· == 48) r)||Cl BE t then .bad 27 else .ok 2 [] (Dj d) t
def pair (c:UInt8):UInt8:=if c=34∨c=92 then c else if c=110 then 10 else 0
def text (b:List UInt8):List UInt8->Out
 | []=>if 200<b.length then .bad 2 else .bad 28
 |c::r =>
  if 200<b.length then .bad 2
  else if c=34 then .ok 3 b 0 r
  else if c=92 then
   match r with
   | []=>.bad 28
   |d::r'=>if pair d=0 then .bad 28 else text (b++[pair d]) r'
  else if c<32∨126<c then .bad 28
  else text (b++[c]) r
def long:List (List UInt8):=[[45,62],[58,61],[61,61],[33,61],[60,61],[62,61],[38,38],[124,124],[46,46]]
def short:List UInt8:=[40,41,123,125,91,93,44,59,58,46,43,45,42,47,37,60,62,61,33,38,124,64,63,94,126]
def sign (r:List UInt8):Out :=
 if (r.take 2)∈long then .ok 4 (r.take 2) 0 (r.drop 2)
 else match r with
  | []=>.bad 26
  |c::r'=>if c∈short then .ok 4 [c] 0 r' else .bad 26
def tok (r:List UInt8):Out :=
 match r with
 | []=>.bad 26
 |c::r'=>if BE c then name r else if isDigit c then number r else if c=34 then text [] r' else sign r
def Q4 (n:Nat):Nat->List UInt8->Except (Nat×Nat) (List Tok)
 |0,_=>.ok [⟨5,n,[],0⟩]
 |f+1,r =>
  match r with
  | []=>.ok [⟨5,n,[],0⟩]
  |c::r0 =>
   match tok (c::r0) with
   |.bad e=>.error (n-r.length,e)
   |.ok k s v t =>
    match Q4 n f (skip false t) with
    |.error x=>.error x
    |.ok l=>.ok (⟨k,n-r.length,s,v⟩::l)
def tokens (l:List UInt8):Except (Nat×Nat) (List Tok):=Q4 l.length l.length (skip false l)
def quoted (l:List UInt8):List UInt8:=l.flatMap fun c=>if c=34∨c=92 then [92,c] else if c=10 then [92,110] else [c]
end Go.Lx
