/- The core: what a single operation does, read off its text. -/
import Derived.Test.YtmglifmopjedbaaGreatBrCore
set_option linter.unusedVariables false
set_option linter.unusedSimpArgs false
namespace Go.Br
open Go
inductive PV where
 | val (v : Value)
 | need (c : Prop) (v : Value)
 | no
def intBin (op : BinOp) (k : IntKind) (x y : Int) : PV :=
 match op with
 | .add => .val (.int k (k.wrap (x + y)))
 | .sub => .val (.int k (k.wrap (x - y)))
 | .mul => .val (.int k (k.wrap (x * y)))
 | .quo => .need (y ≠ 0) (.int k (k.wrap (x.tdiv y)))
 | .rem => .need (y ≠ 0) (.int k (x.tmod y))
 | .and => .val (.int k (k.wrap (BitVec.ofInt k.bits x &&& BitVec.ofInt k.bits y).toNat))
 | .or => .val (.int k (k.wrap (BitVec.ofInt k.bits x ||| BitVec.ofInt k.bits y).toNat))
 | .xor => .val (.int k (k.wrap (BitVec.ofInt k.bits x ^^^ BitVec.ofInt k.bits y).toNat))
 | .andNot => .val (.int k (k.wrap (BitVec.ofInt k.bits x &&& ~~~ BitVec.ofInt k.bits y).toNat))
 | .eql => .val (.bool (x == y))
 | .neq => .val (.bool (x != y))
 | .lss => .val (.bool (decide (x < y)))
 | .leq => .val (.bool (decide (x <= y)))
 | .gtr => .val (.bool (decide (x > y)))
 | .geq => .val (.bool (decide (x ≥ y)))
 | _ => .no
def shlN (k : IntKind) (x y : Int) : Int:=k.wrap (x * 2 ^ (min y.toNat k.bits))
def shrN (k : IntKind) (x y : Int) : Int:=x.fdiv (2 ^ (min y.toNat k.bits))
def strBin (op : BinOp) (x y : ByteArray) : PV :=
 match op with
 | .add => .need (((x.size + y.size : Nat) : Int) <= IntKind.i64.max) (.string (x ++ y))
 | .eql => .val (.bool (x.toList == y.toList))
 | .neq => .val (.bool (!(x.toList == y.toList)))
 | .lss => .val (.bool (Op.bytesLess x.toList y.toList))
 | .leq => .val (.bool (Op.bytesLess x.toList y.toList || x.toList == y.toList))
 | .gtr => .val (.bool (!(Op.bytesLess x.toList y.toList || x.toList == y.toList)))
 | .geq => .val (.bool (!Op.bytesLess x.toList y.toList))
 | _ => .no
def sameK (k k' : IntKind) : Bool:=match k,k' with
 | .i8,.i8 | .i16,.i16 | .i32,.i32 | .i64,.i64 | .u8,.u8 | .u16,.u16 | .u32,.u32 | .u64,.u64 => true
 | _,_ => false
theorem sameK_eq {k k' : IntKind} (h : sameK k k' = true) : k = k':=by cases k <;> cases k' <;> first | rfl | cases h
def isNilC : Operand -> Bool
 | .const (.pointer none) => true
 | .const (.slice none _ _) => true
 | .const (.map none) => true
 | _ => false
def nilBin (P : Program) (T : TypeId) (a : Value) (y : Operand) : Option Bool :=
 match P.underlying T,a,y with
 | some (.pointer _),.pointer p,.const (.pointer none) => some p.isNone
 | some (.slice _),.slice p _ _,.const (.slice none _ _) => some p.isNone
 | some (.map _ _),.map p,.const (.map none) => some p.isNone
 | _,_,_ => none
def binPV (P : Program) (op : BinOp) (T : TypeId) (x y : Operand) (a b : Value) : PV :=
 bif isNilC y then
  (match op,nilBin P T a y with
  | .eql,some r => .val (.bool r)
  | .neq,some r => .val (.bool (!r))
  | _,_ => .no)
 else match a,b with
 | .int k a,.int k' b => (match op with
  | .shl => .need (0 <= b) (.int k (shlN k a b))
  | .shr => .need (0 <= b) (.int k (shrN k a b))
  | _ => bif sameK k k' then intBin op k a b else .no)
 | .string a,.string b => strBin op a b
 | .bool a,.bool b => (match op,P.underlying T with
  | .eql,some .bool => .val (.bool (a == b))
  | .neq,some .bool => .val (.bool (!(a == b)))
  | _,_ => .no)
 | _,_ => .no
def sbyte (s : ByteArray) (i : Int) : Int:=match s[i.toNat]? with | some b => (b.toNat : Int) | none => 0
def cutS (s : ByteArray) (l h : Int) : ByteArray:=s.extract l.toNat h.toNat
def cutA (A : Option Addr) (c size : Nat) (l : Int) : Option Addr:=if c = l.toNat then A else A.map (·.add (l.toNat * size))
def bnd (ρ : Env) (x : Option Operand) (d : Int) : Option Int :=
 match x with
 | none => some d
 | some x => match ev ρ x with
  | some (.int _ i) => some i
  | _ => none
def minN (x y : Int) : Int:=if y < x then y else x
def maxN (x y : Int) : Int:=if y > x then y else x
def fieldOf (P : Program) (T : TypeId) (f : Nat) : Option Field:=match P.underlying T with
 | some (.struct fs) => fs[f]?
 | _ => none
def sizeAt (P : Program) (t : TypeId) : Option Nat:=(P.info? t).map (·.size)
def isAggT (P : Program) (t : TypeId) : Bool:=match P.underlying t with
 | some (.struct _) | some (.array _ _) => true
 | _ => false
def isArrT (P : Program) (T : TypeId) : Bool:=match P.underlying T with
 | some (.array _ _) => true
 | _ => false
def purePV (P : Program) (ρ : Env) (o : Oper) : PV :=
 match o.op with
 | .move x | .assign x => (match ev ρ x with | some v => .val v | none => .no)
 | .binOp op T x y _ => (match ev ρ x,ev ρ y with
  | some a,some b => bif isArrT P T then .no else binPV P op T x y a b
  | _,_ => .no)
 | .unOp .not _ x => (match ev ρ x with | some (.bool b) => .val (.bool (!b)) | _ => .no)
 | .unOp .neg _ x => (match ev ρ x with | some (.int k a) => .val (.int k (k.wrap (0 - a))) | _ => .no)
 | .unOp .xor _ x => (match ev ρ x with | some (.int k a) => intBin .xor k (if k.signed then -1 else k.max) a | _ => .no)
 | .extract x i => (match ev ρ x with
  | some (.tuple vs) => (match vs[i]? with | some v => .val v | none => .no)
  | _ => .no)
 | .convert src dst x => (match P.underlying src,P.underlying dst,ev ρ x with
  | some _,some (.int k),some (.int _ a) => .val (.int k (k.wrap a))
  | some _,some .string,some (.string s) => .val (.string s)
  | _,_,_ => .no)
 | .fieldAddr T x f => (match fieldOf P T f,ev ρ x with
  | some fd,some (.pointer (some a)) => (match sizeAt P fd.type with
   | some (_ + 1) => .val (.pointer (some (a.add fd.offset)))
   | _ => .no)
  | _,_ => .no)
 | .field T x f => (match fieldOf P T f,ev ρ x with
  | some fd,some (.agg cs) => (match isAggT P fd.type,sizeAt P fd.type with
   | true,some n => .val (.agg (cs.extract fd.offset (fd.offset + n)))
   | false,_ => (match P.underlying fd.type,cs[fd.offset]? with | some _,some v => .val v | _,_ => .no)
   | _,_ => .no)
  | _,_ => .no)
 | .call c => (match c.callee,c.args.toList,c.argTypes[0]? with
  | .builtin .len,[x],some t => (match P.underlying t,ev ρ x with
   | some (.slice _),some (.slice _ n _) => .val (.int .i64 n)
   | some .string,some (.string s) => .val (.int .i64 s.size)
   | some (.array n _),some _ => .val (.int .i64 n)
   | _,_ => .no)
  | .builtin .min,[x,y],_ => (match ev ρ x,ev ρ y with
   | some (.int k a),some (.int _ b) => .val (.int k (minN a b))
   | _,_ => .no)
  | .builtin .max,[x,y],_ => (match ev ρ x,ev ρ y with
   | some (.int k a),some (.int _ b) => .val (.int k (maxN a b))
   | _,_ => .no)
  | .builtin .cap,[x],some t => (match P.underlying t,ev ρ x with
   | some (.slice _),some (.slice _ _ c) => .val (.int .i64 c)
   | _,_ => .no)
  | _,_,_ => .no)
 | .index T x i => (match P.underlying T,ev ρ x,ev ρ i with
  | some .string,some (.string s),some (.int _ i) => .need (0 <= i /\ i < s.size) (.int .u8 (sbyte s i))
  | _,_,_ => .no)
 | .slice T x lo hi none => (match P.underlying T,ev ρ x with
  | some .string,some (.string s) => (match bnd ρ lo 0,bnd ρ hi s.size with
   | some l,some h => .need (0 <= l /\ l <= h /\ h <= s.size) (.string (cutS s l h))
   | _,_ => .no)
  | some (.slice e),some (.slice A n c) => (match bnd ρ lo 0,bnd ρ hi n,sizeAt P e with
   | some l,some h,some z => .need (0 <= l /\ l <= h /\ h <= c) (.slice (cutA A c z l) (h.toNat - l.toNat) (c - l.toNat))
   | _,_,_ => .no)
  | _,_ => .no)
 | .makeFunc fn first captured => (match evs ρ first.toList,evs ρ captured.toList with
  | some vs,some us => .val (.func fn vs.toArray us.toArray)
  | _,_ => .no)
 | _ => .no
def PV.says (r : PV) (P : Program) (s : Sem Next) : Prop :=
 match r with
 | .val v => ∀ w,s.run P w = .ok (.value v) w
 | .need c v => c -> ∀ w,s.run P w = .ok (.value v) w
 | .no => True
theorem run_und {P : Program} {t : TypeId} {d : TypeDesc} (h : P.underlying t = some d) (w : World) : (underlying t).run P w = .ok d w:=run_underlying h w
theorem run_info {P : Program} {t : TypeId} {i : TypeInfo} (h : P.info? t = some i) (w : World) : (typeInfo t).run P w = .ok i w:=by
 simp [typeInfo,h]
theorem intBin_says (P : Program) (op : BinOp) (k : IntKind) (x y : Int) (h1 : op ≠ .shl) (h2 : op ≠ .shr) (T : TypeId) :
  (intBin op k x y).says P (vnext (binOp op T (.int k x) (.int k y))):=by
 cases op <;> simp [intBin,PV.says,vnext,binOp,Op.intArith,Op.intDiv,Op.intBits,Op.intCmp] at *
 ·intro h w h0; exact absurd h0 h
 ·intro h w h0; exact absurd h0 h
theorem strBin_says (P : Program) (op : BinOp) (x y : ByteArray) (T : TypeId) :
  (strBin op x y).says P (vnext (binOp op T (.string x) (.string y))):=by
 cases op <;> simp [strBin,PV.says,vnext,binOp,Op.stringOp]
theorem nilIn_says {P : Program} {T : TypeId} {a b : Value} {y : Operand} {r : Bool} {ρ : Env} (hb : ev ρ y = some b) (h : nilBin P T a y = some r) (w : World) (d : Nat) :
  (Op.equalIn (d + 1) T a b).run P w = .ok r w:=by
 unfold nilBin at h
 split at h
 ·rename_i e p hu
  simp [ev] at hb h; subst hb; subst h
  cases p <;> simp [Op.equalIn,run_und hu]
 ·rename_i e p n c m d hu
  simp [ev] at hb h; subst hb; subst h
  cases p <;> simp [Op.equalIn,run_und hu]
 ·rename_i e k p hu
  simp [ev] at hb h; subst hb; subst h
  cases p <;> simp [Op.equalIn,run_und hu]
 ·cases h
theorem nilBin_says {P : Program} {T : TypeId} {a b : Value} {y : Operand} {r : Bool} {ρ : Env} (hb : ev ρ y = some b) (h : nilBin P T a y = some r) (w : World) :
 (Op.equal T a b).run P w = .ok r w:=nilIn_says hb h w 9999
theorem boolIn_says {P : Program} {T : TypeId} {a b : Bool} (hu : P.underlying T = some .bool) (w : World) (d : Nat) : (Op.equalIn (d + 1) T (.bool a) (.bool b)).run P w = .ok (a == b) w:=by
 simp [Op.equalIn,run_und hu]
theorem bool_says {P : Program} {T : TypeId} {a b : Bool} (hu : P.underlying T = some .bool) (w : World) : (Op.equal T (.bool a) (.bool b)).run P w = .ok (a == b) w:=boolIn_says hu w 9999
theorem eqGuard_ok {P : Program} {op : BinOp} {T : TypeId} {x y : Operand} {a b : Value} (h1 : a = .nilIface -> b = .nilIface -> False) (h2 : ∀ t u,a = .agg t -> b = .agg u -> False) (w : World) :
    (eqGuard op T x y a b).run P w = .ok () w:=by
  cases op <;> try rfl
  all_goals
    cases a <;> first
      | rfl
      | (cases b <;> first | rfl | exact (h1 rfl rfl).elim | exact (h2 _ _ rfl rfl).elim)
theorem binPV_says {P : Program} {op : BinOp} {T : TypeId} {x y : Operand} {a b : Value} {ρ : Env} (hb : ev ρ y = some b) :
  (binPV P op T x y a b).says P (do eqGuard op T x y a b; vnext (binOp op T a b)):=by
 have gd : ∀ (s : Sem Next) (r : PV),(a = .nilIface -> b = .nilIface -> False) -> (∀ t u,a = .agg t -> b = .agg u -> False) -> r.says P s -> r.says P (do eqGuard op T x y a b; s):=by
  intro s r hg1 hg2 hr
  cases r with
  | val v => intro w; simp [eqGuard_ok hg1 hg2,hr w]
  | need c v => intro hc w; simp [eqGuard_ok hg1 hg2,hr hc w]
  | no => trivial
 unfold binPV
 cases hn : isNilC y with
 | true =>
  simp only [cond_true]
  have hnb : b = .pointer none ∨ (∃ n c,b = .slice none n c) ∨ b = .map none:=by
   unfold isNilC at hn
   split at hn <;> first | (simp [ev] at hb; subst hb; simp) | cases hn
  have hg1 : a = .nilIface -> b = .nilIface -> False:=by
   intro _ h; subst h; simp at hnb
  have hg2 : ∀ t u,a = .agg t -> b = .agg u -> False:=by
   intro t u _ h; subst h; simp at hnb
  have hbin : ∀ r,nilBin P T a y = some r -> binOp .eql T a b = (do pure (.bool (<- Op.equal T a b))) /\ binOp .neq T a b = (do pure (.bool (!(<- Op.equal T a b)))):=by
   intro r hr
   unfold nilBin at hr
   split at hr
   ·rcases hnb with rfl | ⟨n,c,rfl⟩ | rfl <;> exact ⟨rfl,rfl⟩
   ·rcases hnb with rfl | ⟨n,c,rfl⟩ | rfl <;> first | exact ⟨rfl,rfl⟩ | (simp [ev] at hb)
   ·rcases hnb with rfl | ⟨n,c,rfl⟩ | rfl <;> first | exact ⟨rfl,rfl⟩ | (simp [ev] at hb)
   ·cases hr
  split
  ·rename_i r hr
   refine gd _ _ hg1 hg2 fun w => ?_
   have:=nilBin_says hb hr w
   simp [vnext,(hbin r hr).1,this]
  ·rename_i r hr
   refine gd _ _ hg1 hg2 fun w => ?_
   have:=nilBin_says hb hr w
   simp [vnext,(hbin r hr).2,this]
  ·trivial
 | false =>
  simp only [cond_false]
  split
  ·rename_i k a k' b
   refine gd _ _ (by simp) (by simp) ?_
   split
   ·intro h w
    have : ¬ b < 0:=by omega
    simp [vnext,binOp,Op.shift,shlN,this]
   ·intro h w
    have : ¬ b < 0:=by omega
    simp [vnext,binOp,Op.shift,shrN,this]
   ·rename_i h1 h2
    cases hk : sameK k k' with
    | false => trivial
    | true => obtain rfl:=sameK_eq hk; exact intBin_says P op k a b h1 h2 T
  ·exact gd _ _ (by simp) (by simp) (strBin_says P op _ _ T)
  ·refine gd _ _ (by simp) (by simp) ?_
   split
   ·rename_i hu
    intro w
    have:=fun a b => bool_says (P:=P) (a:=a) (b:=b) hu w
    simp [vnext,show ∀ a b,binOp .eql T (.bool a) (.bool b) = (do pure (.bool (<- Op.equal T (.bool a) (.bool b)))) from fun _ _ => rfl,this]
   ·rename_i hu
    intro w
    have:=fun a b => bool_says (P:=P) (a:=a) (b:=b) hu w
    simp [vnext,show ∀ a b,binOp .neq T (.bool a) (.bool b) = (do pure (.bool (!(<- Op.equal T (.bool a) (.bool b))))) from fun _ _ => rfl,this]
   ·trivial
  ·trivial
theorem bnd_some {ρ : Env} {x : Option Operand} {d i : Int} (h : bnd ρ x d = some i) : (x = none /\ i = d) ∨ ∃ y k,x = some y /\ ev ρ y = some (.int k i):=by
 unfold bnd at h
 split at h
 ·exact .inl ⟨rfl,by simpa using h.symm⟩
 ·rename_i y
  split at h
  ·rename_i k j hj
   injection h with h
   subst h
   exact .inr ⟨y,k,rfl,hj⟩
  ·cases h
theorem sliceBound_ok {P : Program} {k : IntKind} {i : Int} {y : Nat} (h0 : 0 <= i) (h1 : i <= y) (code : BoundsCode) (w : World) :
  (Instr.sliceBound (.int k i) y code).run P w = .ok i.toNat w:=by
 simp [Instr.sliceBound,asIntOf,h0,h1]
theorem sliceBounds_ok {P : Program} {isS : Bool} {len cap : Nat} {lo hi : Option Value} {l h : Int} (hl : (lo = none /\ l = 0) ∨ ∃ k,lo = some (.int k l)) (hh : (hi = none /\ h = len) ∨ ∃ k,hi = some (.int k h))
  (h0 : 0 <= l) (h1 : l <= h) (h2 : h <= cap) (w : World) : (Instr.sliceBounds isS len cap lo hi none).run P w = .ok (l.toNat,h.toNat,cap) w:=by
 unfold Instr.sliceBounds
 have e1 : ((h.toNat : Nat) : Int) = h:=by omega
 rcases hh with ⟨rfl,rfl⟩ | ⟨k,rfl⟩
 ·rcases hl with ⟨rfl,rfl⟩ | ⟨k',rfl⟩
  ·simp
  ·simp [sliceBound_ok (P:=P) (k:=k') h0 h1]
 ·rcases hl with ⟨rfl,rfl⟩ | ⟨k',rfl⟩
  ·simp [sliceBound_ok (P:=P) (k:=k) (show 0 <= h by omega) h2]
  ·simp [sliceBound_ok (P:=P) (k:=k) (show 0 <= h by omega) h2,sliceBound_ok (P:=P) (k:=k') h0 (show l <= (h.toNat : Nat) by omega)]
theorem purePV_says {P : Program} {n : Nat} {a : Act} {γ : Gam} {ρ : Env} (hs : Sim n a γ ρ) (o : Oper) : (purePV P ρ o).says P (execOp a.eval o):=by
 obtain ⟨dst,op,type,pos,after,guard⟩:=o
 unfold purePV
 dsimp only
 split
 ·rename_i x
  split
  ·rename_i v hv; intro w; simp [execOp,hs.ev hv]
  ·trivial
 ·rename_i x
  split
  ·rename_i v hv; intro w; simp [execOp,hs.ev hv]
  ·trivial
 ·rename_i op T x y yT
  split
  ·rename_i u v hu hv
   have:=binPV_says (P:=P) (op:=op) (T:=T) (x:=x) (a:=u) hv
   have e : execOp a.eval { dst,op:=.binOp op T x y yT,type,pos,after,guard } = (do eqGuard op T x y u v; vnext (binOp op T u v)):=by
    simp [execOp,hs.ev hu,hs.ev hv,vnext]
   cases isArrT P T
   ·show (binPV P op T x y u v).says P _
    rw [e]; exact this
   ·trivial
  ·trivial
 ·rename_i x
  split
  ·rename_i b hb; intro w; simp [execOp,hs.ev hb,Op.unary]
  ·trivial
 ·rename_i x
  split
  ·rename_i k b hb; intro w; simp [execOp,hs.ev hb,Op.unary,Op.intArith]
  ·trivial
 ·rename_i x
  split
  ·rename_i k b hb; intro w; simp [execOp,hs.ev hb,Op.unary,Op.intBits,intBin]
  ·trivial
 ·rename_i x i
  split
  ·rename_i vs hb
   split
   ·rename_i v hv; intro w; simp [execOp,hs.ev hb,Instr.extract,hv]
   ·trivial
  ·trivial
 ·rename_i src dst x
  split
  ·rename_i d k k' i h1 h2 hb
   intro w
   simp [execOp,hs.ev hb,convert,run_und h1,run_und h2,Conv.intToInt]
  ·rename_i d s h1 h2 hb
   intro w
   simp [execOp,hs.ev hb,convert,run_und h1,run_und h2]
  ·trivial
 ·rename_i T x f
  split
  ·rename_i fd ad hf hb
   split
   ·rename_i m hz
    unfold fieldOf at hf
    split at hf
    ·rename_i fs hu
     unfold sizeAt at hz
     cases hi : P.info? fd.type with
     | none => simp [hi] at hz
     | some info =>
      simp [hi] at hz
      intro w
      simp [execOp,hs.ev hb,Instr.fieldAt,run_und hu,hf,Instr.sureAddr,fieldPlace,sizeOf,run_info hi,hz]
    ·cases hf
   ·trivial
  ·trivial
 ·rename_i T x f
  split
  ·rename_i fd cs hf hb
   unfold fieldOf at hf
   split at hf
   ·rename_i fs hu
    split
    ·rename_i m hag hz
     unfold sizeAt at hz
     cases hi : P.info? fd.type with
     | none => simp [hi] at hz
     | some info =>
      simp [hi] at hz
      intro w
      have hag' : (isAgg fd.type).run P w = .ok true w:=by
       unfold isAggT at hag
       split at hag
       ·rename_i h; simp [isAgg,run_und h]
       ·rename_i h; simp [isAgg,run_und h]
       ·cases hag
      simp [execOp,hs.ev hb,Instr.field,run_und hu,hf,asAgg,part,hag',sizeOf,run_info hi,hz]
    ·rename_i hag
     split
     ·rename_i d v hd hv
      intro w
      have hag' : (isAgg fd.type).run P w = .ok false w:=by
       unfold isAggT at hag
       rw [hd] at hag
       simp only [isAgg,Sem.run_bind,run_und hd,Result.andThen_ok]
       split at hag
       ·cases hag
       ·cases hag
       ·rename_i h1 h2
        split
        ·exact absurd rfl (h1 _)
        ·exact absurd rfl (h2 _ _)
        ·rfl
      simp [execOp,hs.ev hb,Instr.field,run_und hu,hf,asAgg,part,hag',hv]
     ·trivial
    ·trivial
   ·cases hf
  ·trivial
 ·rename_i c
  obtain ⟨callee,args,argTypes⟩:=c
  dsimp only
  split
  ·rename_i x t hx ht
   have hx' : args = #[x]:=by apply Array.ext'; simpa using hx
   subst hx'
   split
   ·rename_i e A k c hu hb
    intro w
    simp [execOp,resolve,invoke,builtin,Builtin.len_,ht,hs.ev hb,run_und hu,goInt]
   ·rename_i s hu hb
    intro w
    simp [execOp,resolve,invoke,builtin,Builtin.len_,ht,hs.ev hb,run_und hu,goInt]
   ·rename_i k e v hu hb
    intro w
    simp [execOp,resolve,invoke,builtin,Builtin.len_,ht,run_und hu,goInt]
   ·trivial
  ·rename_i x y hx
   have hx' : args = #[x,y]:=by apply Array.ext'; simpa using hx
   subst hx'
   split
   ·rename_i k i k' j h1 h2
    intro w
    simp [execOp,resolve,invoke,builtin,Builtin.min_,hs.ev h1,hs.ev h2,Builtin.min2,minN]
   ·trivial
  ·rename_i x y hx
   have hx' : args = #[x,y]:=by apply Array.ext'; simpa using hx
   subst hx'
   split
   ·rename_i k i k' j h1 h2
    intro w
    simp [execOp,resolve,invoke,builtin,Builtin.max_,hs.ev h1,hs.ev h2,Builtin.max2,maxN]
   ·trivial
  ·rename_i x t hx ht
   have hx' : args = #[x]:=by apply Array.ext'; simpa using hx
   subst hx'
   split
   ·rename_i e A k c hu hb
    intro w
    simp [execOp,resolve,invoke,builtin,Builtin.cap_,ht,hs.ev hb,run_und hu,goInt]
   ·trivial
  ·trivial
 ·rename_i T x i
  split
  ·rename_i s k j hu hb hi
   intro hc w
   have h1 : j.toNat < s.size:=by omega
   simp [execOp,hs.ev hb,hs.ev hi,Instr.index,asIntOf,run_und hu,hc.1,h1,sbyte]
  ·trivial
 ·rename_i T x lo hi
  have bv : ∀ {z : Option Operand} {d i : Int},bnd ρ z d = some i -> (z.map a.eval = none /\ i = d) ∨ ∃ k,z.map a.eval = some (.int k i):=by
   intro z d i hz
   rcases bnd_some hz with ⟨rfl,rfl⟩ | ⟨y,k,rfl,hy⟩
   ·exact .inl ⟨rfl,rfl⟩
   ·exact .inr ⟨k,by simp [hs.ev hy]⟩
  split
  ·rename_i s hu hb
   split
   ·rename_i l h hl hh
    intro hc w
    have:=sliceBounds_ok (P:=P) (isS:=false) (bv hl) (bv hh) hc.1 hc.2.1 hc.2.2 w
    simp [execOp,hs.ev hb,Instr.sliceAt,run_und hu,Instr.slice,this,cutS]
   ·trivial
  ·rename_i e A k c hu hb
   split
   ·rename_i l h z hl hh hz
    intro hc w
    have:=sliceBounds_ok (P:=P) (isS:=true) (bv hl) (bv hh) hc.1 hc.2.1 hc.2.2 w
    unfold sizeAt at hz
    cases hi : P.info? e with
    | none => simp [hi] at hz
    | some info =>
     simp [hi] at hz
     simp [execOp,hs.ev hb,Instr.sliceAt,run_und hu,Instr.slice,this,cutA,sizeOf,run_info hi,hz]
   ·trivial
  ·trivial
 ·rename_i fn first captured
  split
  ·rename_i vs us h1 h2
   intro w
   have e1:=hs.evs h1
   have e2:=hs.evs h2
   have e1' : Array.map a.eval first = vs.toArray:=by apply Array.ext'; simp [<- e1]
   have e2' : Array.map a.eval captured = us.toArray:=by apply Array.ext'; simp [<- e2]
   simp [execOp,Instr.makeFunc,e1',e2']
  ·trivial
 ·trivial
end Go.Br
