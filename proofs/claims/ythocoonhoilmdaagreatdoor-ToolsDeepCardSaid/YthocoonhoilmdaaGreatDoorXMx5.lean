/-
  A part of a small executor of the model, proved sound (3 of 28). No condition.
-/
import Derived.Test.YthocoonhoilmdaaGreatDoorXMx4
namespace Go.Mx
noncomputable section
inductive X where
  | n | x (id : Nat) | r | pk (v : V)
abbrev KX := X → T V → V → V → T O → Nat → Bool
abbrev KR := T V → V → V → T O → Nat → Bool
def wantK (ops : Array Oper) (tm : T V) (g : Option (Nat × Bool)) (run skip : Bool) : Bool :=
  Option.rec (motive := fun _ => Bool) run (fun p => Prod.rec (motive := fun _ => Bool) (fun j want => Option.rec (motive := fun _ => Bool) false (fun d =>
    (fun v => V.rec (motive := fun _ => Bool) false (fun _ _ _ _ => false) (fun q => Bool.rec skip run (bs_eq q want)) (fun _ _ => false) (fun _ => false) (fun _ _ => false) false (fun _ _ _ _ => false) false false false (fun _ => false) false (fun _ _ _ => false) false (fun _ _ _ => false) false (fun _ _ => false)
      (fun l _ => chain skip (fun _ _ _ => false) l) (fun _ _ _ _ => false) (fun _ _ => false) (fun _ _ _ _ _ => false) (fun _ _ _ _ _ _ => false) v) (gt V.nil d tm)) ((ops[j]?).bind (·.dst))) p) g
def putTK (nt : Nat) (dst : Option Nat) (x : V) (tm : T V) (k : T V → Bool) : Bool :=
  Option.rec (motive := fun _ => Bool) (k tm) (fun d => ite1 (Nat.blt d nt) <| stK V.nil x d tm k) dst
def undefV : V := .t .nil
def isRecover : Builtin → Bool
  | .recover => true
  | _ => false
def recovK (U : V) (k : V → V → Bool) : Bool := V.rec (motive := fun _ => Bool) (k .en .nil) (fun x r _ _ => chain (k x (.cons x (.cons .nil .nil))) (fun _ _ _ => k .en U) r) (fun _ => false) (fun _ _ => false) (fun _ => false) (fun _ _ => false) (false) (fun _ _ _ _ => false) (false) (false) (false) (fun _ => false) (false) (fun _ _ _ => false) (false) (fun _ _ _ => false) (false) (fun _ _ => false) (fun _ _ => false) (fun _ _ _ _ => false) (fun _ _ => false) (fun _ _ _ _ _ => false) (fun _ _ _ _ _ _ => false) U
def xk (o : Op) : Bool := Op.rec (motive := fun _ => Bool) (fun _ => true) (fun _ => true) (fun _ _ _ => true) (fun _ => true) (fun _ _ => true) (fun _ _ => true) (fun _ _ _ => true) (fun _ _ _ _ => true) (fun _ _ => true) (fun _ _ _ => true) (fun _ => true) (fun _ => true) (fun _ => true) (fun _ _ _ _ _ => true) (fun _ _ _ => true) (fun _ _ _ => true) (fun _ _ => true) (fun _ _ => true) (fun _ _ _ => true) (fun _ _ => true) (fun _ _ => true) (fun _ _ _ => true) (fun _ _ _ _ _ => true) (fun _ _ _ => true) (fun _ _ _ => true) (fun _ _ _ => true) (fun _ _ _ => true) (fun _ _ _ _ => true) (fun _ _ _ _ => true) (fun _ _ _ => true) (fun _ _ _ _ => true) (fun _ _ => true) (fun _ _ => true) (fun _ => true) (fun _ _ _ _ => true) (fun _ _ => true) (fun c => Call.rec (motive := fun _ => Bool) (fun callee _ _ => Callee.rec (motive := fun _ => Bool) (fun _ => true) (fun _ _ => true) (fun b => inot (isRecover b)) callee) c) (fun _ => true) (fun _ => false) (fun _ => true) (fun _ _ => true) (fun _ _ _ => true) (fun _ _ => true) o
def oldX (P : Program) (ng : Nat) (ck : CK) (o : Op) (tm : T V) (D U : V) (h : T O) (nx : Nat) (K : V → V → V → T O → Nat → Bool) (Kp : V → V → V → T O → Nat → Bool) : Bool :=
  Op.rec (motive := fun _ => Bool) (fun a0 => opK P ng ck tm (.move a0) h nx (fun v h nx => K v D U h nx) (fun v h nx => Kp v D U h nx))
    (fun a0 => opK P ng ck tm (.assign a0) h nx (fun v h nx => K v D U h nx) (fun v h nx => Kp v D U h nx))
    (fun a0 a1 a2 => opK P ng ck tm (.pick a0 a1 a2) h nx (fun v h nx => K v D U h nx) (fun v h nx => Kp v D U h nx))
    (fun a0 => opK P ng ck tm (.alloc a0) h nx (fun v h nx => K v D U h nx) (fun v h nx => Kp v D U h nx))
    (fun a0 a1 => opK P ng ck tm (.box a0 a1) h nx (fun v h nx => K v D U h nx) (fun v h nx => Kp v D U h nx))
    (fun a0 a1 => opK P ng ck tm (.build a0 a1) h nx (fun v h nx => K v D U h nx) (fun v h nx => Kp v D U h nx))
    (fun a0 a1 a2 => opK P ng ck tm (.buildSlice a0 a1 a2) h nx (fun v h nx => K v D U h nx) (fun v h nx => Kp v D U h nx))
    (fun a0 a1 a2 a3 => opK P ng ck tm (.insert a0 a1 a2 a3) h nx (fun v h nx => K v D U h nx) (fun v h nx => Kp v D U h nx))
    (fun a0 a1 => opK P ng ck tm (.load a0 a1) h nx (fun v h nx => K v D U h nx) (fun v h nx => Kp v D U h nx))
    (fun a0 a1 a2 => opK P ng ck tm (.store a0 a1 a2) h nx (fun v h nx => K v D U h nx) (fun v h nx => Kp v D U h nx))
    (fun a0 => opK P ng ck tm (.ready a0) h nx (fun v h nx => K v D U h nx) (fun v h nx => Kp v D U h nx))
    (fun a0 => opK P ng ck tm (.waits a0) h nx (fun v h nx => K v D U h nx) (fun v h nx => Kp v D U h nx))
    (fun a0 => opK P ng ck tm (.nilCheck a0) h nx (fun v h nx => K v D U h nx) (fun v h nx => Kp v D U h nx))
    (fun a0 a1 a2 a3 a4 => opK P ng ck tm (.binOp a0 a1 a2 a3 a4) h nx (fun v h nx => K v D U h nx) (fun v h nx => Kp v D U h nx))
    (fun a0 a1 a2 => opK P ng ck tm (.unOp a0 a1 a2) h nx (fun v h nx => K v D U h nx) (fun v h nx => Kp v D U h nx))
    (fun a0 a1 a2 => opK P ng ck tm (.convert a0 a1 a2) h nx (fun v h nx => K v D U h nx) (fun v h nx => Kp v D U h nx))
    (fun a0 a1 => opK P ng ck tm (.sliceToArrayPointer a0 a1) h nx (fun v h nx => K v D U h nx) (fun v h nx => Kp v D U h nx))
    (fun a0 a1 => opK P ng ck tm (.makeInterface a0 a1) h nx (fun v h nx => K v D U h nx) (fun v h nx => Kp v D U h nx))
    (fun a0 a1 a2 => opK P ng ck tm (.makeFunc a0 a1 a2) h nx (fun v h nx => K v D U h nx) (fun v h nx => Kp v D U h nx))
    (fun a0 a1 => opK P ng ck tm (.makeMap a0 a1) h nx (fun v h nx => K v D U h nx) (fun v h nx => Kp v D U h nx))
    (fun a0 a1 => opK P ng ck tm (.makeChan a0 a1) h nx (fun v h nx => K v D U h nx) (fun v h nx => Kp v D U h nx))
    (fun a0 a1 a2 => opK P ng ck tm (.makeSlice a0 a1 a2) h nx (fun v h nx => K v D U h nx) (fun v h nx => Kp v D U h nx))
    (fun a0 a1 a2 a3 a4 => opK P ng ck tm (.slice a0 a1 a2 a3 a4) h nx (fun v h nx => K v D U h nx) (fun v h nx => Kp v D U h nx))
    (fun a0 a1 a2 => opK P ng ck tm (.fieldAddr a0 a1 a2) h nx (fun v h nx => K v D U h nx) (fun v h nx => Kp v D U h nx))
    (fun a0 a1 a2 => opK P ng ck tm (.field a0 a1 a2) h nx (fun v h nx => K v D U h nx) (fun v h nx => Kp v D U h nx))
    (fun a0 a1 a2 => opK P ng ck tm (.indexAddr a0 a1 a2) h nx (fun v h nx => K v D U h nx) (fun v h nx => Kp v D U h nx))
    (fun a0 a1 a2 => opK P ng ck tm (.index a0 a1 a2) h nx (fun v h nx => K v D U h nx) (fun v h nx => Kp v D U h nx))
    (fun a0 a1 a2 a3 => opK P ng ck tm (.lookup a0 a1 a2 a3) h nx (fun v h nx => K v D U h nx) (fun v h nx => Kp v D U h nx))
    (fun a0 a1 a2 a3 => opK P ng ck tm (.mapUpdate a0 a1 a2 a3) h nx (fun v h nx => K v D U h nx) (fun v h nx => Kp v D U h nx))
    (fun a0 a1 a2 => opK P ng ck tm (.mapEntry a0 a1 a2) h nx (fun v h nx => K v D U h nx) (fun v h nx => Kp v D U h nx))
    (fun a0 a1 a2 a3 => opK P ng ck tm (.entryStore a0 a1 a2 a3) h nx (fun v h nx => K v D U h nx) (fun v h nx => Kp v D U h nx))
    (fun a0 a1 => opK P ng ck tm (.range a0 a1) h nx (fun v h nx => K v D U h nx) (fun v h nx => Kp v D U h nx))
    (fun a0 a1 => opK P ng ck tm (.next a0 a1) h nx (fun v h nx => K v D U h nx) (fun v h nx => Kp v D U h nx))
    (fun a0 => opK P ng ck tm (.entry a0) h nx (fun v h nx => K v D U h nx) (fun v h nx => Kp v D U h nx))
    (fun a0 a1 a2 a3 => opK P ng ck tm (.typeAssert a0 a1 a2 a3) h nx (fun v h nx => K v D U h nx) (fun v h nx => Kp v D U h nx))
    (fun a0 a1 => opK P ng ck tm (.extract a0 a1) h nx (fun v h nx => K v D U h nx) (fun v h nx => Kp v D U h nx))
    (fun a0 => Call.rec (motive := fun _ => Bool) (fun callee args ts => Callee.rec (motive := fun _ => Bool) (fun f => opCall P ng ck tm ⟨.value f, args, ts⟩ h nx (fun v h nx => K v D U h nx) (fun v h nx => Kp v D U h nx)) (fun _ _ => false) (fun b => Bool.rec (opCall P ng ck tm ⟨.builtin b, args, ts⟩ h nx (fun v h nx => K v D U h nx) (fun v h nx => Kp v D U h nx)) (recovK U fun v U => K v D U h nx) (isRecover b)) callee) a0)
    (fun a0 => opK P ng ck tm (.go a0) h nx (fun v h nx => K v D U h nx) (fun v h nx => Kp v D U h nx))
    (fun a0 => Call.rec (motive := fun _ => Bool) (fun callee args _ => Callee.rec (motive := fun _ => Bool) (fun f => vF (ev ng tm f) fun g cap => K undefV (.cons (.cons (.f g cap) (evs ng tm args.toList)) D) U h nx) (fun _ _ => false) (fun _ => false) callee) a0)
    (fun a0 => opK P ng ck tm (.panic a0) h nx (fun v h nx => K v D U h nx) (fun v h nx => Kp v D U h nx))
    (fun a0 a1 => opK P ng ck tm (.send a0 a1) h nx (fun v h nx => K v D U h nx) (fun v h nx => Kp v D U h nx))
    (fun a0 a1 a2 => opK P ng ck tm (.recv a0 a1 a2) h nx (fun v h nx => K v D U h nx) (fun v h nx => Kp v D U h nx))
    (fun a0 a1 => opK P ng ck tm (.select a0 a1) h nx (fun v h nx => K v D U h nx) (fun v h nx => Kp v D U h nx)) o
def opX (P : Program) (ng : Nat) (ck : CK) (o : Op) (tm : T V) (D U : V) (h : T O) (nx : Nat) (K : V → V → V → T O → Nat → Bool) (Kp : V → V → V → T O → Nat → Bool) : Bool :=
  Bool.rec (oldX P ng ck o tm D U h nx K Kp) (opK P ng ck tm o h nx (fun v h nx => K v D U h nx) (fun v h nx => Kp v D U h nx)) (xk o)
def opnds : Op → List Operand
  | .move x | .assign x | .box _ x | .load _ x | .nilCheck x | .unOp _ _ x | .convert _ _ x | .makeInterface _ x
  | .fieldAddr _ x _ | .field _ x _ | .range _ x | .next x _ | .entry x | .typeAssert x _ _ _ | .extract x _ | .panic x => [x]
  | .pick c a b => [c, a, b]
  | .build _ ps | .buildSlice _ _ ps => ps.toList.map (·.2)
  | .store _ a v | .binOp _ _ a v _ | .indexAddr _ a v | .index _ a v | .lookup _ a v _ => [a, v]
  | .makeFunc _ first captured => first.toList ++ captured.toList
  | .makeMap _ r => r.toList
  | .makeSlice _ l c => [l, c]
  | .slice _ x l h m => x :: (l.toList ++ (h.toList ++ m.toList))
  | .mapUpdate _ m k v | .insert _ m k v => [m, k, v]
  | .mapEntry _ m k => [m, k]
  | .entryStore _ m s v => [m, s, v]
  | .call ⟨.value f, args, _⟩ => f :: args.toList
  | .call ⟨_, args, _⟩ => args.toList
  | _ => []
def clsOp (P : Program) : Op → Nat
  | .move _ | .assign _ | .pick .. | .build .. | .load .. | .nilCheck _ | .binOp .. | .unOp .. | .makeInterface .. | .makeFunc .. | .slice .. | .fieldAddr .. | .field .. | .indexAddr .. | .index .. | .lookup .. | .typeAssert .. | .extract .. => 0
  | .convert _ d _ => Bool.rec 0 2 (Nat.beq (tyk P d) 20)
  | .call ⟨.builtin .len, _, _⟩ | .call ⟨.builtin .min, _, _⟩ | .call ⟨.builtin .max, _, _⟩ => 0
  | .alloc _ | .box .. | .buildSlice .. => 1
  | _ => 2
def tb (m i : Nat) : Bool := Nat.beq (Nat.land (Nat.shiftRight m i) 1) 1
def bit (i : Nat) : Nat := Nat.shiftLeft 1 i
def bindB (e : Edge) : Bool := Edge.rec (motive := fun _ => Bool) (fun _ g => Ground.rec (motive := fun _ => Bool) true true true true (fun _ => false) (fun _ => false) g) e
def lookM (l : List Operand) (m : Nat) : Nat := List.rec (motive := fun _ => Nat) m (fun x _ ih => Operand.rec (motive := fun _ => Nat) (fun t => Nat.lor (bit t) ih) (fun _ => ih) (fun _ => ih) (fun _ => ih) x) l
def dstM (d : Option Nat) : Nat := Option.rec (motive := fun _ => Nat) 0 (fun t => bit t) d
def guardM (ops : Array Oper) (g : Option (Nat × Bool)) : Nat := Option.rec (motive := fun _ => Nat) 0 (fun p => dstM ((ops[p.1]?).bind (·.dst))) g
def predsIn (dn i : Nat) (l : List Edge) : Bool := List.rec (motive := fun _ => Bool) true (fun e _ ih => Bool.rec ih (ite1 (tb dn e.on) <| ite1 (Nat.blt e.on i) ih) (bindB e)) l
def lacks (dn : Nat) (l : List Edge) : Bool := List.rec (motive := fun _ => Bool) false (fun e _ ih => Bool.rec ih (Bool.rec true ih (tb dn e.on)) (bindB e)) l
def predM (mt : T Nat) (l : List Edge) : Nat := List.rec (motive := fun _ => Nat) 0 (fun e _ ih => Bool.rec ih (Nat.lor (Nat.lor (gt 0 e.on mt) (bit e.on)) ih) (bindB e)) l
def predD (dt : T Nat) (l : List Edge) : Nat := List.rec (motive := fun _ => Nat) 0 (fun e _ ih => Bool.rec ih (Nat.lor (gt 0 e.on dt) ih) (bindB e)) l
structure DS where
  dn : Nat
  dl : Nat
  dd : Nat
  mt : T Nat
  dt : T Nat
def addK (ops : Array Oper) (war : Bool) (i : Nat) (o : Oper) (d : DS) (k : DS → Bool) : Bool :=
  Oper.rec (motive := fun _ => Bool) (fun dst op _ _ after guard => DS.rec (motive := fun _ => Bool) (fun dn dl dd mt dt =>
    forceN (lookM (opnds op) (guardM ops guard)) fun L => forceN (dstM dst) fun dm =>
    ite1 (inot (tb dn i)) <| ite1 (predsIn dn i after.toList) <| ite1 (Nat.beq (Nat.land dm (Nat.lor L dd)) 0) <| ite1 (Nat.beq (Nat.land (Nat.land L dd) (predD dt after.toList)) (Nat.land L dd)) <|
    forceN (predM mt after.toList) fun M => ite1 (Bool.rec (ite1 war (Nat.beq (Nat.land dn M) dn)) true (Nat.beq (Nat.land dm dl) 0)) <|
    forceN (Nat.lor dn (bit i)) fun dn' => forceN (Nat.lor dl L) fun dl' => forceN (Nat.lor dd dm) fun dd' =>
    stK 0 M i mt fun mt' => stK 0 dm i dt fun dt' => k ⟨dn', dl', dd', mt', dt'⟩) d) o
def procK (P : Program) (ng : Nat) (ck : CK) (nt : Nat) (ops : Array Oper) (i : Nat) (o : Oper) (d : DS) (tm : T V) (h : T O) (nx : Nat) (k : DS → T V → T O → Nat → Bool) : Bool :=
  Bool.rec (wantK ops tm o.guard
    (Nat.rec (motive := fun _ => Bool) (k d tm h nx) (fun _ _ => opK P ng ck tm o.op h nx (fun x h nx => addK ops false i o d fun d => putTK nt o.dst x tm fun tm => k d tm h nx) (fun _ _ _ => false)) (Nat.sub 2 (clsOp P o.op)))
    (addK ops false i o d fun d => putTK nt o.dst undefV tm fun tm => k d tm h nx)) (k d tm h nx) (ior (tb d.dn i) (ior (inot (predsIn d.dn i o.after.toList)) (inot (Nat.beq (Nat.land (dstM o.dst) d.dl) 0))))
def passK (P : Program) (ng : Nat) (ck : CK) (nt : Nat) (ops : Array Oper) (l : List Oper) : Nat → DS → T V → T O → Nat → (DS → T V → T O → Nat → Bool) → Bool :=
  List.rec (motive := fun _ => Nat → DS → T V → T O → Nat → (DS → T V → T O → Nat → Bool) → Bool) (fun _ d tm h nx k => k d tm h nx)
    (fun o _ ih i d tm h nx k => procK P ng ck nt ops i o d tm h nx fun d tm h nx => ih (Nat.succ i) d tm h nx k) l
def sweepK (dn : Nat) (l : List Oper) : Nat → Bool → Bool → (Nat → Oper → Bool) → (Nat → Oper → Nat → Oper → Bool) → Bool :=
  List.rec (motive := fun _ => Nat → Bool → Bool → (Nat → Oper → Bool) → (Nat → Oper → Nat → Oper → Bool) → Bool) (fun _ k0 _ _ _ => k0)
    (fun o _ ih i k0 kl k1 k2 => Bool.rec (Bool.rec (ih (Nat.succ i) (k1 i o) (k1 i o) (k2 i o) fun _ _ _ _ => false) (ih (Nat.succ i) kl kl k1 k2) (lacks dn o.after.toList)) (ih (Nat.succ i) k0 kl k1 k2) (tb dn i)) l
def againK (P : Program) (ng : Nat) (ck : CK) (ops : Array Oper) (same : V → V → Bool) (dn M : Nat) (tm : T V) (h : T O) (nx : Nat) (l : List Oper) : Nat → Bool → Bool :=
  List.rec (motive := fun _ => Nat → Bool → Bool) (fun _ k => k)
    (fun o _ ih i k => Bool.rec (ih (Nat.succ i) k)
      (wantK ops tm o.guard (ite1 (Nat.rec (motive := fun _ => Bool) (opK P ng ck tm o.op h nx (fun y _ _ => Option.rec (motive := fun _ => Bool) true (fun t => same y (gt V.nil t tm)) o.dst) (fun _ _ _ => false)) (fun _ _ => true) (clsOp P o.op)) <| ih (Nat.succ i) k) (ih (Nat.succ i) k))
      (ite1 (tb dn i) <| inot (tb M i))) l
def runE (P : Program) (ng : Nat) (ck : CK) (nt : Nat) (ops : Array Oper) (i : Nat) (o : Oper) (d : DS) (tm : T V) (h : T O) (nx : Nat) (k : DS → T V → T O → Nat → Bool) (Kp : KV) : Bool :=
  wantK ops tm o.guard (addK ops true i o d fun d' => opK P ng ck tm o.op h nx (fun v h nx => putTK nt o.dst v tm fun tm => againK P ng ck ops sameV d.dn (gt 0 i d'.mt) tm h nx ops.toList 0 (k d' tm h nx)) Kp) false
def isSt : Oper → Bool
  | ⟨none, .store _ _ _, _, _, _, none⟩ => true
  | _ => false
def stAddr : Op → Operand
  | .store _ a _ => a
  | _ => .func 0
def pairK (P : Program) (ng : Nat) (ck : CK) (ops : Array Oper) (i : Nat) (o : Oper) (j : Nat) (o2 : Oper) (d : DS) (tm : T V) (h : T O) (nx : Nat) (k : T O → Bool) : Bool :=
  addK ops true i o d fun d1 => opK P ng ck tm o.op h nx (fun _ h1 _ => againK P ng ck ops sameV d.dn (gt 0 i d1.mt) tm h1 nx ops.toList 0 <|
    addK ops true j o2 d1 fun d2 => opK P ng ck tm o2.op h1 nx (fun _ h2 _ => againK P ng ck ops sameV d1.dn (gt 0 j d2.mt) tm h2 nx ops.toList 0 (k h2)) (fun _ _ _ => false)) (fun _ _ _ => false)
def sameO (a b : O) : Bool := O.rec (motive := fun _ => O → Bool) (fun _ => false)
  (fun l ty wr b => O.rec (motive := fun _ => Bool) false (fun l' ty' wr' => ite1 (sameV l l') (ite1 (Nat.beq ty ty') (bs_eq wr wr'))) (fun _ _ => false) (fun _ _ => false) (fun _ _ => false) (fun _ _ _ _ => false) (fun _ _ _ => false) b)
  (fun _ _ _ => false) (fun _ _ _ => false)
  (fun l ty b => O.rec (motive := fun _ => Bool) false (fun _ _ _ => false) (fun _ _ => false) (fun _ _ => false) (fun l' ty' => ite1 (sameV l l') (Nat.beq ty ty')) (fun _ _ _ _ => false) (fun _ _ _ => false) b)
  (fun _ _ _ _ _ => false) (fun _ _ _ _ => false) a b
def twoK (P : Program) (ng : Nat) (ck : CK) (ops : Array Oper) (i : Nat) (o : Oper) (j : Nat) (o2 : Oper) (d : DS) (tm : T V) (h : T O) (nx : Nat) (kfin : T V → T O → Nat → Bool) : Bool :=
  ite1 (isSt o) <| ite1 (isSt o2) <| ite1 (Nat.beq (Nat.lor (Nat.lor d.dn (bit i)) (bit j)) (Nat.sub (bit ops.size) 1)) <|
  Bool.rec (pairK P ng ck ops j o2 i o d tm h nx fun hb => pairK P ng ck ops i o j o2 d tm h nx fun h2 => ite1 (vP (ev ng tm (stAddr o.op)) fun id _ => sameO (gt O.none id hb) (gt O.none id h2)) (kfin tm h2 nx))
  (ite1 (pairK P ng ck ops j o2 i o d tm h nx fun _ => true) <| pairK P ng ck ops i o j o2 d tm h nx fun h2 => kfin tm h2 nx)
  (vP (ev ng tm (stAddr o.op)) fun id1 _ => vP (ev ng tm (stAddr o2.op)) fun id2 _ => inot (Nat.beq id1 id2))
def drawK (P : Program) (ng : Nat) (ck : CK) (nt : Nat) (ops : Array Oper) (Kp : KV) (kfin : T V → T O → Nat → Bool) (s : Nat) : DS → T V → T O → Nat → Bool :=
  Nat.rec (motive := fun _ => DS → T V → T O → Nat → Bool) (fun _ _ _ _ => false) (fun _ ih d tm h nx => passK P ng ck nt ops ops.toList 0 d tm h nx fun d tm h nx =>
    sweepK d.dn ops.toList 0 (kfin tm h nx) false (fun i o => runE P ng ck nt ops i o d tm h nx ih Kp) (fun i o j o2 => twoK P ng ck ops i o j o2 d tm h nx kfin)) s
inductive Plan where
  | fail
  | fin (d : DS)
  | pur (o : Oper) (next : Plan)
  | gd (o : Oper) (yes no : Plan)
  | eff (o : Oper) (ags : List Oper) (next : Plan)
  | two (i : Nat) (o : Oper) (j : Nat) (o2 : Oper) (d : DS)
def addC (ops : Array Oper) (war : Bool) (i : Nat) (o : Oper) (d : DS) : Bool :=
  ite1 (inot (tb d.dn i)) <| ite1 (predsIn d.dn i o.after.toList) <| ite1 (Nat.beq (Nat.land (dstM o.dst) (Nat.lor (lookM (opnds o.op) (guardM ops o.guard)) d.dd)) 0) <|
  ite1 (Nat.beq (Nat.land (Nat.land (lookM (opnds o.op) (guardM ops o.guard)) d.dd) (predD d.dt o.after.toList)) (Nat.land (lookM (opnds o.op) (guardM ops o.guard)) d.dd)) <|
  ite1 (Bool.rec (ite1 war (Nat.beq (Nat.land d.dn (predM d.mt o.after.toList)) d.dn)) true (Nat.beq (Nat.land (dstM o.dst) d.dl) 0)) true
def addD (ops : Array Oper) (i : Nat) (o : Oper) (d : DS) : DS :=
  ⟨Nat.lor d.dn (bit i), Nat.lor d.dl (lookM (opnds o.op) (guardM ops o.guard)), Nat.lor d.dd (dstM o.dst), st 0 (predM d.mt o.after.toList) i d.mt, st 0 (dstM o.dst) i d.dt⟩
def addP (ops : Array Oper) (war : Bool) (i : Nat) (o : Oper) (d : DS) (k : DS → Plan) : Plan := Bool.rec .fail (k (addD ops i o d)) (addC ops war i o d)
def passP (P : Program) (ops : Array Oper) (l : List Oper) : Nat → DS → (DS → Plan) → Plan := List.rec (motive := fun _ => Nat → DS → (DS → Plan) → Plan) (fun _ d k => k d)
  (fun o _ ih i d k => Bool.rec
    (Nat.rec (motive := fun _ => Plan) (Option.rec (motive := fun _ => Plan) (ih (Nat.succ i) d k) (fun _ => .gd o (ih (Nat.succ i) d k) (addP ops false i o d fun d => ih (Nat.succ i) d k)) o.guard)
      (fun _ _ => addP ops false i o d fun d => .pur o (ih (Nat.succ i) d k)) (Nat.sub 2 (clsOp P o.op)))
    (ih (Nat.succ i) d k) (ior (tb d.dn i) (ior (inot (predsIn d.dn i o.after.toList)) (inot (Nat.beq (Nat.land (dstM o.dst) d.dl) 0))))) l
def sweepP (dn : Nat) (l : List Oper) : Nat → Plan → Plan → (Nat → Oper → Plan) → (Nat → Oper → Nat → Oper → Plan) → Plan :=
  List.rec (motive := fun _ => Nat → Plan → Plan → (Nat → Oper → Plan) → (Nat → Oper → Nat → Oper → Plan) → Plan) (fun _ k0 _ _ _ => k0)
    (fun o _ ih i k0 kl k1 k2 => Bool.rec (Bool.rec (ih (Nat.succ i) (k1 i o) (k1 i o) (k2 i o) fun _ _ _ _ => .fail) (ih (Nat.succ i) kl kl k1 k2) (lacks dn o.after.toList)) (ih (Nat.succ i) k0 kl k1 k2) (tb dn i)) l
def agF (dn M : Nat) (l : List Oper) : Nat → List Oper := List.rec (motive := fun _ => Nat → List Oper) (fun _ => []) (fun o _ ih i => Bool.rec (ih (Nat.succ i)) (o :: ih (Nat.succ i)) (ite1 (tb dn i) <| inot (tb M i))) l
def againL (P : Program) (ng : Nat) (ck : CK) (ops : Array Oper) (tm : T V) (h : T O) (nx : Nat) (l : List Oper) (k : Bool) : Bool :=
  List.rec (motive := fun _ => Bool) k (fun o _ ih => wantK ops tm o.guard (ite1 (Nat.rec (motive := fun _ => Bool) (opK P ng ck tm o.op h nx (fun y _ _ => Option.rec (motive := fun _ => Bool) true (fun t => sameV y (gt V.nil t tm)) o.dst) (fun _ _ _ => false)) (fun _ _ => true) (clsOp P o.op)) <| ih) ih) l
def drawP (P : Program) (ops : Array Oper) (s : Nat) : DS → Plan := Nat.rec (motive := fun _ => DS → Plan) (fun _ => .fail) (fun _ ih d => passP P ops ops.toList 0 d fun d =>
  sweepP d.dn ops.toList 0 (.fin d) .fail (fun i o => addP ops true i o d fun d' => .eff o (agF d.dn (gt 0 i d'.mt) ops.toList 0) (ih d')) (fun i o j o2 => .two i o j o2 d)) s
abbrev PT := Program → Nat → CK → Nat → Array Oper → KV → (T V → T O → Nat → Bool) → T V → T O → Nat → Bool
def runP (p : Plan) : PT := Plan.rec (motive := fun _ => PT) (fun _ _ _ _ _ _ _ _ _ _ => false) (fun _ _ _ _ _ _ _ kfin tm h nx => kfin tm h nx)
  (fun o _ ih P ng ck nt ops Kp kfin tm h nx => wantK ops tm o.guard (opK P ng ck tm o.op h nx (fun x h nx => putTK nt o.dst x tm fun tm => ih P ng ck nt ops Kp kfin tm h nx) (fun _ _ _ => false)) (putTK nt o.dst undefV tm fun tm => ih P ng ck nt ops Kp kfin tm h nx))
  (fun o _ _ ih1 ih2 P ng ck nt ops Kp kfin tm h nx => wantK ops tm o.guard (ih1 P ng ck nt ops Kp kfin tm h nx) (putTK nt o.dst undefV tm fun tm => ih2 P ng ck nt ops Kp kfin tm h nx))
  (fun o ags _ ih P ng ck nt ops Kp kfin tm h nx => wantK ops tm o.guard (opK P ng ck tm o.op h nx (fun v h nx => putTK nt o.dst v tm fun tm => againL P ng ck ops tm h nx ags (ih P ng ck nt ops Kp kfin tm h nx)) Kp) false)
  (fun i o j o2 d P ng ck _ ops _ kfin tm h nx => twoK P ng ck ops i o j o2 d tm h nx kfin) p
def rdyB (ls : Array Bool) (i : Nat) (o : Oper) : Bool := !(ls.getD i false) && o.after.toList.all fun e => !bindB e || ls.getD e.on false
def ck0 : CK := fun _ _ _ _ _ _ => false
def kno : KV := fun _ _ _ => false
def isBool (x : Bool) (v : V) : Bool := vB v fun b => bs_eq b x
def coinD (P : Program) (d0 : Nat) (o0 o1 o2 o3 : Oper) (b1 b2 : Bool) : Bool :=
  opK P 0 ck0 .leaf o0.op .leaf 0 (fun v h n =>
    ite1 (opK P 0 ck0 (st V.nil v d0 .leaf) o1.op h n (fun _ h n => opK P 0 ck0 (st V.nil v d0 .leaf) o2.op h n (fun _ h n => opK P 0 ck0 (st V.nil v d0 .leaf) o3.op h n (fun x _ _ => isBool b2 x) kno) kno) kno)
      (opK P 0 ck0 (st V.nil v d0 .leaf) o2.op h n (fun _ h n => opK P 0 ck0 (st V.nil v d0 .leaf) o1.op h n (fun _ h n => opK P 0 ck0 (st V.nil v d0 .leaf) o3.op h n (fun x _ _ => isBool b1 x) kno) kno) kno)) kno
def coinE (o0 o1 o2 o3 : Oper) : Bool :=
  rdyB #[false, false, false, false] 0 o0 && !rdyB #[false, false, false, false] 1 o1 && !rdyB #[false, false, false, false] 2 o2 && !rdyB #[false, false, false, false] 3 o3 &&
  rdyB #[true, false, false, false] 1 o1 && !rdyB #[true, false, false, false] 3 o3 && rdyB #[true, false, false, false] 2 o2 &&
  rdyB #[true, true, false, false] 2 o2 && !rdyB #[true, true, false, false] 3 o3 && rdyB #[true, false, true, false] 1 o1 && !rdyB #[true, false, true, false] 3 o3 && rdyB #[true, true, true, false] 3 o3
def coinC (P : Program) (nt d0 d1 : Nat) (o0 o1 o2 o3 : Oper) (b1 b2 : Bool) : Bool :=
  o0.guard.isNone && o1.guard.isNone && o2.guard.isNone && o3.guard.isNone && o1.dst.isNone && o2.dst.isNone && Nat.blt d0 nt && Nat.blt d1 nt && coinE o0 o1 o2 o3 && coinD P d0 o0 o1 o2 o3 b1 b2
def stBool : Op → Option Bool
  | .store _ _ (.const (.bool b)) => some b
  | _ => none
def coinOf (P : Program) (nt : Nat) (ops : Array Oper) : Option (Nat × Nat × Bool × Bool) :=
  match ops.toList with
  | [o0, o1, o2, o3] => match o0.dst, o3.dst, stBool o1.op, stBool o2.op with
    | some d0, some d1, some b1, some b2 => if coinC P nt d0 d1 o0 o1 o2 o3 b1 b2 = true then some (d0, d1, b1, b2) else none
    | _, _, _, _ => none
  | _ => none
def coinK (c : Option (Nat × Nat × Bool × Bool)) (tm : T V) (k : T V → Bool) (other : Bool) : Bool :=
  Option.rec (motive := fun _ => Bool) other (fun p => stK V.nil V.nil p.1 tm fun tm => ite1 (stK V.nil (.b p.2.2.1) p.2.1 tm k) (stK V.nil (.b p.2.2.2) p.2.1 tm k)) c
def regK (P : Program) (ng : Nat) (ck : CK) (nt : Nat) (ops : Array Oper) (Kp : V → T V → V → V → T O → Nat → Bool) (l : List Oper) : T V → V → V → T O → Nat → KR → Bool :=
  List.rec (motive := fun _ => T V → V → V → T O → Nat → KR → Bool) (fun tm D U h nx k => k tm D U h nx)
    (fun o _ ih tm D U h nx k => Oper.rec (motive := fun _ => Bool) (fun dst op _ _ _ guard =>
      wantK ops tm guard
        (opX P ng ck op tm D U h nx (fun x D U h nx => putTK nt dst x tm fun tm => ih tm D U h nx k) (fun v D U h nx => Kp v tm D U h nx))
        (putTK nt dst undefV tm fun tm => ih tm D U h nx k)) o) l
def resK (P : Program) (l : List ResultVar) : T V → T O → (V → Bool) → Bool := List.rec (motive := fun _ => T V → T O → (V → Bool) → Bool) (fun _ _ k => k .nil)
  (fun r _ ih tm h k => ResultVar.rec (motive := fun _ => Bool) (fun t => ih tm h fun c => k (.cons (gt V.nil t tm) c)) (fun a t => opLoad P t (gt V.nil a tm) h fun v => ih tm h fun c => k (.cons v c)) r) l
def tupK (c : V) (k : V → Bool) : Bool := chain (k (.t c)) (fun x r _ => chain (k x) (fun _ _ _ => k (.t c)) r) c
def initK (args : V) : Nat → T V → (T V → Bool) → Bool := chain (M := Nat → T V → (T V → Bool) → Bool) (fun _ tm k => k tm) (fun x _ ih i tm k => stK V.nil x i tm fun tm' => ih (Nat.succ i) tm' k) args
def settleV (U : V) : V := chain .nil (fun x r _ => chain (.cons x .nil) (fun _ _ _ => .nil) r) U
def enterK (P : Program) (ex : Code → Nat → T V → V → V → T O → Nat → KX → Bool) (g : Nat) (args U : V) (h : T O) (nx : Nat) (k : Func → KX) : Bool :=
  Option.rec (motive := fun _ => Bool) false (fun fn => Option.rec (motive := fun _ => Bool) false (fun c => initK args 0 .leaf fun tm => ex c fn.ntmps tm .nil U h nx (k fn)) fn.body) (P.funcs[g]?)
def leaveK (P : Program) (ex : Code → Nat → T V → V → V → T O → Nat → KX → Bool) (fn : Func) (tm : T V) (K Kp : KV) (D : V) : V → T O → Nat → Bool :=
  chain (M := V → T O → Nat → Bool)
    (fun U h nx => chain (resK P fn.results.toList tm h fun c => tupK c fun v => K v h nx) (fun x r _ => chain (Kp x h nx) (fun _ _ _ => false) r) U)
    (fun d _ ih U h nx => chain false (fun f args _ => vF f fun g cap => catK args cap fun all => enterK P ex g all U h nx fun fn' x tm' D' U' h' nx' =>
      chain (X.rec (motive := fun _ => Bool) (resK P fn'.results.toList tm' h' fun _ => ih (settleV U') h' nx') (fun _ => false) (resK P fn'.results.toList tm' h' fun _ => ih (settleV U') h' nx') (fun v => ih (.cons v .nil) h' nx') x) (fun _ _ _ => false) D') d) D
def callX (P : Program) (hk : Nat → Option (V → T O → Nat → KV → Bool)) (ex : Code → Nat → T V → V → V → T O → Nat → KX → Bool) : CK := fun g args h nx K Kp =>
  Option.rec (motive := fun _ => Bool)
    (enterK P ex g args (.b false) h nx fun fn x tm D _ h nx => X.rec (motive := fun _ => Bool) (leaveK P ex fn tm K Kp D .nil h nx) (fun _ => false) (leaveK P ex fn tm K Kp D .nil h nx) (fun v => leaveK P ex fn tm K Kp D (.cons v .nil) h nx) x)
    (fun f => f args h nx K) (hk g)
abbrev EX := Code → Nat → T V → V → V → T O → Nat → KX → Bool
abbrev HK := Nat → Option (V → T O → Nat → KV → Bool)
def exec (P : Program) (ng : Nat) (hk : Nat → Option (V → T O → Nat → KV → Bool)) (n : Nat) : Code → Nat → T V → V → V → T O → Nat → KX → Bool :=
  Nat.rec (motive := fun _ => Code → Nat → T V → V → V → T O → Nat → KX → Bool) (fun _ _ _ _ _ _ _ _ => false)
    (fun _ ih c nt tm D U h nx k => Code.rec (motive := fun _ => Program → Nat → HK → EX → Nat → T V → V → V → T O → Nat → KX → Bool)
      (fun _ _ _ _ _ tm D U h nx k => k .n tm D U h nx)
      (fun _ ops dr P ng hk ih nt tm D U h nx k => Bool.rec (regK P ng (callX P hk ih) nt ops (fun v tm D U h nx => k (.pk v) tm D U h nx) ops.toList tm D U h nx (fun tm D U h nx => k .n tm D U h nx))
        (coinK (coinOf P nt ops) tm (fun tm => k .n tm D U h nx) (runP (drawP P ops (Nat.succ ops.size) ⟨0, 0, 0, .leaf, .leaf⟩) P ng (callX P hk ih) nt ops (fun v h nx => k (.pk v) .leaf D U h nx) (fun tm h nx => k .n tm D U h nx) tm h nx)) dr)
      (fun a b _ _ _ _ _ ih nt tm D U h nx k => ih a nt tm D U h nx fun x tm D U h nx => X.rec (motive := fun _ => Bool) (ih b nt tm D U h nx k) (fun id => k (.x id) tm D U h nx) (k .r tm D U h nx) (fun v => k (.pk v) tm D U h nx) x)
      (fun c a b _ _ _ ng _ ih nt tm D U h nx k => vBf (ev ng tm c) fun q => Bool.rec (ih b nt tm D U h nx k) (ih a nt tm D U h nx k) q)
      (fun id c _ _ _ _ ih nt tm D U h nx k => ih c nt tm D U h nx fun x tm D U h nx => X.rec (motive := fun _ => Bool) (k .n tm D U h nx) (fun id' => Bool.rec (k (.x id') tm D U h nx) (k .n tm D U h nx) (Nat.beq id' id)) (k .r tm D U h nx) (fun v => k (.pk v) tm D U h nx) x)
      (fun c _ _ _ _ ih nt tm D U h nx k => ih c nt tm D U h nx fun x tm D U h nx => X.rec (motive := fun _ => Bool) (ih (.loop c) nt tm D U h nx k) (fun id => k (.x id) tm D U h nx) (k .r tm D U h nx) (fun v => k (.pk v) tm D U h nx) x)
      (fun _ _ _ _ _ _ _ _ _ _ _ _ _ _ _ _ _ => false)
      (fun id _ _ _ _ _ tm D U h nx k => k (.x id) tm D U h nx)
      (fun c _ _ _ _ ih nt tm D U h nx k => ih c nt tm D U h nx k)
      (fun _ _ _ _ _ _ tm D U h nx k => k .n tm D U h nx)
      (fun _ _ _ _ _ _ _ _ _ _ _ _ => false)
      (fun _ _ _ _ _ tm D U h nx k => k .r tm D U h nx)
      (fun _ _ _ _ _ _ _ _ _ _ _ _ => false) c P ng hk ih nt tm D U h nx k) n
def run (P : Program) (ng : Nat) (hk : Nat → Option (V → T O → Nat → KV → Bool)) (n : Nat) : CK := callX P hk (exec P ng hk n)
end
end Go.Mx
