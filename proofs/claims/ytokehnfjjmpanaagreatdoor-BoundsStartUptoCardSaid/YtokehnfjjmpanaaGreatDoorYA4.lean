/- Part 4 of the proof (Sv, Sw, Sc, Sd, Sa, St); no condition. -/
import Derived.Deep.Draws
import Derived.DefersIn
import Derived.RecoverIn
import Derived.Test.YtokehnfjjmpanaaGreatDoorYA3
set_option linter.unusedVariables false
set_option linter.unusedSimpArgs false
set_option maxRecDepth 8000
namespace Go.Proofs.YtokehnfjjmpanaaGreatDoor.Sm
open Bool renaming and_eq_true→jU
open List renaming all_eq_true→jZ,take_of_length_le→jY,append_assoc→zS,getElem?_set→jW,mem_of_getElem?→zD,getElem?_eq_getElem→jV,mem_cons→zV
open Nat renaming le_of_ble_eq_true→jH

def AOE (E:Env) (H:Hint) (b:Code) (Q:AEx→Fr→Hp→Prop):AEx→Fr→Hp→Prop:=VI (fun F h=>awp E H b F h Q) Q
theorem A7 (E:Env) (H:Hint) (b:Code) (Q:AEx→Fr→Hp→Prop) (F:Fr) (h:Hp):AOE E H b Q .normal F h=awp E H b F h Q:=rfl
theorem E5 (E:Env) (H:Hint) (b:Code) (Q:AEx→Fr→Hp→Prop) (F:Fr) (h:Hp) (i:Nat):AOE E H b Q (.exit i) F h=Q (.exit i) F h:=rfl
theorem CQ (E:Env) (H:Hint) (b:Code) (Q:AEx→Fr→Hp→Prop) (F:Fr) (h:Hp):AOE E H b Q .ret F h=Q .ret F h:=rfl
theorem EO (id:Nat) (Q:AEx→Fr→Hp→Prop) (F:Fr) (h:Hp):O4 id Q .normal F h=Q .normal F h:=rfl
theorem D5 (id:Nat) (Q:AEx→Fr→Hp→Prop) (F:Fr) (h:Hp):O4 id Q .ret F h=Q .ret F h:=rfl
theorem FY (id i:Nat) (Q:AEx→Fr→Hp→Prop) (F:Fr) (h:Hp):O4 id Q (.exit i) F h=if i=id then Q .normal F h else Q (.exit i) F h:=rfl
def AOI (I:Nat→Fr→Hp→Prop) (n:Nat) (Q:AEx→Fr→Hp→Prop):AEx→Fr→Hp→Prop:=VI (fun F' h' => ∃ m,m < n∧I m F' h') Q
theorem FK (I:Nat→Fr→Hp→Prop) (n:Nat) (Q:AEx→Fr→Hp→Prop) (F:Fr) (h:Hp):AOI I n Q .normal F h = ∃ m,m < n∧I m F h:=rfl
theorem GG (I:Nat→Fr→Hp→Prop) (n:Nat) (Q:AEx→Fr→Hp→Prop) (F:Fr) (h:Hp) (i:Nat):AOI I n Q (.exit i) F h=Q (.exit i) F h:=rfl
theorem FV (I:Nat→Fr→Hp→Prop) (n:Nat) (Q:AEx→Fr→Hp→Prop) (F:Fr) (h:Hp):AOI I n Q .ret F h=Q .ret F h:=rfl
def EH (P:Program) (rs:List ResultVar) (R:AV→Hp→Prop):AEx→Fr→Hp→Prop:=fun e F h'=>(match e with | .exit _=>False | _=>True)∧∃ r,YG P h' F rs=some r∧R r h'
theorem CW (P:Program) (t:Nat) (R:AV→Hp→Prop) (F:Fr) (h:Hp):EH P [.tmp t] R .ret F h=R (F t) h:=by simp [EH,YG,TB]
theorem AMY (P:Program) (R:AV→Hp→Prop) (F:Fr) (h:Hp):EH P [] R .ret F h=R (.tup []) h:=by simp [EH,YG,QO]
theorem I7 (P:Program) (R:AV→Hp→Prop) (F:Fr) (h:Hp):EH P [] R .normal F h=R (.tup []) h:=by simp [EH,YG,QO]
theorem QE (P:Program) (t u:Nat) (R:AV→Hp→Prop) (F:Fr) (h:Hp):EH P [.tmp t,.tmp u] R .ret F h=R (.tup [F t,F u]) h:=by simp [EH,YG,QO,TB]
theorem MO (P:Program) (t u v:Nat) (R:AV→Hp→Prop) (F:Fr) (h:Hp):EH P [.tmp t,.tmp u,.tmp v] R .ret F h=R (.tup [F t,F u,F v]) h:=by simp [EH,YG,QO,TB]
theorem AG6 (P:Program) (a t:Nat) (R:AV→Hp→Prop) (F:Fr) (h:Hp) (b i j:Nat) (hF:F a = .ptr b i j):EH P [.cell a t] R .ret F h = ∃ r,DI P h t (.ptr b i j)=some r∧R r h:=by simp [EH,YG,TB,hF]
def Z7 (E:Env) (H:Hint) (x y:Code) (F:Fr) (h:Hp) (Q:AEx→Fr→Hp→Prop) (v:AV):Prop:=match v with
 | .bool t=>(t=true→awp E H x F h Q)∧(t=false→awp E H y F h Q)
 | _=>False
theorem DY (E:Env) (H:Hint) (x y:Code) (F:Fr) (h:Hp) (Q:AEx→Fr→Hp→Prop):Z7 E H x y F h Q (.bool true)=awp E H x F h Q:=by simp [Z7]
theorem EC (E:Env) (H:Hint) (x y:Code) (F:Fr) (h:Hp) (Q:AEx→Fr→Hp→Prop):Z7 E H x y F h Q (.bool false)=awp E H y F h Q:=by simp [Z7]
theorem CS {E:Env} {H:Hint} {x y:Code} {F:Fr} {h:Hp} {Q:AEx→Fr→Hp→Prop} {b:Bool} (h1:b=true→awp E H x F h Q) (h2:b=false→awp E H y F h Q):Z7 E H x y F h Q (.bool b):=⟨h1,h2⟩
theorem BQ (E:Env) (H:Hint) (F:Fr) (h:Hp) (Q:AEx→Fr→Hp→Prop):awp E H .skip F h Q=Q .normal F h:=rfl
theorem BK (E:Env) (H:Hint) (F:Fr) (h:Hp) (Q:AEx→Fr→Hp→Prop):awp E H .ret F h Q=Q .ret F h:=rfl
theorem D6 (E:Env) (H:Hint) (i:Nat) (F:Fr) (h:Hp) (Q:AEx→Fr→Hp→Prop):awp E H (.exit i) F h Q=Q (.exit i) F h:=rfl
theorem BB (E:Env) (H:Hint) (a b:Code) (F:Fr) (h:Hp) (Q:AEx→Fr→Hp→Prop):awp E H (.seq a b) F h Q=awp E H a F h (AOE E H b Q):=rfl
theorem CJ (E:Env) (H:Hint) (id:Nat) (b:Code) (F:Fr) (h:Hp) (Q:AEx→Fr→Hp→Prop):awp E H (.block id b) F h Q=awp E H b F h (O4 id Q):=rfl
theorem BJ (E:Env) (H:Hint) (c:Operand) (x y:Code) (F:Fr) (h:Hp) (Q:AEx→Fr→Hp→Prop):awp E H (.cond c x y) F h Q=Z7 E H x y F h Q (ev E F c):=rfl
theorem D8 {E:Env} {H:Hint} {b:Code} {F:Fr} {h:Hp} {Q:AEx→Fr→Hp→Prop} (I:Nat→Fr→Hp→Prop) (n:Nat) (h0:I n F h) (hr : ∀ n F h,I n F h→awp E H b F h (AOI I n Q)):awp E H (.loop b) F h Q:=⟨I,⟨n,h0⟩,hr⟩
def CO:List Oper→Nat→Option Tmp
 | [],_=>none
 | o :: _,0=>o.dst
 | _ :: r,j+1=>CO r j
theorem SS : ∀ (l:List Oper) (j:Nat),YD (l.map (·.dst)) j=CO l j
 | [],j=>by simp [YD,CO]
 | o :: l,0=>by simp [YD,CO]
 | o :: l,j+1=>by simp [YD,CO,SS l j]
def WW (E:Env) (H:Hint) (ops:List Oper) (l:List Oper) (F:Fr) (h:Hp) (K:Fr→Hp→Prop):Prop:=W E H (ops.map (·.dst)) l F h K
def AH1 (E:Env) (H:Hint) (ops:List Oper) (d:Option Tmp) (r:List Oper) (F:Fr) (K:Fr→Hp→Prop):AV→Hp→Prop:=fun v h'=>WW E H ops r (EG F d v) h' K
theorem AL (E:Env) (H:Hint) (ops:List Oper) (d:Tmp) (r:List Oper) (F:Fr) (K:Fr→Hp→Prop) (v:AV) (h:Hp):AH1 E H ops (some d) r F K v h=WW E H ops r (upd F d v) h K:=rfl
theorem DV (E:Env) (H:Hint) (ops:List Oper) (r:List Oper) (F:Fr) (K:Fr→Hp→Prop) (v:AV) (h:Hp):AH1 E H ops none r F K v h=WW E H ops r F h K:=rfl
def X1 (E:Env) (own:Bool) (op:Op) (s:Fr × Hp) (c:Fr→AV→Hp→Prop):Prop:=MW E own op s.1 s.2 (c s.1)
def wc (E:Env) (H:Hint) (ops:List Oper) (d:Option Tmp) (r:List Oper) (K:Fr→Hp→Prop):Fr→AV→Hp→Prop:=fun F=>AH1 E H ops d r F K
def G1 (E:Env) (H:Hint) (ops:List Oper) (d:Option Tmp) (op:Op) (r:List Oper) (F:Fr) (h:Hp) (K:Fr→Hp→Prop) (want:Bool) (v:AV):Prop :=
 match v with
 | .bool b=>((b == want)=true→X1 E (BD op (H.md (d.getD 0))) op (KR (F,h) (H.fz (d.getD 0))) (wc E H ops d r K))∧((b == want)=false→WW E H ops r (EG F d HY) h K)
 | .tup []=>WW E H ops r (EG F d HY) h K
 | _=>False
theorem BA (E:Env) (H:Hint) (ops:List Oper) (F:Fr) (h:Hp) (K:Fr→Hp→Prop):WW E H ops [] F h K=K F h:=rfl
theorem AZ (E:Env) (H:Hint) (ops:List Oper) (d:Option Tmp) (op:Op) (t:TypeId) (p:String) (e:Array Edge) (r:List Oper) (F:Fr) (h:Hp) (K:Fr→Hp→Prop) :
  WW E H ops (⟨d,op,t,p,e,none⟩ :: r) F h K=X1 E (BD op (H.md (d.getD 0))) op (KR (F,h) (H.fz (d.getD 0))) (wc E H ops d r K):=by
 simp only [WW,W,J3,true_imp_iff,Bool.true_eq_false,false_imp_iff,and_true,X1]
 rfl
theorem ANU (E:Env) (H:Hint) (ops:List Oper) (d:Option Tmp) (op:Op) (t:TypeId) (p:String) (e:Array Edge) (j:Nat) (want:Bool) (r:List Oper) (F:Fr) (h:Hp) (K:Fr→Hp→Prop) (g:Tmp) (hg:CO ops j=some g) :
  WW E H ops (⟨d,op,t,p,e,some (j,want)⟩ :: r) F h K=G1 E H ops d op r F h K want (F g):=by
 simp only [WW,W,J3,SS,hg,G1]
 generalize F g=v
 cases v with
 | bool b=>rfl
 | tup vs=>cases vs with
   | nil=>simp
   | cons=>rfl
 | _=>rfl
def GX (E:Env) (H:Hint) (ops:List Oper) (d:Option Tmp) (op:Op) (r:List Oper) (F:Fr) (h:Hp) (K:Fr→Hp→Prop) (want:Bool) (o:Option Tmp):Prop:=match o with
 | some g=>G1 E H ops d op r F h K want (F g)
 | none=>WW E H ops r (EG F d HY) h K
theorem BU (E:Env) (H:Hint) (ops:List Oper) (d:Option Tmp) (op:Op) (r:List Oper) (F:Fr) (h:Hp) (K:Fr→Hp→Prop) (want:Bool) (g:Tmp):GX E H ops d op r F h K want (some g)=G1 E H ops d op r F h K want (F g):=rfl
theorem BL (E:Env) (H:Hint) (ops:List Oper) (d:Option Tmp) (op:Op) (t:TypeId) (p:String) (e:Array Edge) (j:Nat) (want:Bool) (r:List Oper) (F:Fr) (h:Hp) (K:Fr→Hp→Prop) :
  WW E H ops (⟨d,op,t,p,e,some (j,want)⟩ :: r) F h K=GX E H ops d op r F h K want (CO ops j):=by
 cases hg:CO ops j with
 | some g=>exact ANU E H ops d op t p e j want r F h K g hg
 | none=>simp [WW,W,J3,SS,hg,GX]
theorem IK {E:Env} {H:Hint} {ops:List Oper} {d:Option Tmp} {op:Op} {r:List Oper} {F:Fr} {h:Hp} {K:Fr→Hp→Prop} {want b:Bool} (ht:b=true→G1 E H ops d op r F h K want (.bool true)) (hf:b=false→G1 E H ops d op r F h K want (.bool false)):G1 E H ops d op r F h K want (.bool b):=by
 cases b
 ·exact hf rfl
 ·exact ht rfl
theorem GH (E:Env) (H:Hint) (ops:List Oper) (d:Option Tmp) (op:Op) (r:List Oper) (F:Fr) (h:Hp) (K:Fr→Hp→Prop):G1 E H ops d op r F h K true (.bool true)=X1 E (BD op (H.md (d.getD 0))) op (KR (F,h) (H.fz (d.getD 0))) (wc E H ops d r K):=by simp [G1]
theorem EQ (E:Env) (H:Hint) (ops:List Oper) (d:Option Tmp) (op:Op) (r:List Oper) (F:Fr) (h:Hp) (K:Fr→Hp→Prop):G1 E H ops d op r F h K false (.bool false)=X1 E (BD op (H.md (d.getD 0))) op (KR (F,h) (H.fz (d.getD 0))) (wc E H ops d r K):=by simp [G1]
theorem I4 (E:Env) (H:Hint) (ops:List Oper) (d:Option Tmp) (op:Op) (r:List Oper) (F:Fr) (h:Hp) (K:Fr→Hp→Prop):G1 E H ops d op r F h K true (.bool false)=WW E H ops r (EG F d HY) h K:=by simp [G1]
theorem F6 (E:Env) (H:Hint) (ops:List Oper) (d:Option Tmp) (op:Op) (r:List Oper) (F:Fr) (h:Hp) (K:Fr→Hp→Prop):G1 E H ops d op r F h K false (.bool true)=WW E H ops r (EG F d HY) h K:=by simp [G1]
theorem UH (E:Env) (H:Hint) (ops:List Oper) (d:Option Tmp) (op:Op) (r:List Oper) (F:Fr) (h:Hp) (K:Fr→Hp→Prop) (want:Bool):G1 E H ops d op r F h K want HY=WW E H ops r (EG F d HY) h K:=rfl
def H5 (o:Option (AV × Hp)) (K:AV→Hp→Prop):Prop:=match o with
 | some (v,h)=>K v h
 | none=>False
theorem BV (v:AV) (h:Hp) (K:AV→Hp→Prop):H5 (some (v,h)) K=K v h:=rfl
theorem AB (v:AV) (h:Hp) (K:AV→Hp→Prop):H5 (ofO h (some v)) K=K v h:=rfl
theorem BZ (h:Hp) (K:AV→Hp→Prop):H5 (ofS (some h)) K=K HY h:=rfl
def AIZ (E:Env) (f:AV) (args:List AV) (h:Hp) (K:AV→Hp→Prop):Prop:=match f with
 | .fn (.func fid) first caps=>ACalls E fid (first ++ (args ++ caps)) h K
 | .fn (.yield l) [] []=>YC E l args h K
 | _=>False
theorem BP (E:Env) (fid:FuncId) (args caps:List AV) (h:Hp) (K:AV→Hp→Prop):AIZ E (.fn (.func fid) [] caps) args h K=ACalls E fid (args ++ caps) h K:=rfl
theorem BX (E:Env) (own:Bool) (f:Operand) (as:Array Operand) (ts:Array TypeId) (F:Fr) (h:Hp) (c:Fr→AV→Hp→Prop) :
  X1 E own (.call { callee := .value f,args:=as,argTypes:=ts }) (F,h) c=AIZ E (ev E F f) (as.toList.map (ev E F)) h (c F):=by
 unfold X1 MW AIZ
 rfl
theorem AVG (E:Env) (own:Bool) (op:Op) (F:Fr) (h:Hp) (c:Fr→AV→Hp→Prop) (hop:(match op with | .call { callee := .value _,.. }=>false | .panic _=>false | _=>true)=true) :
  X1 E own op (F,h) c=H5 (aop E.P own h (ev E F) op) (c F):=by
 unfold X1 MW H5
 split
 ·simp at hop
 ·simp at hop
 ·rfl
def ATP (E:Env) (v:AV) (h:Hp):Prop:=match v with
 | .ifc t u=>E.X (.iface t u) h
 | _=>False
theorem Y6 (E:Env) (t:TypeId) (u:Value) (h:Hp):ATP E (.ifc t u) h=E.X (.iface t u) h:=rfl
theorem AB4 (E:Env) (own:Bool) (x:Operand) (F:Fr) (h:Hp) (c:Fr→AV→Hp→Prop):X1 E own (.panic x) (F,h) c=ATP E (ev E F x) h:=rfl
theorem AX (E:Env) (H:Hint) (ops:List Oper) (d:Option Tmp) (r:List Oper) (K:Fr→Hp→Prop) (F:Fr):wc E H ops d r K F=AH1 E H ops d r F K:=rfl
theorem A8 (E:Env) (H:Hint) (i:Nat) (l:List Oper) (F:Fr) (h:Hp) (Q:AEx→Fr→Hp→Prop):awp E H (.region i l.toArray false) F h Q=WW E H l l F h (Q .normal):=rfl
theorem AA (F:Nat→AV) (d i:Nat) (v:AV):upd F d v i=if i=d then v else F i:=rfl
theorem AY (E:Env) (F:Fr) (t:Nat):ev E F (.tmp t)=F t:=rfl
theorem AU (E:Env) (F:Fr) (v:Value):ev E F (.const v)=PI v:=rfl
theorem BO (E:Env) (F:Fr) (f:Nat):ev E F (.func f) = .fn (.func f) [] []:=rfl
theorem APK (E:Env) (F:Fr) (f:Nat):ev E F (.global f)=E.G f:=rfl
theorem BH (k:IntKind) (n:Int):PI (.int k n) = .int k n:=rfl
theorem BM (b:Bool):PI (.bool b) = .bool b:=rfl
theorem GN (s:ByteArray):PI (.string s) = .str s:=rfl
theorem LG:PI (.slice none 0 0) = .sl .nil 0 []:=rfl
theorem AI3:PI (.pointer none) = .nilp:=rfl
theorem AI4:PI .nilIface = .nilifc:=rfl
section
variable (E:Env) (own:Bool) (F:Fr) (h:Hp) (c:Fr→AV→Hp→Prop)
theorem BI (x:Operand):X1 E own (.move x) (F,h) c=c F (ev E F x) h:=rfl
theorem BC (x:Operand):X1 E own (.assign x) (F,h) c=c F (ev E F x) h:=rfl
def AIC (a b:AV) (h:Hp) (K:AV→Hp→Prop) (v:AV):Prop:=match v with
 | .bool true=>K a h
 | .bool false=>K b h
 | _=>False
theorem CP (x a b:Operand):X1 E own (.pick x a b) (F,h) c=AIC (ev E F a) (ev E F b) h (c F) (ev E F x):=by
 simp only [X1,MW,aop,AIC]
 generalize ev E F x=v
 cases v with
 | bool b=>cases b <;> rfl
 | _=>rfl
theorem DL (a b:AV) (K:AV→Hp→Prop):AIC a b h K (.bool true)=K a h:=rfl
theorem DN (a b:AV) (K:AV→Hp→Prop):AIC a b h K (.bool false)=K b h:=rfl
theorem EX (e:TypeId):X1 E own (.alloc e) (F,h) c=H5 (JF E.P h e) (c F):=rfl
theorem FN (e:TypeId) (x:Operand):X1 E own (.box e x) (F,h) c=H5 (OE h (ev E F x)) (c F):=rfl
theorem FO (t:TypeId) (ps:List (Nat × Operand)):X1 E own (.build t ps.toArray) (F,h) c=H5 (ofO h (JL E.P t (evp (ev E F) ps))) (c F):=rfl
theorem F9 (t:TypeId) (n:Nat) (ps:List (Nat × Operand)):X1 E own (.buildSlice t n ps.toArray) (F,h) c=H5 (FM E.P own h t n (evp (ev E F) ps)) (c F):=rfl
theorem BN (t:TypeId) (a:Operand):X1 E own (.load t a) (F,h) c=H5 (ofO h (DI E.P h t (ev E F a))) (c F):=rfl
theorem CY (t:TypeId) (a x:Operand):X1 E own (.store t a x) (F,h) c=H5 (ofS (FT E.P h t (ev E F a) (ev E F x))) (c F):=rfl
theorem BR (op:BinOp) (t u:TypeId) (x y:Operand):X1 E own (.binOp op t x y u) (F,h) c=H5 (ofO h (G6 E.P t op (ev E F x) (ev E F y))) (c F):=rfl
theorem I5 (op:UnOp) (t:TypeId) (x:Operand):X1 E own (.unOp op t x) (F,h) c=H5 (ofO h (aUn op (ev E F x))) (c F):=rfl
theorem OZ (s d:TypeId) (x:Operand):X1 E own (.convert s d x) (F,h) c=H5 (ofO h (RJ E.P s d (ev E F x))) (c F):=rfl
theorem IX (fn:Fn) (a b:List Operand):X1 E own (.makeFunc fn a.toArray b.toArray) (F,h) c=c F (.fn fn (a.map (ev E F)) (b.map (ev E F))) h:=rfl
theorem RY (t:TypeId) (l k:Operand):X1 E own (.makeSlice t l k) (F,h) c=H5 (JD E.P own h t (ev E F l) (ev E F k)) (c F):=rfl
theorem wxP (E:Env) (X:Value→Hp→Prop):(E.wx X).P=E.P:=rfl
theorem wxX (E:Env) (X:Value→Hp→Prop):(E.wx X).X=X:=rfl
def mkI (P:Program) (t:TypeId) (v:AV) (h:Hp):Option (AV × Hp):=match P.underlying t,v with
 | some (.struct _),.agg []=>some (.ifc t (.agg #[]),h)
 | _,_=>none
theorem AGP {P:Program} {t:TypeId} {fs:Array Field} (hu:P.underlying t=some (.struct fs)) (h:Hp):mkI P t (.agg []) h=some (.ifc t (.agg #[]),h):=by
 unfold mkI; rw [hu]
theorem AK1 (t:TypeId) (x:Operand):X1 E own (.makeInterface t x) (F,h) c=H5 (mkI E.P t (ev E F x) h) (c F):=rfl
theorem AI6 (t:TypeId):X1 E own (.makeMap t none) (F,h) c=c F (.mp h.length) (h ++ [.map []]):=rfl
theorem ADK (t:TypeId) (m k x:Operand):X1 E own (.mapUpdate t m k x) (F,h) c=H5 (ofS (MF E.P h t (ev E F m) (ev E F k) (ev E F x))) (c F):=rfl
theorem AK2 (t:TypeId) (m k:Operand) (ok:Bool):X1 E own (.lookup t m k ok) (F,h) c=H5 (ofO h (OL E.P h t (ev E F m) (ev E F k) ok)) (c F):=rfl
theorem ADL (x:Operand) (t a:TypeId) (ok:Bool):X1 E own (.typeAssert x t a ok) (F,h) c=H5 (ofO h (TV E.P (ev E F x) a ok)) (c F):=rfl
theorem NK (t:TypeId) (x:Operand) (lo hi mx:Option Operand):X1 E own (.slice t x lo hi mx) (F,h) c=H5 (ofO h (J8 E.P h t (ev E F x) (lo.map (ev E F)) (hi.map (ev E F)) (mx.map (ev E F)))) (c F):=rfl
theorem BG (t:TypeId) (x:Operand) (f:Nat):X1 E own (.fieldAddr t x f) (F,h) c=H5 (ofO h (DJ E.P t (ev E F x) f)) (c F):=rfl
theorem AHZ (t:TypeId) (x:Operand) (f:Nat):X1 E own (.field t x f) (F,h) c=H5 (ofO h (XH E.P t (ev E F x) f)) (c F):=rfl
theorem CU (t:TypeId) (x i:Operand):X1 E own (.indexAddr t x i) (F,h) c=H5 (ofO h (F8 E.P h t (ev E F x) (ev E F i))) (c F):=rfl
theorem J5 (t:TypeId) (x i:Operand):X1 E own (.index t x i) (F,h) c=H5 (ofO h (KF E.P t (ev E F x) (ev E F i))) (c F):=rfl
theorem AN4 (t:TypeId) (x:Operand):X1 E own (.range t x) (F,h) c=H5 (XG E.P h t (ev E F x)) (c F):=rfl
theorem AK0 (it:Operand) (s:Bool):X1 E own (.next it s) (F,h) c=H5 (X4 h (ev E F it) s) (c F):=rfl
def ASC (h:Hp) (i:Nat) (K:AV→Hp→Prop) (v:AV):Prop:=match v with
 | .tup vs=>H5 (ofO h vs[i]?) K
 | _=>False
theorem H7 (t:Operand) (i:Nat):X1 E own (.extract t i) (F,h) c=ASC h i (c F) (ev E F t):=by
 simp only [X1,MW,aop,ASC,H5]
 cases ev E F t <;> rfl
theorem JO (vs:List AV) (i:Nat) (K:AV→Hp→Prop):ASC h i K (.tup vs)=H5 (ofO h vs[i]?) K:=rfl
theorem FH (a:Operand) (t:TypeId):X1 E own (.call { callee := .builtin .len,args := #[a],argTypes := #[t] }) (F,h) c=H5 (ofO h (LH E.P t (ev E F a))) (c F):=rfl
theorem XM (a b:Operand) (ts:Array TypeId):X1 E own (.call { callee := .builtin .max,args := #[a,b],argTypes:=ts }) (F,h) c=H5 (ofO h (RI AB1 (ev E F a) [ev E F b])) (c F):=rfl
theorem YP (a b:Operand) (ts:Array TypeId):X1 E own (.call { callee := .builtin .min,args := #[a,b],argTypes:=ts }) (F,h) c=H5 (ofO h (RI AB0 (ev E F a) [ev E F b])) (c F):=rfl
theorem MK (s x:Operand) (t0 t1:TypeId):X1 E true (.call { callee := .builtin .append,args := #[s,x],argTypes := #[t0,t1] }) (F,h) c=H5 (IC E.P true h t0 t1 (ev E F s) (ev E F x)) (c F):=rfl
end
theorem ACN {P:Program} {t:TypeId} {fields:Array Field} {f:Nat} {fl:Field} {n:Nat} (hu:P.underlying t=some (.struct fields)) (hf:fields[f]? = some fl) (hs:szO P fl.type=some (n+1)) (off:Nat) (ho:fl.offset=off) :
  (∀ b i j,DJ P t (.ptr b i j) f=some (.ptr b i (j+off)))∧(∀ k xs i j,DJ P t (.fptr k xs i j) f=some (.fptr k xs i (j+off))):=by
 subst ho
 constructor <;> intros <;> simp [DJ,hu,hf,hs]
def JV (k:Nat) (h:Hp) (a ix:AV):Option AV:=match ix with
 | .int _ i=>match a with
   | .sl _ k' xs=>if k=k'∧0≤i∧i < (xs.length:Int) then some (.fptr k' xs i.toNat 0) else none
   | .own b off len=>match h[b]? with
     | some (.live k' _)=>if k=k'∧0≤i∧i < (len:Int) then some (.ptr b (off+i.toNat) 0) else none
     | _=>none
   | _=>none
 | _=>none
theorem IL {P:Program} {t e:TypeId} {k:Nat} (hu:P.underlying t=some (.slice e)) (hk:szO P e=some k) (h:Hp) (a ix:AV):F8 P h t a ix=JV k h a ix:=by
 unfold F8 JV
 cases ix <;> simp only
 simp only [hu,hk,Option.some.injEq]
 rfl
def VU:Op→Bool
 | .call { callee := .value _,.. }=>true
 | _=>false
def ABR (E:Env) (own:Bool) (f:AV) (args:List AV) (h:Hp) (K:AV→Hp→Prop):Prop:=match f with
 | .fn (.func fid) first caps => ∃ r,(PCall E fid (first ++ (args ++ caps)) h r∧(own=true→∀ x,PCall E fid (first ++ (args ++ caps)) (h ++ x) r))∧K r h
 | _=>False
theorem EF (E:Env) (fid:FuncId) (args caps:List AV) (h:Hp) (K:AV→Hp→Prop):ABR E false (.fn (.func fid) [] caps) args h K = ∃ r,PCall E fid (args ++ caps) h r∧K r h:=by
 simp [ABR]
theorem AKK (E:Env) (fid:FuncId) (args caps:List AV) (h:Hp) (K:AV→Hp→Prop):ABR E true (.fn (.func fid) [] caps) args h K = ∃ r,(∀ x,PCall E fid (args ++ caps) (h ++ x) r)∧K r h:=by
 apply propext
 constructor
 ·rintro ⟨r,⟨_,h2⟩,h3⟩; exact ⟨r,h2 rfl,h3⟩
 ·rintro ⟨r,h2,h3⟩; exact ⟨r,⟨by have:=h2 []; rwa [List.append_nil] at this,fun _=>h2⟩,h3⟩
def Y1 (E:Env) (own:Bool) (op:Op) (s:Fr × Hp) (c:Fr→AV→Hp→Prop):Prop:=match op with
 | .call { callee := .value f,args:=as,.. }=>ABR E own (ev E s.1 f) (as.toList.map (ev E s.1)) s.2 (c s.1)
 | .panic _=>False
 | op=>X1 E own op s c
theorem EP (E:Env) (own:Bool) (f:Operand) (as:Array Operand) (ts:Array TypeId) (F:Fr) (h:Hp) (c:Fr→AV→Hp→Prop) :
 Y1 E own (.call { callee := .value f,args:=as,argTypes:=ts }) (F,h) c=ABR E own (ev E F f) (as.toList.map (ev E F)) h (c F):=rfl
theorem AVF (E:Env) (own:Bool) (op:Op) (s:Fr × Hp) (c:Fr→AV→Hp→Prop) (hop:VU op=false) (hpn : ¬ ∃ x,op = .panic x):Y1 E own op s c=X1 E own op s c:=by
 unfold Y1
 split
 ·simp [VU] at hop
 ·exact absurd ⟨_,rfl⟩ hpn
 ·rfl
theorem ABC {op:Op} (h:VU op=true) : ∃ f as ts,op = .call { callee := .value f,args:=as,argTypes:=ts }:=by
 cases op <;> simp only [VU] at h <;> try (cases h; done)
 rename_i c
 obtain ⟨cl,as,ts⟩:=c
 cases cl with
 | value f=>exact ⟨f,as,ts,rfl⟩
 | _=>simp [VU] at h
theorem ASY {E:Env} {own:Bool} {op:Op} {F:Fr} {h h':Hp} {v:AV} (hop:VU op=false):DEx E own op F h v h'=(aop E.P own h (ev E F) op=some (v,h')):=by
 unfold DEx
 split
 ·simp [VU] at hop
 ·rfl
theorem AQE (E:Env) (own:Bool) (op:Op) (s:Fr × Hp) (c:Fr→AV→Hp→Prop):(∃ v h',DEx E own op s.1 s.2 v h'∧c s.1 v h')=Y1 E own op s c:=by
 apply propext
 cases hop:VU op with
 | true =>
   obtain ⟨f,as,ts,rfl⟩:=ABC hop
   obtain ⟨F,h⟩:=s
   rw [EP]
   unfold DEx ABR
   simp only
   generalize ev E F f=fv
   cases fv with
   | fn fn first caps =>
     cases fn with
     | func fid =>
       constructor
       ·rintro ⟨v,h',⟨rfl,h1,h1'⟩,h2⟩; exact ⟨v,⟨h1,h1'⟩,h2⟩
       ·rintro ⟨r,⟨h1,h1'⟩,h2⟩; exact ⟨r,h,⟨rfl,h1,h1'⟩,h2⟩
     | _=>constructor <;> (intro hh; first | exact hh.elim | (obtain ⟨_,_,hh,_⟩:=hh; exact hh.elim))
   | _=>constructor <;> (intro hh; first | exact hh.elim | (obtain ⟨_,_,hh,_⟩:=hh; exact hh.elim))
 | false =>
   obtain ⟨F,h⟩:=s
   rcases Classical.em (∃ x,op = .panic x) with ⟨x,rfl⟩ | hpn
   ·constructor
    ·rintro ⟨v,h',h1,_⟩
     simp [DEx,aop] at h1
    ·intro q; exact q.elim
   rw [AVF _ _ _ _ _ hop hpn,AVG _ _ _ _ _ _ (by
    split
    ·simp [VU] at hop
    ·exact absurd ⟨_,rfl⟩ hpn
    ·rfl)]
   simp only [ASY hop]
   unfold H5
   constructor
   ·rintro ⟨v,h',h1,h2⟩; rw [h1]; exact h2
   ·intro hy
    split at hy
    ·rename_i v h' he; exact ⟨v,h',he,hy⟩
    ·exact hy.elim
def AFI (E:Env) (f:AV) (args:List AV) (h:Hp) (K:AV→Hp→Prop):Prop:=match f with
 | .fn (.func fid) first caps => ∃ r h',ACalls E fid (first ++ (args ++ caps)) h (fun v1 h1=>v1=r∧h1=h')∧K r h'
 | _=>False
theorem Z9 (E:Env) (fid:FuncId) (args caps:List AV) (h:Hp) (K:AV→Hp→Prop):AFI E (.fn (.func fid) [] caps) args h K = ∃ r h',ACalls E fid (args ++ caps) h (fun v1 h1=>v1=r∧h1=h')∧K r h':=rfl
def YE (E:Env) (op:Op) (s:Fr × Hp) (c:Fr→AV→Hp→Prop):Prop:=match op with
 | .call { callee := .value f,args:=as,.. }=>AFI E (ev E s.1 f) (as.toList.map (ev E s.1)) s.2 (c s.1)
 | _=>False
def YO (E:Env) (eff own:Bool) (op:Op) (s:Fr × Hp) (c:Fr→AV→Hp→Prop):Prop:=match eff with
 | false=>Y1 E own op s c
 | true=>YE E op s c
theorem FD (E:Env) (own:Bool) (op:Op) (s:Fr × Hp) (c:Fr→AV→Hp→Prop):YO E false own op s c=Y1 E own op s c:=rfl
theorem ADF (E:Env) (own:Bool) (f:Operand) (as:Array Operand) (ts:Array TypeId) (F:Fr) (h:Hp) (c:Fr→AV→Hp→Prop) :
 YO E true own (.call { callee := .value f,args:=as,argTypes:=ts }) (F,h) c=AFI E (ev E F f) (as.toList.map (ev E F)) h (c F):=rfl
theorem ANW {E:Env} {op:Op} {F:Fr} {h h':Hp} {v:AV} (hop:VU op=false) : ¬ ECall E op F h v h':=by
 intro hh
 unfold ECall at hh
 split at hh
 ·simp [VU] at hop
 ·exact hh
theorem AVE {E:Env} {op:Op} {s:Fr × Hp} {c:Fr→AV→Hp→Prop} (hop:VU op=false) : ¬ YE E op s c:=by
 intro hh
 unfold YE at hh
 split at hh
 ·simp [VU] at hop
 ·exact hh
theorem AQD (E:Env) (op:Op) (s:Fr × Hp) (c:Fr→AV→Hp→Prop):(∃ v h',ECall E op s.1 s.2 v h'∧c s.1 v h')=YE E op s c:=by
 apply propext
 cases hop:VU op with
 | true =>
   obtain ⟨f,as,ts,rfl⟩:=ABC hop
   obtain ⟨F,h⟩:=s
   show (∃ v h',ECall E _ F h v h'∧c F v h')↔AFI E (ev E F f) (as.toList.map (ev E F)) h (c F)
   unfold ECall AFI
   simp only
   generalize ev E F f=fv
   cases fv with
   | fn fn first caps =>
     cases fn with
     | func fid=>exact Iff.rfl
     | _=>constructor <;> (intro hh; first | exact hh.elim | (obtain ⟨_,_,hh,_⟩:=hh; exact hh.elim))
   | _=>constructor <;> (intro hh; first | exact hh.elim | (obtain ⟨_,_,hh,_⟩:=hh; exact hh.elim))
 | false =>
   constructor
   ·rintro ⟨_,_,hh,_⟩; exact (ANW hop hh).elim
   ·intro hh; exact (AVE hop hh).elim
theorem AQ6 {E:Env} {md:Nat→Bool} {d:Option Tmp} {op:Op} (t:TypeId) (p:String) (e:Array Edge) (g:Option (Nat × Bool)) (s:Fr × Hp) (c:Fr→AV→Hp→Prop) :
  YO E (md (d.getD 0+1000000)) (md (d.getD 0)) op s c = ∃ v h',DExO E md ⟨d,op,t,p,e,g⟩ s.1 s.2 v h'∧c s.1 v h':=by
 unfold YO DExO
 simp only
 generalize md (d.getD 0+1000000)=q
 cases q with
 | false=>exact (AQE E (md (d.getD 0)) op s c).symm
 | true=>exact (AQD E op s c).symm
def DD (E:Env) (md:Nat→Bool) (ops:List Oper) (l:List Oper) (F:Fr) (h:Hp) (K:Fr→Hp→Prop):Prop:=D E md (ops.map (·.dst)) l F h K
def AIU (E:Env) (md:Nat→Bool) (ops:List Oper) (d:Option Tmp) (r:List Oper) (F:Fr) (K:Fr→Hp→Prop):AV→Hp→Prop:=fun v h'=>DD E md ops r (EG F d v) h' K
theorem CZ (E:Env) (md:Nat→Bool) (ops:List Oper) (d:Tmp) (r:List Oper) (F:Fr) (K:Fr→Hp→Prop) (v:AV) (h:Hp):AIU E md ops (some d) r F K v h=DD E md ops r (upd F d v) h K:=rfl
theorem GL (E:Env) (md:Nat→Bool) (ops:List Oper) (r:List Oper) (F:Fr) (K:Fr→Hp→Prop) (v:AV) (h:Hp):AIU E md ops none r F K v h=DD E md ops r F h K:=rfl
def dc (E:Env) (md:Nat→Bool) (ops:List Oper) (d:Option Tmp) (r:List Oper) (K:Fr→Hp→Prop):Fr→AV→Hp→Prop:=fun F=>AIU E md ops d r F K
theorem DR (E:Env) (md:Nat→Bool) (ops:List Oper) (d:Option Tmp) (r:List Oper) (K:Fr→Hp→Prop) (F:Fr):dc E md ops d r K F=AIU E md ops d r F K:=rfl
theorem D9 (E:Env) (md:Nat→Bool) (ops:List Oper) (F:Fr) (h:Hp) (K:Fr→Hp→Prop):DD E md ops [] F h K=K F h:=rfl
theorem EZ {E:Env} {H:Hint} {i:Nat} {l:List Oper} {F:Fr} {h:Hp} {Q:AEx→Fr→Hp→Prop} (hl:AL5 H.md [] l.toArray=true) (hd:DD E H.md l l F h (Q .normal)):awp E H (.region i l.toArray true) F h Q :=
 (X3 (sep := []) hl (by unfold QH; rw [jZ]; intro o _; cases o.dst <;> rfl) trivial hd).toN
theorem AFO {E:Env} {H:Hint} {n:Nat} {l:List Oper} {F:Fr} {h:Hp} {Q:AEx→Fr→Hp→Prop} (sep:List (Nat × Nat)) (pre:List Nat) (i j:Nat) (post:List Nat) (hl:AGG H.md sep l.toArray pre i j post=true) (hs:NI F sep)
 (hd:DD E H.md l (J4 l pre) F h fun F h=>DD E H.md l (J4 l (i :: j :: post)) F h (Q .normal)∧DD E H.md l (J4 l (j :: i :: post)) F h (Q .normal)):awp E H (.region n l.toArray true) F h Q:=(AKS hl hs hd).toN
theorem DU (E:Env) (md:Nat→Bool) (ops:List Oper) (d:Option Tmp) (op:Op) (t:TypeId) (p:String) (e:Array Edge) (r:List Oper) (F:Fr) (h:Hp) (K:Fr→Hp→Prop) :
  DD E md ops (⟨d,op,t,p,e,none⟩ :: r) F h K=YO E (md (d.getD 0+1000000)) (md (d.getD 0)) op (F,h) (dc E md ops d r K):=by
 rw [AQ6 t p e none]
 simp only [DD,D,J3,true_imp_iff,Bool.true_eq_false,false_imp_iff,and_true]
 rfl
def GD (E:Env) (md:Nat→Bool) (ops:List Oper) (d:Option Tmp) (op:Op) (r:List Oper) (F:Fr) (h:Hp) (K:Fr→Hp→Prop) (want:Bool) (v:AV):Prop :=
 match v with
 | .bool b=>((b == want)=true→YO E (md (d.getD 0+1000000)) (md (d.getD 0)) op (F,h) (dc E md ops d r K))∧((b == want)=false→DD E md ops r (EG F d HY) h K)
 | .tup []=>DD E md ops r (EG F d HY) h K
 | _=>False
theorem AN1 (E:Env) (md:Nat→Bool) (ops:List Oper) (d:Option Tmp) (op:Op) (t:TypeId) (p:String) (e:Array Edge) (j:Nat) (want:Bool) (r:List Oper) (F:Fr) (h:Hp) (K:Fr→Hp→Prop) (g:Tmp) (hg:CO ops j=some g) :
  DD E md ops (⟨d,op,t,p,e,some (j,want)⟩ :: r) F h K=GD E md ops d op r F h K want (F g):=by
 simp only [DD,D,J3,SS,hg,GD,AQ6 t p e (some (j,want))]
 generalize F g=v
 cases v with
 | bool b=>rfl
 | tup vs=>cases vs with
   | nil=>simp
   | cons=>rfl
 | _=>rfl
def GY (E:Env) (md:Nat→Bool) (ops:List Oper) (d:Option Tmp) (op:Op) (r:List Oper) (F:Fr) (h:Hp) (K:Fr→Hp→Prop) (want:Bool) (o:Option Tmp):Prop:=match o with
 | some g=>GD E md ops d op r F h K want (F g)
 | none=>DD E md ops r (EG F d HY) h K
theorem EW (E:Env) (md:Nat→Bool) (ops:List Oper) (d:Option Tmp) (op:Op) (r:List Oper) (F:Fr) (h:Hp) (K:Fr→Hp→Prop) (want:Bool) (g:Tmp):GY E md ops d op r F h K want (some g)=GD E md ops d op r F h K want (F g):=rfl
theorem D7 (E:Env) (md:Nat→Bool) (ops:List Oper) (d:Option Tmp) (op:Op) (t:TypeId) (p:String) (e:Array Edge) (j:Nat) (want:Bool) (r:List Oper) (F:Fr) (h:Hp) (K:Fr→Hp→Prop) :
  DD E md ops (⟨d,op,t,p,e,some (j,want)⟩ :: r) F h K=GY E md ops d op r F h K want (CO ops j):=by
 cases hg:CO ops j with
 | some g=>exact AN1 E md ops d op t p e j want r F h K g hg
 | none=>simp [DD,D,J3,SS,hg,GY]
theorem PM {E:Env} {md:Nat→Bool} {ops:List Oper} {d:Option Tmp} {op:Op} {r:List Oper} {F:Fr} {h:Hp} {K:Fr→Hp→Prop} {want b:Bool} (ht:b=true→GD E md ops d op r F h K want (.bool true)) (hf:b=false→GD E md ops d op r F h K want (.bool false)):GD E md ops d op r F h K want (.bool b):=by
 cases b
 ·exact hf rfl
 ·exact ht rfl
section
variable (E:Env) (md:Nat→Bool) (ops:List Oper) (d:Option Tmp) (op:Op) (r:List Oper) (F:Fr) (h:Hp) (K:Fr→Hp→Prop)
theorem PL:GD E md ops d op r F h K true (.bool true)=YO E (md (d.getD 0+1000000)) (md (d.getD 0)) op (F,h) (dc E md ops d r K):=by simp [GD]
theorem MX:GD E md ops d op r F h K false (.bool false)=YO E (md (d.getD 0+1000000)) (md (d.getD 0)) op (F,h) (dc E md ops d r K):=by simp [GD]
theorem RN:GD E md ops d op r F h K true (.bool false)=DD E md ops r (EG F d HY) h K:=by simp [GD]
theorem PN:GD E md ops d op r F h K false (.bool true)=DD E md ops r (EG F d HY) h K:=by simp [GD]
theorem AHT (want:Bool):GD E md ops d op r F h K want HY=DD E md ops r (EG F d HY) h K:=rfl
theorem ES (own:Bool) (x:Operand) (c:Fr→AV→Hp→Prop):Y1 E own (.move x) (F,h) c=c F (ev E F x) h:=rfl
theorem G9 (own:Bool) (x:Operand) (c:Fr→AV→Hp→Prop):Y1 E own (.assign x) (F,h) c=c F (ev E F x) h:=rfl
variable (own:Bool) (c:Fr→AV→Hp→Prop)
theorem FZ (x a b:Operand):Y1 E own (.pick x a b) (F,h) c=X1 E own (.pick x a b) (F,h) c:=rfl
theorem VG (t:TypeId):Y1 E own (.alloc t) (F,h) c=X1 E own (.alloc t) (F,h) c:=rfl
theorem AA4 (t:TypeId) (x:Operand):Y1 E own (.box t x) (F,h) c=X1 E own (.box t x) (F,h) c:=rfl
theorem NJ (t:TypeId) (ps:Array (Nat × Operand)):Y1 E own (.build t ps) (F,h) c=X1 E own (.build t ps) (F,h) c:=rfl
theorem QS (t:TypeId) (n:Nat) (ps:Array (Nat × Operand)):Y1 E own (.buildSlice t n ps) (F,h) c=X1 E own (.buildSlice t n ps) (F,h) c:=rfl
theorem ED (t:TypeId) (x:Operand):Y1 E own (.load t x) (F,h) c=X1 E own (.load t x) (F,h) c:=rfl
theorem GI (t:TypeId) (x y:Operand):Y1 E own (.store t x y) (F,h) c=X1 E own (.store t x y) (F,h) c:=rfl
theorem IJ (o:BinOp) (t u:TypeId) (x y:Operand):Y1 E own (.binOp o t x y u) (F,h) c=X1 E own (.binOp o t x y u) (F,h) c:=rfl
theorem AQ9 (o:UnOp) (t:TypeId) (x:Operand):Y1 E own (.unOp o t x) (F,h) c=X1 E own (.unOp o t x) (F,h) c:=rfl
theorem AF5 (t u:TypeId) (x:Operand):Y1 E own (.convert t u x) (F,h) c=X1 E own (.convert t u x) (F,h) c:=rfl
theorem YN (fn:Fn) (a b:Array Operand):Y1 E own (.makeFunc fn a b) (F,h) c=X1 E own (.makeFunc fn a b) (F,h) c:=rfl
theorem VF (t:TypeId) (x:Operand) (lo hi mx:Option Operand):Y1 E own (.slice t x lo hi mx) (F,h) c=X1 E own (.slice t x lo hi mx) (F,h) c:=rfl
theorem DK (t:TypeId) (x:Operand) (i:Nat):Y1 E own (.fieldAddr t x i) (F,h) c=X1 E own (.fieldAddr t x i) (F,h) c:=rfl
theorem AHY (t:TypeId) (x:Operand) (i:Nat):Y1 E own (.field t x i) (F,h) c=X1 E own (.field t x i) (F,h) c:=rfl
theorem FI (t:TypeId) (x y:Operand):Y1 E own (.indexAddr t x y) (F,h) c=X1 E own (.indexAddr t x y) (F,h) c:=rfl
theorem AKZ (t:TypeId) (x y:Operand) (b:Bool):Y1 E own (.lookup t x y b) (F,h) c=X1 E own (.lookup t x y b) (F,h) c:=rfl
theorem AB3 (t:TypeId) (x y:Operand):Y1 E own (.index t x y) (F,h) c=X1 E own (.index t x y) (F,h) c:=rfl
theorem QF (x:Operand) (i:Nat):Y1 E own (.extract x i) (F,h) c=X1 E own (.extract x i) (F,h) c:=rfl
theorem OM (b:Builtin) (as:Array Operand) (ts:Array TypeId):Y1 E own (.call { callee := .builtin b,args:=as,argTypes:=ts }) (F,h) c=X1 E own (.call { callee := .builtin b,args:=as,argTypes:=ts }) (F,h) c:=rfl
end
theorem XI {E:Env} {H:Hint} {ds:List (Option Tmp)} {K K':Fr→Hp→Prop} (hk : ∀ F h,K F h→K' F h) : ∀ (l:List Oper) (F:Fr) (h:Hp),W E H ds l F h K→W E H ds l F h K'
 | [],F,h,hw=>hk F h hw
 | o :: r,F,h,hw=>by
   simp only [W] at hw ⊢
   split at hw
   ·exact ⟨fun hc=>VD (fun v h' hv=>XI hk r _ _ hv) (hw.1 hc),fun hc=>XI hk r _ _ (hw.2 hc)⟩
   ·exact hw.elim
theorem ADI {E:Env} {md:Nat→Bool} {ds:List (Option Tmp)} {K K':Fr→Hp→Prop} (hk : ∀ F h,K F h→K' F h) : ∀ (l:List Oper) (F:Fr) (h:Hp),D E md ds l F h K→D E md ds l F h K'
 | [],F,h,hw=>hk F h hw
 | o :: r,F,h,hw=>by
   simp only [D] at hw ⊢
   split at hw
   ·exact ⟨fun hc=>let ⟨v,h',h1,h2⟩:=hw.1 hc; ⟨v,h',h1,ADI hk r _ _ h2⟩,fun hc=>ADI hk r _ _ (hw.2 hc)⟩
   ·exact hw.elim
theorem YT {next next':Fr→Hp→Prop} {Q Q':AEx→Fr→Hp→Prop} (hn : ∀ F h,next F h→next' F h) (hq : ∀ e F h,Q e F h→Q' e F h) : ∀ e F h,VI next Q e F h→VI next' Q' e F h:=by
 intro e F h ht
 cases e with
 | normal=>exact hn F h ht
 | exit i=>exact hq _ F h ht
 | ret=>exact hq _ F h ht
theorem AFP {E:Env} {H:Hint} : ∀ (c:Code) {F:Fr} {h:Hp} {Q Q':AEx→Fr→Hp→Prop},(∀ e F h,Q e F h→Q' e F h)→awp E H c F h Q→awp E H c F h Q':=by
 intro c
 induction c with
 | skip=>intro F h Q Q' hq hw; exact hq _ _ _ hw
 | label l=>intro F h Q Q' hq hw; exact hq _ _ _ hw
 | ret=>intro F h Q Q' hq hw; exact hq _ _ _ hw
 | exit i=>intro F h Q Q' hq hw; exact hq _ _ _ hw
 | seq x y ihx ihy=>intro F h Q Q' hq hw; exact ihx (YT (fun F h hh=>ihy hq hh) hq) hw
 | block id b ih =>
   intro F h Q Q' hq hw
   refine ih (fun e F h hh => ?_) hw
   cases e with
   | normal=>exact hq _ _ _ hh
   | exit i =>
     simp only [O4] at hh ⊢
     split
     ·rename_i hi; rw [if_pos hi] at hh; exact hq _ _ _ hh
     ·rename_i hi; rw [if_neg hi] at hh; exact hq _ _ _ hh
   | ret=>exact hq _ _ _ hh
 | cond c x y ihx ihy =>
   intro F h Q Q' hq hw
   simp only [awp] at hw ⊢
   split at hw
   ·exact ⟨fun hc=>ihx hq (hw.1 hc),fun hc=>ihy hq (hw.2 hc)⟩
   ·exact hw.elim
 | loop b ih =>
   intro F h Q Q' hq hw
   obtain ⟨I,h0,hr⟩:=hw
   exact ⟨I,h0,fun n F h hI=>ih (YT (fun _ _ hh=>hh) hq) (hr n F h hI)⟩
 | region i ops draw =>
   intro F h Q Q' hq hw
   simp only [awp] at hw ⊢
   cases draw with
   | false=>exact XI (hq _) _ _ _ hw
   | true=>exact ABV (fun s=>hq _ s.1 s.2) _ _ _ hw
 | rangeFunc g ps asg body iha ihb =>
   intro F h Q Q' hq hw
   obtain ⟨hX,h0,f,caps,N,xs,I,h1,h2,h3,h4,h5⟩:=hw
   exact ⟨hX,h0,f,caps,N,xs,I,h1,h2,h3,h4,fun h' hI=>hq _ _ _ (h5 h' hI)⟩
 | _=>intro F h Q Q' hq hw; simp only [awp] at hw
def AOZ (N:Fr→Hp→Prop) (R:Fr→Hp→Prop):AEx→Fr→Hp→Prop
 | .normal,F,h=>N F h
 | .ret,F,h=>R F h
 | .exit _,_,_=>False
theorem MN (N R:Fr→Hp→Prop) (F:Fr) (h:Hp):AOZ N R .normal F h=N F h:=rfl
theorem TS {E:Env} {H:Hint} {c:Code} {F:Fr} {h:Hp} {Q:AEx→Fr→Hp→Prop} (N R:Fr→Hp→Prop) (hw:awp E H c F h (AOZ N R)) (hn : ∀ F h,N F h→Q .normal F h) (hr : ∀ F h,R F h→Q .ret F h):awp E H c F h Q :=
 AFP c (fun e F h hh=>by
  cases e with
  | normal=>exact hn F h hh
  | ret=>exact hr F h hh
  | exit i=>exact hh.elim) hw
theorem PO {E:Env} {H:Hint} {ops:List Oper} {d:Option Tmp} {op:Op} {r:List Oper} {F:Fr} {h:Hp} {K:Fr→Hp→Prop} {want:Bool} {v:AV} (K':Fr→Hp→Prop) (hw:G1 E H ops d op r F h K' want v) (hk : ∀ F h,K' F h→K F h):G1 E H ops d op r F h K want v:=by
 unfold G1 at *
 split at hw
 ·exact ⟨fun hc=>VD (fun v h' hv=>XI hk r _ _ hv) (hw.1 hc),fun hc=>XI hk r _ _ (hw.2 hc)⟩
 ·exact XI hk r _ _ hw
 ·exact hw.elim
theorem AN0 {E:Env} {md:Nat→Bool} {ops r:List Oper} {F:Fr} {h:Hp} {K:Fr→Hp→Prop} (K':Fr→Hp→Prop) (hw:DD E md ops r F h K') (hk : ∀ F h,K' F h→K F h):DD E md ops r F h K:=ADI hk r _ _ hw
def lpQ (i:Nat) (N:Fr→Hp→Prop) (R:Fr→Hp→Prop):AEx→Fr→Hp→Prop
 | .normal,_,_=>False
 | .ret,F,h=>R F h
 | .exit j,F,h=>if j=i then N F h else False
theorem N8 (i j:Nat) (N R:Fr→Hp→Prop) (F:Fr) (h:Hp):lpQ i N R (.exit j) F h=if j=i then N F h else False:=rfl
theorem MR (i:Nat) (N R:Fr→Hp→Prop) (F:Fr) (h:Hp):lpQ i N R .ret F h=R F h:=rfl
theorem JC {E:Env} {H:Hint} {c:Code} {F:Fr} {h:Hp} {Q:AEx→Fr→Hp→Prop} (i:Nat) (N R:Fr→Hp→Prop) (hw:awp E H c F h (lpQ i N R)) (hn : ∀ F h,N F h→Q (.exit i) F h) (hr : ∀ F h,R F h→Q .ret F h):awp E H c F h Q :=
 AFP c (fun e F h hh=>by
  cases e with
  | normal=>exact hh.elim
  | ret=>exact hr F h hh
  | exit j =>
    simp only [lpQ] at hh
    split at hh
    ·rename_i e; subst e; exact hn F h hh
    ·exact hh.elim) hw

theorem EU (ρ:Operand→AV):evp ρ [] = []:=rfl
theorem EN (ρ:Operand→AV) (i:Nat) (x:Operand) (r:List (Nat × Operand)):evp ρ ((i,x) :: r)=(i,ρ x) :: evp ρ r:=rfl
theorem TP {o:Option (AV × Hp)} {K:AV→Hp→Prop} {v:AV} {h:Hp} (ho:o=some (v,h)) (hk:K v h):H5 o K:=by rw [ho]; exact hk
theorem AC (n:Nat):Hint.none.md n=false:=rfl
theorem AQ (n:Nat):Hint.none.fz n = []:=rfl
theorem AO (s:Fr × Hp):KR s []=s:=rfl
def hint (md:List Nat) (fz:List (Nat × List Nat)):Hint:=⟨fun n=>md.contains n,fun n=>match fz.find? (fun x=>x.1 == n) with | some x=>x.2 | none => []⟩
section
variable (P:Program) (t:TypeId) (k:IntKind) (a b:Int)
theorem DZ:G6 P t .add (.int k a) (.int k b)=some (.int k (k.wrap (a+b))):=by simp [G6,UG,NH]
theorem JJ:G6 P t .sub (.int k a) (.int k b)=some (.int k (k.wrap (a - b))):=by simp [G6,UG,NH]
theorem AP1:G6 P t .mul (.int k a) (.int k b)=some (.int k (k.wrap (a * b))):=by simp [G6,UG,NH]
theorem AP0 (h:b≠0):G6 P t .quo (.int k a) (.int k b)=some (.int k (k.wrap (a.tdiv b))):=by simp [G6,UG,NH,h]
theorem AC4 (h:b≠0):G6 P t .rem (.int k a) (.int k b)=some (.int k (a.tmod b)):=by simp [G6,UG,NH,h]
theorem DW:G6 P t .eql (.int k a) (.int k b)=some (.bool (a == b)):=by simp [G6,UG,NH]
theorem FU:G6 P t .neq (.int k a) (.int k b)=some (.bool (a != b)):=by simp [G6,UG,NH]
theorem DF:G6 P t .lss (.int k a) (.int k b)=some (.bool (decide (a < b))):=by simp [G6,UG,NH]
theorem KH:G6 P t .leq (.int k a) (.int k b)=some (.bool (decide (a≤b))):=by simp [G6,UG,NH]
theorem E8:G6 P t .gtr (.int k a) (.int k b)=some (.bool (decide (a > b))):=by simp [G6,UG,NH]
theorem FQ:G6 P t .geq (.int k a) (.int k b)=some (.bool (decide (a≥b))):=by simp [G6,UG,NH]
theorem AI2 (k':IntKind) (h : ¬ b < 0):G6 P t .shl (.int k a) (.int k' b)=some (.int k (k.wrap (a * 2 ^ (min b.toNat k.bits)))):=by simp [G6,UG,h]
theorem APZ (k':IntKind) (h : ¬ b < 0):G6 P t .shr (.int k a) (.int k' b)=some (.int k (a.fdiv (2 ^ (min b.toNat k.bits)))):=by simp [G6,UG,h]
theorem KW (s u:ByteArray):G6 P t .eql (.str s) (.str u)=some (.bool (s.toList == u.toList)):=rfl
theorem AAD (s u:ByteArray):G6 P t .neq (.str s) (.str u)=some (.bool (!(s.toList == u.toList))):=rfl
theorem FP (p:Bool):aUn .not (.bool p)=some (.bool (!p)):=rfl
theorem ARN:aUn .neg (.int k a)=some (.int k (k.wrap (0 - a))):=rfl
theorem SL:RI AB1 (.int k a) [.int k b]=some (.int k (max a b)):=by simp [RI,AB1]
theorem U3:RI AB0 (.int k a) [.int k b]=some (.int k (min a b)):=by simp [RI,AB0]
theorem TA {s d:TypeId} {k':IntKind} {ds:TypeDesc} (h1:P.underlying s=some ds) (h2:P.underlying d=some (.int k')):RJ P s d (.int k a)=some (.int k' (k'.wrap a)):=by simp [RJ,h1,h2]
end
theorem wrap_i64 {n:Int} (h0 : -9223372036854775808≤n) (h1:n≤9223372036854775807):IntKind.i64.wrap n=n:=by
 unfold IntKind.wrap IntKind.bits IntKind.signed
 simp
 omega
section
variable {α:Type} {P:Program}
theorem QB {t e:TypeId} (hu:P.underlying t=some (.slice e)):(∀ m k xs,LH P t (.sl m k xs)=some (.int .i64 xs.length))∧∀ b off len,LH P t (.own b off len)=some (.int .i64 len):=by
 constructor <;> intros <;> simp [LH,hu]
theorem AO5 {t:TypeId} (hu:P.underlying t=some .string) (s:ByteArray):LH P t (.str s)=some (.int .i64 s.size):=by simp [LH,hu]
theorem EJ {k:Nat} {h:Hp} {m:SM} {f:α→List AV} {xs:List α} {kk:IntKind} {n:Nat} (hn:n < xs.length):JV k h (.sl m k (xs.map f)) (.int kk (n:Int))=some (.fptr k (xs.map f) n 0):=by
 simp [JV,hn]
theorem KD {k:Nat} {h:Hp} {b off len:Nat} {kk:IntKind} {n:Nat} {xs:List (List AV)} (hb:h[b]? = some (.live k xs)) (hn:n < len):JV k h (.own b off len) (.int kk (n:Int))=some (.ptr b (off+n) 0):=by
 simp [JV,hb,hn]
theorem GR {h:Hp} {t:TypeId} {k n j:Nat} {f:α→List AV} {xs:List α} (hag:J9 P t=some false) (hn:n < xs.length):DI P h t (.fptr k (xs.map f) n j)=(f xs[n])[j]? := by
 simp [DI,rowAt,hn,hag]
theorem EM {h:Hp} {t:TypeId} {k n s:Nat} {f:α→List AV} {xs:List α} (hag:J9 P t=some true) (hs:szO P t=some s) (hl : ∀ x,(f x).length=s) (hn:n < xs.length) :
  DI P h t (.fptr k (xs.map f) n 0)=some (.agg (f xs[n])):=by
 have:=hl xs[n]
 simp [DI,rowAt,hn,hag,hs,this]
 rw [jY (by omega)]
theorem DC {h:Hp} {t:TypeId} {b i j k:Nat} {xs:List (List AV)} {row:List AV} (hag:J9 P t=some false) (hb:h[b]? = some (.live k xs)) (hr:xs[i]? = some row):DI P h t (.ptr b i j)=row[j]? := by
 simp [DI,rowAt,hb,hr,hag]
theorem GV {h:Hp} {t:TypeId} {b i j k s:Nat} {xs:List (List AV)} {row:List AV} (hag:J9 P t=some true) (hs:szO P t=some s) (hb:h[b]? = some (.live k xs)) (hr:xs[i]? = some row) (hl:j+s≤row.length) :
  DI P h t (.ptr b i j)=some (.agg ((row.drop j).take s)):=by
 simp [DI,rowAt,hb,hr,hag,hs,hl]
end
theorem C9 (h:Hp) (x:ABlk):(h ++ [x])[h.length]? = some x:=by simp
theorem AH6 (h:Hp) (x y:ABlk):(h ++ [x]).set h.length y=h ++ [y]:=by simp
theorem CX {h:Hp} {x y:ABlk} {b:Nat} (hb:h[b]? = some y):(h ++ [x])[b]? = some y:=by
 rw [List.getElem?_append_left (CB hb)]; exact hb
theorem AJZ {P:Program} {h:Hp} {t:TypeId} {k s j:Nat} {row:List AV} (hag:J9 P t=some true) (hs:szO P t=some s) (hl:j+s≤row.length):DI P (h ++ [.live k [row]]) t (.ptr h.length 0 j)=some (.agg ((row.drop j).take s)):=by
 simp [DI,rowAt,hag,hs,hl]
theorem AA7 {P:Program} {h:Hp} {t:TypeId} {k j:Nat} {row cs:List AV} {v:AV} (hc:IM v=some cs) (hs:szO P t=some cs.length) (hl:j+cs.length≤row.length) :
  FT P (h ++ [.live k [row]]) t (.ptr h.length 0 j) v=some (h ++ [.live k [splice row j cs]]):=by
 simp [FT,hc,hs,hl]
theorem ASN {h:Hp} {v:AV} {cs:List AV} (hc:IM v=some cs):OE h v=some (.ptr h.length 0 0,h ++ [.live cs.length [cs]]):=by simp [OE,hc]
theorem Q8 {cs:List AV} (hl:cs.all AV.leaf=true):IM (.agg cs)=some cs:=by simp only [IM,hl,if_true]
theorem VE (k:IntKind) (n:Int):IM (.int k n)=some [.int k n]:=rfl
theorem AQ5 (f:Fn) (a b:List AV):IM (.fn f a b)=some [.fn f a b]:=rfl
theorem O0 {n:Nat} (h:n≤9223372036854775807):IntKind.i64.wrap (n:Int)=(n:Int):=wrap_i64 (by omega) (by omega)
theorem wrap_succ {n:Nat} (h:n < 9223372036854775807):IntKind.i64.wrap ((n:Int)+1)=((n+1:Nat):Int):=by rw [wrap_i64 (by omega) (by omega)]; omega
theorem EI (l:List Nat) (f:List (Nat × List Nat)) (n:Nat):(hint l f).md n=l.contains n:=rfl
set_option linter.unusedSimpArgs false in
theorem JP {P:Program} {h:Hp} {t:TypeId} {row:List AV} (hz:MJ P t=some row):JF P h t=some (.ptr h.length 0 0,h ++ [.live row.length [row]]):=by
 unfold MJ at hz
 unfold JF OE
 split at hz
 ·rename_i z hz2; simp only [hz2,hz]
 ·cases hz
theorem APX (h:Hp) (b:ByteArray):OE h (.str b)=some (.ptr h.length 0 0,h ++ [.live 1 [[.str b]]]):=rfl
theorem AHH (h:Hp) (m:SM) (k:Nat) (xs:List (List AV)):OE h (.sl m k xs)=some (.ptr h.length 0 0,h ++ [.live 1 [[.sl m k xs]]]):=rfl
theorem AI0 {h:Hp} {cs:List AV} (hl:cs.all AV.leaf=true):OE h (.agg cs)=some (.ptr h.length 0 0,h ++ [.live cs.length [cs]]):=ASN (Q8 hl)
theorem EE {P:Program} {h:Hp} {t:TypeId} {k j:Nat} {row:List AV} (hag:J9 P t=some false):DI P (h ++ [.live k [row]]) t (.ptr h.length 0 j)=row[j]? := by
 simp [DI,rowAt,hag]
theorem AL2 {P:Program} {h:Hp} {t:TypeId} {k i j:Nat} {xs:List (List AV)} {row:List AV} {v:AV} (hag:J9 P t=some false) (hr:xs[i]? = some row) (hv:row[j]? = some v):DI P h t (.fptr k xs i j)=some v:=by
 simp [DI,rowAt,hag,hr,hv]
theorem JA {P:Program} {h:Hp} {t:TypeId} {b i j k:Nat} {xs:List (List AV)} {row cs:List AV} {v:AV} (hc:IM v=some cs) (hs:szO P t=some cs.length) (hb:h[b]? = some (.live k xs)) (hr:xs[i]? = some row) (hl:j+cs.length≤row.length) :
  FT P h t (.ptr b i j) v=some (h.set b (.live k (xs.set i (splice row j cs)))):=by
 simp [FT,hc,hs,hb,hr,hl]
def ext (h H:Hp):Prop := ∃ x,H=h ++ x
theorem ext.rfl' (h:Hp):ext h h:=⟨[],by simp⟩
theorem ext.app {h H:Hp} (he:ext h H) (x:Hp):ext h (H ++ x):=by obtain ⟨y,rfl⟩:=he; exact ⟨y ++ x,by rw [zS]⟩
theorem ext.set {h H:Hp} (he:ext h H) {b:Nat} (hb:h.length≤b) (y:ABlk):ext h (H.set b y):=by
 obtain ⟨x,rfl⟩:=he
 exact ⟨x.set (b - h.length) y,by rw [List.set_append_right _ _ hb]⟩
theorem ext.trans {a b c:Hp} (h1:ext a b) (h2:ext b c):ext a c:=by obtain ⟨x,rfl⟩:=h1; exact h2.casesOn fun y e=>⟨x ++ y,by rw [e,zS]⟩
theorem ext.le {h H:Hp} (he:ext h H):h.length≤H.length:=by obtain ⟨x,rfl⟩:=he; simp
theorem KQ {h:Hp} {b o:Nat} {x:Option ABlk} {y:ABlk} (ho:h[o]? = x) (hne:o≠b):(h.set b y)[o]? = x:=by rw [jW,if_neg (fun e=>hne e.symm)]; exact ho
theorem G5 {h:Hp} {b:Nat} {x y:ABlk} (hb:h[b]? = some x):(h.set b y)[b]? = some y:=by
 have:=CB hb
 rw [jW,if_pos rfl,if_pos this]
def APP (m:SM) (u n:Nat):SM:=match m with | .nil => .nil | .full=>if u=n then .full else .any | .any => .any
section
variable {P:Program} {t e:TypeId} {k:Nat} (hu:P.underlying t=some (.slice e)) (hs:szO P e=some k)
include hu hs
theorem AOD {h:Hp} {m:SM} {kk:IntKind} {xs:List (List AV)} {l:Nat} (hl:l≤xs.length):J8 P h t (.sl m k xs) (some (.int kk (l:Int))) none none=some (.sl m k (xs.drop l)):=by
 have h1:I9 (some (.int kk (l:Int))) (some 0)=some l:=by simp [I9]
 have h2:I9 none (some xs.length)=some xs.length:=rfl
 simp only [J8,hu,h1,h2,hs,true_and]
 rw [if_pos ⟨hl,Nat.le_refl _⟩,jY (by simp)]
 cases m <;> simp
theorem AQO {h:Hp} {m:SM} {kk:IntKind} {xs:List (List AV)} {u:Nat} (hl:u≤xs.length):J8 P h t (.sl m k xs) none (some (.int kk (u:Int))) none=some (.sl (APP m u xs.length) k (xs.take u)):=by
 have h1:I9 (some (.int kk (u:Int))) (some xs.length)=some u:=by simp [I9]
 have h2:I9 none (some 0)=some 0:=rfl
 simp only [J8,hu,h1,h2,hs,true_and]
 rw [if_pos ⟨Nat.zero_le _,hl⟩]
 cases m <;> simp [APP]
end
section
variable {P:Program} {t e:TypeId} {k b:Nat} (hu:P.underlying t=some (.slice e)) (hs:szO P e=some k) (hz:YM P e=some k) (hb:OB P e=some b)
include hu hs hz hb
theorem ANP {h:Hp} {xs ys:List (List AV)} {x:AV} (hy:JZ h x=some (k,ys)) (hne:ys≠[]) (hr:room (xs.length+ys.length) b) :
  IC P true h t t (.sl .full k xs) x=some (.own h.length 0 (xs.length+ys.length),h ++ [.live k (xs ++ ys)]):=by
 have hl : ¬ ys.length=0:=by simpa using hne
 simp [IC,hu,hs,SC,hy,bump,hz,hb,hr,hl]
theorem AC9 {h:Hp} {k':Nat} {xs ys:List (List AV)} {x:AV} (hy:JZ h x=some (k,ys)) (hne:ys≠[]) (hr:room ys.length b) :
  IC P true h t t (.sl .nil k' xs) x=some (.own h.length 0 ys.length,h ++ [.live k ys]):=by
 have hl : ¬ ys.length=0:=by simpa using hne
 simp [IC,hu,hs,SC,hy,bump,hz,hb,hr,hl]
theorem AC8 {h:Hp} {o off len:Nat} {xs ys:List (List AV)} {x:AV} (hc:JZ h (.own o off len)=some (k,xs)) (hy:JZ h x=some (k,ys)) (hne:ys≠[]) (hr:room (xs.length+ys.length) b) :
  IC P true h t t (.own o off len) x=some (.own h.length 0 (xs.length+ys.length),h.set o .dead ++ [.live k (xs ++ ys)]):=by
 have hl : ¬ ys.length=0:=by simpa using hne
 simp [IC,hu,hs,SC,hy,bump,hz,hb,hr,hl,hc]
omit hz hb in
theorem ANO {h:Hp} {own:Bool} {m m':SM} {k':Nat} {xs:List (List AV)} (hm:m = .nil∨m = .full):IC P own h t t (.sl m k xs) (.sl m' k' [])=some (.sl m k xs,h):=by
 rcases hm with rfl | rfl <;> simp [IC,hu,hs,SC,JZ,bump]
end
theorem NZ (h:Hp) (m:SM) (k:Nat) (xs:List (List AV)):JZ h (.sl m k xs)=some (k,xs):=rfl
theorem TR {h:Hp} {o k off len:Nat} {xs:List (List AV)} (hb:h[o]? = some (.live k xs)) (hl:off+len≤xs.length):JZ h (.own o off len)=some (k,(xs.drop off).take len):=by simp [JZ,hb,hl]
def L6 (P:Program) (t:TypeId) (f off:Nat):Bool:=match P.underlying t with
 | some (.struct fields)=>match fields[f]? with
   | some fl=>fl.offset == off && (match szO P fl.type with
     | some n=>Nat.ble 1 n
     | none=>false)
   | none=>false
 | _=>false
theorem JM {P:Program} {t:TypeId} {f off:Nat} (h:L6 P t f off=true) :
  (∀ b i j,DJ P t (.ptr b i j) f=some (.ptr b i (j+off)))∧(∀ k xs i j,DJ P t (.fptr k xs i j) f=some (.fptr k xs i (j+off))):=by
 unfold L6 at h
 split at h
 case h_2=>cases h
 rename_i fields hu
 split at h
 case h_2=>cases h
 rename_i fl hf
 simp only [jU,beq_iff_eq] at h
 obtain ⟨h1,h2⟩:=h
 split at h2
 case h_2=>cases h2
 rename_i n hs
 have h3:1≤n:=jH h2
 obtain ⟨m,rfl⟩ : ∃ m,n=m+1:=⟨n - 1,by omega⟩
 exact ACN hu hf hs off h1

def Cv (a b:AV):Prop := ∀ (M:Nat→Option Obj) (cv:Value),RepF M a cv→RepF M b cv
def CvR (a b:AV):Prop := ∀ (g:Gh) (cv:Value),Rep g a cv→Rep g b cv
theorem Cv.refl (a:AV):Cv a a:=fun _ _ h=>h
theorem CvR.refl (a:AV):CvR a a:=fun _ _ h=>h
theorem Cv.nil (k k':Nat):Cv (.sl .nil k []) (.sl .nil k' []):=by
 intro M cv h
 cases h with
 | nil=>exact .nil k'
 | empty m k0 a cap h1=>exact absurd rfl h1
 | sl _ _ _ _ _ _ _ _ _ _ h=>exact absurd rfl h
theorem Cv.empty (m:SM) (k k':Nat):Cv (.sl m k []) (.sl m k' []):=by
 intro M cv h
 cases h with
 | nil=>exact .nil k'
 | empty m k0 a cap h1 h2=>exact .empty m k' a cap h1 h2
 | sl _ _ _ _ _ _ _ _ _ _ h=>exact absurd rfl h
theorem Cv.any {m:SM} (hm:m≠.nil) (k:Nat) (xs:List (List AV)):Cv (.sl m k xs) (.sl .any k xs):=by
 intro M cv h
 cases h with
 | nil=>exact absurd rfl hm
 | empty m k0 a cap h1 h2=>exact .empty .any k a cap (by simp) (by simp)
 | sl m k xs cb co c e fz cap cv h1 h2 h3 h4 h5 h6 h7 h8=>exact .sl .any k xs cb co c e fz cap cv h1 (by simp) h3 h4 h5 h6 h7 (by simp)
def CvRow (r r':List AV):Prop:=r'.length=r.length∧∀ (j:Nat) (v v':AV),r[j]? = some v→r'[j]? = some v'→v'.leaf=true∧Cv v v'
theorem Cv.rows {m:SM} {k:Nat} {xs ys:List (List AV)} (hl:ys.length=xs.length) (h : ∀ (i:Nat) (r r':List AV),xs[i]? = some r→ys[i]? = some r'→CvRow r r'):Cv (.sl m k xs) (.sl m k ys):=by
 have row : ∀ (i:Nat) (r':List AV),ys[i]? = some r'→∃ r,xs[i]? = some r∧CvRow r r':=fun i r' hr=>by
  have hi:i < xs.length:=by rw [← hl]; exact CB hr
  exact ⟨xs[i],by simp [hi],h i _ _ (by simp [hi]) hr⟩
 intro M cv hr
 cases hr with
 | nil=>have:ys = []:=List.length_eq_zero_iff.1 hl; subst this; exact .nil k
 | empty m k0 a cap h1 h2=>have:ys = []:=List.length_eq_zero_iff.1 hl; subst this; exact .empty m k a cap h1 h2
 | sl m k xs cb co c e fz cap cv h1 h2 h3 h4 h5 h6 h7 h8 =>
   rw [← hl]
   refine .sl m k ys cb co c e fz cap cv (fun e=>h1 (by subst e; exact List.length_eq_zero_iff.1 hl.symm)) h2 h3 ?_ ?_ ?_ (by omega) (fun e=>by rw [hl]; exact h8 e)
   ·intro i r' hr'
    obtain ⟨r,q1,q2,q3⟩:=row i r' hr'
    refine ⟨by rw [q2]; exact (h4 i r q1).1,fun j v' hv' => ?_⟩
    have hj:j < r.length:=by rw [← q2]; exact CB hv'
    exact (q3 j r[j] v' (by simp [hj]) hv').1
   ·intro i j hi hj; exact h5 i j (by omega) hj
   ·intro i j r' v' hr' hv'
    obtain ⟨r,q1,q2,q3⟩:=row i r' hr'
    have hj:j < r.length:=by rw [← q2]; exact CB hv'
    exact (q3 j r[j] v' (by simp [hj]) hv').2 _ _ (h6 i j r r[j] q1 (by simp [hj]))
theorem Cv.map {α:Type} {m:SM} {k:Nat} {xs:List α} {f f':α→List AV} (h : ∀ x∈xs,CvRow (f x) (f' x)):Cv (.sl m k (xs.map f)) (.sl m k (xs.map f')):=by
 refine Cv.rows (by simp) fun i r r' h1 h2 => ?_
 rw [List.getElem?_map,Option.map_eq_some_iff] at h1 h2
 obtain ⟨x,hx,rfl⟩:=h1
 obtain ⟨x',hx',rfl⟩:=h2
 rw [hx] at hx'; cases hx'
 exact h x (zD hx)
theorem CvRow.refl {r:List AV} (h : ∀ v∈r,v.leaf=true):CvRow r r:=⟨rfl,fun j v v' h1 h2=>by rw [h1] at h2; cases h2; exact ⟨h v (zD h1),Cv.refl v⟩⟩
theorem CvRow.nil:CvRow [] []:=⟨rfl,fun j v v' h=>by simp at h⟩
theorem CvRow.cons {v v':AV} {r r':List AV} (hl:v'.leaf=true) (h:Cv v v') (hr:CvRow r r'):CvRow (v :: r) (v' :: r'):=by
 refine ⟨by simp [hr.1],fun j a a' h1 h2 => ?_⟩
 cases j with
 | zero=>simp at h1 h2; subst h1; subst h2; exact ⟨hl,h⟩
 | succ j=>simp at h1 h2; exact hr.2 j a a' h1 h2
theorem CvR.sl {m m':SM} {k k':Nat} {xs ys:List (List AV)} (h:Cv (.sl m k xs) (.sl m' k' ys)):CvR (.sl m k xs) (.sl m' k' ys):=fun _ _ hr => .fro (h _ _ hr.sl_inv)
def CvRL (r r':List AV):Prop:=r'.length=r.length∧∀ (j:Nat) (v v':AV),r[j]? = some v→r'[j]? = some v'→CvR v v'
theorem CvRL.nil:CvRL [] []:=⟨rfl,fun j v v' h=>by simp at h⟩
theorem CvRL.cons {v v':AV} {r r':List AV} (h:CvR v v') (hr:CvRL r r'):CvRL (v :: r) (v' :: r'):=by
 refine ⟨by simp [hr.1],fun j a a' h1 h2 => ?_⟩
 cases j with
 | zero=>simp at h1 h2; subst h1; subst h2; exact h
 | succ j=>simp at h1 h2; exact hr.2 j a a' h1 h2
theorem CvRL.refl (r:List AV):CvRL r r:=⟨rfl,fun j v v' h1 h2=>by rw [h1] at h2; cases h2; exact CvR.refl v⟩
theorem CvR.agg {r r':List AV} (h:CvRL r r'):CvR (.agg r) (.agg r'):=by
 intro g cv hr
 obtain ⟨vs,rfl,h1,h2⟩:=hr.agg_inv
 refine .agg r' vs (by rw [h1,h.1]) fun i v' c a b => ?_
 have hi:i < r.length:=by rw [← h.1]; exact CB a
 exact h.2 i r[i] v' (by simp [hi]) a g c (h2 i r[i] c (by simp [hi]) b)
theorem CvR.tup {r r':List AV} (h:CvRL r r'):CvR (.tup r) (.tup r'):=by
 intro g cv hr
 obtain ⟨vs,rfl,h1,h2⟩:=hr.tup_inv
 refine .tup r' vs (by rw [h1,h.1]) fun i v' c a b => ?_
 have hi:i < r.length:=by rw [← h.1]; exact CB a
 exact h.2 i r[i] v' (by simp [hi]) a g c (h2 i r[i] c (by simp [hi]) b)
theorem ACalls.args {E:Env} {f:FuncId} {args args':List AV} {h:Hp} {R:AV→Hp→Prop} (hc:ACalls E f args' h R) (ha:CvRL args args'):ACalls E f args h R:=by
 refine ⟨hc.1,fun g w cargs S hr=>hc.2 g w cargs S ⟨by rw [hr.1,ha.1],fun i v' cv h1 h2 => ?_⟩⟩
 have hi:i < args.length:=by rw [← ha.1]; exact CB h1
 exact ha.2 i args[i] v' (by simp [hi]) h1 g cv (hr.2 i args[i] cv (by simp [hi]) h2)
theorem PCall.args {E:Env} {f:FuncId} {args args':List AV} {h:Hp} {r:AV} (hc:PCall E f args' h r) (ha:CvRL args args'):PCall E f args h r:=ACalls.args hc ha
theorem PCall.res {E:Env} {f:FuncId} {args:List AV} {h:Hp} {r r':AV} (hc:PCall E f args h r) (hr:CvR r r'):PCall E f args h r' :=
 ACalls.conv hc fun v h' ⟨e1,e2⟩=>by subst e1; exact ⟨r',⟨rfl,e2⟩,hr⟩
theorem FB (l:List Nat) (n:Nat):(hint l []).fz n = []:=rfl

def nilA (h:Hp) (K:AV→Hp→Prop) (v:AV):Prop:=match v with
 | .ptr b i j=>K (.ptr b i j) h
 | .fptr k xs i j=>K (.fptr k xs i j) h
 | _=>False
theorem EK {E:Env} {F:Fr} {h:Hp} {c:Fr→AV→Hp→Prop} {own:Bool} (x:Operand):X1 E own (.nilCheck x) (F,h) c=nilA h (c F) (ev E F x):=by
 simp only [X1,MW,aop,nilA]
 generalize ev E F x=v
 cases v <;> rfl
theorem F7 {E:Env} {F:Fr} {h:Hp} {c:Fr→AV→Hp→Prop} {own:Bool} (x:Operand):Y1 E own (.nilCheck x) (F,h) c=X1 E own (.nilCheck x) (F,h) c:=rfl
theorem EY (h:Hp) (K:AV→Hp→Prop) (b i j:Nat):nilA h K (.ptr b i j)=K (.ptr b i j) h:=rfl
theorem PCall.of_reads {E:Env} {f:FuncId} {args:List AV} {h:Hp} {r:AV} (hok:XL E.P f)
  (hc : ∀ (g:Gh) (w:World) (cargs:Array Value),SimH E g h w→XJ g args cargs→∃ cv,Rep g r cv∧Calls E.P f cargs w fun e w'=>e = .returned cv∧∃ n,w'=w.drewN n):PCall E f args h r:=by
 refine ⟨hok,fun g w cargs S ha => ?_⟩
 obtain ⟨cv,hr,hcall⟩:=hc g w cargs S.ofNox ha
 refine hcall.mono ?_
 rintro e w' ⟨rfl,n,rfl⟩
 exact .inl ⟨r,cv,g,h,rfl,⟨rfl,rfl⟩,Gh.le.refl g,S.world rfl rfl rfl fun k _=>rfl,hr⟩

def ZA:Option Value→FrameMode
 | none => .returning
 | some v => .panicking [{ v:=v,recovered:=false }]
def QY:Option Value→FrameMode
 | none => .returning
 | some v => .panicking [{ v:=v,recovered:=true }]
theorem AJJ (x:Option Value):settle (QY x) = .returning:=by cases x <;> rfl
def AG1:Option Value→AV
 | none => .nilifc
 | some v=>match v with
   | .iface t u => .ifc t u
   | _ => .junk
def AJ8:Option Value→Value
 | none => .nilIface
 | some v=>v
theorem AER (g:Gh) (x:Option Value):Rep g (AG1 x) (AJ8 x):=by
 cases x with
 | none=>exact .fro .nilifc
 | some v=>cases v <;> first | exact .fro (.ifc _ _) | exact .fro (.junk _)
def AAQ (E:Env) (f:FuncId) (args:List AV) (h:Hp) (x:Option Value) (R:Hp→Prop):Prop :=
 XL E.P f∧∀ (g:Gh) (w:World) (cargs:Array Value),SimH E g h w→XJ g args cargs →
  CallsDIn Fence.wide 0 E.P f cargs (ZA x) w fun e u' w'=>(∃ v,e = .returned v)∧u'=QY x∧∃ g' h',R h'∧g.le g'∧SimH E g' h' w'
def ASR:Value→Hp→Prop:=fun _ h=>h = [.live 1 [[]]]
theorem AR0 {E:Env} {g:Gh} {w:World} (S:SimH E g [.live 1 [[]]] w):False:=by
 obtain ⟨_,_,_,_,_,_,_,_,_,h,_⟩:=S.live 0 1 [[]] rfl
 exact absurd (h 0 [] rfl).1 (by decide)
theorem SimH.wx {E:Env} {g:Gh} {h:Hp} {w:World} (S:SimH E g h w) (X:Value→Hp→Prop):SimH (E.wx X) g h w:=⟨S.os,S.tape,S.output,S.fro,S.lo,S.live,S.obj,S.inj,S.fresh,S.glob⟩
theorem SimH.ofWx {E:Env} {g:Gh} {h:Hp} {w:World} {X:Value→Hp→Prop} (S:SimH (E.wx X) g h w):SimH E g h w:=⟨S.os,S.tape,S.output,S.fro,S.lo,S.live,S.obj,S.inj,S.fresh,S.glob⟩
theorem AD4 (P:Program) (ρ:Operand→Value) (d:Option Tmp) (ty:TypeId) (p:String) (e:Array Edge) (w:World) :
  (execOp ρ { dst:=d,op := .call { callee := .builtin .recover,args := #[],argTypes := #[] },type:=ty,pos:=p,after:=e,guard:=none }).run P w = .ok .recover w:=by
 rfl
theorem ATQ {F:Fence} {n:Nat} {P:Program} {o1 o2:Oper} {Q:Exit→Act→List Frame→World→Prop} {a:Act} {cs cs1:List Frame} {w:World} {u v:Value} (hF : ∀ f,F.fn f) (g1:o1.guard=none) (g2:o2.guard=none)
  (hr1:(execOp a.eval o1).run P w = .ok .recover w) (hrec:recoverD cs=none∧u = .nilIface∧cs1=cs∨recoverD cs=some (u,cs1)) (hr2:(execOp (a.put o1.dst u).eval o2).run P w = .ok (.value v) w)
  (hq:Q .normal ((a.put o1.dst u).put o2.dst v) cs1 w):wpOpsSIn F n P #[o1,o2] Q [0,1] a cs w:=by
 rcases hrec with ⟨h1,rfl,rfl⟩ | h1
 ·simp [wpOpsSIn,Region.wanted,g1,g2,hr1,h1,hr2,hq,hF]
 ·simp [wpOpsSIn,Region.wanted,g1,g2,hr1,h1,hr2,hq,hF]
theorem AKI {E:Env} {H:Hint} {f:FuncId} {fn:Func} {i:Nat} {d0 d1:Tmp} {t0 t1:TypeId} {p0 p1:String} {e0 e1:Array Edge} {rest:Code} {args:List AV} {h:Hp} {x:Option Value} {R:Hp→Prop}
  (hm:E.P.follows .mixedOrders=true) (hf:E.P.funcs[f]? = some fn)
  (hb:fn.body=some ((Code.region i #[{ dst:=some d0,op := .call { callee := .builtin .recover,args := #[],argTypes := #[] },type:=t0,pos:=p0,after:=e0,guard:=none },
   { dst:=some d1,op := .assign (.tmp d0),type:=t1,pos:=p1,after:=e1,guard:=none }] false).seq rest))
  (hname:(fn.name == "runtime.NumGoroutine")=false) (hok:PE fn.ntmps rest=true) (hd0:d0 < fn.ntmps) (hd1:d1 < fn.ntmps) (hres:fn.results = #[]) (hn:args.length≤fn.ntmps)
  (hw:awp (E.wx ASR) H rest (upd (upd (KG args) d0 (AG1 x)) d1 (AG1 x)) h (fun e _ h'=>(match e with | .exit _=>False | _=>True)∧R h')):AAQ E f args h x R:=by
 refine ⟨⟨fn,hf,by simp [hb],hname⟩,fun g w cargs S ha => ?_⟩
 refine callsDIn_of_wpSIn hf hb trivial fun c0 cs hc0 => ?_
 have s0:Sim (E.wx ASR) fn.ntmps (g.reB g.M) (KG args) h { tmps:=cargs ++ Array.replicate (fn.ntmps - cargs.size) undef,defers := [] } w:=by
  refine ⟨(S.wx _).reB g.M,.nil,.inl rfl,fun _ _ h=>h,by simp [ha.1]; omega,fun i => ?_⟩
  rw [SX]
  simp only [Array.getD_eq_getD_getElem?,Array.getElem?_append]
  split
  ·rename_i hi
   have h1:i < args.length:=by rw [← ha.1]; exact hi
   rw [jV h1]
   have:=ha.2 i args[i] cargs[i] (by simp [h1]) (by simp [hi])
   simpa [hi] using this.reB g.M
  ·rename_i hi
   have h1:args.length≤i:=by rw [← ha.1]; omega
   rw [List.getElem?_eq_none h1,Array.getElem?_replicate]
   have h2:(if i - cargs.size < fn.ntmps - cargs.size then some undef else none).getD undef=undef:=by split <;> rfl
   simp only [Option.getD_none]
   rw [h2]
   exact Rep.undef _
 generalize ({ tmps:=cargs ++ Array.replicate (fn.ntmps - cargs.size) undef,defers := [] }:Act)=a0 at s0
 have s1:=(s0.put (d:=some d0) (fun y hy=>by cases hy; exact hd0) (Gh.le.refl _) s0.simH (AER _ x)).put (d:=some d1) (fun y hy=>by cases hy; exact hd1) (Gh.le.refl _) s0.simH (AER _ x)
 have key : ∀ cs1,cs1 = { c0 with mode:=QY x } :: cs→Code.wpSIn Fence.wide 0 E.P rest (bodyPostS E.P fn c0 cs fun e u' w'=>(∃ v,e = .returned v)∧u'=QY x∧∃ g' h',R h'∧g.le g'∧SimH E g' h' w') ((a0.put (some d0) (AJ8 x)).put (some d1) (AJ8 x)) cs1 w:=by
  intro cs1 hcs
  refine wpSIn_of_wpIn rfl (wpIn_mono (ABT (E:=E.wx ASR) (ρ:=none) hm rest _ _ _ (g.reB g.M) _ w hw hok (.inl rfl) s1) ?_)
  rintro e a' w' (⟨x',g',F',h',rfl,⟨hx,hR⟩,hg,s'⟩ | ⟨u,g',h',rfl,hx,_,S',_⟩)
  rotate_left
  ·have hb:h' = [.live 1 [[]]]:=hx
   subst hb
   exact (AR0 S').elim
  have hdf:a'.defers = []:=s'.dx.elim id fun q=>(q undef _ rfl).elim
  have fin:a'.defers = []∧∃ u',cs1 = { c0 with mode:=u' } :: cs∧∃ v,(results fn a'.tmps).run E.P w' = .ok v w'∧((∃ v',Ending.returned v = .returned v')∧u'=QY x∧∃ g' h',R h'∧g.le g'∧SimH E g' h' w'):=by
   refine ⟨hdf,_,hcs,undef,?_,⟨_,rfl⟩,rfl,g'.reB g.B,h',hR,⟨hg.M,hg.μ,hg.os,hg.tape,hg.output,rfl⟩,s'.simH.ofWx.reB g.B⟩
   simp [results,hres]; rfl
  cases x' with
  | normal=>exact fin
  | ret=>exact fin
  | exit id=>exact hx.elim
 refine wpSIn_seq (wpSIn_region ?_)
 show wpOpsSIn _ _ _ _ _ [0,1] _ _ _
 have hev : ∀ v,(a0.put (some d0) v).eval (.tmp d0)=v:=fun v=>by
  have:d0 < a0.tmps.size:=by rw [s0.size]; exact hd0
  simp [Act.eval,Act.put,this]
 refine ATQ (u:=AJ8 x) (cs1 := { c0 with mode:=QY x } :: cs) (v:=AJ8 x) (fun _=>trivial) rfl rfl (AD4 ..) ?_ (by simp only [execOp,Sem.run_pure,hev]) (key _ rfl)
 cases x with
 | none=>exact .inl ⟨by simp [recoverD,hc0,ZA],rfl,by rw [show QY none=c0.mode from hc0.symm]⟩
 | some v=>exact .inr (by simp [recoverD,hc0,ZA,QY,AJ8])
theorem ATM {F:Fence} {n:Nat} {P:Program} {i:Nat} {o:Oper} {Q:Exit→Act→World→Prop} {a:Act} {w:World} (g:o.guard=none) (h:o.wpIn F n P a w (fun a w=>Q .normal a w) Q):(Code.region i #[o] false).wpIn F n P Q a w:=by
 refine wpIn_region_list ?_
 show wpListIn _ _ _ _ _ [o] _ _
 unfold wpListIn
 rw [if_pos (by simp [Region.wanted,g])]
 exact h
theorem ATL {F:Fence} {n:Nat} {P:Program} {i:Nat} {o p:Oper} {Q:Exit→Act→World→Prop} {a:Act} {w:World} (g:o.guard=none) (g':p.guard=none) (h:o.wpIn F n P a w (fun a w=>p.wpIn F n P a w (fun a w=>Q .normal a w) Q) Q) :
  (Code.region i #[o,p] false).wpIn F n P Q a w:=by
 refine wpIn_region_list ?_
 show wpListIn _ _ _ _ _ [o,p] _ _
 have h0:wpListIn F n P #[o,p] Q [p]=fun a w=>p.wpIn F n P a w (fun a w=>Q .normal a w) Q:=by
  funext a w
  unfold wpListIn
  rw [if_pos (by simp [Region.wanted,g'])]
  rfl
 unfold wpListIn
 rw [if_pos (by simp [Region.wanted,g]),h0]
 exact h
theorem YQ {P:Program} {o:Oper} {a:Act} {w w':World} {v:Value} {next:Act→World→Prop} {Q:Exit→Act→World→Prop} (hd : ∀ c,o.op≠.defer c) (hr:(execOp a.eval o).run P w = .ok (.value v) w') (h:next (a.put o.dst v) w'):o.wpIn Fence.wide 0 P a w next Q:=by
 refine ⟨fun _ _=>trivial,?_⟩
 rw [Oper.semAt_eq _ _ _ hd,hr]
 exact h
theorem AHI {E:Env} {X:Value→Hp→Prop} {f:FuncId} {fn:Func} {c k d4 d5:Tmp} {T:TypeId} {fd:FuncId} {z:Value} {i0 i1 i2 i3:Nat} {o0 o1 o2 o3 o4 o5:Oper} {fid:FuncId} {first caps:List AV} {h:Hp} {blk:ABlk} {R1:Hp→Prop} {R:AV→Hp→Prop}
  (hf:E.P.funcs[f]? = some fn) (hb:fn.body=some ((Code.region i0 #[o0] false).seq ((Code.region i1 #[o1,o2] false).seq ((Code.region i2 #[o3,o4] false).seq ((Code.region i3 #[o5] false).seq .ret)))))
  (hname:(fn.name == "runtime.NumGoroutine")=false) (hnt:fn.ntmps=6∧c=2∧k=3∧d4=4∧d5=5) (hres:fn.results = #[.cell c T])
  (e0:o0.op = .alloc T∧o0.dst=some c∧o0.guard=none) (e1:o1.op = .makeFunc (.func fd) #[] #[.tmp c]∧o1.dst=some k∧o1.guard=none)
  (e2:o2.op = .defer { callee := .value (.tmp k),args := #[],argTypes := #[] }∧o2.dst=none∧o2.guard=none) (e3:o3.op = .move (.tmp 0)∧o3.dst=some d4∧o3.guard=none)
  (e4:o4.op = .call { callee := .value (.tmp d4),args := #[],argTypes := #[] }∧o4.dst=some d5∧o4.guard=none) (e5:o5.op = .store T (.tmp c) (.const z)∧o5.dst=none∧o5.guard=none)
  (hal:JF E.P h T=some (.ptr h.length 0 0,h ++ [blk]))
  (hdo:ACalls (E.wx X) fid (first ++ caps) (h ++ [blk]) fun _ h'=>R1 h')
  (h1 : ∀ h',R1 h'→∃ h2,FT E.P h' T (.ptr h.length 0 0) (PI z)=some h2∧AAQ E fd [.ptr h.length 0 0] h2 none fun h3 => ∃ r,DI E.P h3 T (.ptr h.length 0 0)=some r∧R r h3)
  (h2 : ∀ u h',X u h'→AAQ E fd [.ptr h.length 0 0] h' (some u) fun h3 => ∃ r,DI E.P h3 T (.ptr h.length 0 0)=some r∧R r h3) :
  ACalls E f [.fn (.func fid) first caps] h R:=by
 obtain ⟨hnt,rfl,rfl,rfl,rfl⟩:=hnt
 refine ⟨⟨fn,hf,by simp [hb],hname⟩,fun g w cargs S ha=>callsIn_wide.1 (callsIn_of_wp_defers (n:=0) hf hb trivial ?_)⟩
 obtain ⟨hsz,hargs⟩:=ha
 obtain ⟨cl⟩:=cargs
 match cl,hsz with
 | [fv],_ =>
 have hfv:=hargs 0 _ fv rfl rfl
 obtain ⟨first',caps',rfl,q1,q2,q3,q4⟩:=hfv.fn_inv
 rw [hnt]
 have ht0:(#[Value.func (.func fid) first' caps']:Array Value) ++ Array.replicate (6 - (#[Value.func (.func fid) first' caps']:Array Value).size) undef = #[.func (.func fid) first' caps',undef,undef,undef,undef,undef]:=rfl
 show Code.wpIn _ _ _ _ _ ({ tmps := #[Value.func (.func fid) first' caps'] ++ Array.replicate (6 - (#[Value.func (.func fid) first' caps']:Array Value).size) undef,defers := [] }:Act) _
 rw [ht0]
 -- the cell
 obtain ⟨nx,cv,w1,g1,r1,r2,r3,r4,S1⟩:=ABU (E:=E) (own:=false) (o:=o0) (h':=h ++ [blk]) (v := .ptr h.length 0 0) (ρ:=fun _ => .junk) (ρ':=(Act.mk #[Value.func (.func fid) first' caps',undef,undef,undef,undef,undef] []).eval) S (fun _ => .junk _ _) (by rw [e0.1]; exact hal)
 obtain ⟨l,hl,rfl⟩:=r3.ptr_inv
 have r2:nx = .value (.pointer (some ⟨l.cb,l.co+0 * l.k+0,none⟩)):=by
  rcases r2 with r2 | ⟨_,r2⟩
  ·exact r2
  ·cases r2
 subst r2
 generalize hp:Value.pointer (some ⟨l.cb,l.co+0 * l.k+0,none⟩)=pv at r1 r3
 generalize hF:Value.func (.func fid) first' caps'=F at r1
 have p0:(Act.mk #[F,undef,undef,undef,undef,undef] []).put (some 2) pv=Act.mk #[F,undef,pv,undef,undef,undef] []:=rfl
 refine wpIn_seq (ATM e0.2.2 (YQ (v:=pv) (w':=w1) (fun c h=>by rw [e0.1] at h; cases h) r1 ?_))
 rw [e0.2.1,p0]
 show Code.wpIn _ _ _ _ _ _ _
 -- the function is made and put off
 have p1:(Act.mk #[F,undef,pv,undef,undef,undef] []).put (some 3) (.func (.func fd) #[] #[pv])=Act.mk #[F,undef,pv,.func (.func fd) #[] #[pv],undef,undef] []:=rfl
 have x1:(execOp (Act.mk #[F,undef,pv,undef,undef,undef] []).eval o1).run E.P w1 = .ok (.value (.func (.func fd) #[] #[pv])) w1:=by
  unfold execOp
  rw [e1.1]
  simp [Instr.makeFunc,Act.eval]
 refine wpIn_seq (ATL e1.2.2 e2.2.2 (YQ (v := .func (.func fd) #[] #[pv]) (w':=w1) (fun c h=>by rw [e1.1] at h; cases h) x1 ?_))
 rw [e1.2.1,p1]
 have x2:(o2.semAt none (Act.mk #[F,undef,pv,.func (.func fd) #[] #[pv],undef,undef] []).eval).run E.P w1 = .ok (.defer { target := .fn (.func fd) #[pv],args := #[] }) w1:=by
  rw [Oper.semAt_none]
  unfold execOp
  rw [e2.1]
  simp [resolve,Act.eval,Deferred.ofValue]
 refine ⟨fun _ _=>trivial,?_⟩
 show o2.uponIn _ _ _ _ _ _ ((o2.semAt none _).run E.P w1)
 rw [x2,Oper.uponIn_defer,e2.2.1]
 show Code.wpIn _ _ _ _ _ _ _
 -- the call
 have p2:(Act.put { (Act.mk #[F,undef,pv,.func (.func fd) #[] #[pv],undef,undef] []) with defers := { target := .fn (.func fd) #[pv],args := #[] } :: [] } none undef)=Act.mk #[F,undef,pv,.func (.func fd) #[] #[pv],undef,undef] [{ target := .fn (.func fd) #[pv],args := #[] }]:=rfl
 rw [p2]
 generalize hD : [({ target := .fn (.func fd) #[pv],args := #[] }:Deferred)]=D
 have p3:(Act.mk #[F,undef,pv,.func (.func fd) #[] #[pv],undef,undef] D).put (some 4) F=Act.mk #[F,undef,pv,.func (.func fd) #[] #[pv],F,undef] D:=rfl
 have x3:(execOp (Act.mk #[F,undef,pv,.func (.func fd) #[] #[pv],undef,undef] D).eval o3).run E.P w1 = .ok (.value F) w1:=by
  unfold execOp
  rw [e3.1]
  simp [Act.eval]
 refine wpIn_seq (ATL e3.2.2 e4.2.2 (YQ (v:=F) (w':=w1) (fun c h=>by rw [e3.1] at h; cases h) x3 ?_))
 rw [e3.2.1,p3]
 have x4:(execOp (Act.mk #[F,undef,pv,.func (.func fd) #[] #[pv],F,undef] D).eval o4).run E.P w1 = .ok (.enter fid (first' ++ caps')) w1:=by
  unfold execOp
  rw [e4.1]
  have hF':(Act.mk #[F,undef,pv,.func (.func fd) #[] #[pv],F,undef] D).eval (.tmp 4) = .func (.func fid) first' caps':=by rw [hF]; rfl
  simp only [resolve,hF',Deferred.ofValue,Sem.run_bind,Sem.run_pure,Result.andThen_ok,invoke]
  rw [VM (P:=E.P) hdo.1]
  simp
 refine ⟨fun _ _=>trivial,?_⟩
 show o4.uponIn _ _ _ _ _ _ ((o4.semAt none _).run E.P w1)
 rw [Oper.semAt_none,x4,Oper.uponIn_enter]
 refine ⟨fun hn=>Bool.noConfusion hn,callsIn_wide.2 ((hdo.2 g1 w1 _ (S1.wx X) (PU ⟨q1,fun i v cv a b=>(q3 i v cv a b).mono r4⟩ ⟨q2,fun i v cv a b=>(q4 i v cv a b).mono r4⟩)).mono ?_)⟩
 -- what the function put off is called with
 have hargs' : ∀ g2:Gh,g1.le g2→XJ g2 [.ptr h.length 0 0] (#[] ++ #[pv]):=fun g2 hg=>⟨rfl,fun i v cv a b=>by
  rcases i with _ | i <;> simp at a b
  subst a b
  exact r3.mono hg⟩
 have hend : ∀ (x:Option Value) (g2:Gh) (w2:World) (h2:Hp) (tm:Array Value),g1.le g2→SimH E g2 h2 w2→tm.getD 2 undef=pv→AAQ E fd [.ptr h.length 0 0] h2 x (fun h3 => ∃ r,DI E.P h3 T (.ptr h.length 0 0)=some r∧R r h3) →
   LeavesIn Fence.wide 0 E.P fn tm (fun e w'=>(∃ v cv g' h',e = .returned cv∧R v h'∧g.le g'∧SimH E g' h' w'∧Rep g' v cv)∨∃ u g' h',e = .panicked [{ v:=u,recovered:=false }]∧E.X u h'∧g.le g'∧SimH E g' h' w') D (ZA x) w2:=by
  intro x g2 w2 h2 tm hg S2 htm hd
  rw [← hD]
  refine leavesIn_cons (by cases x <;> simp [ZA]) (fun hn=>Bool.noConfusion hn) (f:=fd) (args := #[] ++ #[pv]) ?_ (fun _ _=>trivial) ((hd.2 g2 w2 _ S2 (hargs' g2 hg)).mono ?_)
  ·simp only [invoke]
   rw [VM hd.1]
  ·rintro e u' w' ⟨⟨v,rfl⟩,rfl,g3,h3,⟨r,hl3,hR⟩,hg3,S3⟩
   show LeavesIn _ _ _ _ _ _ [] (settle (QY x)) w'
   rw [AJJ]
   have hpv:Rep g3 (.ptr h.length 0 0) pv:=(r3.mono hg).mono hg3
   have hs:Sim E tm.size (g3.reB fun _=>none) (fun i=>if i=2 then .ptr h.length 0 0 else .junk) h3 { tmps:=tm,defers := [] } w':=by
    refine ⟨S3.reB _,.nil,.inl rfl,fun k o hk=>(by cases hk),rfl,fun i => ?_⟩
    show Rep _ (if i=2 then _ else _) _
    split
    ·rename_i hi
     subst hi
     show Rep _ _ (tm.getD 2 undef)
     rw [htm]
     exact hpv.reB _
    ·exact .junk _ _
   obtain ⟨cv,hcv,hrep⟩:=AAH (fn:=fn) (v:=r) hs (by rw [hres]; simp only [YG,TB,↓reduceIte,hl3])
   exact ⟨cv,hcv,.inl ⟨r,cv,g3,h3,rfl,hR,r4.trans (hg.trans hg3),S3,hrep.reB g3.B⟩⟩
 rintro e w2 (⟨v,cv,g2,h2',rfl,hR1,hg2,S2,hr2⟩ | ⟨u,g2,h2',rfl,hX,hg2,S2⟩)
 ·show Code.wpIn _ _ _ _ _ _ _
  obtain ⟨h3,hst,hd⟩:=h1 h2' hR1
  have p4:(Act.mk #[F,undef,pv,.func (.func fd) #[] #[pv],F,undef] D).put o4.dst cv=Act.mk #[F,undef,pv,.func (.func fd) #[] #[pv],F,cv] D:=by rw [e4.2.1]; rfl
  rw [p4]
  have hpv2:Rep g2 (.ptr h.length 0 0) pv:=r3.mono hg2
  obtain ⟨w3,hst2,S3⟩:=XO (E:=E) S2.ofWx hst hpv2 (.fro (LV _ z))
  refine wpIn_seq (ATM e5.2.2 ⟨fun _ _=>trivial,?_⟩)
  have x5:(execOp (Act.mk #[F,undef,pv,.func (.func fd) #[] #[pv],F,cv] D).eval o5).run E.P w2 = .ok .skip w3:=by
   have hev:(Act.mk #[F,undef,pv,.func (.func fd) #[] #[pv],F,cv] D).eval (.tmp 2)=pv:=rfl
   have hev2:(Act.mk #[F,undef,pv,.func (.func fd) #[] #[pv],F,cv] D).eval (.const z)=z:=rfl
   unfold execOp
   rw [e5.1]
   simp only [hev,hev2]
   simp [hst2]
  show o5.uponIn _ _ _ _ _ _ ((o5.semAt none _).run E.P w2)
  rw [Oper.semAt_none,x5,Oper.uponIn_skip,e5.2.1]
  show Code.wpIn _ _ _ _ _ _ _
  refine wpIn_ret ?_
  exact hend none g2 w3 h3 _ hg2 S3 rfl hd
 ·show LeavesIn _ _ _ _ _ _ _ _ _
  exact hend (some u) g2 w2 h2' _ hg2 S2.ofWx rfl (h2 u h2' hX)

inductive PT where
 | done
 | ones (pre:List Nat) (t:PT)
 | alt (i:Nat) (t r:PT)
 | non
def PT.heads:PT→List Nat
 | .alt i _ r=>i :: r.heads
 | _ => []
def V9 (hs L:List Nat):Nat→List Oper→Bool
 | _,[]=>true
 | k,z :: l=>(L.contains k || hs.contains k || z.after.toList.any (fun e=>Region.binds .any e && !L.contains e.on)) && V9 hs L (k+1) l
theorem V8 {hs L:List Nat} : ∀ {l:List Oper} {k:Nat},V9 hs L k l=true→∀ (n:Nat) (z:Oper),l[n]? = some z→L.contains (k+n)=true∨k+n∈hs∨∃ e∈z.after,Region.binds .any e=true∧L.contains e.on=false
 | [],_,_,n,z,h=>by simp at h
 | y :: l,k,ho,n,z,hz=>by
   unfold V9 at ho
   rw [jU] at ho
   cases n with
   | zero =>
     simp at hz; subst hz
     have h1:=ho.1
     simp only [Bool.or_eq_true,jU,List.any_eq_true,Bool.not_eq_true'] at h1
     rcases h1 with (h1 | h1) | ⟨e,h1,h2⟩
     ·exact .inl h1
     ·exact .inr (.inl (by simpa [List.contains_eq_mem] using h1))
     ·exact .inr (.inr ⟨e,by simpa using h1,h2.1,h2.2⟩)
   | succ n =>
     have:=V8 ho.2 n z (by simpa using hz)
     rw [show k+1+n=k+(n+1) by omega] at this
     exact this
theorem AFC {ops:Array Oper} {hs L:List Nat} {listed:Array Bool} {k:Nat} (hL:LS ops L listed) (ho:V9 hs L 0 ops.toList=true) (hk:k∈Region.ready .any ops listed):k∈hs:=by
 obtain ⟨h1,z,h2,h3⟩:=mem_ready.1 hk
 have hlt:k < ops.size:=(Array.getElem?_eq_some_iff.1 h2).1
 rw [hL.getD hlt] at h1
 rcases V8 ho k z (by simpa using h2) with h4 | h4 | ⟨e,h5,h6,h7⟩
 ·rw [Nat.zero_add,h1] at h4; cases h4
 ·simpa using h4
 ·have:=h3 e h5 h6
  rw [hL.getF,h7] at this; cases this
def AG2 (ops:Array Oper) (i:Nat) (L:List Nat):Bool:=match ops.toList[i]? with
 | none=>false
 | some x => !L.contains i && OJ x L
theorem ACI {ops:Array Oper} {i:Nat} {L:List Nat} {listed:Array Bool} (hL:LS ops L listed) (h:AG2 ops i L=true):i∈Region.ready .any ops listed:=by
 unfold AG2 at h
 cases hx:ops.toList[i]? with
 | none=>rw [hx] at h; cases h
 | some x =>
   rw [hx] at h
   simp only [jU,Bool.not_eq_true'] at h
   exact VN hL (by simpa using hx) h.1 h.2
mutual
def AAV (md:Nat→Bool) (sep:List (Nat × Nat)) (ops:Array Oper):PT→Nat→List Nat→Bool
 | .done,n,L=>Nat.beq n 0 && allIn L 0 ops.toList
 | .ones pre t,n,L=>Nat.ble pre.length n && WJ md sep ops pre L && AAV md sep ops t (n - pre.length) (pre.reverse ++ L)
 | .alt i t r,n,L=>Nat.ble 1 n && AG2 ops i L && V9 (i :: r.heads) L 0 ops.toList && AAV md sep ops t (n - 1) (i :: L) && AJT md sep ops r (n - 1) L
 | .non,_,_=>false
def AJT (md:Nat→Bool) (sep:List (Nat × Nat)) (ops:Array Oper):PT→Nat→List Nat→Bool
 | .alt i t r,n,L=>AAV md sep ops t n (i :: L) && AJT md sep ops r n L
 | .non,_,_=>true
 | _,_,_=>false
end
def DT (E:Env) (md:Nat→Bool) (ops:List Oper) (K:Fr→Hp→Prop):PT→Fr→Hp→Prop
 | .done,F,h=>K F h
 | .ones pre t,F,h=>DD E md ops (J4 ops pre) F h (fun F h=>DT E md ops K t F h)
 | .alt i t r,F,h=>DD E md ops (J4 ops [i]) F h (fun F h=>DT E md ops K t F h)∧DT E md ops K r F h
 | .non,_,_=>True
section
variable {E:Env} {md:Nat→Bool} {sep:List (Nat × Nat)} {ops:Array Oper} {K:Fr→Hp→Prop}
def AQ7 (E:Env) (md:Nat→Bool) (sep:List (Nat × Nat)) (ops:Array Oper) (K:Fr→Hp→Prop) (t:PT):Prop :=
 (∀ n L listed F h,AAV md sep ops t n L=true→LS ops L listed→NI F sep→DT E md ops.toList K t F h→anyA E md ops (fun s=>K s.1 s.2) n listed (F,h)) ∧
 (∀ n L listed F h,AJT md sep ops t n L=true→LS ops L listed→NI F sep→DT E md ops.toList K t F h→∀ k∈t.heads,k∈Region.ready .any ops listed→∃ o s',ops[k]? = some o∧AStep E md (ops.toList.map (·.dst)) o (F,h) s'∧anyA E md ops (fun s=>K s.1 s.2) n (listed.setIfInBounds k true) s')
theorem ADS (hok:QH sep ops.toList=true) {i:Nat} {t:PT} {n:Nat} {L:List Nat} {listed:Array Bool} {F:Fr} {h:Hp} (ht:AQ7 E md sep ops K t) (h1:AAV md sep ops t n (i :: L)=true) (hL:LS ops L listed) (hs:NI F sep)
  (hd:DD E md ops.toList (J4 ops.toList [i]) F h (fun F h=>DT E md ops.toList K t F h)) (hk:i∈Region.ready .any ops listed) : ∃ o s',ops[i]? = some o∧AStep E md (ops.toList.map (·.dst)) o (F,h) s'∧anyA E md ops (fun s=>K s.1 s.2) n (listed.setIfInBounds i true) s':=by
 obtain ⟨_,z,h2,_⟩:=mem_ready.1 hk
 have hlt:i < ops.size:=(Array.getElem?_eq_some_iff.1 h2).1
 have hx:ops.toList[i]? = some z:=by simpa using h2
 have e1:J4 ops.toList [i] = [z]:=by simp only [J4,hx]
 rw [e1] at hd
 obtain ⟨s1,a1,a2⟩:=AAN hd
 exact ⟨z,s1,h2,a1,ht.1 n (i :: L) _ s1.1 s1.2 h1 (hL.next hlt) (OX (s:=(F,h)) hok (TN h2) hs a1) a2⟩
theorem ALB (hok:QH sep ops.toList=true) (hlow:SN ops.toList 0=true) (t:PT):AQ7 E md sep ops K t:=by
 induction t with
 | done =>
   refine ⟨fun n L listed F h ho hL hs hd => ?_,fun n L listed F h ho=>by simp [AJT] at ho⟩
   simp only [AAV,jU] at ho
   obtain rfl:n=0:=Nat.eq_of_beq_eq_true ho.1
   exact ⟨ready_nil hL ho.2,hd⟩
 | ones pre t ih =>
   refine ⟨fun n L listed F h ho hL hs hd => ?_,fun n L listed F h ho=>by simp [AJT] at ho⟩
   simp only [AAV,jU] at ho
   obtain ⟨⟨h1,h2⟩,h3⟩:=ho
   have hn:n - pre.length+pre.length=n:=Nat.sub_add_cancel (jH h1)
   have:=TU (E:=E) (Q:=fun s=>K s.1 s.2) (fuel:=n - pre.length) hok hlow pre L listed F h h2 hL hs hd (fun F' h' l' hL' hs' hK=>ih.1 _ _ l' F' h' h3 hL' hs' hK)
   rw [hn] at this
   exact this
 | alt i t r iht ihr =>
   refine ⟨fun n L listed F h ho hL hs hd => ?_,fun n L listed F h ho hL hs hd k hk hr => ?_⟩
   ·simp only [AAV,jU] at ho
    obtain ⟨⟨⟨⟨h1,h0⟩,h2⟩,h3⟩,h4⟩:=ho
    obtain ⟨n,rfl⟩ : ∃ m,n=m+1:=⟨n - 1,by have:=jH h1; omega⟩
    obtain ⟨d1,d2⟩:=hd
    refine ⟨fun hnil => ?_,fun k hk => ?_⟩
    ·have:=ACI hL h0
     rw [hnil] at this; cases this
    ·rcases zV.1 (AFC hL h2 hk) with rfl | hm
     ·exact ADS hok iht h3 hL hs d1 hk
     ·exact ihr.2 n L listed F h h4 hL hs d2 k hm hk
   ·simp only [AJT,jU] at ho
    obtain ⟨d1,d2⟩:=hd
    rcases zV.1 hk with rfl | hm
    ·exact ADS hok iht ho.1 hL hs d1 hr
    ·exact ihr.2 n L listed F h ho.2 hL hs d2 k hm hr
 | non =>
   refine ⟨fun n L listed F h ho=>by simp [AAV] at ho,fun n L listed F h ho hL hs hd k hk=>by cases hk⟩
end
theorem AFN {E:Env} {H:Hint} {n:Nat} {l:List Oper} {F:Fr} {h:Hp} {Q:AEx→Fr→Hp→Prop} (t:PT) (hl:(SN l.toArray.toList 0 && QH [] l.toArray.toList && AAV H.md [] l.toArray t l.toArray.size [])=true)
  (hd:DT E H.md l (Q .normal) t F h):awp E H (.region n l.toArray true) F h Q:=by
 simp only [jU] at hl
 have hL0:LS l.toArray [] (Array.replicate l.toArray.size false):=⟨by simp,fun k hk=>by simp at hk; simp [hk],fun k hk=>by cases hk⟩
 exact ((ALB (E:=E) (K:=Q .normal) hl.1.2 hl.1.1 t).1 _ _ _ F h hl.2 hL0 trivial hd).toN
def lc (d:Option Tmp) (K:Fr→Hp→Prop):Fr→AV→Hp→Prop:=fun F v h=>K (EG F d v) h
theorem ZG (d:Tmp) (K:Fr→Hp→Prop) (F:Fr) (v:AV) (h:Hp):lc (some d) K F v h=K (upd F d v) h:=rfl
theorem KX {E:Env} {H:Hint} {i:Nat} {l:List Oper} {F:Fr} {h:Hp} {Q:AEx→Fr→Hp→Prop} (n:Nat) (last:Oper) (hl:(AL5 H.md [] (l.take n).toArray && ACF (l.take n) last && Nat.beq l.length (n+1))=true) (hn:l[n]? = some last) (hg:last.guard=none)
  (hd:DD E H.md l (l.take n) F h fun F h=>X1 E (H.md (last.dst.getD 0)) last.op (F,h) (lc last.dst (Q .normal))):awp E H (.region i l.toArray true) F h Q:=by
 simp only [jU] at hl
 obtain ⟨⟨h1,h2⟩,h3⟩:=hl
 have h3:l.length=n+1:=Nat.eq_of_beq_eq_true h3
 have hlt:n < l.length:=by omega
 have hx:l[n]=last:=by rw [jV hlt] at hn; exact Option.some.inj hn
 have e:l.take n ++ [last]=l:=by
  rw [← hx,← List.take_succ_eq_append_getElem hlt,jY (by omega)]
 have hgl:SQ (l.take n) (l.take n).length=true:=by
  unfold ACF at h2
  simp only [jU] at h2
  exact h2.1.2
 have hd':D E H.md ((l.take n).map (·.dst)) (l.take n) F h (fun F h=>ANext E H.md ((l.take n ++ [last]).map (·.dst)) last (F,h) (fun s=>Q .normal s.1 s.2)):=by
  refine AHV (last:=last) hgl _ (fun o ho=>ho) F h ?_
  rw [e]
  refine ADI (fun F h hx => ?_) _ _ _ hd
  exact .inl ⟨by rw [hg]; rfl,hx⟩
 have hA:=X3 (E:=E) (md:=H.md) (sep := []) (ops:=(l.take n).toArray) (K:=fun F h=>ANext E H.md ((l.take n ++ [last]).map (·.dst)) last (F,h) (fun s=>Q .normal s.1 s.2)) (F:=F) (h:=h) h1 (by unfold QH; rw [jZ]; intro o _; cases o.dst <;> rfl) trivial (by simpa using hd')
 have hN:=AKR h2 (l.take n).toArray.size (Array.replicate (l.take n).toArray.size false) (F,h) (by simp) (fun j o _ hj=>by
  rw [Array.getD_eq_getD_getElem?,Array.getElem?_replicate] at hj
  split at hj <;> simp at hj) hA
 have hs:(Array.replicate (l.take n).toArray.size false).push false=Array.replicate l.toArray.size false:=by
  have:(l.take n).toArray.size+1=l.toArray.size:=by simp; omega
  rw [← this,Array.replicate_succ]
 rw [hs,e] at hN
 have hz:(l.take n).toArray.size+1=l.toArray.size:=by simp; omega
 rw [hz] at hN
 exact hN
end Go.Proofs.YtokehnfjjmpanaaGreatDoor.Sm
