/- Part 4 of the proof (Sw, Sc, Sd); no condition. -/
import Derived.Deep.Draws
import Derived.Test.YtfpagfhhhlljjaaGreatDoorYD3
set_option linter.unusedVariables false
namespace Go.Proofs.YtfpagfhhhlljjaaGreatDoor.Sm
open List renaming take_of_length_le→jW,getElem?_append_left→zO,append_assoc→zH,getElem?_set→zG,mem_of_getElem?→qC
open Nat renaming le_refl→jL

theorem FI (ρ:Operand→AV):evp ρ [] = []:=rfl
theorem FQ (ρ:Operand→AV)(i:Nat)(x:Operand)(r:List (Nat × Operand)):evp ρ ((i,x) :: r)=(i,ρ x) :: evp ρ r:=rfl
theorem KQ {o:Option (AV × Hp)}{K:AV→Hp→Prop}{v:AV}{h:Hp}(ho:o=some (v,h))(hk:K v h):J5 o K:=by rw[ho]; exact hk
theorem AO (n:Nat):Hint.none.md n=false:=rfl
theorem AQ (n:Nat):Hint.none.fz n = []:=rfl
theorem AL (s:Fr × Hp):MC s []=s:=rfl
theorem AE1 (s:Fr × Hp)(i:Nat)(r:List Nat):MC s (i :: r)=MC (VQ s i) r:=rfl
def hint (md:List Nat)(fz:List (Nat × List Nat)):Hint:=⟨fun n=>md.contains n,fun n=>match fz.find? (fun x=>x.1 == n) with | some x=>x.2 | none => []⟩
section
variable (P:Program) (t:TypeId) (k:IntKind) (a b:Int)
theorem DC:JY P t .add (.int k a) (.int k b)=some (.int k (k.wrap (a+b))):=by simp [JY,AA0,QA]
theorem JX:JY P t .sub (.int k a) (.int k b)=some (.int k (k.wrap (a - b))):=by simp [JY,AA0,QA]
theorem OJ:JY P t .mul (.int k a) (.int k b)=some (.int k (k.wrap (a * b))):=by simp [JY,AA0,QA]
theorem A1U (h:b≠0):JY P t .quo (.int k a) (.int k b)=some (.int k (k.wrap (a.tdiv b))):=by simp [JY,AA0,QA,h]
theorem ADJ (h:b≠0):JY P t .rem (.int k a) (.int k b)=some (.int k (a.tmod b)):=by simp [JY,AA0,QA,h]
theorem EC:JY P t .eql (.int k a) (.int k b)=some (.bool (a == b)):=by simp [JY,AA0,QA]
theorem EP:JY P t .neq (.int k a) (.int k b)=some (.bool (a != b)):=by simp [JY,AA0,QA]
theorem CW:JY P t .lss (.int k a) (.int k b)=some (.bool (decide (a < b))):=by simp [JY,AA0,QA]
theorem IQ:JY P t .leq (.int k a) (.int k b)=some (.bool (decide (a≤b))):=by simp [JY,AA0,QA]
theorem E8:JY P t .gtr (.int k a) (.int k b)=some (.bool (decide (a > b))):=by simp [JY,AA0,QA]
theorem FZ:JY P t .geq (.int k a) (.int k b)=some (.bool (decide (a≥b))):=by simp [JY,AA0,QA]
theorem LV (s u:ByteArray):JY P t .eql (.str s) (.str u)=some (.bool (s.toList == u.toList)):=rfl
theorem AF0 (s u:ByteArray):JY P t .neq (.str s) (.str u)=some (.bool (!(s.toList == u.toList))):=rfl
theorem AYO (p q:Bool)(hu:P.underlying t=some .bool):JY P t .eql (.bool p) (.bool q)=some (.bool (p == q)):=by simp [JY,ADM,hu]
theorem EX (p:Bool):aUn .not (.bool p)=some (.bool (!p)):=rfl
theorem A3E:aUn .neg (.int k a)=some (.int k (k.wrap (0 - a))):=rfl
theorem AI7:VZ AIK (.int k a) [.int k b]=some (.int k (max a b)):=by simp [VZ,AIK]
theorem AI6:VZ AIJ (.int k a) [.int k b]=some (.int k (min a b)):=by simp [VZ,AIJ]
theorem AAS {s d:TypeId}{k':IntKind}{ds:TypeDesc}(h1:P.underlying s=some ds)(h2:P.underlying d=some (.int k')):XE P s d (.int k a)=some (.int k' (k'.wrap a)):=by simp [XE,h1,h2]
end
theorem wrap_i64 {n:Int}(h0 : -9223372036854775808≤n)(h1:n≤9223372036854775807):IntKind.i64.wrap n=n:=by
 unfold IntKind.wrap IntKind.bits IntKind.signed
 simp
 omega
section
variable {α:Type} {P:Program}
theorem PZ {t e:TypeId}(hu:P.underlying t=some (.slice e)):(∀ m k xs,L9 P t (.sl m k xs)=some (.int .i64 xs.length))∧∀ b off len,L9 P t (.own b off len)=some (.int .i64 len):=by
 constructor <;> intros <;> simp [L9,hu]
theorem A0S {t:TypeId}(hu:P.underlying t=some .string)(s:ByteArray):L9 P t (.str s)=some (.int .i64 s.size):=by simp [L9,hu]
theorem DN {k:Nat}{h:Hp}{m:SM}{f:α→List AV}{xs:List α}{kk:IntKind}{n:Nat}(hn:n < xs.length):J3 k h (.sl m k (xs.map f)) (.int kk (n:Int))=some (.fptr k (xs.map f) n 0):=by
 simp [J3,hn]
theorem A2P {k:Nat}{h:Hp}{m:SM}{xs:List (List AV)}{kk:IntKind}{i:Int}(h0:0≤i)(h1:i < (xs.length:Int)):J3 k h (.sl m k xs) (.int kk i)=some (.fptr k xs i.toNat 0):=by
 simp [J3,h0,h1]
theorem JR {k:Nat}{h:Hp}{b off len:Nat}{kk:IntKind}{n:Nat}{xs:List (List AV)}(hb:h[b]? = some (.live k xs))(hn:n < len):J3 k h (.own b off len) (.int kk (n:Int))=some (.ptr b (off+n) 0):=by
 simp [J3,hb,hn]
theorem AR0 {k:Nat}{h:Hp}{b off len:Nat}{kk:IntKind}{i:Int}{xs:List (List AV)}(hb:h[b]? = some (.live k xs))(h0:0≤i)(h1:i < (len:Int)):J3 k h (.own b off len) (.int kk i)=some (.ptr b (off+i.toNat) 0):=by
 simp [J3,hb,h0,h1]
theorem CY {h:Hp}{t:TypeId}{k n j:Nat}{f:α→List AV}{xs:List α}(hag:LJ P t=some false)(hn:n < xs.length):D8 P h t (.fptr k (xs.map f) n j)=(f xs[n])[j]? := by
 simp [D8,rowAt,hn,hag]
theorem FU {h:Hp}{t:TypeId}{k n s:Nat}{f:α→List AV}{xs:List α}(hag:LJ P t=some true)(hs:szO P t=some s)(hl : ∀ x,(f x).length=s)(hn:n < xs.length) :
  D8 P h t (.fptr k (xs.map f) n 0)=some (.agg (f xs[n])):=by
 have:=hl xs[n]
 simp [D8,rowAt,hn,hag,hs,this]
 rw[jW (by omega)]
theorem DY {h:Hp}{t:TypeId}{b i j k:Nat}{xs:List (List AV)}{row:List AV}(hag:LJ P t=some false)(hb:h[b]? = some (.live k xs))(hr:xs[i]? = some row):D8 P h t (.ptr b i j)=row[j]? := by
 simp [D8,rowAt,hb,hr,hag]
theorem IJ {h:Hp}{t:TypeId}{b i j k s:Nat}{xs:List (List AV)}{row:List AV}(hag:LJ P t=some true)(hs:szO P t=some s)(hb:h[b]? = some (.live k xs))(hr:xs[i]? = some row)(hl:j+s≤row.length) :
  D8 P h t (.ptr b i j)=some (.agg ((row.drop j).take s)):=by
 simp [D8,rowAt,hb,hr,hag,hs,hl]
end
theorem CZ (h:Hp)(x:ABlk):(h++[x])[h.length]? = some x:=by simp
theorem AIR (h:Hp)(x y:ABlk):(h++[x]).set h.length y=h++[y]:=by simp
theorem CX {h:Hp}{x y:ABlk}{b:Nat}(hb:h[b]? = some y):(h++[x])[b]? = some y:=by
 rw[zO (CJ hb)]; exact hb
theorem UT {P:Program}{h:Hp}{t:TypeId}{k s j:Nat}{row:List AV}(hag:LJ P t=some true)(hs:szO P t=some s)(hl:j+s≤row.length):D8 P (h++[.live k [row]]) t (.ptr h.length 0 j)=some (.agg ((row.drop j).take s)):=by
 simp [D8,rowAt,hag,hs,hl]
theorem OW {P:Program}{h:Hp}{t:TypeId}{k j:Nat}{row cs:List AV}{v:AV}(hc:JW v=some cs)(hs:szO P t=some cs.length)(hl:j+cs.length≤row.length) :
  FP P (h++[.live k [row]]) t (.ptr h.length 0 j) v=some (h++[.live k [splice row j cs]]):=by
 simp [FP,hc,hs,hl]
theorem A4V {h:Hp}{v:AV}{cs:List AV}(hc:JW v=some cs):O7 h v=some (.ptr h.length 0 0,h++[.live cs.length [cs]]):=by simp [O7,hc]
theorem QS {cs:List AV}(hl:cs.all AV.leaf=true):JW (.agg cs)=some cs:=by simp only[JW,hl,if_true]
theorem QR (k:IntKind)(n:Int):JW (.int k n)=some [.int k n]:=rfl
theorem AY0 (m:SM)(k:Nat)(xs:List (List AV)):JW (.sl m k xs)=some [.sl m k xs]:=rfl
theorem ZE (a b c:Nat):JW (.own a b c)=some [.own a b c]:=rfl
theorem A29 (f:Fn)(a b:List AV):JW (.fn f a b)=some [.fn f a b]:=rfl
theorem LQ {n:Nat}(h:n≤9223372036854775807):IntKind.i64.wrap (n:Int)=(n:Int):=wrap_i64 (by omega) (by omega)
theorem wrap_succ {n:Nat}(h:n < 9223372036854775807):IntKind.i64.wrap ((n:Int)+1)=((n+1:Nat):Int):=by rw[wrap_i64 (by omega) (by omega)]; omega
theorem DK (l:List Nat)(f:List (Nat × List Nat))(n:Nat):(hint l f).md n=l.contains n:=rfl
set_option linter.unusedSimpArgs false in
theorem KD {P:Program}{h:Hp}{t:TypeId}{row:List AV}(hz:NE P t=some row):KN P h t=some (.ptr h.length 0 0,h++[.live row.length [row]]):=by
 unfold NE at hz
 unfold KN O7
 split at hz
 ·rename_i z hz2; simp only[hz2,hz]
 ·cases hz
theorem ASH (h:Hp)(k:IntKind)(n:Int):O7 h (.int k n)=some (.ptr h.length 0 0,h++[.live 1 [[.int k n]]]):=rfl
theorem APW (h:Hp)(m:SM)(k:Nat)(xs:List (List AV)):O7 h (.sl m k xs)=some (.ptr h.length 0 0,h++[.live 1 [[.sl m k xs]]]):=rfl
theorem VS {h:Hp}{cs:List AV}(hl:cs.all AV.leaf=true):O7 h (.agg cs)=some (.ptr h.length 0 0,h++[.live cs.length [cs]]):=A4V (QS hl)
theorem AL4 {P:Program}{h x:Hp}{t:TypeId}{b i j:Nat}{v:AV}(hv:D8 P h t (.ptr b i j)=some v):D8 P (h++x) t (.ptr b i j)=some v:=by
 have hb:b < h.length:=by
  rcases Nat.lt_or_ge b h.length with hb | hb
  ·exact hb
  ·have:h[b]? = none:=List.getElem?_eq_none hb
   simp [D8,rowAt,this] at hv
 have:(h++x)[b]? = h[b]? := zO hb
 unfold D8 at hv ⊢
 simp only[rowAt,this] at hv ⊢
 exact hv
theorem DW {P:Program}{h:Hp}{t:TypeId}{k j:Nat}{row:List AV}(hag:LJ P t=some false):D8 P (h++[.live k [row]]) t (.ptr h.length 0 j)=row[j]? := by
 simp [D8,rowAt,hag]
theorem ACalls.of_rep {E:Env}{f:FuncId}{args:List AV}{h:Hp}{R:AV→Hp→Prop}(hok:ZG E.P f)(hh:(∃ (g:Gh) (cargs:Array Value),X5 g args cargs)→ACalls E f args h R):ACalls E f args h R :=
 ⟨hok,fun g w cargs S ha=>(hh ⟨g,cargs,ha⟩).2 g w cargs S ha⟩
theorem AEL {g:Gh}{args:List AV}{cargs:Array Value}{i k:Nat}{xs:List (List AV)}(ha:X5 g args cargs)(hi:args[i]? = some (.sl .nil k xs)):xs = []:=by
 have hlt:i < cargs.size:=by rw[ha.1]; exact CJ hi
 have:=(ha.2 i _ cargs[i] hi (by simp [hlt])).sl_inv
 generalize cargs[i]=cv at this
 cases this with
 | nil=>rfl
 | empty=>rfl
 | sl _ _ _ _ _ _ _ _ _ _ _ h=>exact absurd rfl h
theorem Z8 {P:Program}{h:Hp}{t:TypeId}{k i j:Nat}{xs:List (List AV)}{row:List AV}{v:AV}(hag:LJ P t=some false)(hr:xs[i]? = some row)(hv:row[j]? = some v):D8 P h t (.fptr k xs i j)=some v:=by
 simp [D8,rowAt,hag,hr,hv]
theorem JQ {P:Program}{h:Hp}{t:TypeId}{b i j k:Nat}{xs:List (List AV)}{row cs:List AV}{v:AV}(hc:JW v=some cs)(hs:szO P t=some cs.length)(hb:h[b]? = some (.live k xs))(hr:xs[i]? = some row)(hl:j+cs.length≤row.length) :
  FP P h t (.ptr b i j) v=some (h.set b (.live k (xs.set i (splice row j cs)))):=by
 simp [FP,hc,hs,hb,hr,hl]
def ext (h H:Hp):Prop := ∃ x,H=h++x
theorem ext.rfl' (h:Hp):ext h h:=⟨[],by simp⟩
theorem ext.app {h H:Hp}(he:ext h H)(x:Hp):ext h (H++x):=by obtain⟨y,rfl⟩:=he; exact⟨y++x,by rw[zH]⟩
theorem ext.set {h H:Hp}(he:ext h H){b:Nat}(hb:h.length≤b)(y:ABlk):ext h (H.set b y):=by
 obtain⟨x,rfl⟩:=he
 exact⟨x.set (b - h.length) y,by rw[List.set_append_right _ _ hb]⟩
theorem ext.trans {a b c:Hp}(h1:ext a b)(h2:ext b c):ext a c:=by obtain⟨x,rfl⟩:=h1; exact h2.casesOn fun y e=>⟨x++y,by rw[e,zH]⟩
theorem ext.le {h H:Hp}(he:ext h H):h.length≤H.length:=by obtain⟨x,rfl⟩:=he; simp
theorem CV {h:Hp}{b o:Nat}{x:Option ABlk}{y:ABlk}(ho:h[o]? = x)(hne:o≠b):(h.set b y)[o]? = x:=by rw[zG,if_neg (fun e=>hne e.symm)]; exact ho
theorem EG {h:Hp}{b:Nat}{x y:ABlk}(hb:h[b]? = some x):(h.set b y)[b]? = some y:=by
 have:=CJ hb
 rw[zG,if_pos rfl,if_pos this]
section
variable {P:Program} {t e:TypeId} {k:Nat} (hu:P.underlying t=some (.slice e)) (hs:szO P e=some k)
include hu hs
theorem AQ1 {h:Hp}{m:SM}{kk:IntKind}{xs:List (List AV)}{l:Nat}(hl:l≤xs.length):KL P h t (.sl m k xs) (some (.int kk (l:Int))) none none=some (.sl m k (xs.drop l)):=by
 have h1:JM (some (.int kk (l:Int))) (some 0)=some l:=by simp [JM]
 have h2:JM none (some xs.length)=some xs.length:=rfl
 simp only[KL,hu,h1,h2,hs,true_and]
 rw[if_pos ⟨hl,jL _⟩,jW (by simp)]
 cases m <;> simp
theorem A30 {h:Hp}{kk:IntKind}{b off len u:Nat}{xs:List (List AV)}(hb:h[b]? = some (.live k xs))(hl:u≤len):KL P h t (.own b off len) none (some (.int kk (u:Int))) none=some (.own b off u):=by
 have h1:JM (some (.int kk (u:Int))) (some len)=some u:=by simp [JM]
 have h2:JM none (some 0)=some 0:=rfl
 simp only[KL,hu,h1,h2,hs,hb,true_and]
 rw[if_pos ⟨Nat.zero_le _,hl⟩]
 simp
theorem ALU {h:Hp}{kk:IntKind}{b off len l:Nat}{xs:List (List AV)}(hb:h[b]? = some (.live k xs))(hl:l≤len):KL P h t (.own b off len) (some (.int kk (l:Int))) none none=some (.own b (off+l) (len - l)):=by
 have h1:JM (some (.int kk (l:Int))) (some 0)=some l:=by simp [JM]
 have h2:JM none (some len)=some len:=rfl
 simp only[KL,hu,h1,h2,hs,hb,true_and]
 rw[if_pos ⟨hl,jL _⟩]
end
section
variable {P:Program} {t e:TypeId} {k b:Nat} (hu:P.underlying t=some (.slice e)) (hs:szO P e=some k) (hz:V8 P e=some k) (hb:OB P e=some b)
include hu hs hz hb
theorem U5 {h:Hp}{xs ys:List (List AV)}{x:AV}(hy:KE h x=some (k,ys))(hne:ys≠[])(hr:room (xs.length+ys.length) b) :
  GM P true h t t (.sl .full k xs) x=some (.own h.length 0 (xs.length+ys.length),h++[.live k (xs++ys)]):=by
 have hl : ¬ ys.length=0:=by simpa using hne
 simp [GM,hu,hs,VH,hy,bump,hz,hb,hr,hl]
theorem QE {h:Hp}{k':Nat}{xs ys:List (List AV)}{x:AV}(hy:KE h x=some (k,ys))(hne:ys≠[])(hr:room ys.length b) :
  GM P true h t t (.sl .nil k' xs) x=some (.own h.length 0 ys.length,h++[.live k ys]):=by
 have hl : ¬ ys.length=0:=by simpa using hne
 simp [GM,hu,hs,VH,hy,bump,hz,hb,hr,hl]
theorem Q8 {h:Hp}{o off len:Nat}{xs ys:List (List AV)}{x:AV}(hc:KE h (.own o off len)=some (k,xs))(hy:KE h x=some (k,ys))(hne:ys≠[])(hr:room (xs.length+ys.length) b) :
  GM P true h t t (.own o off len) x=some (.own h.length 0 (xs.length+ys.length),h.set o .dead++[.live k (xs++ys)]):=by
 have hl : ¬ ys.length=0:=by simpa using hne
 simp [GM,hu,hs,VH,hy,bump,hz,hb,hr,hl,hc]
omit hz hb in
theorem ANK {h:Hp}{own:Bool}{m m':SM}{k':Nat}{xs:List (List AV)}(hm:m = .nil∨m = .full):GM P own h t t (.sl m k xs) (.sl m' k' [])=some (.sl m k xs,h):=by
 rcases hm with rfl | rfl <;> simp [GM,hu,hs,VH,KE,bump]
end
theorem JF (h:Hp)(m:SM)(k:Nat)(xs:List (List AV)):KE h (.sl m k xs)=some (k,xs):=rfl
theorem MH {h:Hp}{o k off len:Nat}{xs:List (List AV)}(hb:h[o]? = some (.live k xs))(hl:off+len≤xs.length):KE h (.own o off len)=some (k,(xs.drop off).take len):=by simp [KE,hb,hl]
theorem AIA {h:Hp}{k:Nat}{xs:List (List AV)}:KE (h++[.live k xs]) (.own h.length 0 xs.length)=some (k,xs):=by simp [KE]
def MW (P:Program)(t:TypeId)(f off:Nat):Bool:=match P.underlying t with
 | some (.struct fields)=>match fields[f]? with
   | some fl=>fl.offset == off && (match szO P fl.type with
     | some n=>Nat.ble 1 n
     | none=>false)
   | none=>false
 | _=>false
theorem KI {P:Program}{t:TypeId}{f off:Nat}(h:MW P t f off=true) :
  (∀ b i j,D6 P t (.ptr b i j) f=some (.ptr b i (j+off)))∧(∀ k xs i j,D6 P t (.fptr k xs i j) f=some (.fptr k xs i (j+off))):=by
 unfold MW at h
 split at h
 case h_2=>cases h
 rename_i fields hu
 split at h
 case h_2=>cases h
 rename_i fl hf
 simp only[Bool.and_eq_true,beq_iff_eq] at h
 obtain⟨h1,h2⟩:=h
 split at h2
 case h_2=>cases h2
 rename_i n hs
 have h3:1≤n:=Nat.le_of_ble_eq_true h2
 obtain⟨m,rfl⟩ : ∃ m,n=m+1:=⟨n - 1,by omega⟩
 exact AJO hu hf hs off h1

def Cv (a b:AV):Prop := ∀ (M:Nat→Option Obj) (cv:Value),RepF M a cv→RepF M b cv
def CvR (a b:AV):Prop := ∀ (g:Gh) (cv:Value),Rep g a cv→Rep g b cv
theorem Cv.refl (a:AV):Cv a a:=fun _ _ h=>h
theorem CvR.refl (a:AV):CvR a a:=fun _ _ h=>h
theorem Cv.nil (k k':Nat):Cv (.sl .nil k []) (.sl .nil k' []):=by
 intro M cv h
 cases h with
 | nil=>exact .nil k'
 | empty m k0 a cap h1=>exact absurd rfl h1
 | sl _ _ _ _ _ _ _ _ _ _ h=>exact absurd rfl h
theorem Cv.empty (m:SM)(k k':Nat):Cv (.sl m k []) (.sl m k' []):=by
 intro M cv h
 cases h with
 | nil=>exact .nil k'
 | empty m k0 a cap h1 h2=>exact .empty m k' a cap h1 h2
 | sl _ _ _ _ _ _ _ _ _ _ h=>exact absurd rfl h
theorem Cv.any {m:SM}(hm:m≠.nil)(k:Nat)(xs:List (List AV)):Cv (.sl m k xs) (.sl .any k xs):=by
 intro M cv h
 cases h with
 | nil=>exact absurd rfl hm
 | empty m k0 a cap h1 h2=>exact .empty .any k a cap (by simp) (by simp)
 | sl m k xs cb co c e fz cap cv h1 h2 h3 h4 h5 h6 h7 h8=>exact .sl .any k xs cb co c e fz cap cv h1 (by simp) h3 h4 h5 h6 h7 (by simp)
def CvRow (r r':List AV):Prop:=r'.length=r.length∧∀ (j:Nat) (v v':AV),r[j]? = some v→r'[j]? = some v'→v'.leaf=true∧Cv v v'
theorem Cv.rows {m:SM}{k:Nat}{xs ys:List (List AV)}(hl:ys.length=xs.length)(h : ∀ (i:Nat) (r r':List AV),xs[i]? = some r→ys[i]? = some r'→CvRow r r'):Cv (.sl m k xs) (.sl m k ys):=by
 have row : ∀ (i:Nat) (r':List AV),ys[i]? = some r'→∃ r,xs[i]? = some r∧CvRow r r':=fun i r' hr=>by
  have hi:i < xs.length:=by rw[← hl]; exact CJ hr
  exact⟨xs[i],by simp [hi],h i _ _ (by simp [hi]) hr⟩
 intro M cv hr
 cases hr with
 | nil=>have:ys = []:=List.length_eq_zero_iff.1 hl; subst this; exact .nil k
 | empty m k0 a cap h1 h2=>have:ys = []:=List.length_eq_zero_iff.1 hl; subst this; exact .empty m k a cap h1 h2
 | sl m k xs cb co c e fz cap cv h1 h2 h3 h4 h5 h6 h7 h8 =>
   rw[← hl]
   refine .sl m k ys cb co c e fz cap cv (fun e=>h1 (by subst e; exact List.length_eq_zero_iff.1 hl.symm)) h2 h3 ?_ ?_ ?_ (by omega) (fun e=>by rw[hl]; exact h8 e)
   ·intro i r' hr'
    obtain⟨r,q1,q2,q3⟩:=row i r' hr'
    refine⟨by rw[q2]; exact(h4 i r q1).1,fun j v' hv' => ?_⟩
    have hj:j < r.length:=by rw[← q2]; exact CJ hv'
    exact(q3 j r[j] v' (by simp [hj]) hv').1
   ·intro i j hi hj; exact h5 i j (by omega) hj
   ·intro i j r' v' hr' hv'
    obtain⟨r,q1,q2,q3⟩:=row i r' hr'
    have hj:j < r.length:=by rw[← q2]; exact CJ hv'
    exact(q3 j r[j] v' (by simp [hj]) hv').2 _ _ (h6 i j r r[j] q1 (by simp [hj]))
theorem Cv.map {α:Type}{m:SM}{k:Nat}{xs:List α}{f f':α→List AV}(h : ∀ x∈xs,CvRow (f x) (f' x)):Cv (.sl m k (xs.map f)) (.sl m k (xs.map f')):=by
 refine Cv.rows (by simp) fun i r r' h1 h2 => ?_
 rw[List.getElem?_map,Option.map_eq_some_iff] at h1 h2
 obtain⟨x,hx,rfl⟩:=h1
 obtain⟨x',hx',rfl⟩:=h2
 rw[hx] at hx'; cases hx'
 exact h x (qC hx)
theorem CvRow.refl {r:List AV}(h : ∀ v∈r,v.leaf=true):CvRow r r:=⟨rfl,fun j v v' h1 h2=>by rw[h1] at h2; cases h2; exact⟨h v (qC h1),Cv.refl v⟩⟩
theorem CvRow.nil:CvRow [] []:=⟨rfl,fun j v v' h=>by simp at h⟩
theorem CvRow.cons {v v':AV}{r r':List AV}(hl:v'.leaf=true)(h:Cv v v')(hr:CvRow r r'):CvRow (v :: r) (v' :: r'):=by
 refine⟨by simp [hr.1],fun j a a' h1 h2 => ?_⟩
 cases j with
 | zero=>simp at h1 h2; subst h1; subst h2; exact⟨hl,h⟩
 | succ j=>simp at h1 h2; exact hr.2 j a a' h1 h2
theorem CvR.sl {m m':SM}{k k':Nat}{xs ys:List (List AV)}(h:Cv (.sl m k xs) (.sl m' k' ys)):CvR (.sl m k xs) (.sl m' k' ys):=fun _ _ hr => .fro (h _ _ hr.sl_inv)
def CvRL (r r':List AV):Prop:=r'.length=r.length∧∀ (j:Nat) (v v':AV),r[j]? = some v→r'[j]? = some v'→CvR v v'
theorem CvRL.nil:CvRL [] []:=⟨rfl,fun j v v' h=>by simp at h⟩
theorem CvRL.cons {v v':AV}{r r':List AV}(h:CvR v v')(hr:CvRL r r'):CvRL (v :: r) (v' :: r'):=by
 refine⟨by simp [hr.1],fun j a a' h1 h2 => ?_⟩
 cases j with
 | zero=>simp at h1 h2; subst h1; subst h2; exact h
 | succ j=>simp at h1 h2; exact hr.2 j a a' h1 h2
theorem CvRL.refl (r:List AV):CvRL r r:=⟨rfl,fun j v v' h1 h2=>by rw[h1] at h2; cases h2; exact CvR.refl v⟩
theorem CvR.agg {r r':List AV}(h:CvRL r r'):CvR (.agg r) (.agg r'):=by
 intro g cv hr
 obtain⟨vs,rfl,h1,h2⟩:=hr.agg_inv
 refine .agg r' vs (by rw[h1,h.1]) fun i v' c a b => ?_
 have hi:i < r.length:=by rw[← h.1]; exact CJ a
 exact h.2 i r[i] v' (by simp [hi]) a g c (h2 i r[i] c (by simp [hi]) b)
theorem CvR.tup {r r':List AV}(h:CvRL r r'):CvR (.tup r) (.tup r'):=by
 intro g cv hr
 obtain⟨vs,rfl,h1,h2⟩:=hr.tup_inv
 refine .tup r' vs (by rw[h1,h.1]) fun i v' c a b => ?_
 have hi:i < r.length:=by rw[← h.1]; exact CJ a
 exact h.2 i r[i] v' (by simp [hi]) a g c (h2 i r[i] c (by simp [hi]) b)
theorem ACalls.args {E:Env}{f:FuncId}{args args':List AV}{h:Hp}{R:AV→Hp→Prop}(hc:ACalls E f args' h R)(ha:CvRL args args'):ACalls E f args h R:=by
 refine⟨hc.1,fun g w cargs S hr=>hc.2 g w cargs S ⟨by rw[hr.1,ha.1],fun i v' cv h1 h2 => ?_⟩⟩
 have hi:i < args.length:=by rw[← ha.1]; exact CJ h1
 exact ha.2 i args[i] v' (by simp [hi]) h1 g cv (hr.2 i args[i] cv (by simp [hi]) h2)
theorem PCall.args {E:Env}{f:FuncId}{args args':List AV}{h:Hp}{r:AV}(hc:PCall E f args' h r)(ha:CvRL args args'):PCall E f args h r:=ACalls.args hc ha
theorem PCall.res {E:Env}{f:FuncId}{args:List AV}{h:Hp}{r r':AV}(hc:PCall E f args h r)(hr:CvR r r'):PCall E f args h r' :=
 ACalls.conv hc fun v h' ⟨e1,e2⟩=>by subst e1; exact⟨r',⟨rfl,e2⟩,hr⟩
theorem D5 (l:List Nat)(n:Nat):(hint l []).fz n = []:=rfl
theorem H9 (l:List Nat)(a:Nat)(s:List Nat)(n:Nat):(hint l [(a,s)]).fz n=if(a == n)=true then s else []:=by
 unfold hint
 simp only[List.find?]
 cases a == n <;> rfl
theorem AMH {H:Hp}{i b off len k:Nat}{xs:List (List AV)}(hb:H[b]? = some (.live k xs))(hl:off+len≤xs.length)(hf:MI ((xs.drop off).take len)=true) :
  ∀ F:Fr,F i = .own b off len→VQ (F,H) i=(upd F i (.sl .any k ((xs.drop off).take len)),H.set b .dead):=by
 intro F hF
 unfold VQ
 simp only[hF,hb]
 rw[if_pos ⟨hl,hf⟩]

def nilA (h:Hp)(K:AV→Hp→Prop)(v:AV):Prop:=match v with
 | .ptr b i j=>K (.ptr b i j) h
 | .fptr k xs i j=>K (.fptr k xs i j) h
 | _=>False
theorem II {E:Env}{F:Fr}{h:Hp}{c:Fr→AV→Hp→Prop}{own:Bool}(x:Operand):X1 E own (.nilCheck x) (F,h) c=nilA h (c F) (ev E F x):=by
 simp only[X1,QL,aop,nilA]
 generalize ev E F x=v
 cases v <;> rfl
theorem PV {E:Env}{F:Fr}{h:Hp}{c:Fr→AV→Hp→Prop}{own:Bool}(x:Operand):Y1 E own (.nilCheck x) (F,h) c=X1 E own (.nilCheck x) (F,h) c:=rfl
theorem JU (h:Hp)(K:AV→Hp→Prop)(b i j:Nat):nilA h K (.ptr b i j)=K (.ptr b i j) h:=rfl
theorem PCall.of_reads {E:Env}{f:FuncId}{args:List AV}{h:Hp}{r:AV}(hok:ZG E.P f)
  (hc : ∀ (g:Gh) (w:World) (cargs:Array Value),SimH E g h w→X5 g args cargs→∃ cv,Rep g r cv∧Calls E.P f cargs w fun e w'=>e = .returned cv∧∃ n,w'=w.drewN n):PCall E f args h r:=by
 refine⟨hok,fun g w cargs S ha => ?_⟩
 obtain⟨cv,hr,hcall⟩:=hc g w cargs S ha
 refine hcall.mono ?_
 rintro e w' ⟨rfl,n,rfl⟩
 exact⟨r,cv,g,h,rfl,⟨rfl,rfl⟩,Gh.le.refl g,S.world rfl rfl rfl fun k _=>rfl,hr⟩
theorem vQ:type_of% (And.intro @A7 (And.intro @A8 (And.intro @AA (And.intro @AB (And.intro @AC (And.intro @AL (And.intro @AO (And.intro @AQ (And.intro @AU (And.intro @AX (And.intro @AY (And.intro @AZ (And.intro @BA (And.intro @BB (And.intro @BC (And.intro @BF (And.intro @BG (And.intro @BH (And.intro @BI (And.intro @BJ (And.intro @BK (And.intro @BL (And.intro @BM (And.intro @BN (And.intro @BO (And.intro @BP (And.intro @BQ (And.intro @BR (And.intro @BU (And.intro @BV (And.intro @BX (And.intro @BZ (And.intro @C9 (And.intro @CB (And.intro @CE (And.intro @CG (And.intro @CO (And.intro @CQ (And.intro @CW (And.intro @D5 (And.intro @D7 (And.intro @D9 (And.intro @DC (And.intro @DF (And.intro @DI (And.intro @DJ (And.intro @DK (And.intro @DR (And.intro @DT (And.intro @DU (And.intro @DZ (And.intro @E8 (And.intro @EC (And.intro @ED (And.intro @EF (And.intro @EH (And.intro @EI (And.intro @EJ (And.intro @EK (And.intro @EN (And.intro @EP (And.intro @EQ (And.intro @ER (And.intro @ES (And.intro @ET (And.intro @EU (And.intro @EX (And.intro @EZ (And.intro @F8 (And.intro @F9 (And.intro @FB (And.intro @FC (And.intro @FH (And.intro @FI (And.intro @FK (And.intro @FN (And.intro @FO (And.intro @FQ (And.intro @FT (And.intro @FV (And.intro @FY (And.intro @FZ (And.intro @G5 (And.intro @GK (And.intro @GL (And.intro @GN (And.intro @GR (And.intro @H7 (And.intro @H9 (And.intro @HY (And.intro @I8 (And.intro @IG (And.intro @II (And.intro @IK (And.intro @IQ (And.intro @IR (And.intro @IU (And.intro @IY (And.intro @JP (And.intro @JU (And.intro @JX (And.intro @KA (And.intro @KF (And.intro @KG (And.intro @MQ (And.intro @TD (And.intro @Bool.not_false (And.intro @List.append_nil.{0} (And.intro @List.map_cons.{0,0} (And.intro @List.map_nil.{0,0} (And.intro @Nat.add_zero (And.intro @Nat.zero_add (@Option.getD_some.{0}))))))))))))))))))))))))))))))))))))))))))))))))))))))))))))))))))))))))))))))))))))))))))))))))))))))))))))))))):=And.intro @A7 (And.intro @A8 (And.intro @AA (And.intro @AB (And.intro @AC (And.intro @AL (And.intro @AO (And.intro @AQ (And.intro @AU (And.intro @AX (And.intro @AY (And.intro @AZ (And.intro @BA (And.intro @BB (And.intro @BC (And.intro @BF (And.intro @BG (And.intro @BH (And.intro @BI (And.intro @BJ (And.intro @BK (And.intro @BL (And.intro @BM (And.intro @BN (And.intro @BO (And.intro @BP (And.intro @BQ (And.intro @BR (And.intro @BU (And.intro @BV (And.intro @BX (And.intro @BZ (And.intro @C9 (And.intro @CB (And.intro @CE (And.intro @CG (And.intro @CO (And.intro @CQ (And.intro @CW (And.intro @D5 (And.intro @D7 (And.intro @D9 (And.intro @DC (And.intro @DF (And.intro @DI (And.intro @DJ (And.intro @DK (And.intro @DR (And.intro @DT (And.intro @DU (And.intro @DZ (And.intro @E8 (And.intro @EC (And.intro @ED (And.intro @EF (And.intro @EH (And.intro @EI (And.intro @EJ (And.intro @EK (And.intro @EN (And.intro @EP (And.intro @EQ (And.intro @ER (And.intro @ES (And.intro @ET (And.intro @EU (And.intro @EX (And.intro @EZ (And.intro @F8 (And.intro @F9 (And.intro @FB (And.intro @FC (And.intro @FH (And.intro @FI (And.intro @FK (And.intro @FN (And.intro @FO (And.intro @FQ (And.intro @FT (And.intro @FV (And.intro @FY (And.intro @FZ (And.intro @G5 (And.intro @GK (And.intro @GL (And.intro @GN (And.intro @GR (And.intro @H7 (And.intro @H9 (And.intro @HY (And.intro @I8 (And.intro @IG (And.intro @II (And.intro @IK (And.intro @IQ (And.intro @IR (And.intro @IU (And.intro @IY (And.intro @JP (And.intro @JU (And.intro @JX (And.intro @KA (And.intro @KF (And.intro @KG (And.intro @MQ (And.intro @TD (And.intro @Bool.not_false (And.intro @List.append_nil.{0} (And.intro @List.map_cons.{0,0} (And.intro @List.map_nil.{0,0} (And.intro @Nat.add_zero (And.intro @Nat.zero_add (@Option.getD_some.{0}))))))))))))))))))))))))))))))))))))))))))))))))))))))))))))))))))))))))))))))))))))))))))))))))))))))))))))))))
end Go.Proofs.YtfpagfhhhlljjaaGreatDoor.Sm
