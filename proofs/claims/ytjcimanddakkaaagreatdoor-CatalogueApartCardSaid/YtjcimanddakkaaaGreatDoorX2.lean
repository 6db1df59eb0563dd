/- Lemmas. -/
import Derived.Test.YtjcimanddakkaaaGreatDoorX0
import Derived.Test.YtjcimanddakkaaaGreatDoorX1
import Derived.Sort.Grow
import Derived.Deep.Draws
import Derived.Deep.AppendSrc
import Derived.Deep.AppendLies
set_option maxRecDepth 100000
set_option maxHeartbeats 8000000
namespace Go.Proofs.YtjcimanddakkaaaGreatDoor
open _root_.List renaming eq_nil_of_length_eq_zero→a0a
open Go.Value renaming ownBlock→a0b
open Go renaming World→a0c
open Go.Sort renaming grow→a0d
section
open Go.RowKit Go.Maps Go.Shelf
def eM (a b:Int):Int:=if a<b then -1 else if b<a then 1 else 0
def bo (a b:RK):Int:=if eM a.1 b.1≠0 then eM a.1 b.1 else eM a.2 b.2
def ni (x y:PK):Int:=if bo x.1 y.1≠0 then bo x.1 y.1 else bo x.2 y.2
theorem q8 {a b:Int}:eM a b<0↔a<b:=by
 unfold eM;split
 · simp [*]
 · split<;>omega
theorem fb {a b:Int}:eM a b=0↔a=b:=by
 unfold eM;split
 · omega
 · split<;>omega
theorem ep (a b:RK):bo a b<0↔ltRK a b=true:=by
 rw [eV];unfold bo;by_cases h:eM a.1 b.1=0
 · rw [if_neg (by simpa using h),q8];rw [fb] at h;omega
 · rw [if_pos h,q8];rw [fb] at h;omega
theorem lw (a b:RK):bo a b=0↔a=b:=by
 unfold bo;by_cases h:eM a.1 b.1=0
 · rw [if_neg (by simpa using h),fb];rw [fb] at h;rw [Prod.ext_iff];exact ⟨λc=>⟨h,c⟩,λc=>c.2⟩
 · rw [if_pos h];rw [fb] at *;exact ⟨λc=>absurd c h,λc=>absurd (by rw [c]) h⟩
theorem vC (x y:PK):ni x y<0↔ltPK x y=true:=by
 unfold ni ltPK;by_cases h:bo x.1 y.1=0
 · rw [if_neg (by simpa using h),if_pos ((lw _ _).1 h),ep]
 · rw [if_pos h,if_neg (λa=>h ((lw _ _).2 a)),ep]
theorem jp (a:Int) (w:a0c):Calls Tryz.prog 141 #[.int .i64 a] w λe w'=>e= .returned (.bool false)/\w=w':=by
 go_enter Tryz.func141,Tryz.ntmps141;go_wp2;go_ret;exact ⟨ap (by simp),rfl⟩
theorem im (a b:Int) (w:a0c):Calls Tryz.prog 91 #[.int .i64 a, .int .i64 b] w λe w'=>e= .returned (.int .i64 (eM a b))/\w=w':=by
 unfold eM;by_cases h:a<b
 · rw [if_pos h];go_enter Tryz.func91,Tryz.ntmps91;go_wp2_with (go_at_call 141;refine (jp _ _).mono ?_;rintro e w' ⟨rfl,rfl⟩)
   go_ret;exact ⟨rfl,rfl⟩
 · rw [if_neg h];by_cases h2:b<a
   · rw [if_pos h2];go_enter Tryz.func91,Tryz.ntmps91;go_wp2_with (go_at_call 141;refine (jp _ _).mono ?_;rintro e w' ⟨rfl,rfl⟩)
     go_ret;exact ⟨rfl,rfl⟩
   · rw [if_neg h2];go_enter Tryz.func91,Tryz.ntmps91;go_wp2_with (go_at_call 141;refine (jp _ _).mono ?_;rintro e w' ⟨rfl,rfl⟩)
     go_ret;exact ⟨rfl,rfl⟩
theorem gg (t q:Bool) (a b:Int) (m:Nat) (w:a0c):Calls Tryz.prog 56 #[.bool t, .bool q, .int .i64 a, .int .i64 b, .int .i64 m] w λe w'=>e= .returned (.int .i64 (aV t q a b m))/\w=w':=by
 have d:Hid (aV t q a b m=if t&&q then 22 else if t&&decide (b<=a) then 30 else if !t&&decide (5000<=m) then 2 else 0):=rfl;generalize aV t q a b m=R at *;cases t
 · by_cases h:5000<=m
   · have f:decide ((5000:Int)<=(m:Int))=true:=decide_eq_true (by omega);have c:Hid (R=2):=by unfold Hid;rw [d.out];simp [h]
     clear h;go_enter Tryz.func56,Tryz.ntmps56;go_wp2;go_ret;exact ⟨aG c.symm,rfl⟩
   · have f:decide ((5000:Int)<=(m:Int))=false:=decide_eq_false (by omega);have c:Hid (R=0):=by unfold Hid;rw [d.out];simp [h]
     clear h;go_enter Tryz.func56,Tryz.ntmps56;go_wp2;go_ret;exact ⟨aG c.symm,rfl⟩
 · cases q
   · by_cases h:b<=a
     · have c:Hid (R=30):=by unfold Hid;rw [d.out];simp [h]
       go_enter Tryz.func56,Tryz.ntmps56;go_wp2;go_ret;exact ⟨aG c.symm,rfl⟩
     · have c:Hid (R=0):=by unfold Hid;rw [d.out];simp [h]
       go_enter Tryz.func56,Tryz.ntmps56;go_wp2;go_ret;exact ⟨aG c.symm,rfl⟩
   · have c:Hid (R=22):=by unfold Hid;rw [d.out];simp
     go_enter Tryz.func56,Tryz.ntmps56;go_wp2;go_ret;exact ⟨aG c.symm,rfl⟩
end
section
open Go.RowKit
def bl (w w':a0c):Prop:=∃(q:Nat) (os:Array Obj),w'=a0d (w.drewN q) os
theorem bl.refl (w:a0c):bl w w:=⟨0, #[],by rw [Sort.grow_empty];rfl⟩
theorem bl.alloc {w w':a0c} (h:bl w w') (o:Obj):bl w (w'.alloc o):=by
 obtain ⟨q,a,rfl⟩:=h;exact ⟨q,a++ #[o],by rw [Sort.alloc_eq_grow,Sort.grow_grow]⟩
theorem bl.drew {w w':a0c} (h:bl w w'):bl w w'.drew:=by
 obtain ⟨q,a,rfl⟩:=h;exact ⟨q+1,a,rfl⟩
theorem bl.trans {x y z:a0c} (h:bl x y) (k:bl y z):bl x z:=by
 obtain ⟨q,a,rfl⟩:=h;obtain ⟨c,b,rfl⟩:=k;refine ⟨q+c,a++b,?_⟩;rw [<- Sort.grow_grow];show a0d (a0d ((x.drewN q).drewN c) a) b=_;rw [World.drewN_drewN]
theorem bl.below {w w':a0c} (h:bl w w'):Below w.heap.size w w':=by
 obtain ⟨q,b,rfl⟩:=h;refine ⟨rfl,rfl,rfl,by simp [a0d],λk a=>?_⟩;show (w.heap++b)[k]? =_;rw [Array.getElem?_append_left a]
end
section
open Go.RowKit
section
variable {P:Program} (w:a0c)
theorem bf (base:Nat) (t D e:TypeId) (i:TypeInfo) (z:Value) (size v:Nat) (s:P.underlying t=some (.slice e)) (G:P.info? e=some i) (Y:i.zero=some z)
 (W:i.size=size) (M:i.bytes=v) (Z:z.cells.size=size) (H:0<size)
 (b n k:Nat) (E:List Value) (y:w.ownsRow base e size (.slice (some ⟨b,0,none⟩) n k) n E)
 (R:Nat) (d:Value) (m:Nat) (f:List Value) (Q:aH 0 R w d m f) (o:f.length=m * size) (I:∀u∈f,u.oneCell'=true)
 (K:n+m<=maxLen) (N:(n+m) * v<=140737488355328) (L:base<=w.heap.size):
 ∃q r w',(Builtin.append_ #[t,t] D #[.slice (some ⟨b,0,none⟩) n k,d]).run P w= .ok (.slice (some ⟨q,0,none⟩) (n+m) r) w'/\w'.ownsRow base e size (.slice (some ⟨q,0,none⟩) (n+m) r) (n+m) (E++f)/\w.grownBy w' (some b)/\
  (q=b∨q=w.heap.size):=by
 obtain ⟨a,c,rfl,h⟩:=Q;by_cases h0:m=0
 · subst h0;rw [Nat.zero_mul] at o;have V:f=[]:=a0a o;subst V;have X:Src P i.size t (.slice a 0 c) 0 [] w:=by
    cases a with
    |none=>exact Src.ofNil w s c
    |some a=>exact Src.ofSlice w s a 0 c [] (by simp) (by simp) (by simp)
   have O:n+0<=k:=by
    rcases y.2 with ⟨p,_⟩|⟨g,cp,a0,p,_,_,x,_⟩
    · cases p
    · injection p with _ _ p;subst p;simpa using x
   have A:=run_append_room_src (P:=P) w t t D e i s G b 0 n k (.slice a 0 c) 0 [] X O (by simp) (by simp);refine ⟨b,k,w,?_,by simpa using y,⟨rfl,rfl,rfl,Nat.le_refl _,λ_ _ _=>rfl⟩, .inl rfl⟩;rw [A];rfl
 · have U:f≠[]:=λe=>by rw [e] at o;have:0<m * size:=Nat.mul_pos (by omega) H;simp at o;omega
   obtain ⟨C,B,rfl,_,_,x⟩:=h U
   obtain ⟨v',w',A,F,J,_,l⟩:=run_append_own_at (P:=P) w base t D e i z size v s G Y W M Z H (.slice (some ⟨b,0,none⟩) n k) n E y ⟨C,B,none⟩ m c f o
    (λj u T=>by
     have:(⟨C,B,none⟩:Addr).add j=⟨C,B+j,none⟩:=by unfold Addr.add;split<;>simp_all
     rw [this];exact x j u T) I K N L
   obtain ⟨g,r,rfl,_⟩:=World.ownsRow.form F (by omega);refine ⟨g,r,w',A,F,J,?_⟩;rcases l with l|l
   · left;simpa [a0b] using l
   · right;simpa [a0b] using l
theorem aA {q:Array Oper} {r:List Oper} {o:Oper} {a:Act} {Q:Exit->Act->a0c->Prop} (I:o.guard=none) (s x:Operand) (t:TypeId)
 (M:o.op= .call {callee:= .builtin .append,args:= #[s,x],argTypes:= #[t,t]})
 (base:Nat) (e:TypeId) (i:TypeInfo) (z:Value) (size j:Nat) (V:P.underlying t=some (.slice e)) (J:P.info? e=some i) (X:i.zero=some z)
 (T:i.size=size) (F:i.bytes=j) (Y:z.cells.size=size) (U:0<size)
 (b n k:Nat) (l:List Value) (R:a.eval s= .slice (some ⟨b,0,none⟩) n k) (N:w.ownsRow base e size (.slice (some ⟨b,0,none⟩) n k) n l)
 (p:Nat) (d:Value) (m:Nat) (f:List Value) (W:a.eval x=d) (H:aH 0 p w d m f) (L:f.length=m * size) (v:∀u∈f,u.oneCell'=true)
 (C:n+m<=maxLen) (G:(n+m) * j<=140737488355328) (E:base<=w.heap.size)
 (h:∀c g w',w'.ownsRow base e size (.slice (some ⟨c,0,none⟩) (n+m) g) (n+m) (l++f)->w.grownBy w' (some b)->(c=b∨c=w.heap.size)->wpList P q Q r (a.put o.dst (.slice (some ⟨c,0,none⟩) (n+m) g)) w'):
 wpList P q Q (o::r) a w:=by
 refine wpList_plain I λK D=>?_;obtain ⟨c,g,w',O,y,A,B⟩:=bf (P:=P) w base t o.type e i z size j V J X T F Y U b n k l N p d m f H L v C G E;unfold Oper.wp execOp;simp only [M,resolve,invoke,builtin,Sem.run_bind,Sem.run_pure,Result.andThen_ok,List.map_toArray,List.map_cons,List.map_nil,R,W,O];exact D _ _ (h c g w' y A B)
end
theorem bm {w:a0c} {B e k n:Nat} {v:Value} {c:List Value} (h:w.ownsRow B e k v n c):aH B w.heap.size w v n c:=by
 rcases h.2 with ⟨rfl,a⟩|⟨g,m,o,rfl,f,p,q⟩
 · refine ⟨none,0,by rw [a],λl=>absurd (a0a (by rw [h.1,a,Nat.zero_mul])) l⟩
 · have i:=h.lt g (by simp [a0b]);refine ⟨_,_,rfl,λ_=>⟨g,0,rfl,f,i.2,λj x b=>?_⟩⟩;have d:=h.cellAt j (by have:=(List.getElem?_eq_some_iff.1 b).1;rw [h.1] at this;exact this);rw [Nat.zero_add,d];exact b
theorem cX {w:a0c} {B e k:Nat} {D:Nat} (b:w.heap[D]? =some (.cells #[] e (0,0))) (a:B<=D):w.ownsRow B e k (.slice (some ⟨D,0,none⟩) 0 0) 0 []:=
 ⟨by simp, .inr ⟨D,0, #[],rfl,a,b,Nat.le_refl _,by unfold maxLen;omega,by simp,by simp⟩⟩
end
end Go.Proofs.YtjcimanddakkaaaGreatDoor
