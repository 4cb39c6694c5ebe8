import Derived.Test.YtfdmhpohfjbpfaaGreatSq09
set_option linter.unusedVariables false
set_option linter.unusedSimpArgs false
namespace Go.Proofs.YtfdmhpohfjbpfaaGreat
open Go.ChangeShapes Go.WideShapes Go.ChangeAt Go.RowKit
set_option maxRecDepth 100000
def keepS (l:List Session) (c n:Int) (a:Ans):List Session×Int:=
 if mayS l c n=false then([],2)else if n≤lastS l c then([],150)else(insK Session.client ⟨c,n,a⟩ l,0)
def RetKeep (w:World) (r:List Session×Int) (e:Ending) (w':World):Prop:=
 ∃a c,e= .returned (.tuple #[.slice a r.1.length c,.int .i64 r.2])∧r.1.length≤ c∧c≤ maxLen∧(a=none→ c=0)∧LRow laySes w' a r.1∧Below w.heap.size w w'
set_option maxHeartbeats 4000000 in
theorem keep_ses (l:List Session) (a:Option Addr) (n c:Nat) (id num:Int) (x:Ans) (w:World) (hn:l.length= n) (hl:n≤ 10000) (hc:a= none→c= 0) (hnc:n≤ c) (hr:LRow laySes w a l):
 Calls Tryz.prog 114 #[.slice a n c,.int .i64 id,.int .i64 num,x.agg] w (RetKeep w (keepS l id num x)):=by
 have HA:Hid (keepS l id num x=if mayS l id num=false then([],2)else if num≤lastS l id then([],150)else(insK Session.client ⟨id,num,x⟩ l,0)):=rfl
 generalize keepS l id num x=res at HA ⊢
 have hm:=le_maxLen (Nat.le_trans hl (by decide):n≤ 1048576)
 obtain⟨xe,xr,xb,xl,xz⟩:=x
 cases hs:mayS l id num with
 |false=>
  have HS:=Lib.hid hs
  rw[hs,if_pos rfl]at HA
  clear hs
  go_enter Tryz.func114,Tryz.ntmps114
  go_wp2_with(first|(go_at_call 157;((with_reducible refine(may_ses l _ _ _ _ _ _ hn hm (LRow.below hr belo)).mono ?_);rw[HS.out];rintro e w2 ⟨rfl,hb⟩)))
  go_returns
  exact⟨none,0,by rw[HA.out];rfl,by rw[HA.out];exact Nat.le_refl _,Nat.zero_le _,fun _=>rfl,by rw[HA.out];exact Row.nil _ _,belo⟩
 |true=>
  have HS:=Lib.hid hs
  obtain⟨hs1,hi1,hi2,hn1⟩:=mayS_ok hs
  have HS1:=Lib.hid hs1
  have HID:=Lib.hid (wf_small (n:=id) (by omega) (by omega))
  rw[hs,if_neg (by simp)]at HA
  generalize hla:lastS l id=la at HA
  have HLA:=Lib.hid hla
  clear hs hs1 hla
  by_cases h1:num≤ la
  ·rw[if_pos h1]at HA
   go_enter Tryz.func114,Tryz.ntmps114
   go_wp2_with(first|(go_at_call 157;((with_reducible refine(may_ses l _ _ _ _ _ _ hn hm (LRow.below hr belo)).mono ?_);rw[HS.out];rintro e w2 ⟨rfl,hb⟩))|(go_at_call 159;((with_reducible refine(last_ses l _ _ _ _ _ hn (by omega) (LRow.below hr belo) HID.out).mono ?_);rw[HLA.out];rintro e w3 ⟨rfl,hb3⟩)))
   go_returns
   exact⟨none,0,by rw[HA.out];rfl,by rw[HA.out];exact Nat.le_refl _,Nat.zero_le _,fun _=>rfl,by rw[HA.out];exact Row.nil _ _,belo⟩
  ·rw[if_neg h1]at HA
   go_enter Tryz.func114,Tryz.ntmps114
   go_wp2_with(first|(go_at_call 157;((with_reducible refine(may_ses l _ _ _ _ _ _ hn hm (LRow.below hr belo)).mono ?_);rw[HS.out];rintro e w2 ⟨rfl,hb⟩))|(go_at_call 159;((with_reducible refine(last_ses l _ _ _ _ _ hn (by omega) (LRow.below hr belo) HID.out).mono ?_);rw[HLA.out];rintro e w3 ⟨rfl,hb3⟩;have qx3:Below (World.alloc w (.cells #[.int .i64 xe,.int .i64 xr,.int .i64 xb,.int .i64 xl,.int .i64 xz] 40)).heap.size (World.alloc w (.cells #[.int .i64 xe,.int .i64 xr,.int .i64 xb,.int .i64 xl,.int .i64 xz] 40)) w3:=belo;have hx3:=own_cells qx3;have zx3:=own_frozen qx3;have sx3:=Below.boxed qx3;clear qx3))|(go_at_call 160;((with_reducible refine(put_ses l ⟨id,num,⟨xe,xr,xb,xl,xz⟩⟩ a _ _ _ hn hl hc hnc (LRow.below hr belo) HS1.out hi1 hi2).mono ?_);rintro e w4 ⟨a4,c4,rfl,h1,h2,h3,h4,hb4⟩)))
   go_returns
   exact⟨a4,c4,by rw[HA.out];rfl,by rw[HA.out];exact h1,h2,h3,by rw[HA.out];exact h4,belo⟩
end Go.Proofs.YtfdmhpohfjbpfaaGreat
namespace Go.Proofs.YtfdmhpohfjbpfaaGreat
def val:List UInt8→Nat
 |[]=>0
 |c:: l=>c.toNat ^^^ (val l*2^ 8)
def beN:Nat→ Nat→List UInt8
 |0,_=>[]
 |k+ 1,u=>UInt8.ofNat (u/256^ k%256)::beN k u
def beVal (l:List UInt8):Nat:= l.foldl (fun a b=>a* 256+b.toNat) 0
theorem beN_length:∀k u,(beN k u).length=k
 |0,_=>rfl
 |k+ 1,u=>by rw[beN,List.length_cons,beN_length k u]
theorem foldl_be:∀(l:List UInt8) (a:Nat),l.foldl (fun a b=>a* 256+b.toNat) a=a* 256^l.length+ beVal l
 |[],a=>by simp[beVal]
 |b:: l,a=>by
  unfold beVal
  rw[List.foldl_cons,List.foldl_cons,foldl_be l,foldl_be l (0*256+ b.toNat),List.length_cons,Nat.pow_succ,Nat.zero_mul,Nat.zero_add,Nat.add_mul,Nat.mul_assoc,Nat.mul_comm 256]
  omega
theorem beVal_cons (b:UInt8) (l:List UInt8):beVal (b::l)=b.toNat* 256^l.length+ beVal l:=by
 show(b::l).foldl _ 0=_
 rw[List.foldl_cons,foldl_be,Nat.zero_mul,Nat.zero_add]
theorem beVal_lt:∀l: List UInt8,beVal l<256^ l.length
 |[]=>by simp[beVal]
 |b:: l=>by
  rw[beVal_cons,List.length_cons,Nat.pow_succ]
  have h1:=beVal_lt l
  have h2:=b.toNat_lt
  have h3:b.toNat* 256^l.length≤ 255*256^ l.length:=Nat.mul_le_mul_right _ (by omega)
  omega
theorem beVal_snoc (l:List UInt8) (b:UInt8):beVal (l++[b])=beVal l*256+ b.toNat:=by
 unfold beVal;rw[List.foldl_append];rfl
theorem beN_add:∀k a v,beN k (a*256^ k+v)=beN k v
 |0,_,_=>rfl
 |k+ 1,a,v=>by
  have e:a* 256^(k+1)=a* 256*256^ k:=by rw[Nat.pow_succ,Nat.mul_comm (256^k),Nat.mul_assoc]
  rw[beN,beN,e,beN_add k,Nat.mul_comm (a*256),Nat.mul_add_div (Nat.pow_pos (by decide)),Nat.mul_comm a,Nat.mul_add_mod]
theorem beN_beVal:∀l: List UInt8,beN l.length (beVal l)=l
 |[]=>rfl
 |b:: l=>by
  rw[List.length_cons,beN,beVal_cons,beN_add,beN_beVal l,Nat.mul_comm,Nat.mul_add_div (Nat.pow_pos (by decide)),Nat.div_eq_of_lt (beVal_lt l),Nat.add_zero]
  have h2:=b.toNat_lt
  rw[Nat.mod_eq_of_lt (by omega)]
  simp
def u64 (n:Int):Nat:= (n%18446744073709551616).toNat
def i64 (u:Nat):Int:= if u<9223372036854775808 then u else u-18446744073709551616
def InI (n:Int):Prop:= -9223372036854775808≤ n∧n< 9223372036854775808
theorem u64_i64 {u:Nat} (h:u< 18446744073709551616):u64 (i64 u)=u:= by
 unfold i64 u64
 split<;>omega
theorem i64_in {u:Nat} (h:u< 18446744073709551616):InI (i64 u):=by
 unfold i64 InI
 split<;>omega
def be8 (n:Int):List UInt8:=beN 8 (u64 n)
def num8 (l:List UInt8):Int:= i64 (beVal l)
theorem be8_length (n:Int):(be8 n).length=8:= beN_length _ _
theorem be8_num8 {l:List UInt8} (h:l.length= 8):be8 (num8 l)=l:= by
 unfold num8 be8
 have h1:=beVal_lt l
 rw[h]at h1
 rw[u64_i64 (by omega)]
 have:=beN_beVal l
 rw[h]at this;exact this
theorem num8_in {l:List UInt8} (h:l.length= 8):InI (num8 l):=by
 have h1:=beVal_lt l
 rw[h]at h1
 exact i64_in (by omega)
def kindB (k:Int):UInt8:= UInt8.ofNat (k%256).toNat
def kindI (b:UInt8):Int:= if b.toNat<128 then b.toNat else b.toNat-256
theorem kindB_kindI (b:UInt8):kindB (kindI b)=b:= by
 have h:=b.toNat_lt
 unfold kindI kindB
 have:((if b.toNat<128 then(b.toNat:Int)else b.toNat-256)%256).toNat=b.toNat:= by split<;>omega
 rw[this];simp
theorem kindI_in (b:UInt8): -128≤ kindI b∧kindI b<128:= by
 have h:=b.toNat_lt
 unfold kindI;split<;>omega
def truthB (x:Bool):UInt8:= if x then 1 else 0
abbrev Got (α:Type):=Except Nat (α×Nat)
def bindP {α β:Type} (x:Got α) (f:α→ Nat→Got β):Got β:=match x with| .error e=> .error e| .ok (a,q)=>f a q
def needP (k:Nat) (l:List UInt8) (p:Nat):Got (List UInt8):=if l.length-p< k then .error l.length else .ok ((l.drop p).take k,p+k)
def numP (l:List UInt8) (p:Nat):Got Int:=bindP (needP 8 l p) fun b q=> .ok (num8 b,q)
def smallP (l:List UInt8) (p:Nat):Got UInt8:=bindP (needP 1 l p) fun b q=> .ok (b.headD 0,q)
def kindP (l:List UInt8) (p:Nat):Got Int:=bindP (smallP l p) fun b q=> .ok (kindI b,q)
def truthP (l:List UInt8) (p:Nat):Got Bool:=bindP (smallP l p) fun b q=>if 1<b.toNat then .error (q-1)else .ok (b.toNat==1,q)
def countP (size:Nat) (l:List UInt8) (p:Nat):Got Nat:=bindP (numP l p) fun n q=>if n<0∨ n>((l.length-q)/size: Nat)then .error p else .ok (n.toNat,q)
def timesP {α:Type} (one:List UInt8→Nat→ Got α):Nat→ List UInt8→Nat→ Got (List α)
 |0,_,p=> .ok ([],p)
 |n+ 1,l,p=>bindP (one l p) fun x q=>bindP (timesP one n l q) fun xs q=> .ok (x::xs,q)
def listP {α:Type} (size:Nat) (one:List UInt8→Nat→ Got α) (l:List UInt8) (p:Nat):Got (List α):=bindP (countP size l p) fun n q=>timesP one n l q
def readP {α:Type} (zero:α) (one:List UInt8→Nat→ Got α) (l:List UInt8):α× Nat×Int:=
 if 1048576<l.length then(zero,0,3)
 else match one l 0 with
  | .error f=>(zero,f,50)
  | .ok (x,q)=>if q<l.length then(zero,q,50)else(x,0,0)
def Wrote1 {α:Type} (one:List UInt8→Nat→ Got α) (enc:α→ List UInt8) (good:α→ Prop):Prop:= ∀(l:List UInt8) (p:Nat) (x:α) (q:Nat),p≤l.length→ one l p= .ok (x,q)→p≤ q∧q≤ l.length∧(l.drop p).take (q-p)=enc x∧good x
theorem need_wrote (k:Nat):Wrote1 (needP k) (fun b=>b) (fun b=>b.length= k):=fun l p x q hp h=>by
 unfold needP at h
 split at h
 ·cases h
 ·rename_i hk
  simp only[Except.ok.injEq,Prod.mk.injEq]at h
  obtain⟨rfl,rfl⟩:=h
  refine⟨by omega,by omega,by rw[Nat.add_sub_cancel_left],?_⟩
  show(List.take k (List.drop p l)).length=k
  rw[List.length_take,List.length_drop];omega
theorem take_two {l:List UInt8} {p q r:Nat} (h1:p≤ q) (h2:q≤ r):(l.drop p).take (r-p)=(l.drop p).take (q-p)++(l.drop q).take (r-q):=by
 have e:r- p=(q-p)+(r-q):=by omega
 rw[e,List.take_add,List.drop_drop]
 congr 3;omega
theorem bind_wrote {α β:Type} {o:List UInt8→Nat→ Got α} {f:α→ List UInt8→Nat→ Got β} {e1:α→ List UInt8} {g1:α→ Prop} {e2:α→ β→List UInt8} {g2:α→ β→Prop} (h:Wrote1 o e1 g1) (h2:∀a,g1 a→Wrote1 (f a) (e2 a) (g2 a))
 {l:List UInt8} {p q:Nat} {y:β} (hp:p≤ l.length) (hr:(bindP (o l p) fun a q=>f a l q)= .ok (y,q)):∃a,g1 a∧p≤ q∧q≤ l.length∧(l.drop p).take (q-p)=e1 a++e2 a y∧g2 a y:=by
 cases ho:o l p with
 |error e=>rw [ho]at hr;cases hr
 |ok v=>
  obtain⟨a,m⟩:=v
  rw[ho]at hr
  simp only[bindP]at hr
  obtain⟨i1,i2,i3,i4⟩:=h l p a m hp ho
  obtain⟨j1,j2,j3,j4⟩:=h2 a i4 l m y q i2 hr
  exact⟨a,i4,by omega,j2,by rw[take_two i1 j1,i3,j3],j4⟩
theorem pure_wrote {α:Type} (x:α):Wrote1 (fun _ p=> .ok (x,p)) (fun _=>[]) (fun y=>y= x):=fun l p y q hp h=>by
 simp only[Except.ok.injEq,Prod.mk.injEq]at h
 obtain⟨rfl,rfl⟩:=h
 simp[hp]
end Go.Proofs.YtfdmhpohfjbpfaaGreat
