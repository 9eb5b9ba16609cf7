/- Parts of the proof. -/
import Derived.Test.YtabmahknlebhpaaGreatVdQB1
namespace Go.Proofs.YtabmahknlebhpaaGreat
open Go.RowKit
set_option linter.unusedVariables false
set_option maxRecDepth 100000
set_option maxHeartbeats 4000000
theorem Qe0 (g : Gt tab Q_lt) a b : Q_of (Q_B g) (.c0 a b) = Qb0 (Q_of g) a b := by kernel_rfl
theorem Qe1 (g : Gt tab Q_lt) a b c : Q_of (Q_B g) (.c1 a b c) = Qb1 (Q_of g) a b c := by kernel_rfl
theorem Qe2 (g : Gt tab Q_lt) a b c d : Q_of (Q_B g) (.c2 a b c d) = Qb2 (Q_of g) a b c d := by kernel_rfl
theorem Qe3 (g : Gt tab Q_lt) a b c d : Q_of (Q_B g) (.c3 a b c d) = Qb3 (Q_of g) a b c d := by kernel_rfl
theorem Qe4 (g : Gt tab Q_lt) a : Q_of (Q_B g) (.c4 a) = Qb4 (Q_of g) a := by kernel_rfl
theorem Qe5 (g : Gt tab Q_lt) a b : Q_of (Q_B g) (.c5 a b) = Qb5 (Q_of g) a b := by kernel_rfl
theorem Qe6 (g : Gt tab Q_lt) a b c d e : Q_of (Q_B g) (.c6 a b c d e) = Qb6 (Q_of g) a b c d e := by kernel_rfl
theorem Qe7 (g : Gt tab Q_lt) a b : Q_of (Q_B g) (.c7 a b) = Qb7 (Q_of g) a b := by kernel_rfl
theorem Qe8 (g : Gt tab Q_lt) a : Q_of (Q_B g) (.c8 a) = Qb8 (Q_of g) a := by kernel_rfl
theorem Qe9 (g : Gt tab Q_lt) a : Q_of (Q_B g) (.c9 a) = Qb9 (Q_of g) a := by kernel_rfl
theorem Qe10 (g : Gt tab Q_lt) a : Q_of (Q_B g) (.c10 a) = Qb10 (Q_of g) a := by kernel_rfl
theorem Qe11 (g : Gt tab Q_lt)  : Q_of (Q_B g) (.c11) = Qb11 (Q_of g) := by kernel_rfl
theorem Qe12 (g : Gt tab Q_lt) a b : Q_of (Q_B g) (.c12 a b) = Qb12 (Q_of g) a b := by kernel_rfl
theorem Qe13 (g : Gt tab Q_lt) a b : Q_of (Q_B g) (.c13 a b) = Qb13 (Q_of g) a b := by kernel_rfl
theorem Qe14 (g : Gt tab Q_lt) a : Q_of (Q_B g) (.c14 a) = Qb14 (Q_of g) a := by kernel_rfl
theorem Qe15 (g : Gt tab Q_lt) a : Q_of (Q_B g) (.c15 a) = Qb15 (Q_of g) a := by kernel_rfl
theorem Qe16 (g : Gt tab Q_lt) a b : Q_of (Q_B g) (.c16 a b) = Qb16 (Q_of g) a b := by kernel_rfl
theorem Qe17 (g : Gt tab Q_lt)  : Q_of (Q_B g) (.c17) = Qb17 (Q_of g) := by kernel_rfl
theorem Qe18 (g : Gt tab Q_lt) a : Q_of (Q_B g) (.c18 a) = Qb18 (Q_of g) a := by kernel_rfl
theorem Qe19 (g : Gt tab Q_lt) a : Q_of (Q_B g) (.c19 a) = Qb19 (Q_of g) a := by kernel_rfl
theorem Qe20 (g : Gt tab Q_lt) a : Q_of (Q_B g) (.c20 a) = Qb20 (Q_of g) a := by kernel_rfl
theorem Qe21 (g : Gt tab Q_lt) a : Q_of (Q_B g) (.c21 a) = Qb21 (Q_of g) a := by kernel_rfl
theorem Qe22 (g : Gt tab Q_lt) a b c : Q_of (Q_B g) (.c22 a b c) = Qb22 (Q_of g) a b c := by kernel_rfl
theorem Qe23 (g : Gt tab Q_lt) a b : Q_of (Q_B g) (.c23 a b) = Qb23 (Q_of g) a b := by kernel_rfl
theorem Qe24 (g : Gt tab Q_lt) a b : Q_of (Q_B g) (.c24 a b) = Qb24 (Q_of g) a b := by kernel_rfl
theorem Qe25 (g : Gt tab Q_lt) a b : Q_of (Q_B g) (.c25 a b) = Qb25 (Q_of g) a b := by kernel_rfl
theorem Qe26 (g : Gt tab Q_lt) a b c d : Q_of (Q_B g) (.c26 a b c d) = Qb26 (Q_of g) a b c d := by kernel_rfl
theorem Qe27 (g : Gt tab Q_lt) a b : Q_of (Q_B g) (.c27 a b) = Qb27 (Q_of g) a b := by kernel_rfl
theorem Qe28 (g : Gt tab Q_lt) a b c : Q_of (Q_B g) (.c28 a b c) = Qb28 (Q_of g) a b c := by kernel_rfl
theorem Qe29 (g : Gt tab Q_lt) a b c : Q_of (Q_B g) (.c29 a b c) = Qb29 (Q_of g) a b c := by kernel_rfl
theorem Qe30 (g : Gt tab Q_lt) a b : Q_of (Q_B g) (.c30 a b) = Qb30 (Q_of g) a b := by kernel_rfl
theorem Qe31 (g : Gt tab Q_lt) a b c : Q_of (Q_B g) (.c31 a b c) = Qb31 (Q_of g) a b c := by kernel_rfl
theorem Qe32 (g : Gt tab Q_lt) a b c : Q_of (Q_B g) (.c32 a b c) = Qb32 (Q_of g) a b c := by kernel_rfl
theorem Qe33 (g : Gt tab Q_lt) a b c d e f : Q_of (Q_B g) (.c33 a b c d e f) = Qb33 (Q_of g) a b c d e f := by kernel_rfl
theorem Qe34 (g : Gt tab Q_lt) a b c d e f : Q_of (Q_B g) (.c34 a b c d e f) = Qb34 (Q_of g) a b c d e f := by kernel_rfl
theorem Qe35 (g : Gt tab Q_lt) a b c d : Q_of (Q_B g) (.c35 a b c d) = Qb35 (Q_of g) a b c d := by kernel_rfl
theorem Qe36 (g : Gt tab Q_lt) a b c d e f : Q_of (Q_B g) (.c36 a b c d e f) = Qb36 (Q_of g) a b c d e f := by kernel_rfl
theorem Qe37 (g : Gt tab Q_lt) a : Q_of (Q_B g) (.c37 a) = Qb37 (Q_of g) a := by kernel_rfl
theorem Qe38 (g : Gt tab Q_lt) a : Q_of (Q_B g) (.c38 a) = Qb38 (Q_of g) a := by kernel_rfl
theorem Qe39 (g : Gt tab Q_lt) a : Q_of (Q_B g) (.c39 a) = Qb39 (Q_of g) a := by kernel_rfl
theorem Qe40 (g : Gt tab Q_lt)  : Q_of (Q_B g) (.c40) = Qb40 (Q_of g) := by kernel_rfl
theorem Qe41 (g : Gt tab Q_lt) a : Q_of (Q_B g) (.c41 a) = Qb41 (Q_of g) a := by kernel_rfl
theorem Qe42 (g : Gt tab Q_lt) a b c : Q_of (Q_B g) (.c42 a b c) = Qb42 (Q_of g) a b c := by kernel_rfl
theorem Qe43 (g : Gt tab Q_lt) a b c : Q_of (Q_B g) (.c43 a b c) = Qb43 (Q_of g) a b c := by kernel_rfl
theorem Qe44 (g : Gt tab Q_lt) a b c d : Q_of (Q_B g) (.c44 a b c d) = Qb44 (Q_of g) a b c d := by kernel_rfl
theorem Qe45 (g : Gt tab Q_lt) a : Q_of (Q_B g) (.c45 a) = Qb45 (Q_of g) a := by kernel_rfl
theorem Qe46 (g : Gt tab Q_lt) a b c : Q_of (Q_B g) (.c46 a b c) = Qb46 (Q_of g) a b c := by kernel_rfl
theorem Qe47 (g : Gt tab Q_lt) a b c : Q_of (Q_B g) (.c47 a b c) = Qb47 (Q_of g) a b c := by kernel_rfl
theorem Qe48 (g : Gt tab Q_lt) a b : Q_of (Q_B g) (.c48 a b) = Qb48 (Q_of g) a b := by kernel_rfl
theorem Qe49 (g : Gt tab Q_lt) a b : Q_of (Q_B g) (.c49 a b) = Qb49 (Q_of g) a b := by kernel_rfl
theorem Qe50 (g : Gt tab Q_lt) a b c : Q_of (Q_B g) (.c50 a b c) = Qb50 (Q_of g) a b c := by kernel_rfl
theorem Qe51 (g : Gt tab Q_lt) a b : Q_of (Q_B g) (.c51 a b) = Qb51 (Q_of g) a b := by kernel_rfl
theorem Qe52 (g : Gt tab Q_lt) a b c : Q_of (Q_B g) (.c52 a b c) = Qb52 (Q_of g) a b c := by kernel_rfl
theorem Qe53 (g : Gt tab Q_lt)  : Q_of (Q_B g) (.c53) = Qb53 (Q_of g) := by kernel_rfl
theorem Qe54 (g : Gt tab Q_lt) a : Q_of (Q_B g) (.c54 a) = Qb54 (Q_of g) a := by kernel_rfl
theorem Qe55 (g : Gt tab Q_lt) a b c d e f : Q_of (Q_B g) (.c55 a b c d e f) = Qb55 (Q_of g) a b c d e f := by kernel_rfl
theorem Qe56 (g : Gt tab Q_lt) a b c d e : Q_of (Q_B g) (.c56 a b c d e) = Qb56 (Q_of g) a b c d e := by kernel_rfl
theorem Qe57 (g : Gt tab Q_lt) a : Q_of (Q_B g) (.c57 a) = Qb57 (Q_of g) a := by kernel_rfl
theorem Qe58 (g : Gt tab Q_lt) a : Q_of (Q_B g) (.c58 a) = Qb58 (Q_of g) a := by kernel_rfl
theorem Qe59 (g : Gt tab Q_lt) a b : Q_of (Q_B g) (.c59 a b) = Qb59 (Q_of g) a b := by kernel_rfl
theorem Qe60 (g : Gt tab Q_lt) a b c d e : Q_of (Q_B g) (.c60 a b c d e) = Qb60 (Q_of g) a b c d e := by kernel_rfl
theorem Qe61 (g : Gt tab Q_lt) a b : Q_of (Q_B g) (.c61 a b) = Qb61 (Q_of g) a b := by kernel_rfl
theorem Qe62 (g : Gt tab Q_lt) a b : Q_of (Q_B g) (.c62 a b) = Qb62 (Q_of g) a b := by kernel_rfl
theorem Qe63 (g : Gt tab Q_lt) a b : Q_of (Q_B g) (.c63 a b) = Qb63 (Q_of g) a b := by kernel_rfl
theorem Qe64 (g : Gt tab Q_lt) a b : Q_of (Q_B g) (.c64 a b) = Qb64 (Q_of g) a b := by kernel_rfl
theorem Qe65 (g : Gt tab Q_lt) a b : Q_of (Q_B g) (.c65 a b) = Qb65 (Q_of g) a b := by kernel_rfl
theorem Qe66 (g : Gt tab Q_lt) a b : Q_of (Q_B g) (.c66 a b) = Qb66 (Q_of g) a b := by kernel_rfl
theorem Qe67 (g : Gt tab Q_lt) a b : Q_of (Q_B g) (.c67 a b) = Qb67 (Q_of g) a b := by kernel_rfl
theorem Qe68 (g : Gt tab Q_lt) a : Q_of (Q_B g) (.c68 a) = Qb68 (Q_of g) a := by kernel_rfl
theorem Qe69 (g : Gt tab Q_lt) a b c : Q_of (Q_B g) (.c69 a b c) = Qb69 (Q_of g) a b c := by kernel_rfl
theorem Qe70 (g : Gt tab Q_lt) a b : Q_of (Q_B g) (.c70 a b) = Qb70 (Q_of g) a b := by kernel_rfl
theorem Qe71 (g : Gt tab Q_lt) a b : Q_of (Q_B g) (.c71 a b) = Qb71 (Q_of g) a b := by kernel_rfl
theorem Qe72 (g : Gt tab Q_lt) a : Q_of (Q_B g) (.c72 a) = Qb72 (Q_of g) a := by kernel_rfl
theorem Qe73 (g : Gt tab Q_lt) a b c d : Q_of (Q_B g) (.c73 a b c d) = Qb73 (Q_of g) a b c d := by kernel_rfl
theorem Qe74 (g : Gt tab Q_lt) a b c d : Q_of (Q_B g) (.c74 a b c d) = Qb74 (Q_of g) a b c d := by kernel_rfl
theorem Qe75 (g : Gt tab Q_lt) a b : Q_of (Q_B g) (.c75 a b) = Qb75 (Q_of g) a b := by kernel_rfl
theorem Qe76 (g : Gt tab Q_lt) a : Q_of (Q_B g) (.c76 a) = Qb76 (Q_of g) a := by kernel_rfl
theorem Qe77 (g : Gt tab Q_lt) a b c : Q_of (Q_B g) (.c77 a b c) = Qb77 (Q_of g) a b c := by kernel_rfl
theorem Qe78 (g : Gt tab Q_lt) a b c : Q_of (Q_B g) (.c78 a b c) = Qb78 (Q_of g) a b c := by kernel_rfl
theorem Qe79 (g : Gt tab Q_lt) a b : Q_of (Q_B g) (.c79 a b) = Qb79 (Q_of g) a b := by kernel_rfl
theorem Qe80 (g : Gt tab Q_lt) a : Q_of (Q_B g) (.c80 a) = Qb80 (Q_of g) a := by kernel_rfl
theorem Qe81 (g : Gt tab Q_lt) a b : Q_of (Q_B g) (.c81 a b) = Qb81 (Q_of g) a b := by kernel_rfl
theorem Qe82 (g : Gt tab Q_lt) a b : Q_of (Q_B g) (.c82 a b) = Qb82 (Q_of g) a b := by kernel_rfl
theorem Qe83 (g : Gt tab Q_lt) a : Q_of (Q_B g) (.c83 a) = Qb83 (Q_of g) a := by kernel_rfl
theorem Qe84 (g : Gt tab Q_lt) a : Q_of (Q_B g) (.c84 a) = Qb84 (Q_of g) a := by kernel_rfl
theorem Qe85 (g : Gt tab Q_lt) a b : Q_of (Q_B g) (.c85 a b) = Qb85 (Q_of g) a b := by kernel_rfl
theorem Qe86 (g : Gt tab Q_lt) a b : Q_of (Q_B g) (.c86 a b) = Qb86 (Q_of g) a b := by kernel_rfl
theorem Qe87 (g : Gt tab Q_lt) a b : Q_of (Q_B g) (.c87 a b) = Qb87 (Q_of g) a b := by kernel_rfl
theorem Qe88 (g : Gt tab Q_lt) a : Q_of (Q_B g) (.c88 a) = Qb88 (Q_of g) a := by kernel_rfl
theorem Qe89 (g : Gt tab Q_lt) a b : Q_of (Q_B g) (.c89 a b) = Qb89 (Q_of g) a b := by kernel_rfl
theorem Qe90 (g : Gt tab Q_lt) a : Q_of (Q_B g) (.c90 a) = Qb90 (Q_of g) a := by kernel_rfl
theorem Qe91 (g : Gt tab Q_lt) a b : Q_of (Q_B g) (.c91 a b) = Qb91 (Q_of g) a b := by kernel_rfl
theorem Qe92 (g : Gt tab Q_lt) a b c d e : Q_of (Q_B g) (.c92 a b c d e) = Qb92 (Q_of g) a b c d e := by kernel_rfl
theorem Qe93 (g : Gt tab Q_lt) a b c d e f : Q_of (Q_B g) (.c93 a b c d e f) = Qb93 (Q_of g) a b c d e f := by kernel_rfl
theorem Qe94 (g : Gt tab Q_lt) a b c d e : Q_of (Q_B g) (.c94 a b c d e) = Qb94 (Q_of g) a b c d e := by kernel_rfl
theorem Qe95 (g : Gt tab Q_lt) a b : Q_of (Q_B g) (.c95 a b) = Qb95 (Q_of g) a b := by kernel_rfl
theorem Qe96 (g : Gt tab Q_lt) a : Q_of (Q_B g) (.c96 a) = Qb96 (Q_of g) a := by kernel_rfl
theorem Qe97 (g : Gt tab Q_lt) a b c : Q_of (Q_B g) (.c97 a b c) = Qb97 (Q_of g) a b c := by kernel_rfl
theorem Qe98 (g : Gt tab Q_lt) a b c : Q_of (Q_B g) (.c98 a b c) = Qb98 (Q_of g) a b c := by kernel_rfl
theorem Qe99 (g : Gt tab Q_lt) a b : Q_of (Q_B g) (.c99 a b) = Qb99 (Q_of g) a b := by kernel_rfl
theorem Qe100 (g : Gt tab Q_lt) a b : Q_of (Q_B g) (.c100 a b) = Qb100 (Q_of g) a b := by kernel_rfl
theorem Qe101 (g : Gt tab Q_lt) a b c : Q_of (Q_B g) (.c101 a b c) = Qb101 (Q_of g) a b c := by kernel_rfl
theorem Qe102 (g : Gt tab Q_lt) a b c : Q_of (Q_B g) (.c102 a b c) = Qb102 (Q_of g) a b c := by kernel_rfl
theorem Qe103 (g : Gt tab Q_lt) a : Q_of (Q_B g) (.c103 a) = Qb103 (Q_of g) a := by kernel_rfl
theorem Qe104 (g : Gt tab Q_lt) a b c : Q_of (Q_B g) (.c104 a b c) = Qb104 (Q_of g) a b c := by kernel_rfl
theorem Qe105 (g : Gt tab Q_lt) a b c : Q_of (Q_B g) (.c105 a b c) = Qb105 (Q_of g) a b c := by kernel_rfl
theorem Qe106 (g : Gt tab Q_lt) a : Q_of (Q_B g) (.c106 a) = Qb106 (Q_of g) a := by kernel_rfl
theorem Qe107 (g : Gt tab Q_lt) a b c d e : Q_of (Q_B g) (.c107 a b c d e) = Qb107 (Q_of g) a b c d e := by kernel_rfl
theorem Qe108 (g : Gt tab Q_lt) a b c d e : Q_of (Q_B g) (.c108 a b c d e) = Qb108 (Q_of g) a b c d e := by kernel_rfl
theorem Qe109 (g : Gt tab Q_lt) a b c d e : Q_of (Q_B g) (.c109 a b c d e) = Qb109 (Q_of g) a b c d e := by kernel_rfl
theorem Qe110 (g : Gt tab Q_lt) a b c d e f : Q_of (Q_B g) (.c110 a b c d e f) = Qb110 (Q_of g) a b c d e f := by kernel_rfl
theorem Qe111 (g : Gt tab Q_lt) a : Q_of (Q_B g) (.c111 a) = Qb111 (Q_of g) a := by kernel_rfl
theorem Qe112 (g : Gt tab Q_lt) a b : Q_of (Q_B g) (.c112 a b) = Qb112 (Q_of g) a b := by kernel_rfl
theorem Qe113 (g : Gt tab Q_lt) a b c : Q_of (Q_B g) (.c113 a b c) = Qb113 (Q_of g) a b c := by kernel_rfl
theorem Qe114 (g : Gt tab Q_lt) a b : Q_of (Q_B g) (.c114 a b) = Qb114 (Q_of g) a b := by kernel_rfl
theorem Qe115 (g : Gt tab Q_lt) a b : Q_of (Q_B g) (.c115 a b) = Qb115 (Q_of g) a b := by kernel_rfl
theorem Qe116 (g : Gt tab Q_lt) a b : Q_of (Q_B g) (.c116 a b) = Qb116 (Q_of g) a b := by kernel_rfl
theorem Qe117 (g : Gt tab Q_lt) a : Q_of (Q_B g) (.c117 a) = Qb117 (Q_of g) a := by kernel_rfl
theorem Qe118 (g : Gt tab Q_lt) a b : Q_of (Q_B g) (.c118 a b) = Qb118 (Q_of g) a b := by kernel_rfl
theorem Qe119 (g : Gt tab Q_lt) a b c d : Q_of (Q_B g) (.c119 a b c d) = Qb119 (Q_of g) a b c d := by kernel_rfl
theorem Qe120 (g : Gt tab Q_lt) a b c : Q_of (Q_B g) (.c120 a b c) = Qb120 (Q_of g) a b c := by kernel_rfl
theorem Qe121 (g : Gt tab Q_lt) a : Q_of (Q_B g) (.c121 a) = Qb121 (Q_of g) a := by kernel_rfl
theorem Qe122 (g : Gt tab Q_lt) a b : Q_of (Q_B g) (.c122 a b) = Qb122 (Q_of g) a b := by kernel_rfl
theorem Qe123 (g : Gt tab Q_lt) a b : Q_of (Q_B g) (.c123 a b) = Qb123 (Q_of g) a b := by kernel_rfl
theorem Qe124 (g : Gt tab Q_lt) a : Q_of (Q_B g) (.c124 a) = Qb124 (Q_of g) a := by kernel_rfl
theorem Qe125 (g : Gt tab Q_lt) a : Q_of (Q_B g) (.c125 a) = Qb125 (Q_of g) a := by kernel_rfl
theorem Qe126 (g : Gt tab Q_lt) a : Q_of (Q_B g) (.c126 a) = Qb126 (Q_of g) a := by kernel_rfl
theorem Qe127 (g : Gt tab Q_lt) a : Q_of (Q_B g) (.c127 a) = Qb127 (Q_of g) a := by kernel_rfl
theorem Qe128 (g : Gt tab Q_lt) a : Q_of (Q_B g) (.c128 a) = Qb128 (Q_of g) a := by kernel_rfl
theorem Qe129 (g : Gt tab Q_lt) a b : Q_of (Q_B g) (.c129 a b) = Qb129 (Q_of g) a b := by kernel_rfl
theorem Qe130 (g : Gt tab Q_lt) a b c d : Q_of (Q_B g) (.c130 a b c d) = Qb130 (Q_of g) a b c d := by kernel_rfl
theorem Qe131 (g : Gt tab Q_lt) a : Q_of (Q_B g) (.c131 a) = Qb131 (Q_of g) a := by kernel_rfl
theorem Qe132 (g : Gt tab Q_lt) a : Q_of (Q_B g) (.c132 a) = Qb132 (Q_of g) a := by kernel_rfl
theorem Qe133 (g : Gt tab Q_lt) a : Q_of (Q_B g) (.c133 a) = Qb133 (Q_of g) a := by kernel_rfl
theorem Qe134 (g : Gt tab Q_lt) a : Q_of (Q_B g) (.c134 a) = Qb134 (Q_of g) a := by kernel_rfl
theorem Qe135 (g : Gt tab Q_lt) a : Q_of (Q_B g) (.c135 a) = Qb135 (Q_of g) a := by kernel_rfl
theorem Qe136 (g : Gt tab Q_lt)  : Q_of (Q_B g) (.c136) = Qb136 (Q_of g) := by kernel_rfl
theorem Qe137 (g : Gt tab Q_lt) a b : Q_of (Q_B g) (.c137 a b) = Qb137 (Q_of g) a b := by kernel_rfl
theorem Qe138 (g : Gt tab Q_lt) a b c : Q_of (Q_B g) (.c138 a b c) = Qb138 (Q_of g) a b c := by kernel_rfl
theorem Qe139 (g : Gt tab Q_lt)  : Q_of (Q_B g) (.c139) = Qb139 (Q_of g) := by kernel_rfl
theorem Qe140 (g : Gt tab Q_lt) a b : Q_of (Q_B g) (.c140 a b) = Qb140 (Q_of g) a b := by kernel_rfl
theorem Qe141 (g : Gt tab Q_lt) a b c d e : Q_of (Q_B g) (.c141 a b c d e) = Qb141 (Q_of g) a b c d e := by kernel_rfl
theorem Qe142 (g : Gt tab Q_lt) a b c d : Q_of (Q_B g) (.c142 a b c d) = Qb142 (Q_of g) a b c d := by kernel_rfl
theorem Qe143 (g : Gt tab Q_lt) a b c d : Q_of (Q_B g) (.c143 a b c d) = Qb143 (Q_of g) a b c d := by kernel_rfl
theorem Qe144 (g : Gt tab Q_lt) a : Q_of (Q_B g) (.c144 a) = Qb144 (Q_of g) a := by kernel_rfl
theorem Qe145 (g : Gt tab Q_lt) a b : Q_of (Q_B g) (.c145 a b) = Qb145 (Q_of g) a b := by kernel_rfl
theorem Qe146 (g : Gt tab Q_lt)  : Q_of (Q_B g) (.c146) = Qb146 (Q_of g) := by kernel_rfl
theorem Qe147 (g : Gt tab Q_lt) a : Q_of (Q_B g) (.c147 a) = Qb147 (Q_of g) a := by kernel_rfl
theorem Qe148 (g : Gt tab Q_lt) a b : Q_of (Q_B g) (.c148 a b) = Qb148 (Q_of g) a b := by kernel_rfl
theorem Qe149 (g : Gt tab Q_lt) a b c : Q_of (Q_B g) (.c149 a b c) = Qb149 (Q_of g) a b c := by kernel_rfl
theorem Qe150 (g : Gt tab Q_lt)  : Q_of (Q_B g) (.c150) = Qb150 (Q_of g) := by kernel_rfl
theorem Qe151 (g : Gt tab Q_lt) a b : Q_of (Q_B g) (.c151 a b) = Qb151 (Q_of g) a b := by kernel_rfl
theorem Qe152 (g : Gt tab Q_lt) a b c d e : Q_of (Q_B g) (.c152 a b c d e) = Qb152 (Q_of g) a b c d e := by kernel_rfl
theorem Qe153 (g : Gt tab Q_lt) a : Q_of (Q_B g) (.c153 a) = Qb153 (Q_of g) a := by kernel_rfl
theorem Qe154 (g : Gt tab Q_lt) a b c : Q_of (Q_B g) (.c154 a b c) = Qb154 (Q_of g) a b c := by kernel_rfl
theorem Qe155 (g : Gt tab Q_lt) a b c d : Q_of (Q_B g) (.c155 a b c d) = Qb155 (Q_of g) a b c d := by kernel_rfl
theorem Qe156 (g : Gt tab Q_lt)  : Q_of (Q_B g) (.c156) = Qb156 (Q_of g) := by kernel_rfl
theorem Qe157 (g : Gt tab Q_lt) a : Q_of (Q_B g) (.c157 a) = Qb157 (Q_of g) a := by kernel_rfl
theorem Qe158 (g : Gt tab Q_lt) a b c : Q_of (Q_B g) (.c158 a b c) = Qb158 (Q_of g) a b c := by kernel_rfl
theorem Qe159 (g : Gt tab Q_lt) a : Q_of (Q_B g) (.c159 a) = Qb159 (Q_of g) a := by kernel_rfl
theorem Qe160 (g : Gt tab Q_lt) a b c : Q_of (Q_B g) (.c160 a b c) = Qb160 (Q_of g) a b c := by kernel_rfl
theorem Qe161 (g : Gt tab Q_lt) a b : Q_of (Q_B g) (.c161 a b) = Qb161 (Q_of g) a b := by kernel_rfl
theorem Qe162 (g : Gt tab Q_lt) a b c d : Q_of (Q_B g) (.c162 a b c d) = Qb162 (Q_of g) a b c d := by kernel_rfl
theorem Qe163 (g : Gt tab Q_lt) a b c : Q_of (Q_B g) (.c163 a b c) = Qb163 (Q_of g) a b c := by kernel_rfl
theorem Qe164 (g : Gt tab Q_lt) a : Q_of (Q_B g) (.c164 a) = Qb164 (Q_of g) a := by kernel_rfl
theorem Qe165 (g : Gt tab Q_lt) a b c : Q_of (Q_B g) (.c165 a b c) = Qb165 (Q_of g) a b c := by kernel_rfl
theorem Qe166 (g : Gt tab Q_lt) a b c d : Q_of (Q_B g) (.c166 a b c d) = Qb166 (Q_of g) a b c d := by kernel_rfl
theorem Qe167 (g : Gt tab Q_lt)  : Q_of (Q_B g) (.c167) = Qb167 (Q_of g) := by kernel_rfl
theorem Qe168 (g : Gt tab Q_lt) a b c : Q_of (Q_B g) (.c168 a b c) = Qb168 (Q_of g) a b c := by kernel_rfl
theorem Qe169 (g : Gt tab Q_lt) a b c d : Q_of (Q_B g) (.c169 a b c d) = Qb169 (Q_of g) a b c d := by kernel_rfl
theorem Qe170 (g : Gt tab Q_lt) a b : Q_of (Q_B g) (.c170 a b) = Qb170 (Q_of g) a b := by kernel_rfl
theorem Qe171 (g : Gt tab Q_lt) a b c : Q_of (Q_B g) (.c171 a b c) = Qb171 (Q_of g) a b c := by kernel_rfl
theorem Qe172 (g : Gt tab Q_lt) a b c : Q_of (Q_B g) (.c172 a b c) = Qb172 (Q_of g) a b c := by kernel_rfl
theorem Qe173 (g : Gt tab Q_lt) a b : Q_of (Q_B g) (.c173 a b) = Qb173 (Q_of g) a b := by kernel_rfl
theorem Qe174 (g : Gt tab Q_lt) a b c : Q_of (Q_B g) (.c174 a b c) = Qb174 (Q_of g) a b c := by kernel_rfl
theorem Qe175 (g : Gt tab Q_lt) a : Q_of (Q_B g) (.c175 a) = Qb175 (Q_of g) a := by kernel_rfl
theorem Qe176 (g : Gt tab Q_lt) a b c d : Q_of (Q_B g) (.c176 a b c d) = Qb176 (Q_of g) a b c d := by kernel_rfl
theorem Qe177 (g : Gt tab Q_lt) a b c d : Q_of (Q_B g) (.c177 a b c d) = Qb177 (Q_of g) a b c d := by kernel_rfl
theorem Qe178 (g : Gt tab Q_lt) a b c d : Q_of (Q_B g) (.c178 a b c d) = Qb178 (Q_of g) a b c d := by kernel_rfl
theorem Qe179 (g : Gt tab Q_lt) a b c : Q_of (Q_B g) (.c179 a b c) = Qb179 (Q_of g) a b c := by kernel_rfl
theorem Qe180 (g : Gt tab Q_lt) a b c d e : Q_of (Q_B g) (.c180 a b c d e) = Qb180 (Q_of g) a b c d e := by kernel_rfl
theorem Qe181 (g : Gt tab Q_lt) a b c d : Q_of (Q_B g) (.c181 a b c d) = Qb181 (Q_of g) a b c d := by kernel_rfl
theorem Qe182 (g : Gt tab Q_lt) a b c d e f h j : Q_of (Q_B g) (.c182 a b c d e f h j) = Qb182 (Q_of g) a b c d e f h j := by kernel_rfl
theorem Qe183 (g : Gt tab Q_lt) a : Q_of (Q_B g) (.c183 a) = Qb183 (Q_of g) a := by kernel_rfl
theorem Qe184 (g : Gt tab Q_lt) a b c d e f h j : Q_of (Q_B g) (.c184 a b c d e f h j) = Qb184 (Q_of g) a b c d e f h j := by kernel_rfl
theorem Qe185 (g : Gt tab Q_lt) a b c d e f h j : Q_of (Q_B g) (.c185 a b c d e f h j) = Qb185 (Q_of g) a b c d e f h j := by kernel_rfl
theorem Qe186 (g : Gt tab Q_lt) a b c d e f h : Q_of (Q_B g) (.c186 a b c d e f h) = Qb186 (Q_of g) a b c d e f h := by kernel_rfl
theorem Qe187 (g : Gt tab Q_lt) a b c d e f h j k : Q_of (Q_B g) (.c187 a b c d e f h j k) = Qb187 (Q_of g) a b c d e f h j k := by kernel_rfl
theorem Qe188 (g : Gt tab Q_lt) a b c d e : Q_of (Q_B g) (.c188 a b c d e) = Qb188 (Q_of g) a b c d e := by kernel_rfl
theorem Qe189 (g : Gt tab Q_lt) a : Q_of (Q_B g) (.c189 a) = Qb189 (Q_of g) a := by kernel_rfl
theorem Qe190 (g : Gt tab Q_lt) a b : Q_of (Q_B g) (.c190 a b) = Qb190 (Q_of g) a b := by kernel_rfl
theorem Qe191 (g : Gt tab Q_lt)  : Q_of (Q_B g) (.c191) = Qb191 (Q_of g) := by kernel_rfl
theorem Qe192 (g : Gt tab Q_lt) a b c : Q_of (Q_B g) (.c192 a b c) = Qb192 (Q_of g) a b c := by kernel_rfl
theorem Qe193 (g : Gt tab Q_lt) a b c : Q_of (Q_B g) (.c193 a b c) = Qb193 (Q_of g) a b c := by kernel_rfl
theorem Qe194 (g : Gt tab Q_lt) a b : Q_of (Q_B g) (.c194 a b) = Qb194 (Q_of g) a b := by kernel_rfl
theorem Qe195 (g : Gt tab Q_lt) a : Q_of (Q_B g) (.c195 a) = Qb195 (Q_of g) a := by kernel_rfl
theorem Qe196 (g : Gt tab Q_lt) a b c d : Q_of (Q_B g) (.c196 a b c d) = Qb196 (Q_of g) a b c d := by kernel_rfl
theorem Qe197 (g : Gt tab Q_lt) a b c d e f h j : Q_of (Q_B g) (.c197 a b c d e f h j) = Qb197 (Q_of g) a b c d e f h j := by kernel_rfl
theorem Qe198 (g : Gt tab Q_lt) a b c d e f : Q_of (Q_B g) (.c198 a b c d e f) = Qb198 (Q_of g) a b c d e f := by kernel_rfl
theorem Qe199 (g : Gt tab Q_lt) a : Q_of (Q_B g) (.c199 a) = Qb199 (Q_of g) a := by kernel_rfl
theorem Qe200 (g : Gt tab Q_lt) a b c d e f h j : Q_of (Q_B g) (.c200 a b c d e f h j) = Qb200 (Q_of g) a b c d e f h j := by kernel_rfl
theorem Qe201 (g : Gt tab Q_lt) a b c d e f h j : Q_of (Q_B g) (.c201 a b c d e f h j) = Qb201 (Q_of g) a b c d e f h j := by kernel_rfl
theorem Qe202 (g : Gt tab Q_lt) a b c d e f h : Q_of (Q_B g) (.c202 a b c d e f h) = Qb202 (Q_of g) a b c d e f h := by kernel_rfl
theorem Qe203 (g : Gt tab Q_lt) a b c d e f : Q_of (Q_B g) (.c203 a b c d e f) = Qb203 (Q_of g) a b c d e f := by kernel_rfl
theorem Qe204 (g : Gt tab Q_lt) a b c d e f h j : Q_of (Q_B g) (.c204 a b c d e f h j) = Qb204 (Q_of g) a b c d e f h j := by kernel_rfl
theorem Qe205 (g : Gt tab Q_lt) a b c d e : Q_of (Q_B g) (.c205 a b c d e) = Qb205 (Q_of g) a b c d e := by kernel_rfl
theorem Qe206 (g : Gt tab Q_lt) a b c d e : Q_of (Q_B g) (.c206 a b c d e) = Qb206 (Q_of g) a b c d e := by kernel_rfl
theorem Qe207 (g : Gt tab Q_lt) a b c d e f h : Q_of (Q_B g) (.c207 a b c d e f h) = Qb207 (Q_of g) a b c d e f h := by kernel_rfl
theorem Qe208 (g : Gt tab Q_lt) a b c : Q_of (Q_B g) (.c208 a b c) = Qb208 (Q_of g) a b c := by kernel_rfl
theorem Qe209 (g : Gt tab Q_lt) a b c : Q_of (Q_B g) (.c209 a b c) = Qb209 (Q_of g) a b c := by kernel_rfl
theorem Qe210 (g : Gt tab Q_lt) a b : Q_of (Q_B g) (.c210 a b) = Qb210 (Q_of g) a b := by kernel_rfl
theorem Qe211 (g : Gt tab Q_lt) a b c d : Q_of (Q_B g) (.c211 a b c d) = Qb211 (Q_of g) a b c d := by kernel_rfl
theorem Qe212 (g : Gt tab Q_lt) a b c d e : Q_of (Q_B g) (.c212 a b c d e) = Qb212 (Q_of g) a b c d e := by kernel_rfl
theorem Qe213 (g : Gt tab Q_lt) a b c d e f h j : Q_of (Q_B g) (.c213 a b c d e f h j) = Qb213 (Q_of g) a b c d e f h j := by kernel_rfl
theorem Qe214 (g : Gt tab Q_lt) a b c d e f : Q_of (Q_B g) (.c214 a b c d e f) = Qb214 (Q_of g) a b c d e f := by kernel_rfl
theorem Qe215 (g : Gt tab Q_lt) a : Q_of (Q_B g) (.c215 a) = Qb215 (Q_of g) a := by kernel_rfl
theorem Qe216 (g : Gt tab Q_lt) a b c d e f : Q_of (Q_B g) (.c216 a b c d e f) = Qb216 (Q_of g) a b c d e f := by kernel_rfl
theorem Qe217 (g : Gt tab Q_lt) a b c d e : Q_of (Q_B g) (.c217 a b c d e) = Qb217 (Q_of g) a b c d e := by kernel_rfl
theorem Qe218 (g : Gt tab Q_lt) a b c d e : Q_of (Q_B g) (.c218 a b c d e) = Qb218 (Q_of g) a b c d e := by kernel_rfl
theorem Qe219 (g : Gt tab Q_lt) a b c d e : Q_of (Q_B g) (.c219 a b c d e) = Qb219 (Q_of g) a b c d e := by kernel_rfl
theorem Qe220 (g : Gt tab Q_lt) a b c d e f h j k : Q_of (Q_B g) (.c220 a b c d e f h j k) = Qb220 (Q_of g) a b c d e f h j k := by kernel_rfl
theorem Qe221 (g : Gt tab Q_lt) a b c d e f h j : Q_of (Q_B g) (.c221 a b c d e f h j) = Qb221 (Q_of g) a b c d e f h j := by kernel_rfl
theorem Qe222 (g : Gt tab Q_lt) a b : Q_of (Q_B g) (.c222 a b) = Qb222 (Q_of g) a b := by kernel_rfl
theorem Qe223 (g : Gt tab Q_lt) a b c d e f h j : Q_of (Q_B g) (.c223 a b c d e f h j) = Qb223 (Q_of g) a b c d e f h j := by kernel_rfl
theorem Qe224 (g : Gt tab Q_lt) a b c d e f h j : Q_of (Q_B g) (.c224 a b c d e f h j) = Qb224 (Q_of g) a b c d e f h j := by kernel_rfl
theorem Qe225 (g : Gt tab Q_lt) a b c d : Q_of (Q_B g) (.c225 a b c d) = Qb225 (Q_of g) a b c d := by kernel_rfl
theorem Qe226 (g : Gt tab Q_lt) a b c d e f : Q_of (Q_B g) (.c226 a b c d e f) = Qb226 (Q_of g) a b c d e f := by kernel_rfl
theorem Qe227 (g : Gt tab Q_lt) a b c : Q_of (Q_B g) (.c227 a b c) = Qb227 (Q_of g) a b c := by kernel_rfl
theorem Qe228 (g : Gt tab Q_lt) a b c d e : Q_of (Q_B g) (.c228 a b c d e) = Qb228 (Q_of g) a b c d e := by kernel_rfl
theorem Qe229 (g : Gt tab Q_lt) a b : Q_of (Q_B g) (.c229 a b) = Qb229 (Q_of g) a b := by kernel_rfl
theorem Qe230 (g : Gt tab Q_lt) a b : Q_of (Q_B g) (.c230 a b) = Qb230 (Q_of g) a b := by kernel_rfl
theorem Qe231 (g : Gt tab Q_lt) a b c d e : Q_of (Q_B g) (.c231 a b c d e) = Qb231 (Q_of g) a b c d e := by kernel_rfl
theorem Qe232 (g : Gt tab Q_lt) a b c d : Q_of (Q_B g) (.c232 a b c d) = Qb232 (Q_of g) a b c d := by kernel_rfl
theorem Qe233 (g : Gt tab Q_lt) a : Q_of (Q_B g) (.c233 a) = Qb233 (Q_of g) a := by kernel_rfl
theorem Qe234 (g : Gt tab Q_lt) a b c : Q_of (Q_B g) (.c234 a b c) = Qb234 (Q_of g) a b c := by kernel_rfl
theorem Qe235 (g : Gt tab Q_lt) a : Q_of (Q_B g) (.c235 a) = Qb235 (Q_of g) a := by kernel_rfl
theorem Qe236 (g : Gt tab Q_lt) a b : Q_of (Q_B g) (.c236 a b) = Qb236 (Q_of g) a b := by kernel_rfl
theorem Qe237 (g : Gt tab Q_lt) a : Q_of (Q_B g) (.c237 a) = Qb237 (Q_of g) a := by kernel_rfl
theorem Qe238 (g : Gt tab Q_lt) a : Q_of (Q_B g) (.c238 a) = Qb238 (Q_of g) a := by kernel_rfl
theorem Qe239 (g : Gt tab Q_lt) a b c : Q_of (Q_B g) (.c239 a b c) = Qb239 (Q_of g) a b c := by kernel_rfl
theorem Qe240 (g : Gt tab Q_lt) a b c : Q_of (Q_B g) (.c240 a b c) = Qb240 (Q_of g) a b c := by kernel_rfl
theorem Qe241 (g : Gt tab Q_lt) a b c : Q_of (Q_B g) (.c241 a b c) = Qb241 (Q_of g) a b c := by kernel_rfl
theorem Qe242 (g : Gt tab Q_lt) a b c : Q_of (Q_B g) (.c242 a b c) = Qb242 (Q_of g) a b c := by kernel_rfl
theorem Qe243 (g : Gt tab Q_lt) a : Q_of (Q_B g) (.c243 a) = Qb243 (Q_of g) a := by kernel_rfl
theorem Qe244 (g : Gt tab Q_lt) a b : Q_of (Q_B g) (.c244 a b) = Qb244 (Q_of g) a b := by kernel_rfl
theorem Qe245 (g : Gt tab Q_lt) a b c : Q_of (Q_B g) (.c245 a b c) = Qb245 (Q_of g) a b c := by kernel_rfl
theorem Qe246 (g : Gt tab Q_lt) a b : Q_of (Q_B g) (.c246 a b) = Qb246 (Q_of g) a b := by kernel_rfl
theorem Qe247 (g : Gt tab Q_lt) a b c d e : Q_of (Q_B g) (.c247 a b c d e) = Qb247 (Q_of g) a b c d e := by kernel_rfl
theorem Qe248 (g : Gt tab Q_lt) a b c d : Q_of (Q_B g) (.c248 a b c d) = Qb248 (Q_of g) a b c d := by kernel_rfl
theorem Qe249 (g : Gt tab Q_lt) a b c d e : Q_of (Q_B g) (.c249 a b c d e) = Qb249 (Q_of g) a b c d e := by kernel_rfl
theorem Qe250 (g : Gt tab Q_lt) a b c d e : Q_of (Q_B g) (.c250 a b c d e) = Qb250 (Q_of g) a b c d e := by kernel_rfl
theorem Qe251 (g : Gt tab Q_lt) a b : Q_of (Q_B g) (.c251 a b) = Qb251 (Q_of g) a b := by kernel_rfl
theorem Qe252 (g : Gt tab Q_lt) a b : Q_of (Q_B g) (.c252 a b) = Qb252 (Q_of g) a b := by kernel_rfl
theorem Qe253 (g : Gt tab Q_lt) a b c : Q_of (Q_B g) (.c253 a b c) = Qb253 (Q_of g) a b c := by kernel_rfl
theorem Qe254 (g : Gt tab Q_lt) a b : Q_of (Q_B g) (.c254 a b) = Qb254 (Q_of g) a b := by kernel_rfl
theorem Qe255 (g : Gt tab Q_lt) a b c d : Q_of (Q_B g) (.c255 a b c d) = Qb255 (Q_of g) a b c d := by kernel_rfl
theorem Qe256 (g : Gt tab Q_lt) a b : Q_of (Q_B g) (.c256 a b) = Qb256 (Q_of g) a b := by kernel_rfl
theorem Qe257 (g : Gt tab Q_lt) a b c d : Q_of (Q_B g) (.c257 a b c d) = Qb257 (Q_of g) a b c d := by kernel_rfl
theorem Qe258 (g : Gt tab Q_lt) a b : Q_of (Q_B g) (.c258 a b) = Qb258 (Q_of g) a b := by kernel_rfl
theorem Qe259 (g : Gt tab Q_lt) a b c d e : Q_of (Q_B g) (.c259 a b c d e) = Qb259 (Q_of g) a b c d e := by kernel_rfl
theorem Qe260 (g : Gt tab Q_lt) a : Q_of (Q_B g) (.c260 a) = Qb260 (Q_of g) a := by kernel_rfl
theorem Qe261 (g : Gt tab Q_lt) a b : Q_of (Q_B g) (.c261 a b) = Qb261 (Q_of g) a b := by kernel_rfl
theorem Qe262 (g : Gt tab Q_lt)  : Q_of (Q_B g) (.c262) = Qb262 (Q_of g) := by kernel_rfl
theorem Qe263 (g : Gt tab Q_lt) a b c : Q_of (Q_B g) (.c263 a b c) = Qb263 (Q_of g) a b c := by kernel_rfl
theorem Qe264 (g : Gt tab Q_lt) a b : Q_of (Q_B g) (.c264 a b) = Qb264 (Q_of g) a b := by kernel_rfl
theorem Qe265 (g : Gt tab Q_lt) a b c : Q_of (Q_B g) (.c265 a b c) = Qb265 (Q_of g) a b c := by kernel_rfl
theorem Qe266 (g : Gt tab Q_lt) a b c d : Q_of (Q_B g) (.c266 a b c d) = Qb266 (Q_of g) a b c d := by kernel_rfl
theorem Qe267 (g : Gt tab Q_lt) a b c d e : Q_of (Q_B g) (.c267 a b c d e) = Qb267 (Q_of g) a b c d e := by kernel_rfl
theorem Qe268 (g : Gt tab Q_lt) a b c d e : Q_of (Q_B g) (.c268 a b c d e) = Qb268 (Q_of g) a b c d e := by kernel_rfl
theorem Qe269 (g : Gt tab Q_lt) a b : Q_of (Q_B g) (.c269 a b) = Qb269 (Q_of g) a b := by kernel_rfl
theorem Qe270 (g : Gt tab Q_lt) a b c d : Q_of (Q_B g) (.c270 a b c d) = Qb270 (Q_of g) a b c d := by kernel_rfl
theorem Qe271 (g : Gt tab Q_lt) a b c d : Q_of (Q_B g) (.c271 a b c d) = Qb271 (Q_of g) a b c d := by kernel_rfl
theorem Qe272 (g : Gt tab Q_lt) a b : Q_of (Q_B g) (.c272 a b) = Qb272 (Q_of g) a b := by kernel_rfl
theorem Qe273 (g : Gt tab Q_lt) a b : Q_of (Q_B g) (.c273 a b) = Qb273 (Q_of g) a b := by kernel_rfl
theorem Qe274 (g : Gt tab Q_lt) a b : Q_of (Q_B g) (.c274 a b) = Qb274 (Q_of g) a b := by kernel_rfl
theorem Qe275 (g : Gt tab Q_lt) a b c d : Q_of (Q_B g) (.c275 a b c d) = Qb275 (Q_of g) a b c d := by kernel_rfl
theorem Qe276 (g : Gt tab Q_lt) a b : Q_of (Q_B g) (.c276 a b) = Qb276 (Q_of g) a b := by kernel_rfl
theorem Qe277 (g : Gt tab Q_lt) a : Q_of (Q_B g) (.c277 a) = Qb277 (Q_of g) a := by kernel_rfl
theorem Qe278 (g : Gt tab Q_lt) a b c d : Q_of (Q_B g) (.c278 a b c d) = Qb278 (Q_of g) a b c d := by kernel_rfl
theorem Qe279 (g : Gt tab Q_lt) a b : Q_of (Q_B g) (.c279 a b) = Qb279 (Q_of g) a b := by kernel_rfl
theorem Qe280 (g : Gt tab Q_lt) a : Q_of (Q_B g) (.c280 a) = Qb280 (Q_of g) a := by kernel_rfl
theorem Qe281 (g : Gt tab Q_lt) a : Q_of (Q_B g) (.c281 a) = Qb281 (Q_of g) a := by kernel_rfl
theorem Qe282 (g : Gt tab Q_lt) a b : Q_of (Q_B g) (.c282 a b) = Qb282 (Q_of g) a b := by kernel_rfl
theorem Qe283 (g : Gt tab Q_lt)  : Q_of (Q_B g) (.c283) = Qb283 (Q_of g) := by kernel_rfl
theorem Qe284 (g : Gt tab Q_lt) a : Q_of (Q_B g) (.c284 a) = Qb284 (Q_of g) a := by kernel_rfl
theorem Qe285 (g : Gt tab Q_lt) a b c : Q_of (Q_B g) (.c285 a b c) = Qb285 (Q_of g) a b c := by kernel_rfl
theorem Qe286 (g : Gt tab Q_lt) a b : Q_of (Q_B g) (.c286 a b) = Qb286 (Q_of g) a b := by kernel_rfl
theorem Qe287 (g : Gt tab Q_lt) a b : Q_of (Q_B g) (.c287 a b) = Qb287 (Q_of g) a b := by kernel_rfl
theorem Qe288 (g : Gt tab Q_lt) a : Q_of (Q_B g) (.c288 a) = Qb288 (Q_of g) a := by kernel_rfl
theorem Qe289 (g : Gt tab Q_lt) a b c : Q_of (Q_B g) (.c289 a b c) = Qb289 (Q_of g) a b c := by kernel_rfl
theorem Qe290 (g : Gt tab Q_lt)  : Q_of (Q_B g) (.c290) = Qb290 (Q_of g) := by kernel_rfl
theorem Qe291 (g : Gt tab Q_lt) a b c : Q_of (Q_B g) (.c291 a b c) = Qb291 (Q_of g) a b c := by kernel_rfl
theorem Qe292 (g : Gt tab Q_lt) a b : Q_of (Q_B g) (.c292 a b) = Qb292 (Q_of g) a b := by kernel_rfl
theorem Qe293 (g : Gt tab Q_lt) a b : Q_of (Q_B g) (.c293 a b) = Qb293 (Q_of g) a b := by kernel_rfl
theorem Qe294 (g : Gt tab Q_lt) a b : Q_of (Q_B g) (.c294 a b) = Qb294 (Q_of g) a b := by kernel_rfl
theorem Qe295 (g : Gt tab Q_lt) a : Q_of (Q_B g) (.c295 a) = Qb295 (Q_of g) a := by kernel_rfl
theorem Qe296 (g : Gt tab Q_lt) a b c : Q_of (Q_B g) (.c296 a b c) = Qb296 (Q_of g) a b c := by kernel_rfl
theorem Qe297 (g : Gt tab Q_lt) a b : Q_of (Q_B g) (.c297 a b) = Qb297 (Q_of g) a b := by kernel_rfl
theorem Qe298 (g : Gt tab Q_lt) a b c : Q_of (Q_B g) (.c298 a b c) = Qb298 (Q_of g) a b c := by kernel_rfl
theorem Qe299 (g : Gt tab Q_lt) a b : Q_of (Q_B g) (.c299 a b) = Qb299 (Q_of g) a b := by kernel_rfl
theorem Qe300 (g : Gt tab Q_lt) a b : Q_of (Q_B g) (.c300 a b) = Qb300 (Q_of g) a b := by kernel_rfl
theorem Qe301 (g : Gt tab Q_lt) a b c : Q_of (Q_B g) (.c301 a b c) = Qb301 (Q_of g) a b c := by kernel_rfl
theorem Qe302 (g : Gt tab Q_lt) a b c : Q_of (Q_B g) (.c302 a b c) = Qb302 (Q_of g) a b c := by kernel_rfl
theorem Qe303 (g : Gt tab Q_lt) a b c d e : Q_of (Q_B g) (.c303 a b c d e) = Qb303 (Q_of g) a b c d e := by kernel_rfl
theorem Qe304 (g : Gt tab Q_lt) a b c d : Q_of (Q_B g) (.c304 a b c d) = Qb304 (Q_of g) a b c d := by kernel_rfl
theorem Qe305 (g : Gt tab Q_lt) a b c d e f : Q_of (Q_B g) (.c305 a b c d e f) = Qb305 (Q_of g) a b c d e f := by kernel_rfl
theorem Qe306 (g : Gt tab Q_lt) a : Q_of (Q_B g) (.c306 a) = Qb306 (Q_of g) a := by kernel_rfl
theorem Qe307 (g : Gt tab Q_lt) a : Q_of (Q_B g) (.c307 a) = Qb307 (Q_of g) a := by kernel_rfl
theorem Qe308 (g : Gt tab Q_lt) a b : Q_of (Q_B g) (.c308 a b) = Qb308 (Q_of g) a b := by kernel_rfl
theorem Qe309 (g : Gt tab Q_lt) a b c : Q_of (Q_B g) (.c309 a b c) = Qb309 (Q_of g) a b c := by kernel_rfl
theorem Qe310 (g : Gt tab Q_lt) a b c : Q_of (Q_B g) (.c310 a b c) = Qb310 (Q_of g) a b c := by kernel_rfl
theorem Qe311 (g : Gt tab Q_lt) a b c d e : Q_of (Q_B g) (.c311 a b c d e) = Qb311 (Q_of g) a b c d e := by kernel_rfl
theorem Qe312 (g : Gt tab Q_lt) a b c d e : Q_of (Q_B g) (.c312 a b c d e) = Qb312 (Q_of g) a b c d e := by kernel_rfl
theorem Qe313 (g : Gt tab Q_lt) a b c d e f : Q_of (Q_B g) (.c313 a b c d e f) = Qb313 (Q_of g) a b c d e f := by kernel_rfl
theorem Qe314 (g : Gt tab Q_lt) a b : Q_of (Q_B g) (.c314 a b) = Qb314 (Q_of g) a b := by kernel_rfl
theorem Qe315 (g : Gt tab Q_lt) a b c d : Q_of (Q_B g) (.c315 a b c d) = Qb315 (Q_of g) a b c d := by kernel_rfl
theorem Qe316 (g : Gt tab Q_lt) a b c : Q_of (Q_B g) (.c316 a b c) = Qb316 (Q_of g) a b c := by kernel_rfl
theorem Qe317 (g : Gt tab Q_lt) a b : Q_of (Q_B g) (.c317 a b) = Qb317 (Q_of g) a b := by kernel_rfl
theorem Qe318 (g : Gt tab Q_lt) a : Q_of (Q_B g) (.c318 a) = Qb318 (Q_of g) a := by kernel_rfl
theorem Qe319 (g : Gt tab Q_lt) a : Q_of (Q_B g) (.c319 a) = Qb319 (Q_of g) a := by kernel_rfl
theorem Qe320 (g : Gt tab Q_lt) a b : Q_of (Q_B g) (.c320 a b) = Qb320 (Q_of g) a b := by kernel_rfl
theorem Qe321 (g : Gt tab Q_lt) a b c d e : Q_of (Q_B g) (.c321 a b c d e) = Qb321 (Q_of g) a b c d e := by kernel_rfl
theorem Qe322 (g : Gt tab Q_lt) a : Q_of (Q_B g) (.c322 a) = Qb322 (Q_of g) a := by kernel_rfl
theorem Qe323 (g : Gt tab Q_lt) a b : Q_of (Q_B g) (.c323 a b) = Qb323 (Q_of g) a b := by kernel_rfl
theorem Qe324 (g : Gt tab Q_lt) a b : Q_of (Q_B g) (.c324 a b) = Qb324 (Q_of g) a b := by kernel_rfl
theorem Qe325 (g : Gt tab Q_lt)  : Q_of (Q_B g) (.c325) = Qb325 (Q_of g) := by kernel_rfl
theorem Qe326 (g : Gt tab Q_lt) a b : Q_of (Q_B g) (.c326 a b) = Qb326 (Q_of g) a b := by kernel_rfl
theorem Qe327 (g : Gt tab Q_lt) a b : Q_of (Q_B g) (.c327 a b) = Qb327 (Q_of g) a b := by kernel_rfl
theorem Qe328 (g : Gt tab Q_lt) a b c d : Q_of (Q_B g) (.c328 a b c d) = Qb328 (Q_of g) a b c d := by kernel_rfl
theorem Qe329 (g : Gt tab Q_lt) a b : Q_of (Q_B g) (.c329 a b) = Qb329 (Q_of g) a b := by kernel_rfl
theorem Qe330 (g : Gt tab Q_lt) a b c d : Q_of (Q_B g) (.c330 a b c d) = Qb330 (Q_of g) a b c d := by kernel_rfl
theorem Qe331 (g : Gt tab Q_lt) a : Q_of (Q_B g) (.c331 a) = Qb331 (Q_of g) a := by kernel_rfl
theorem Qe332 (g : Gt tab Q_lt) a b : Q_of (Q_B g) (.c332 a b) = Qb332 (Q_of g) a b := by kernel_rfl
theorem Qe333 (g : Gt tab Q_lt) a b : Q_of (Q_B g) (.c333 a b) = Qb333 (Q_of g) a b := by kernel_rfl
theorem Qe334 (g : Gt tab Q_lt) a b c d : Q_of (Q_B g) (.c334 a b c d) = Qb334 (Q_of g) a b c d := by kernel_rfl
theorem Qe335 (g : Gt tab Q_lt) a b c : Q_of (Q_B g) (.c335 a b c) = Qb335 (Q_of g) a b c := by kernel_rfl
end Go.Proofs.YtabmahknlebhpaaGreat
